/- What the functions answer. -/
import Derived.Test.YtaijlchekndalaaTR0
set_option linter.unusedVariables false
set_option linter.unusedSimpArgs false
set_option maxRecDepth 100000
namespace Go.T.R
open Go Go.T
theorem toIntS (l : List (Int)) (hl : l.length ≤ 1099511627776) : RunF C laws_toIntS [vInts l] (vInts l) [] := by
  refine (f_laws_toIntS _ _ ?_).run
  simp only [List.length_map]
  refine brB_yes (by simp; omega) ?_
  simp only [ofNat_cast, numI_eq, Int.toNat_natCast]
  refine cp_loop (e := intC) (z := [iI 0]) l (fun i rows => LoopG C laws_toIntS pRRLRB 4 0 (s_laws_toIntS_0 (l.map intC) i rows) _) (fun a => rfl) ?_ ?_
  · exact r_laws_toIntS_0 _ _ _ _ (brB_no (by simp) (a_laws_toIntS_1 _ _ _ _ _ ⟨rfl, by first | rfl | trivial⟩))
  · intro i rows a hi ha hr hn
    refine r_laws_toIntS_0 _ _ _ _ (brB_yes (by simp; omega) ⟨_, rowAt_map ha, _, hr, _, hr, ?_⟩)
    rw [addW_eq (by omega)]
    exact hn
theorem eqIntS (l : List (Int)) (hl : l.length ≤ 1099511627776) : RunF C laws_eqIntS [vInts l, vInts l] (vB true) [] := by
  refine (f_laws_eqIntS _ _ _ ?_).run
  refine brB_no (by simp) ?_
  refine idx_walk l (fun i => LoopG C laws_eqIntS pRRLRB 4 0 (s_laws_eqIntS_0 (l.map intC) (l.map intC) i) _) ?_ ?_
  · exact r_laws_eqIntS_0 _ _ _ _ (brB_no (by simp) (a_laws_eqIntS_2 _ _ _ _ _ ⟨rfl, by first | rfl | trivial⟩))
  · intro i a hi ha _ _ hn
    refine r_laws_eqIntS_0 _ _ _ _ (brB_yes (by simp; omega) ⟨_, rowAt_map ha, _, rowAt_map ha, brB_no (by simp) ?_⟩)
    rw [addW_eq (by omega)]
    exact hn
def MapsB (l : List Mp) : Prop := l.length ≤ 1099511627776 ∧ ∀ m ∈ l, m.l.length ≤ 1099511627776
theorem toMap (s : ByteArray) (f : Bool) (l : List Int) (h : l.length ≤ 1099511627776) : RunF C laws_toMap [.ag [iS s, iB f, .sub 1 (l.map intC)]] (.ag [iS s, iB f, .sub 1 (l.map intC)]) [] := (f_laws_toMap _ _ _ _ ⟨_, toIntS _ h, rfl, rfl⟩).run
theorem toMapS (l : List (Mp)) (hl : l.length ≤ 1099511627776) (hs : ∀ m ∈ l, m.l.length ≤ 1099511627776) : RunF C laws_toMapS [vMaps l] (vMaps l) [] := by
  refine (f_laws_toMapS _ _ ?_).run
  simp only [List.length_map]
  refine brB_yes (by simp; omega) ?_
  simp only [ofNat_cast, numI_eq, Int.toNat_natCast]
  refine cp_loop (e := mapC) (z := [iS bs0, iB false, TC.sub 1 []]) l (fun i rows => LoopG C laws_toMapS pRRLRB 4 0 (s_laws_toMapS_0 (l.map mapC) i rows) _) (fun a => rfl) ?_ ?_
  · exact r_laws_toMapS_0 _ _ _ _ (brB_no (by simp) (a_laws_toMapS_1 _ _ _ _ _ ⟨rfl, by first | rfl | trivial⟩))
  · intro i rows a hi ha hr hn
    refine r_laws_toMapS_0 _ _ _ _ (brB_yes (by simp; omega) ⟨_, _, _, rowAt_map ha, _, _, _, toMap _ _ _ (hs _ (List.mem_of_getElem? ha)), _, _, _, hr, _, _, _, hr, ?_⟩)
    rw [addW_eq (by omega)]
    exact hn
theorem eqMap (s : ByteArray) (f : Bool) (l : List Int) (h : l.length ≤ 1099511627776) : RunF C laws_eqMap [.ag [iS s, iB f, .sub 1 (l.map intC)], .ag [iS s, iB f, .sub 1 (l.map intC)]] (vB true) [] := by
  refine (f_laws_eqMap _ _ _ _ _ _ _ ?_).run
  refine brB_no (by simp) (brB_no (by simp) ⟨_, eqIntS _ h, by simp⟩)
theorem eqMapS (l : List (Mp)) (hl : l.length ≤ 1099511627776) (hs : ∀ m ∈ l, m.l.length ≤ 1099511627776) : RunF C laws_eqMapS [vMaps l, vMaps l] (vB true) [] := by
  refine (f_laws_eqMapS _ _ _ ?_).run
  refine brB_no (by simp) ?_
  refine idx_walk l (fun i => LoopG C laws_eqMapS pRRLRB 4 0 (s_laws_eqMapS_0 (l.map mapC) (l.map mapC) i) _) ?_ ?_
  · exact r_laws_eqMapS_0 _ _ _ _ (brB_no (by simp) (a_laws_eqMapS_2 _ _ _ _ _ ⟨rfl, by first | rfl | trivial⟩))
  · intro i a hi ha _ _ hn
    refine r_laws_eqMapS_0 _ _ _ _ (brB_yes (by simp; omega) ⟨_, _, _, rowAt_map ha, _, _, _, rowAt_map ha, _, eqMap _ _ _ (hs _ (List.mem_of_getElem? ha)), brB_no (by simp) ?_⟩)
    rw [addW_eq (by omega)]
    exact hn
theorem szIntS (l : List (Int)) (left : Int) (h0 : 0 ≤ left ∧ left ≤ 1048576) (hl : l.length ≤ 140737488355328) : RunF C laws_szIntS [vInts l, vI left] (vI (lft left l.length)) [] := by
  refine (f_laws_szIntS _ _ _ ?_).run
  simp only [List.length_map, ofNat_cast]
  rw [subW_eq (by omega)]
  unfold lft
  simp only [ltI_eq, brB_dec]
  by_cases h : left < (l.length : Int)
  · rw [if_pos (by omega), if_pos h]; exact ⟨rfl, by first | rfl | trivial⟩
  · rw [if_neg (by omega), if_neg h]; exact ⟨rfl, by first | rfl | trivial⟩
theorem szMap_run (s : ByteArray) (f : Bool) (l : List Int) (left : Int) (h0 : 0 ≤ left ∧ left ≤ 1048576) (hs : s.size ≤ 140737488355328) (hl : l.length ≤ 140737488355328) : RunF C laws_szMap [.ag [iS s, iB f, .sub 1 (l.map intC)], vI left] (vI (lft left (s.size + l.length))) [] := by
  refine (f_laws_szMap _ _ _ _ _ ?_).run
  simp only [strLen, ofNat_cast]
  rw [subW_eq (by omega)]
  refine brB_both (fun hb => ?_) fun hb => ⟨_, szIntS l _ (by simp at hb; omega) hl, ?_⟩
  · refine ⟨?_, by first | rfl | trivial⟩
    simp at hb
    unfold lft
    rw [if_pos (by omega)]
  · simp at hb
    refine brB_both (fun hc => ?_) fun hc => ?_
    · refine ⟨?_, by first | rfl | trivial⟩
      simp at hc
      unfold lft at *
      split <;> simp_all <;> omega
    · refine ⟨?_, by first | rfl | trivial⟩
      simp at hc
      unfold lft at *
      split <;> split <;> simp_all <;> omega
theorem szMapS (l : List (Mp)) (left : Int) (h0 : 0 ≤ left ∧ left ≤ 1048576) (hl : l.length ≤ 140737488355328) (hs : ∀ m ∈ l, m.name.size ≤ 140737488355328 ∧ m.l.length ≤ 140737488355328) : RunF C laws_szMapS [vMaps l, vI left] (vI (lft left (l.length + tot szMap l))) [] := by
  refine (f_laws_szMapS _ _ _ ?_).run
  simp only [List.length_map, ofNat_cast]
  rw [subW_eq (by omega)]
  simp only [ltI_eq, brB_dec]
  by_cases h : left < (l.length : Int)
  · rw [if_pos (by omega)]
    refine ⟨?_, by first | rfl | trivial⟩
    unfold lft
    rw [if_pos (by omega)]
  · rw [if_neg (by omega)]
    have key : ∀ cur : Int, 0 ≤ cur ∧ cur ≤ 1048576 → lft cur (tot szMap (l.drop 0)) = lft left (l.length + tot szMap l) → LoopG C laws_szMapS pRRRLRB 4 0 (s_laws_szMapS_0 (l.map mapC) cur ((0 : Nat) : Int)) (fun x st => AftF C laws_szMapS pRRRLRB x st fun r fs => r = vI (lft left (l.length + tot szMap l)) ∧ fs = []) := by
      refine idx_walk l (fun i => ∀ cur : Int, 0 ≤ cur ∧ cur ≤ 1048576 → lft cur (tot szMap (l.drop i)) = lft left (l.length + tot szMap l) → LoopG C laws_szMapS pRRRLRB 4 0 (s_laws_szMapS_0 (l.map mapC) cur i) _) ?_ ?_
      · intro cur hc he
        refine r_laws_szMapS_0 _ _ _ _ (brB_no (by simp) (a_laws_szMapS_2 _ _ _ _ _ ⟨?_, by first | rfl | trivial⟩))
        rw [← he, List.drop_length]
        unfold lft tot
        rw [if_neg (by omega)]
        simp
      · intro i a hi ha hd _ hn cur hc he
        rw [hd] at he
        simp only [tot] at he
        refine r_laws_szMapS_0 _ _ _ _ (brB_yes (by simp; omega) ⟨_, _, _, rowAt_map ha, _, szMap_run _ _ _ cur hc (hs a (List.mem_of_getElem? ha)).1 (hs a (List.mem_of_getElem? ha)).2, ?_⟩)
        by_cases hw : cur < (szMap a : Int)
        · refine brB_yes (by simp [lft, szMap] at hw ⊢; omega) (a_laws_szMapS_1 _ ⟨?_, by first | rfl | trivial⟩)
          rw [← he]
          unfold lft
          rw [if_pos (by omega)]
        · have hl2 : lft cur (szMap a) = cur - szMap a := if_neg hw
          refine brB_no (by simp [lft, szMap] at hw ⊢; omega) ?_
          rw [addW_eq (by omega)]
          have := hn (cur - szMap a) (by omega) (by rw [← he]; unfold lft; split <;> split <;> omega)
          rw [← hl2] at this
          exact this
    refine key (left - l.length) (by omega) ?_
    simp only [List.drop_zero]
    unfold lft
    split <;> split <;> omega
theorem run_spec_MapAt (l : List Mp) (s : ByteArray) (hl : l.length ≤ 1073741824) : RunF C spec_MapAt [vMaps l, vS s] (vI (mapAt l s)) [] := by
  refine (f_spec_MapAt _ _ _ ?_).run
  have key : idxF (fun m : Mp => decide (m.name = s)) (l.drop 0) ((0 : Nat) : Int) = idxF (fun m : Mp => decide (m.name = s)) l 0 → LoopG C spec_MapAt pRLRB 4 0 (s_spec_MapAt_0 (l.map mapC) s ((0 : Nat) : Int)) (fun u st => AftF C spec_MapAt pRLRB u st fun r fs => r = vI (mapAt l s) ∧ fs = []) := by
    refine idx_walk l (fun i => idxF (fun m : Mp => decide (m.name = s)) (l.drop i) (i : Int) = idxF (fun m : Mp => decide (m.name = s)) l 0 → LoopG C spec_MapAt pRLRB 4 0 (s_spec_MapAt_0 (l.map mapC) s i) _) ?_ ?_
    · intro h0
      refine r_spec_MapAt_0 _ _ _ _ (brB_no (by simp) (a_spec_MapAt_2 _ _ _ _ _ ?_))
      rw [List.drop_length] at h0
      simp only [idxF] at h0
      change _ = vI (idxF (fun m : Mp => decide (m.name = s)) l 0) ∧ _
      rw [← h0]
      exact ⟨rfl, by first | rfl | trivial⟩
    · intro i a hi ha hd htk hn h0
      refine r_spec_MapAt_0 _ _ _ _ (brB_yes (by simp; omega) ?_)
      rw [hd] at h0
      simp only [idxF] at h0
      simp only [ex_map, eqS_eq, brB_dec, getZ_nat, ha, Option.some.injEq, exists_eq_left', exists_eq_left, brB_not, brB_and, brB_or, key_eta, age_eta, cell_eta, vol_eta, map_eta, op_eta, succ_len, natAdd, List.length_map, List.length_append, List.length_singleton, Bool.true_and, Bool.and_true]
      rw [addW_eq (by omega)]
      split at h0
      · rename_i hp
        have hp := of_decide_eq_true hp
        first | rw [if_pos hp] | rw [if_pos hp.symm]
        refine a_spec_MapAt_1 _ _ ?_
        rw [h0]
        exact ⟨rfl, by first | rfl | trivial⟩
      · rename_i hp
        have hp : ¬ _ := fun h => hp (decide_eq_true h)
        first | rw [if_neg hp] | rw [if_neg (fun h => hp h.symm)]
        exact hn h0
  exact key rfl
@[simp] theorem c_impl_MapAt_1 (n : ByteArray) (f : Bool) (r : RR) (s : ByteArray) (q : Bool) : RunF C impl_MapAt_1 [.ag [iS n, iB f, .sub 1 r], .bx [iS s]] (vB q) [] ↔ q = decide (n = s) := iffB (by
  refine (f_impl_MapAt_1 _ _ _ _ _ ?_).run
  simp)
theorem run_idx_MapAt (l : List Mp) (s : ByteArray) (hl : l.length ≤ 1073741824) : RunF C slices_IndexFunc_Map [vMaps l, .fn impl_MapAt_1 [[iS s]]] (vI (mapAt l s)) [] := by
  refine (f_slices_IndexFunc_Map_impl_MapAt_1 _ _ _ ?_).run
  have key : idxF (fun m : Mp => decide (m.name = s)) (l.drop 0) ((0 : Nat) : Int) = idxF (fun m : Mp => decide (m.name = s)) l 0 → LoopG C slices_IndexFunc_Map pRLRB 4 0 (s_slices_IndexFunc_Map_impl_MapAt_1_0 (l.map mapC) ((0 : Nat) : Int) s) (fun u st => AftF C slices_IndexFunc_Map pRLRB u st fun r fs => r = vI (mapAt l s) ∧ fs = []) := by
    refine idx_walk l (fun i => idxF (fun m : Mp => decide (m.name = s)) (l.drop i) (i : Int) = idxF (fun m : Mp => decide (m.name = s)) l 0 → LoopG C slices_IndexFunc_Map pRLRB 4 0 (s_slices_IndexFunc_Map_impl_MapAt_1_0 (l.map mapC) i s) _) ?_ ?_
    · intro h0
      refine r_slices_IndexFunc_Map_impl_MapAt_1_0 _ _ _ _ (brB_no (by simp) (a_slices_IndexFunc_Map_impl_MapAt_1_2 _ _ _ _ _ _ ?_))
      rw [List.drop_length] at h0
      simp only [idxF] at h0
      change _ = vI (idxF (fun m : Mp => decide (m.name = s)) l 0) ∧ _
      rw [← h0]
      exact ⟨rfl, by first | rfl | trivial⟩
    · intro i a hi ha hd htk hn h0
      refine r_slices_IndexFunc_Map_impl_MapAt_1_0 _ _ _ _ (brB_yes (by simp; omega) ?_)
      rw [hd] at h0
      simp only [idxF] at h0
      simp only [ex_map, eqI_eq, c_impl_MapAt_1, brB_dec, getZ_nat, ha, Option.some.injEq, exists_eq_left', exists_eq_left, brB_not, brB_and, brB_or, key_eta, age_eta, cell_eta, vol_eta, map_eta, op_eta, succ_len, natAdd, List.length_map, List.length_append, List.length_singleton, Bool.true_and, Bool.and_true]
      rw [addW_eq (by omega)]
      split at h0
      · rename_i hp
        have hp := of_decide_eq_true hp
        first | rw [if_pos hp] | rw [if_pos hp.symm]
        refine a_slices_IndexFunc_Map_impl_MapAt_1_1 _ _ _ ?_
        rw [h0]
        exact ⟨rfl, by first | rfl | trivial⟩
      · rename_i hp
        have hp : ¬ _ := fun h => hp (decide_eq_true h)
        first | rw [if_neg hp] | rw [if_neg (fun h => hp h.symm)]
        exact hn h0
  exact key rfl
theorem run_impl_MapAt (l : List Mp) (s : ByteArray) (hl : l.length ≤ 1073741824) : RunF C impl_MapAt [vMaps l, vS s] (vI (mapAt l s)) [] := (f_impl_MapAt _ _ _ ⟨_, run_idx_MapAt l s hl, rfl, by first | rfl | trivial⟩).run
theorem len_of {n z : Nat} (h : n * z ≤ reachBytes) (hz : 1 ≤ z) : n ≤ 140737488355328 := by
  have : reachBytes ≤ 140737488355328 := by decide
  have h2 : n * 1 ≤ n * z := Nat.mul_le_mul_left n hz
  omega
theorem int_in {r : List TC} (h : WfT C.tt t_int r) : ∃ n : Int, r = intC n ∧ True := by
  obtain ⟨n, rfl, _⟩ := h.int_inv (k := .i64) (by kernel_rfl)
  exact ⟨n, rfl, trivial⟩
theorem map_in {r : List TC} (h : WfT C.tt t_laws_Map r) : ∃ x : Mp, r = mapC x ∧ x.name.size ≤ 140737488355328 ∧ x.l.length ≤ 140737488355328 := by
  obtain ⟨q0, r0, rfl, h0, k0⟩ := (h.struct_inv (fs := [(0, 9), (1, 4), (2, 58)]) (by kernel_rfl)).cons_inv
  obtain ⟨q1, r1, rfl, h1, k1⟩ := k0.cons_inv
  obtain ⟨q2, r2, rfl, h2, k2⟩ := k1.cons_inv
  have e := k2.nil_inv
  subst e
  obtain ⟨v0, rfl, z0⟩ := h0.str_inv (by kernel_rfl)
  obtain ⟨v1, rfl⟩ := h1.bool_inv (by kernel_rfl)
  obtain ⟨w2, rfl, y2, z2⟩ := h2.slice_inv (e := t_int) (by kernel_rfl)
  obtain ⟨v2, rfl, _⟩ := rows_typed fun r hr => int_in (y2 r hr)
  rw [List.length_map] at z2
  exact ⟨⟨v0, v1, v2⟩, rfl, ⟨Nat.le_trans z0 (by decide), len_of z2 (by decide +kernel)⟩⟩
theorem maps_rows {r : List TC} (h : WfT C.tt t_S_laws_Map r) : ∃ l : List (Mp), r = [.sub 3 (l.map mapC)] ∧ l.length ≤ 140737488355328 ∧ ∀ x ∈ l, x.name.size ≤ 140737488355328 ∧ x.l.length ≤ 140737488355328 := by
  obtain ⟨w, rfl, y, z⟩ := h.slice_inv (e := t_laws_Map) (by kernel_rfl)
  obtain ⟨l, rfl, hl⟩ := rows_typed fun r hr => map_in (y r hr)
  rw [List.length_map] at z
  exact ⟨l, rfl, len_of z (by decide +kernel), hl⟩
theorem v_string {v : TV} (h : WfV C.tt t_string v) : ∃ n : ByteArray, v = vS n ∧ n.size ≤ 140737488355328 := by
  have ht : (C.tt t_string).ti = .str := by kernel_rfl
  cases h with
  | c _ hw =>
    obtain ⟨n, h1, h2⟩ := hw.str_inv ht
    cases h1
    exact ⟨n, rfl, Nat.le_trans h2 (by decide)⟩
  | ag h1 _ => rw [ht] at h1; cases h1
theorem v_maps {v : TV} (h : WfV C.tt t_S_laws_Map v) : ∃ l : List Mp, v = vMaps l ∧ l.length ≤ 140737488355328 ∧ ∀ x ∈ l, x.name.size ≤ 140737488355328 ∧ x.l.length ≤ 140737488355328 := by
  have ht : (C.tt t_S_laws_Map).ti = .slice 60 := by kernel_rfl
  cases h with
  | c _ hw =>
    obtain ⟨l, h1, h2, h3⟩ := maps_rows hw
    cases h1
    exact ⟨l, rfl, h2, h3⟩
  | ag h1 _ => rw [ht] at h1; cases h1
theorem lft_ok {a : Int} {n : Nat} (h : ltI (lft a n) 0 = false) (h0 : 0 ≤ a ∧ a ≤ 1048576) : (n : Int) ≤ a ∧ (0 ≤ lft a n ∧ lft a n ≤ 1048576) ∧ lft a n = a - n := by
  rw [ltI_eq] at h
  have h : ¬ lft a n < 0 := of_decide_eq_false h
  unfold lft at *
  split at h <;> simp_all <;> omega
theorem ltI_no {a b : Int} (h : ltI a b = false) : b ≤ a := by
  rw [ltI_eq] at h
  have := of_decide_eq_false h
  omega
theorem mapsB_of {l : List Mp} (h : szMaps l ≤ 1048576) : MapsB l := by
  unfold szMaps at h
  refine ⟨by omega, fun m hm => ?_⟩
  have := tot_mem (w := szMap) hm
  have e : szMap m = m.name.size + m.l.length := rfl
  omega
theorem law_MapAt (l : List Mp) (w_l : l.length ≤ 140737488355328) (y_l : ∀ x ∈ l, x.name.size ≤ 140737488355328 ∧ x.l.length ≤ 140737488355328) (s : ByteArray) (w_s : s.size ≤ 140737488355328) : RunF C laws_FnExactMapAt [vMaps l, vS s] (vB true) [] := by
  refine (f_laws_FnExactMapAt _ _ _ ?_).run
  refine brB_both (fun _ => ⟨rfl, by first | rfl | trivial⟩) fun hn0 => ?_
  have hn0 := ltI_no hn0
  refine ⟨_, szMapS _ _ (by first | omega | assumption) (by omega) (by assumption), ?_⟩
  refine brB_both (fun _ => ⟨rfl, by first | rfl | trivial⟩) fun hz1 => ?_
  obtain ⟨hz1a, hz1b, hz1c⟩ := lft_ok hz1 (by first | omega | assumption)
  have hM := mapsB_of (l := l) (show l.length + tot szMap l ≤ 1048576 by omega)
  have hM1 := hM.1
  have hM2 := hM.2
  refine ⟨_, toMapS _ (by omega) (by assumption), ?_⟩
  refine ⟨_, run_spec_MapAt l s (by omega), ?_⟩
  refine ⟨_, toMapS _ (by omega) (by assumption), ?_⟩
  refine ⟨_, run_impl_MapAt l s (by omega), ?_⟩
  refine brB_no (by first | rfl | (simp; done) | (simp; omega)) ?_
  refine ⟨_, toMapS _ (by omega) (by assumption), ?_⟩
  refine ⟨_, eqMapS _ (by omega) (by assumption), ?_⟩
  refine brB_no (by first | rfl | (simp; done) | (simp; omega)) ?_
  exact ⟨rfl, by first | rfl | trivial⟩
theorem all_MapAt (vs : List TV) (h : WfVs C.tt [t_S_laws_Map, t_string] vs) : ∃ k, callP C k laws_FnExactMapAt vs (vB true) [] := by
  cases h with
  | cons h0 h => 
    cases h with
    | cons h1 h => 
      cases h
      obtain ⟨l, rfl, wl, yl⟩ := v_maps h0
      obtain ⟨s, rfl, ws⟩ := v_string h1
      exact law_MapAt l wl yl s ws
end Go.T.R
