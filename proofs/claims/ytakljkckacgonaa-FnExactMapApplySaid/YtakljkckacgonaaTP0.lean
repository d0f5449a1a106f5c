/- What the functions answer. -/
import Derived.Test.YtakljkckacgonaaTR0
set_option linter.unusedVariables false
set_option linter.unusedSimpArgs false
set_option maxRecDepth 100000
namespace Go.T.R
open Go Go.T
theorem toOp (v0 : Int) (v1 : ByteArray) (v2 : ByteArray) (v3 : Int) (v4 : Int) : RunF C laws_toOp [.ag [iI v0, iS v1, iS v2, iI v3, iI v4]] (.ag [iI v0, iS v1, iS v2, iI v3, iI v4]) [] := (f_laws_toOp _ _ _ _ _ _ ⟨rfl, by first | rfl | trivial⟩).run
theorem toIntS (l : List (Int)) (hl : l.length ≤ 1099511627776) : RunF C laws_toIntS [vInts l] (vInts l) [] := by
  refine (f_laws_toIntS _ _ ?_).run
  simp only [List.length_map]
  refine brB_yes (by simp; omega) ?_
  simp only [ofNat_cast, numI_eq, Int.toNat_natCast]
  refine cp_loop (e := intC) (z := [iI 0]) l (fun i rows => LoopG C laws_toIntS pRRLRB 4 0 (s_laws_toIntS_0 (l.map intC) i rows) _) (fun a => rfl) ?_ ?_
  · exact r_laws_toIntS_0 _ _ _ _ (brB_no (by simp) (a_laws_toIntS_1 _ _ _ _ _ ⟨rfl, by first | rfl | trivial⟩))
  · intro i rows a hi ha hr hn
    refine r_laws_toIntS_0 _ _ _ _ (brB_yes (by simp; omega) ⟨_, rowAt_map ha, _, hr, _, hr, ?_⟩)
    rw [addW_eq (by omega)]
    exact hn
theorem eqIntS (l : List (Int)) (hl : l.length ≤ 1099511627776) : RunF C laws_eqIntS [vInts l, vInts l] (vB true) [] := by
  refine (f_laws_eqIntS _ _ _ ?_).run
  refine brB_no (by simp) ?_
  refine idx_walk l (fun i => LoopG C laws_eqIntS pRRLRB 4 0 (s_laws_eqIntS_0 (l.map intC) (l.map intC) i) _) ?_ ?_
  · exact r_laws_eqIntS_0 _ _ _ _ (brB_no (by simp) (a_laws_eqIntS_2 _ _ _ _ _ ⟨rfl, by first | rfl | trivial⟩))
  · intro i a hi ha _ _ hn
    refine r_laws_eqIntS_0 _ _ _ _ (brB_yes (by simp; omega) ⟨_, rowAt_map ha, _, rowAt_map ha, brB_no (by simp) ?_⟩)
    rw [addW_eq (by omega)]
    exact hn
def MapsB (l : List Mp) : Prop := l.length ≤ 1099511627776 ∧ ∀ m ∈ l, m.l.length ≤ 1099511627776
theorem toMap (s : ByteArray) (f : Bool) (l : List Int) (h : l.length ≤ 1099511627776) : RunF C laws_toMap [.ag [iS s, iB f, .sub 1 (l.map intC)]] (.ag [iS s, iB f, .sub 1 (l.map intC)]) [] := (f_laws_toMap _ _ _ _ ⟨_, toIntS _ h, rfl, rfl⟩).run
theorem toMapS (l : List (Mp)) (hl : l.length ≤ 1099511627776) (hs : ∀ m ∈ l, m.l.length ≤ 1099511627776) : RunF C laws_toMapS [vMaps l] (vMaps l) [] := by
  refine (f_laws_toMapS _ _ ?_).run
  simp only [List.length_map]
  refine brB_yes (by simp; omega) ?_
  simp only [ofNat_cast, numI_eq, Int.toNat_natCast]
  refine cp_loop (e := mapC) (z := [iS bs0, iB false, TC.sub 1 []]) l (fun i rows => LoopG C laws_toMapS pRRLRB 4 0 (s_laws_toMapS_0 (l.map mapC) i rows) _) (fun a => rfl) ?_ ?_
  · exact r_laws_toMapS_0 _ _ _ _ (brB_no (by simp) (a_laws_toMapS_1 _ _ _ _ _ ⟨rfl, by first | rfl | trivial⟩))
  · intro i rows a hi ha hr hn
    refine r_laws_toMapS_0 _ _ _ _ (brB_yes (by simp; omega) ⟨_, _, _, rowAt_map ha, _, _, _, toMap _ _ _ (hs _ (List.mem_of_getElem? ha)), _, _, _, hr, _, _, _, hr, ?_⟩)
    rw [addW_eq (by omega)]
    exact hn
theorem eqMap (s : ByteArray) (f : Bool) (l : List Int) (h : l.length ≤ 1099511627776) : RunF C laws_eqMap [.ag [iS s, iB f, .sub 1 (l.map intC)], .ag [iS s, iB f, .sub 1 (l.map intC)]] (vB true) [] := by
  refine (f_laws_eqMap _ _ _ _ _ _ _ ?_).run
  refine brB_no (by simp) (brB_no (by simp) ⟨_, eqIntS _ h, by simp⟩)
theorem eqMapS (l : List (Mp)) (hl : l.length ≤ 1099511627776) (hs : ∀ m ∈ l, m.l.length ≤ 1099511627776) : RunF C laws_eqMapS [vMaps l, vMaps l] (vB true) [] := by
  refine (f_laws_eqMapS _ _ _ ?_).run
  refine brB_no (by simp) ?_
  refine idx_walk l (fun i => LoopG C laws_eqMapS pRRLRB 4 0 (s_laws_eqMapS_0 (l.map mapC) (l.map mapC) i) _) ?_ ?_
  · exact r_laws_eqMapS_0 _ _ _ _ (brB_no (by simp) (a_laws_eqMapS_2 _ _ _ _ _ ⟨rfl, by first | rfl | trivial⟩))
  · intro i a hi ha _ _ hn
    refine r_laws_eqMapS_0 _ _ _ _ (brB_yes (by simp; omega) ⟨_, _, _, rowAt_map ha, _, _, _, rowAt_map ha, _, eqMap _ _ _ (hs _ (List.mem_of_getElem? ha)), brB_no (by simp) ?_⟩)
    rw [addW_eq (by omega)]
    exact hn
theorem szIntS (l : List (Int)) (left : Int) (h0 : 0 ≤ left ∧ left ≤ 1048576) (hl : l.length ≤ 140737488355328) : RunF C laws_szIntS [vInts l, vI left] (vI (lft left l.length)) [] := by
  refine (f_laws_szIntS _ _ _ ?_).run
  simp only [List.length_map, ofNat_cast]
  rw [subW_eq (by omega)]
  unfold lft
  simp only [ltI_eq, brB_dec]
  by_cases h : left < (l.length : Int)
  · rw [if_pos (by omega), if_pos h]; exact ⟨rfl, by first | rfl | trivial⟩
  · rw [if_neg (by omega), if_neg h]; exact ⟨rfl, by first | rfl | trivial⟩
theorem szMap_run (s : ByteArray) (f : Bool) (l : List Int) (left : Int) (h0 : 0 ≤ left ∧ left ≤ 1048576) (hs : s.size ≤ 140737488355328) (hl : l.length ≤ 140737488355328) : RunF C laws_szMap [.ag [iS s, iB f, .sub 1 (l.map intC)], vI left] (vI (lft left (s.size + l.length))) [] := by
  refine (f_laws_szMap _ _ _ _ _ ?_).run
  simp only [strLen, ofNat_cast]
  rw [subW_eq (by omega)]
  refine brB_both (fun hb => ?_) fun hb => ⟨_, szIntS l _ (by simp at hb; omega) hl, ?_⟩
  · refine ⟨?_, by first | rfl | trivial⟩
    simp at hb
    unfold lft
    rw [if_pos (by omega)]
  · simp at hb
    refine brB_both (fun hc => ?_) fun hc => ?_
    · refine ⟨?_, by first | rfl | trivial⟩
      simp at hc
      unfold lft at *
      split <;> simp_all <;> omega
    · refine ⟨?_, by first | rfl | trivial⟩
      simp at hc
      unfold lft at *
      split <;> split <;> simp_all <;> omega
theorem szMapS (l : List (Mp)) (left : Int) (h0 : 0 ≤ left ∧ left ≤ 1048576) (hl : l.length ≤ 140737488355328) (hs : ∀ m ∈ l, m.name.size ≤ 140737488355328 ∧ m.l.length ≤ 140737488355328) : RunF C laws_szMapS [vMaps l, vI left] (vI (lft left (l.length + tot szMap l))) [] := by
  refine (f_laws_szMapS _ _ _ ?_).run
  simp only [List.length_map, ofNat_cast]
  rw [subW_eq (by omega)]
  simp only [ltI_eq, brB_dec]
  by_cases h : left < (l.length : Int)
  · rw [if_pos (by omega)]
    refine ⟨?_, by first | rfl | trivial⟩
    unfold lft
    rw [if_pos (by omega)]
  · rw [if_neg (by omega)]
    have key : ∀ cur : Int, 0 ≤ cur ∧ cur ≤ 1048576 → lft cur (tot szMap (l.drop 0)) = lft left (l.length + tot szMap l) → LoopG C laws_szMapS pRRRLRB 4 0 (s_laws_szMapS_0 (l.map mapC) cur ((0 : Nat) : Int)) (fun x st => AftF C laws_szMapS pRRRLRB x st fun r fs => r = vI (lft left (l.length + tot szMap l)) ∧ fs = []) := by
      refine idx_walk l (fun i => ∀ cur : Int, 0 ≤ cur ∧ cur ≤ 1048576 → lft cur (tot szMap (l.drop i)) = lft left (l.length + tot szMap l) → LoopG C laws_szMapS pRRRLRB 4 0 (s_laws_szMapS_0 (l.map mapC) cur i) _) ?_ ?_
      · intro cur hc he
        refine r_laws_szMapS_0 _ _ _ _ (brB_no (by simp) (a_laws_szMapS_2 _ _ _ _ _ ⟨?_, by first | rfl | trivial⟩))
        rw [← he, List.drop_length]
        unfold lft tot
        rw [if_neg (by omega)]
        simp
      · intro i a hi ha hd _ hn cur hc he
        rw [hd] at he
        simp only [tot] at he
        refine r_laws_szMapS_0 _ _ _ _ (brB_yes (by simp; omega) ⟨_, _, _, rowAt_map ha, _, szMap_run _ _ _ cur hc (hs a (List.mem_of_getElem? ha)).1 (hs a (List.mem_of_getElem? ha)).2, ?_⟩)
        by_cases hw : cur < (szMap a : Int)
        · refine brB_yes (by simp [lft, szMap] at hw ⊢; omega) (a_laws_szMapS_1 _ ⟨?_, by first | rfl | trivial⟩)
          rw [← he]
          unfold lft
          rw [if_pos (by omega)]
        · have hl2 : lft cur (szMap a) = cur - szMap a := if_neg hw
          refine brB_no (by simp [lft, szMap] at hw ⊢; omega) ?_
          rw [addW_eq (by omega)]
          have := hn (cur - szMap a) (by omega) (by rw [← he]; unfold lft; split <;> split <;> omega)
          rw [← hl2] at this
          exact this
    refine key (left - l.length) (by omega) ?_
    simp only [List.drop_zero]
    unfold lft
    split <;> split <;> omega
theorem szOp_run (k : Int) (s t : ByteArray) (a b left : Int) (h0 : 0 ≤ left ∧ left ≤ 1048576) (hs : s.size ≤ 140737488355328) (ht : t.size ≤ 140737488355328) : RunF C laws_szOp [.ag [iI k, iS s, iS t, iI a, iI b], vI left] (vI (lft left (s.size + t.size))) [] := by
  refine (f_laws_szOp _ _ _ _ _ _ _ ?_).run
  simp only [strLen, ofNat_cast]
  rw [subW_eq (a := left) (by omega), subW_eq (by omega)]
  unfold lft
  simp only [ltI_eq, brB_dec]
  split
  · rw [if_pos (by omega)]; exact ⟨rfl, by first | rfl | trivial⟩
  · split
    · rw [if_pos (by omega)]; exact ⟨rfl, by first | rfl | trivial⟩
    · rw [if_neg (by omega)]; rw [show left - (s.size : Int) - (t.size : Int) = left - ((s.size + t.size : Nat) : Int) by omega]; exact ⟨rfl, by first | rfl | trivial⟩
theorem run_within (a b c : Int) : RunF C impl_within [vI a, vI b, vI c] (vB (inB a b c)) [] := by
  refine (f_impl_within _ _ _ _ ?_).run
  simp only [leI_eq, brB_dec, inB]
  split <;> simp_all <;> omega
theorem run_l1In (a b c : Int) : RunF C spec_l1In [vI a, vI b, vI c] (vB (inB a b c)) [] := by
  refine (f_spec_l1In _ _ _ _ ?_).run
  simp only [leI_eq, brB_dec, inB]
  split <;> simp_all <;> omega
@[simp] theorem c_within (a b c : Int) (q : Bool) : RunF C impl_within [vI a, vI b, vI c] (vB q) [] ↔ q = inB a b c := iffB (run_within a b c)
@[simp] theorem c_l1In (a b c : Int) (q : Bool) : RunF C spec_l1In [vI a, vI b, vI c] (vB q) [] ↔ q = inB a b c := iffB (run_l1In a b c)
@[simp] theorem c_spec_l1Word (a : Int) (q : Bool) : RunF C spec_l1Word [vI a] (vB q) [] ↔ q = isWordB a := iffB ((f_spec_l1Word _ _ ⟨_, run_l1In _ _ _, rfl, by first | rfl | trivial⟩).run)
@[simp] theorem c_impl_isWord (a : Int) (q : Bool) : RunF C impl_isWord [vI a] (vB q) [] ↔ q = isWordB a := iffB ((f_impl_isWord _ _ ⟨_, run_within _ _ _, rfl, by first | rfl | trivial⟩).run)
theorem run_spec_NameOk (s : ByteArray) (hl : s.size ≤ 140737488355328) : RunF C spec_NameOk [vS s] (vB ((allN s.size (nameAtOk s) && inB s.size 1 6))) [] := by
  refine (f_spec_NameOk _ _ ?_).run
  have key : ((List.range' 0 (s.size - 0)).all (nameAtOk s) && inB s.size 1 6) = (allN s.size (nameAtOk s) && inB s.size 1 6) → LoopG C spec_NameOk pRLRB 4 0 (s_spec_NameOk_0 s ((0 : Nat) : Int)) (fun u st => AftF C spec_NameOk pRLRB u st fun r fs => r = vB ((allN s.size (nameAtOk s) && inB s.size 1 6)) ∧ fs = []) := by
    refine nat_walk (s.size) (fun i => ((List.range' i (s.size - i)).all (nameAtOk s) && inB s.size 1 6) = (allN s.size (nameAtOk s) && inB s.size 1 6) → LoopG C spec_NameOk pRLRB 4 0 (s_spec_NameOk_0 s i) (fun u st => AftF C spec_NameOk pRLRB u st fun r fs => r = vB ((allN s.size (nameAtOk s) && inB s.size 1 6)) ∧ fs = [])) ?_ ?_
    · intro h0
      refine r_spec_NameOk_0 _ _ _ (brB_no (by simp) (a_spec_NameOk_2 _ _ _ _ ?_))
      rw [Nat.sub_self] at h0
      simp only [List.range'_zero, List.all_nil, Bool.true_and] at h0
      rw [← h0]
      simp only [c_l1In, exists_eq_left, strLen, Int.ofNat_eq_natCast]
      simp
    · intro i hi hn h0
      rw [range_step hi, List.all_cons] at h0
      have gO : (nameAtOk s) i = false → (allN s.size (nameAtOk s) && inB s.size 1 6) = false := fun e => by rw [← h0, e]; rfl
      have gN : (nameAtOk s) i = true → LoopG C spec_NameOk pRLRB 4 0 (s_spec_NameOk_0 s ((i : Int) + 1)) (fun u st => AftF C spec_NameOk pRLRB u st fun r fs => r = vB ((allN s.size (nameAtOk s) && inB s.size 1 6)) ∧ fs = []) := fun e => hn (by rw [← h0, e]; rfl)
      refine r_spec_NameOk_0 _ _ _ (brB_yes (by simp; omega) ?_)
      obtain ⟨n, hb, hn0, hn1⟩ := byteAt_ok hi
      have hw : wrapI .i64 n = n := wrapI_eq (by omega)
      simp only [hb, Option.some.injEq, exists_eq_left', c_l1In, exists_eq_left, hw, brB_not]
      rw [addW_eq (by omega)]
      have e : nameAtOk s i = (inB n 97 122 || inB n 48 57) := by unfold nameAtOk; rw [hb]; rfl
      rw [e] at gO gN
      cases h1 : inB n 97 122 <;> cases h2 : inB n 48 57 <;> simp only [brB_t, brB_f] <;> first | exact gN (by rw [h1, h2]; rfl) | exact a_spec_NameOk_1 _ (by rw [gO (by rw [h1, h2]; rfl)]; exact ⟨rfl, by first | rfl | trivial⟩)
  exact key rfl
theorem c_spec_NameOk (s : ByteArray) (hl : s.size ≤ 140737488355328) (q : Bool) : RunF C spec_NameOk [vS s] (vB q) [] ↔ q = nameOk s := iffB (run_spec_NameOk s hl)
theorem run_impl_NameOk (s : ByteArray) (hl : s.size ≤ 140737488355328) : RunF C impl_NameOk [vS s] (vB ((allN s.size (nameAtOk s) && inB s.size 1 6))) [] := by
  refine (f_impl_NameOk _ _ ?_).run
  have key : ((List.range' 0 (s.size - 0)).all (nameAtOk s) && inB s.size 1 6) = (allN s.size (nameAtOk s) && inB s.size 1 6) → LoopG C impl_NameOk pRLRB 4 0 (s_impl_NameOk_0 s ((0 : Nat) : Int)) (fun u st => AftF C impl_NameOk pRLRB u st fun r fs => r = vB ((allN s.size (nameAtOk s) && inB s.size 1 6)) ∧ fs = []) := by
    refine nat_walk (s.size) (fun i => ((List.range' i (s.size - i)).all (nameAtOk s) && inB s.size 1 6) = (allN s.size (nameAtOk s) && inB s.size 1 6) → LoopG C impl_NameOk pRLRB 4 0 (s_impl_NameOk_0 s i) (fun u st => AftF C impl_NameOk pRLRB u st fun r fs => r = vB ((allN s.size (nameAtOk s) && inB s.size 1 6)) ∧ fs = [])) ?_ ?_
    · intro h0
      refine r_impl_NameOk_0 _ _ _ (brB_no (by simp) (a_impl_NameOk_2 _ _ _ _ ?_))
      rw [Nat.sub_self] at h0
      simp only [List.range'_zero, List.all_nil, Bool.true_and] at h0
      rw [← h0]
      simp only [c_within, exists_eq_left, strLen, Int.ofNat_eq_natCast]
      simp
    · intro i hi hn h0
      rw [range_step hi, List.all_cons] at h0
      have gO : (nameAtOk s) i = false → (allN s.size (nameAtOk s) && inB s.size 1 6) = false := fun e => by rw [← h0, e]; rfl
      have gN : (nameAtOk s) i = true → LoopG C impl_NameOk pRLRB 4 0 (s_impl_NameOk_0 s ((i : Int) + 1)) (fun u st => AftF C impl_NameOk pRLRB u st fun r fs => r = vB ((allN s.size (nameAtOk s) && inB s.size 1 6)) ∧ fs = []) := fun e => hn (by rw [← h0, e]; rfl)
      refine r_impl_NameOk_0 _ _ _ (brB_yes (by simp; omega) ?_)
      obtain ⟨n, hb, hn0, hn1⟩ := byteAt_ok hi
      have hw : wrapI .i64 n = n := wrapI_eq (by omega)
      simp only [hb, Option.some.injEq, exists_eq_left', c_within, exists_eq_left, hw, brB_not]
      rw [addW_eq (by omega)]
      have e : nameAtOk s i = (inB n 97 122 || inB n 48 57) := by unfold nameAtOk; rw [hb]; rfl
      rw [e] at gO gN
      cases h1 : inB n 97 122 <;> cases h2 : inB n 48 57 <;> simp only [brB_t, brB_f] <;> first | exact gN (by rw [h1, h2]; rfl) | exact a_impl_NameOk_1 _ (by rw [gO (by rw [h1, h2]; rfl)]; exact ⟨rfl, by first | rfl | trivial⟩)
  exact key rfl
theorem c_impl_NameOk (s : ByteArray) (hl : s.size ≤ 140737488355328) (q : Bool) : RunF C impl_NameOk [vS s] (vB q) [] ↔ q = nameOk s := iffB (run_impl_NameOk s hl)
theorem run_spec_MapAt (l : List Mp) (s : ByteArray) (hl : l.length ≤ 1073741824) : RunF C spec_MapAt [vMaps l, vS s] (vI (mapAt l s)) [] := by
  refine (f_spec_MapAt _ _ _ ?_).run
  have key : idxF (fun m : Mp => decide (m.name = s)) (l.drop 0) ((0 : Nat) : Int) = idxF (fun m : Mp => decide (m.name = s)) l 0 → LoopG C spec_MapAt pRLRB 4 0 (s_spec_MapAt_0 (l.map mapC) s ((0 : Nat) : Int)) (fun u st => AftF C spec_MapAt pRLRB u st fun r fs => r = vI (mapAt l s) ∧ fs = []) := by
    refine idx_walk l (fun i => idxF (fun m : Mp => decide (m.name = s)) (l.drop i) (i : Int) = idxF (fun m : Mp => decide (m.name = s)) l 0 → LoopG C spec_MapAt pRLRB 4 0 (s_spec_MapAt_0 (l.map mapC) s i) _) ?_ ?_
    · intro h0
      refine r_spec_MapAt_0 _ _ _ _ (brB_no (by simp) (a_spec_MapAt_2 _ _ _ _ _ ?_))
      rw [List.drop_length] at h0
      simp only [idxF] at h0
      change _ = vI (idxF (fun m : Mp => decide (m.name = s)) l 0) ∧ _
      rw [← h0]
      exact ⟨rfl, by first | rfl | trivial⟩
    · intro i a hi ha hd htk hn h0
      refine r_spec_MapAt_0 _ _ _ _ (brB_yes (by simp; omega) ?_)
      rw [hd] at h0
      simp only [idxF] at h0
      simp only [ex_map, eqS_eq, brB_dec, getZ_nat, ha, Option.some.injEq, exists_eq_left', exists_eq_left, brB_not, brB_and, brB_or, key_eta, age_eta, cell_eta, vol_eta, map_eta, op_eta, succ_len, natAdd, List.length_map, List.length_append, List.length_singleton, Bool.true_and, Bool.and_true]
      rw [addW_eq (by omega)]
      split at h0
      · rename_i hp
        have hp := of_decide_eq_true hp
        first | rw [if_pos hp] | rw [if_pos hp.symm]
        refine a_spec_MapAt_1 _ _ ?_
        rw [h0]
        exact ⟨rfl, by first | rfl | trivial⟩
      · rename_i hp
        have hp : ¬ _ := fun h => hp (decide_eq_true h)
        first | rw [if_neg hp] | rw [if_neg (fun h => hp h.symm)]
        exact hn h0
  exact key rfl
@[simp] theorem c_impl_MapAt_1 (n : ByteArray) (f : Bool) (r : RR) (s : ByteArray) (q : Bool) : RunF C impl_MapAt_1 [.ag [iS n, iB f, .sub 1 r], .bx [iS s]] (vB q) [] ↔ q = decide (n = s) := iffB (by
  refine (f_impl_MapAt_1 _ _ _ _ _ ?_).run
  simp)
theorem run_idx_MapAt (l : List Mp) (s : ByteArray) (hl : l.length ≤ 1073741824) : RunF C slices_IndexFunc_Map [vMaps l, .fn impl_MapAt_1 [[iS s]]] (vI (mapAt l s)) [] := by
  refine (f_slices_IndexFunc_Map_impl_MapAt_1 _ _ _ ?_).run
  have key : idxF (fun m : Mp => decide (m.name = s)) (l.drop 0) ((0 : Nat) : Int) = idxF (fun m : Mp => decide (m.name = s)) l 0 → LoopG C slices_IndexFunc_Map pRLRB 4 0 (s_slices_IndexFunc_Map_impl_MapAt_1_0 (l.map mapC) ((0 : Nat) : Int) s) (fun u st => AftF C slices_IndexFunc_Map pRLRB u st fun r fs => r = vI (mapAt l s) ∧ fs = []) := by
    refine idx_walk l (fun i => idxF (fun m : Mp => decide (m.name = s)) (l.drop i) (i : Int) = idxF (fun m : Mp => decide (m.name = s)) l 0 → LoopG C slices_IndexFunc_Map pRLRB 4 0 (s_slices_IndexFunc_Map_impl_MapAt_1_0 (l.map mapC) i s) _) ?_ ?_
    · intro h0
      refine r_slices_IndexFunc_Map_impl_MapAt_1_0 _ _ _ _ (brB_no (by simp) (a_slices_IndexFunc_Map_impl_MapAt_1_2 _ _ _ _ _ _ ?_))
      rw [List.drop_length] at h0
      simp only [idxF] at h0
      change _ = vI (idxF (fun m : Mp => decide (m.name = s)) l 0) ∧ _
      rw [← h0]
      exact ⟨rfl, by first | rfl | trivial⟩
    · intro i a hi ha hd htk hn h0
      refine r_slices_IndexFunc_Map_impl_MapAt_1_0 _ _ _ _ (brB_yes (by simp; omega) ?_)
      rw [hd] at h0
      simp only [idxF] at h0
      simp only [ex_map, eqI_eq, c_impl_MapAt_1, brB_dec, getZ_nat, ha, Option.some.injEq, exists_eq_left', exists_eq_left, brB_not, brB_and, brB_or, key_eta, age_eta, cell_eta, vol_eta, map_eta, op_eta, succ_len, natAdd, List.length_map, List.length_append, List.length_singleton, Bool.true_and, Bool.and_true]
      rw [addW_eq (by omega)]
      split at h0
      · rename_i hp
        have hp := of_decide_eq_true hp
        first | rw [if_pos hp] | rw [if_pos hp.symm]
        refine a_slices_IndexFunc_Map_impl_MapAt_1_1 _ _ _ ?_
        rw [h0]
        exact ⟨rfl, by first | rfl | trivial⟩
      · rename_i hp
        have hp : ¬ _ := fun h => hp (decide_eq_true h)
        first | rw [if_neg hp] | rw [if_neg (fun h => hp h.symm)]
        exact hn h0
  exact key rfl
theorem run_impl_MapAt (l : List Mp) (s : ByteArray) (hl : l.length ≤ 1073741824) : RunF C impl_MapAt [vMaps l, vS s] (vI (mapAt l s)) [] := (f_impl_MapAt _ _ _ ⟨_, run_idx_MapAt l s hl, rfl, by first | rfl | trivial⟩).run
theorem run_spec_l15Zero (o : Opn) : RunF C spec_l15Zero [.ag (opC o)] (vB (opZero o)) [] := by
  refine (f_spec_l15Zero _ _ _ _ _ _ ?_).run
  simp only [c_l1In, exists_eq_left, leI_eq, eqI_eq, eqS_eq, brB_dec, brB_not]
  unfold opZero
  (repeat' split) <;> simp_all <;> omega
theorem c_spec_l15Zero (k : Int) (s t : ByteArray) (a b : Int) (q : Bool) : RunF C spec_l15Zero [.ag [iI k, iS s, iS t, iI a, iI b]] (vB q) [] ↔ q = opZero ⟨k, s, t, a, b⟩ := iffB (run_spec_l15Zero ⟨k, s, t, a, b⟩)
theorem run_spec_OpOk (o : Opn) (h1 : o.name.size ≤ 140737488355328) (h2 : o.to.size ≤ 140737488355328) : RunF C spec_OpOk [.ag (opC o)] (vB (opOk o)) [] := by
  obtain ⟨k, s, t, a, b⟩ := o
  refine (f_spec_OpOk _ _ _ _ _ _ ?_).run
  simp only [c_l1In, c_spec_NameOk s h1, c_spec_NameOk t h2, c_spec_l1Word, c_spec_l15Zero, exists_eq_left, leI_eq, eqI_eq, eqS_eq, brB_dec, brB_not]
  unfold opOk opName opTo
  simp only []
  generalize opZero ⟨k, s, t, a, b⟩ = z
  generalize nameOk s = x
  generalize nameOk t = y
  generalize isWordB a = u
  generalize isWordB b = v
  generalize inB k 1 9 = w
  by_cases p1 : 7 ≤ k <;> by_cases p2 : k = 2 <;> by_cases p3 : s = bs0 <;> by_cases p4 : t = bs0 <;> first
    | omega
    | (simp only [p1, p2, p3, p4, if_true, if_false, decide_true, decide_false, reduceIte]
       cases w <;> (try simp only [brB_t, brB_f, Bool.true_and, Bool.false_and]) <;> cases x <;> cases y <;> cases u <;> cases v <;> (try simp only [brB_t, brB_f, Bool.and_true, Bool.and_false, Bool.true_and, Bool.false_and]) <;> (first | exact ⟨rfl, by first | rfl | trivial⟩ | simp))
theorem run_impl_OpOk (o : Opn) (h1 : o.name.size ≤ 140737488355328) (h2 : o.to.size ≤ 140737488355328) : RunF C impl_OpOk [.ag (opC o)] (vB (opOk o)) [] := by
  obtain ⟨k, s, t, a, b⟩ := o
  refine (f_impl_OpOk _ _ _ _ _ _ ?_).run
  simp only [c_within, c_impl_NameOk s h1, c_impl_NameOk t h2, c_impl_isWord, exists_eq_left, leI_eq, eqI_eq, eqS_eq, brB_dec, brB_not]
  unfold opOk opName opTo opZero
  simp only []
  cases hv : isWordB b with
  | false => cases inB k 1 9 <;> cases isWordB a <;> simp only [brB_t, brB_f] <;> exact ⟨by simp, by first | rfl | trivial⟩
  | true =>
    have hb : 0 ≤ b := by simp [isWordB, inB] at hv; omega
    have hb1 : inB b 0 1 = decide (b ≤ 1) := by by_cases h : b ≤ 1 <;> simp [inB, h, hb]
    rw [hb1]
    generalize nameOk s = x
    generalize nameOk t = y
    generalize isWordB a = u
    generalize hw : inB k 1 9 = w
    generalize decide (b ≤ 1) = z1
    generalize decide (b = 0) = z0
    cases w with
    | false => simp only [brB_t, brB_f]; exact ⟨by simp, by first | rfl | trivial⟩
    | true =>
    cases u with
    | false => simp only [brB_t, brB_f]; exact ⟨by simp, by first | rfl | trivial⟩
    | true =>
    simp only [brB_t, brB_f, Bool.true_and]
    clear hw hv hb1 hb h1 h2
    by_cases p1 : k ≤ 6 <;> by_cases p0 : 7 ≤ k <;> by_cases p2 : k = 2 <;> by_cases p3 : k = 3 <;> by_cases p4 : k = 4 <;> by_cases p7 : k = 7 <;> first
      | omega
      | (simp only [p0, p1, p2, p3, p4, p7, if_true, if_false, reduceIte, or_true, true_or, or_false, false_or]
         by_cases q : a = 0 <;> by_cases q3 : s = bs0 <;> by_cases q4 : t = bs0 <;> (try simp only [q, q3, q4, if_true, if_false, reduceIte, decide_true, decide_false]) <;> cases x <;> cases y <;> (try simp only [brB_t, brB_f, Bool.and_true, Bool.and_false, Bool.true_and, Bool.false_and]) <;> (first | exact ⟨rfl, by first | rfl | trivial⟩ | simp))
theorem run_impl_copyInts (l : List Int) (hl : l.length ≤ 1073741824) : RunF C impl_copyInts [vInts l] (vInts l) [] := by
  refine (f_impl_copyInts _ _ ?_).run
  rw [show allSc (l.map intC) = true from allSc_int _, fitsT (by simp; omega)]
  exact ⟨rfl, by first | rfl | trivial⟩
theorem run_spec_l12Copy (l : List Mp) (hl : l.length ≤ 1073741824) (hs : ∀ x ∈ l, x.l.length ≤ 1073741824) : RunF C spec_l12Copy [vMaps l] (vMaps l) [] := by
  refine (f_spec_l12Copy _ _ ?_).run
  have key : LoopG C spec_l12Copy pRRLRB 4 0 (s_spec_l12Copy_0 (l.map mapC) ((0 : Nat) : Int) ((l.take 0).map mapC)) (fun u st => AftF C spec_l12Copy pRRLRB u st fun r fs => r = vMaps l ∧ fs = []) := by
    refine idx_walk l (fun i => LoopG C spec_l12Copy pRRLRB 4 0 (s_spec_l12Copy_0 (l.map mapC) i ((l.take i).map mapC)) (fun u st => AftF C spec_l12Copy pRRLRB u st fun r fs => r = vMaps l ∧ fs = [])) ?_ ?_
    · rw [List.take_length]
      exact r_spec_l12Copy_0 _ _ _ _ (brB_no (by simp) (a_spec_l12Copy_1 _ _ _ _ _ ⟨rfl, by first | rfl | trivial⟩))
    · intro i a hi ha hd htk hn
      have hsa := hs a (List.mem_of_getElem? ha)
      rw [htk] at hn
      refine r_spec_l12Copy_0 _ _ _ _ (brB_yes (by simp; omega) ?_)
      simp only [ex_map, getZ_nat, ha, Option.some.injEq, exists_eq_left']
      rw [show allSc (a.l.map intC) = true from allSc_int _, fitsT (n := Nat.add 0 _) (by simp; omega), Bool.and_self]
      refine brB_yes rfl (brB_yes (fitsT (by simp; omega)) ?_)
      rw [addW_eq (by omega), app_map]
      exact hn
  exact key
theorem run_impl_copyMaps (l : List Mp) (hl : l.length ≤ 1073741824) (hs : ∀ x ∈ l, x.l.length ≤ 1073741824) : RunF C impl_copyMaps [vMaps l] (vMaps l) [] := by
  refine (f_impl_copyMaps _ _ ?_).run
  have key : LoopG C impl_copyMaps pRRLRB 4 0 (s_impl_copyMaps_0 (l.map mapC) ((0 : Nat) : Int) ((l.take 0).map mapC)) (fun u st => AftF C impl_copyMaps pRRLRB u st fun r fs => r = vMaps l ∧ fs = []) := by
    refine idx_walk l (fun i => LoopG C impl_copyMaps pRRLRB 4 0 (s_impl_copyMaps_0 (l.map mapC) i ((l.take i).map mapC)) (fun u st => AftF C impl_copyMaps pRRLRB u st fun r fs => r = vMaps l ∧ fs = [])) ?_ ?_
    · rw [List.take_length]
      exact r_impl_copyMaps_0 _ _ _ _ (brB_no (by simp) (a_impl_copyMaps_1 _ _ _ _ _ _ ⟨rfl, by first | rfl | trivial⟩))
    · intro i a hi ha hd htk hn
      have hsa := hs a (List.mem_of_getElem? ha)
      rw [htk] at hn
      refine r_impl_copyMaps_0 _ _ _ _ (brB_yes (by simp; omega) ?_)
      simp only [ex_map, getZ_nat, ha, Option.some.injEq, exists_eq_left']
      refine ⟨_, run_impl_copyInts a.l (by omega), brB_yes (fitsT (by simp; omega)) ?_⟩
      rw [addW_eq (by omega), app_map]
      exact hn
  exact key
theorem mapAt_some {l : List Mp} {s : ByteArray} (h : ¬ mapAt l s < 0) : ∃ m, getZ l (mapAt l s) = some m := by
  obtain ⟨m, h1, _⟩ := idxF_get _ l h
  exact ⟨m, h1⟩
theorem run_spec_l12Code (l : List Mp) (s : ByteArray) (hl : l.length ≤ 1073741824) (hz : s.size ≤ 140737488355328) : RunF C spec_l12Code [vMaps l, vS s] (vI (if nameOk s = false then 1 else if mapAt l s < 0 then 2 else 0)) [] := by
  refine (f_spec_l12Code _ _ _ ⟨_, (c_spec_NameOk s hz (nameOk s)).2 rfl, ?_⟩).run
  cases h1 : nameOk s with
  | false => exact brB_yes rfl ⟨rfl, by first | rfl | trivial⟩
  | true =>
    refine brB_no rfl ⟨_, run_spec_MapAt l s hl, ?_⟩
    by_cases h2 : mapAt l s < 0
    · exact brB_yes (by simp [h2]) ⟨by simp [h2], by first | rfl | trivial⟩
    · exact brB_no (by simp; omega) ⟨by simp [h2], by first | rfl | trivial⟩
theorem run_spec_MapWrite (l : List Mp) (s : ByteArray) (b n : Int) (hl : l.length ≤ 1073741824) (hz : s.size ≤ 140737488355328) (hs : ∀ x ∈ l, x.l.length ≤ 1073741824) : RunF C spec_MapWrite [vMaps l, vS s, vI b, vI n] (tMI (mapWrite l s b n)) [] := by
  refine (f_spec_MapWrite _ _ _ _ _ ⟨_, run_spec_l12Copy l hl hs, _, run_spec_l12Code l s hl hz, _, run_spec_MapAt l s hl, ?_⟩).run
  unfold mapWrite
  cases h1 : nameOk s with
  | false => exact brB_yes (by simp) ⟨rfl, by first | rfl | trivial⟩
  | true =>
    simp only [Bool.true_eq_false, if_false]
    by_cases h2 : mapAt l s < 0
    · rw [if_pos h2, getZ_none (by omega)]
      exact brB_yes (by simp) ⟨rfl, by first | rfl | trivial⟩
    · obtain ⟨m, hm⟩ := mapAt_some h2
      rw [if_neg h2, hm]
      refine brB_no (by simp) ?_
      simp only [ex_map, hm, Option.some.injEq, exists_eq_left']
      cases h3 : m.fx with
      | true => exact brB_yes rfl ⟨by unfold mapWriteIn; rw [h3]; rfl, by first | rfl | trivial⟩
      | false =>
        refine brB_no rfl ⟨_, run_l1In _ _ _, ?_⟩
        have hlm := hs m (getZ_mem hm)
        rw [List.length_map, show subW (Int.ofNat m.l.length) 1 = (m.l.length : Int) - 1 from subW_eq (by simp; omega)]
        cases h4 : inB b 0 ((m.l.length : Int) - 1) with
        | false => exact brB_yes rfl ⟨by unfold mapWriteIn; rw [h3, h4]; rfl, by first | rfl | trivial⟩
        | true =>
          refine brB_no rfl ⟨_, (c_spec_l1Word n (isWordB n)).2 rfl, ?_⟩
          cases h5 : isWordB n with
          | false => exact brB_yes rfl ⟨by unfold mapWriteIn; rw [h3, h4, h5]; rfl, by first | rfl | trivial⟩
          | true =>
            refine brB_no rfl ?_
            have hb : 0 ≤ b ∧ b < m.l.length := by simp [inB] at h4; omega
            obtain ⟨y, hy⟩ := getZ_some hb.1 hb.2
            simp only [ex_map, ex_int, hm, hy, Option.some.injEq, exists_eq_left', sr_int, sr_map_l]
            exact ⟨by unfold mapWriteIn; rw [h3, h4, h5]; rfl, by first | rfl | trivial⟩
theorem run_impl_changeCode (l : List Mp) (s : ByteArray) (hl : l.length ≤ 1073741824) (hz : s.size ≤ 140737488355328) : RunF C impl_changeCode [vMaps l, vS s] (.tu [(0, [iI (mapAt l s)]), (0, [iI (if nameOk s = false then 1 else match getZ l (mapAt l s) with | none => 2 | some m => if m.fx = true then 5 else 0)])]) [] := by
  refine (f_impl_changeCode _ _ _ ⟨_, run_impl_MapAt l s hl, _, (c_impl_NameOk s hz (nameOk s)).2 rfl, ?_⟩).run
  cases h1 : nameOk s with
  | false => exact brB_yes rfl ⟨rfl, by first | rfl | trivial⟩
  | true =>
    refine brB_no rfl ?_
    simp only [Bool.true_eq_false, if_false]
    by_cases h2 : mapAt l s < 0
    · rw [getZ_none (by omega)]
      exact brB_yes (by simp [h2]) ⟨rfl, by first | rfl | trivial⟩
    · obtain ⟨m, hm⟩ := mapAt_some h2
      refine brB_no (by simp; omega) ?_
      simp only [ex_map, hm, Option.some.injEq, exists_eq_left']
      cases h3 : m.fx with
      | true => exact brB_yes rfl ⟨rfl, by first | rfl | trivial⟩
      | false => exact brB_no rfl ⟨rfl, by first | rfl | trivial⟩
theorem run_impl_MapWrite (l : List Mp) (s : ByteArray) (b n : Int) (hl : l.length ≤ 1073741824) (hz : s.size ≤ 140737488355328) (hs : ∀ x ∈ l, x.l.length ≤ 1073741824) : RunF C impl_MapWrite [vMaps l, vS s, vI b, vI n] (tMI (mapWrite l s b n)) [] := by
  refine (f_impl_MapWrite _ _ _ _ _ ⟨_, run_impl_copyMaps l hl hs, _, _, run_impl_changeCode l s hl hz, ?_⟩).run
  unfold mapWrite
  cases h1 : nameOk s with
  | false => exact brB_yes (by simp) ⟨rfl, by first | rfl | trivial⟩
  | true =>
    simp only [Bool.true_eq_false, if_false]
    by_cases h2 : mapAt l s < 0
    · rw [getZ_none (by omega)]
      exact brB_yes (by simp) ⟨rfl, by first | rfl | trivial⟩
    · obtain ⟨m, hm⟩ := mapAt_some h2
      rw [hm]
      cases h3 : m.fx with
      | true => exact brB_yes (by simp [h3]) ⟨by unfold mapWriteIn; simp [h3], by first | rfl | trivial⟩
      | false =>
        refine brB_no (by simp [h3]) ?_
        simp only [ex_map, hm, Option.some.injEq, exists_eq_left']
        refine ⟨_, run_within _ _ _, ?_⟩
        have hlm := hs m (getZ_mem hm)
        rw [List.length_map, show subW (Int.ofNat m.l.length) 1 = (m.l.length : Int) - 1 from subW_eq (by simp; omega)]
        cases h4 : inB b 0 ((m.l.length : Int) - 1) with
        | false => exact brB_yes rfl ⟨by unfold mapWriteIn; rw [h3, h4]; rfl, by first | rfl | trivial⟩
        | true =>
          refine brB_no rfl ⟨_, (c_impl_isWord n (isWordB n)).2 rfl, ?_⟩
          cases h5 : isWordB n with
          | false => exact brB_yes rfl ⟨by unfold mapWriteIn; rw [h3, h4, h5]; rfl, by first | rfl | trivial⟩
          | true =>
            refine brB_no rfl ?_
            have hb : 0 ≤ b ∧ b < m.l.length := by simp [inB] at h4; omega
            obtain ⟨y, hy⟩ := getZ_some hb.1 hb.2
            simp only [ex_map, ex_int, hm, hy, Option.some.injEq, exists_eq_left', sr_int, sr_map_l]
            exact ⟨by unfold mapWriteIn; rw [h3, h4, h5]; rfl, by first | rfl | trivial⟩
theorem run_Insert_Map (l : List Mp) (m : Mp) (k : Nat) (hk : k ≤ l.length) (hl : l.length ≤ 1073741824) : RunF C slices_Insert_Map [vMaps l, vI (k : Int), .c (.sub 3 [mapC m])] (vMaps (insAt l k m)) [] := by
  refine RunF.ext (p := insP 3 48) rfl ?_
  unfold insP
  simp only []
  rw [if_pos ⟨trivial, trivial, by omega, by simp <;> omega, fitsT (by simp <;> omega)⟩, Int.toNat_natCast]
  unfold vMaps insAt
  rw [List.map_append, List.map_cons, List.map_take, List.map_drop]
theorem run_impl_insertMap (l : List Mp) (m : Mp) (hl : l.length ≤ 1073741000) (hs : ∀ x ∈ l, x.l.length ≤ 1073741824) : RunF C impl_insertMap [vMaps l, .ag (mapC m)] (vMaps (putM l m)) [] := by
  refine (f_impl_insertMap _ _ _ _ _ ?_).run
  have key : ∀ k : Nat, k ≤ l.length → cutM l m k = cutM l m l.length → LoopG C impl_insertMap pRRLB 4 0 (s_impl_insertMap_0 (l.map mapC) (k : Int) m.name m.fx (m.l.map intC)) (fun x st => AftF C impl_insertMap pRRLB x st fun r fs => r = vMaps (putM l m) ∧ fs = []) := by
    have tail : ∀ k : Nat, k ≤ l.length → k = cutM l m l.length → ∃ (l10 : RR), RunF C impl_copyMaps ([TV.c (TC.sub 3 (l.map mapC))]) (TV.c (TC.sub 3 l10)) [] ∧ (∃ (l11 : RR), RunF C slices_Insert_Map ([TV.c (TC.sub 3 l10), TV.c (iI (k : Int)), TV.c (TC.sub 3 [[iS m.name, iB m.fx, TC.sub 1 (m.l.map intC)]])]) (TV.c (TC.sub 3 l11)) [] ∧ ((TV.c (TC.sub 3 l11), ([] : List TV)) = (vMaps (putM l m), ([] : List TV)))) := fun k hk he =>
      ⟨_, run_impl_copyMaps l (by omega) hs, _, run_Insert_Map l m k hk (by omega), by rw [he]; rfl⟩
    intro k
    induction k with
    | zero =>
      intro hk he
      exact r_impl_insertMap_0 _ _ _ _ _ _ (brB_no (by simp) (a_impl_insertMap_2 _ _ _ _ _ _ ⟨(vMaps (putM l m), []), tail 0 hk he, tail 0 hk he, ⟨rfl, by first | rfl | trivial⟩⟩))
    | succ k ih =>
      intro hk he
      have hk1 : k < l.length := by omega
      obtain ⟨u, hu⟩ : ∃ u, l[k]? = some u := ⟨_, List.getElem?_eq_getElem hk1⟩
      have hsub : subW ((k + 1 : Nat) : Int) 1 = (k : Int) := by rw [subW_eq (by omega)]; omega
      have hru : rowAt (l.map mapC) (k : Int) = some [iS u.name, iB u.fx, TC.sub 1 (u.l.map intC)] := by rw [rowAt_mapZ, getZ_nat, hu]; rfl
      rw [cutM_succ hu] at he
      refine r_impl_insertMap_0 _ _ _ _ _ _ (brB_yes (by simp <;> omega) ?_)
      rw [hsub]
      refine ⟨_, _, _, hru, ?_⟩
      cases hg : gtM m u with
      | true =>
        rw [hg] at he
        exact brB_yes (by unfold gtM at hg; exact hg) (ih (by omega) (by simpa using he))
      | false =>
        rw [hg] at he
        have he : k + 1 = cutM l m l.length := by simpa using he
        exact brB_no (by unfold gtM at hg; exact hg) (a_impl_insertMap_1 _ _ _ _ _ _ _ ⟨(vMaps (putM l m), []), tail (k + 1) hk he, tail (k + 1) hk he, ⟨rfl, by first | rfl | trivial⟩⟩)
  rw [show Int.ofNat (l.map mapC).length = (l.length : Int) by simp]
  exact key l.length (Nat.le_refl _) rfl
theorem run_spec_l12Put (l : List Mp) (v : Mp) (hl : l.length ≤ 1073741000) (hs : ∀ x ∈ l, x.l.length ≤ 1073741824) : RunF C spec_l12Put [vMaps l, .ag (mapC v)] (vMaps (putM l v)) [] := by
  have key : ∀ (k : Nat) (y : Mp), k ≤ l.length → cutM l v k = cutM l v l.length → LoopG C spec_l12Put pRRRLB 4 0 (s_spec_l12Put_0 (k : Int) v.name v.fx (v.l.map intC) ((l.take k ++ y :: l.drop k).map mapC)) (fun x st => AftF C spec_l12Put pRRRLB x st fun r fs => r = vMaps (putM l v) ∧ fs = []) := by
    intro k
    induction k with
    | zero =>
      intro y hk hg
      have hget : rowAt ((l.take 0 ++ y :: l.drop 0).map mapC) ((0 : Nat) : Int) = some [iS y.name, iB y.fx, TC.sub 1 (y.l.map intC)] := by rw [rowAt_mapZ, getZ_nat]; rfl
      refine r_spec_l12Put_0 _ _ _ _ _ _ (brB_no (by simp) (a_spec_l12Put_2 _ _ _ _ _ _ ⟨_, _, _, hget, _, _, _, hget, ?_⟩))
      refine ⟨?_, rfl⟩
      unfold putM
      rw [← hg, show ((0 : Nat) : Int) = 0 from rfl]
      simp [setRow, mapC, insAt, cutM]
    | succ k ih =>
      intro y hk hg
      have hk1 : k < l.length := by omega
      obtain ⟨a, ha⟩ : ∃ a, l[k]? = some a := ⟨_, List.getElem?_eq_getElem hk1⟩
      have hsub : subW ((k + 1 : Nat) : Int) 1 = (k : Int) := by rw [subW_eq (by omega)]; omega
      have htl : (l.take (k + 1)).length = k + 1 := by rw [List.length_take]; omega
      have hgk : (l.take (k + 1) ++ y :: l.drop (k + 1))[k]? = some a := by rw [List.getElem?_append_left (by omega), List.getElem?_take, if_pos (by omega), ha]
      have hgk1 : (l.take (k + 1) ++ y :: l.drop (k + 1))[k + 1]? = some y := by rw [List.getElem?_append_right (by omega), htl, Nat.sub_self]; rfl
      have hra : rowAt ((l.take (k + 1) ++ y :: l.drop (k + 1)).map mapC) (k : Int) = some [iS a.name, iB a.fx, TC.sub 1 (a.l.map intC)] := by rw [rowAt_mapZ, getZ_nat, hgk]; rfl
      have hry : rowAt ((l.take (k + 1) ++ y :: l.drop (k + 1)).map mapC) ((k + 1 : Nat) : Int) = some [iS y.name, iB y.fx, TC.sub 1 (y.l.map intC)] := by rw [rowAt_mapZ, getZ_nat, hgk1]; rfl
      have hset : ∀ u : Mp, setRow ((l.take (k + 1) ++ y :: l.drop (k + 1)).map mapC) ((k + 1 : Nat) : Int) 0 [iS u.name, iB u.fx, TC.sub 1 (u.l.map intC)] = (l.take (k + 1) ++ u :: l.drop (k + 1)).map mapC := fun u => by
        rw [setRow_map (a := y) (a' := u) hgk1 rfl]
        congr 1
        rw [List.set_append_right _ _ (by omega), htl, Nat.sub_self]
        rfl
      rw [cutM_succ ha] at hg
      refine r_spec_l12Put_0 _ _ _ _ _ _ (brB_yes (by simp <;> omega) ?_)
      rw [hsub]
      refine ⟨_, _, _, hra, _, _, _, hra, ?_⟩
      cases hle : gtM v a with
      | true =>
        rw [hle] at hg
        refine brB_yes (by unfold gtM at hle; exact hle) ⟨_, _, _, hra, _, _, _, hra, _, _, _, hry, _, _, _, hry, ?_⟩
        rw [hset a]
        have e : l.take (k + 1) ++ a :: l.drop (k + 1) = l.take k ++ a :: l.drop k := by
          rw [List.take_add_one, ha, List.drop_eq_getElem_cons hk1, show l[k] = a from by rw [List.getElem?_eq_getElem hk1] at ha; exact Option.some.inj ha]
          simp
        rw [e]
        exact ih a (by omega) (by simpa using hg)
      | false =>
        rw [hle] at hg
        have hg : k + 1 = cutM l v l.length := by simpa using hg
        refine brB_no (by unfold gtM at hle; exact hle) (a_spec_l12Put_1 _ _ _ _ _ _ _ ⟨_, _, _, hry, _, _, _, hry, ?_⟩)
        rw [hset v]
        refine ⟨?_, rfl⟩
        unfold putM
        rw [← hg]; rfl
  have hstart : LoopG C spec_l12Put pRRRLB 4 0 (s_spec_l12Put_0 (subW (Int.ofNat (List.length (List.append (l.map mapC) [[iS v.name, iB v.fx, TC.sub 1 (v.l.map intC)]]))) 1) v.name v.fx (v.l.map intC) (List.append (l.map mapC) [[iS v.name, iB v.fx, TC.sub 1 (v.l.map intC)]])) (fun x st => AftF C spec_l12Put pRRRLB x st fun r fs => (r, fs) = (vMaps (putM l v), ([] : List TV))) := by
    have hk := key l.length v (Nat.le_refl _) rfl
    rw [List.take_length, List.drop_length] at hk
    rw [app_map]
    have e : subW (Int.ofNat ((l ++ [(⟨v.name, v.fx, v.l⟩ : Mp)]).map mapC).length) 1 = (l.length : Int) := by
      rw [subW_eq (by simp <;> omega)]; simp
    rw [e]
    have eQ : (fun (r : TV) (fs : List TV) => (r, fs) = (vMaps (putM l v), ([] : List TV))) = fun r fs => r = vMaps (putM l v) ∧ fs = [] := by
      funext r fs; simp
    rw [eQ]
    exact hk
  have S := And.intro (run_spec_l12Copy l (by omega) hs) (brB_yes (B := False) (show fits (Nat.succ (l.map mapC).length) 48 = true from fitsT (by simp <;> omega)) hstart)
  exact (f_spec_l12Put _ _ _ _ _ ⟨(vMaps (putM l v), []), ⟨_, S⟩, ⟨_, S⟩, ⟨rfl, by first | rfl | trivial⟩⟩).run
theorem run_spec_MapCreate (l : List Mp) (s : ByteArray) (n : Int) (hl : l.length ≤ 1073741000) (hs : ∀ x ∈ l, x.l.length ≤ 1073741824) (hz : s.size ≤ 140737488355328) : RunF C spec_MapCreate [vMaps l, vS s, vI n] (tMI (mapCreate l s n)) [] := by
  refine (f_spec_MapCreate _ _ _ _ ⟨_, run_spec_l12Copy l (by omega) hs, _, (c_spec_NameOk s (by omega) (nameOk s)).2 rfl, ?_⟩).run
  unfold mapCreate
  cases ha : nameOk s with
  | false => exact brB_yes rfl ⟨rfl, by first | rfl | trivial⟩
  | true =>
    refine brB_no rfl ⟨_, run_spec_MapAt l s (by omega), ?_⟩
    simp only [if_true]
    by_cases h1 : 0 ≤ mapAt l s
    · rw [if_pos h1]
      exact brB_yes (by simpa using h1) ⟨rfl, by first | rfl | trivial⟩
    · rw [if_neg h1]
      refine brB_no (by simp <;> omega) ⟨_, run_l1In n 1 12, ?_⟩
      cases h2 : inB n 1 12 with
      | false => exact brB_yes rfl ⟨rfl, by first | rfl | trivial⟩
      | true =>
        have hn := inB_nat h2
        refine brB_no rfl ?_
        simp only [if_true]
        by_cases h3 : 6 ≤ l.length
        · rw [if_pos h3]
          exact brB_yes (by simp <;> omega) ⟨rfl, by first | rfl | trivial⟩
        · rw [if_neg h3]
          refine brB_no (by simp <;> omega) (brB_yes (by rw [numI_eq, fitsT (by omega)]; simp <;> omega) ?_)
          rw [show List.replicate (numI n) [iI 0] = (List.replicate n.toNat (0 : Int)).map intC from by rw [numI_eq, List.map_replicate]; rfl]
          exact ⟨_, run_spec_l12Put l ⟨s, false, List.replicate n.toNat 0⟩ hl hs, ⟨rfl, by first | rfl | trivial⟩⟩
theorem run_spec_MapSnap (l : List Mp) (s to : ByteArray) (fx : Bool) (hl : l.length ≤ 1073741000) (hs : ∀ x ∈ l, x.l.length ≤ 1073741824) (hz : s.size ≤ 140737488355328) (hz2 : to.size ≤ 140737488355328) : RunF C spec_MapSnap [vMaps l, vS s, vS to, vB fx] (tMI (mapSnap l s to fx)) [] := by
  refine (f_spec_MapSnap _ _ _ _ _ ⟨_, run_spec_l12Copy l (by omega) hs, _, run_spec_MapAt l s (by omega), _, (c_spec_NameOk s (by omega) (nameOk s)).2 rfl, ?_⟩).run
  unfold mapSnap
  cases ha : nameOk s with
  | false =>
    rw [if_neg (by simp)]
    exact brB_yes rfl ⟨rfl, by first | rfl | trivial⟩
  | true =>
  refine brB_no rfl ⟨_, (c_spec_NameOk to (by omega) (nameOk to)).2 rfl, ?_⟩
  cases hb : nameOk to with
  | false =>
    rw [if_neg (by simp)]
    exact brB_yes rfl ⟨rfl, by first | rfl | trivial⟩
  | true =>
  rw [if_pos ⟨rfl, by first | rfl | trivial⟩]
  refine brB_no rfl ?_
  by_cases hn : mapAt l s < 0
  · rw [getZ_none (by omega)]
    exact brB_yes (by simpa using hn) ⟨rfl, by first | rfl | trivial⟩
  · obtain ⟨m, hm, _⟩ := idxF_get _ l (show ¬ idxF (fun m : Mp => decide (m.name = s)) l 0 < 0 from hn)
    have hm : getZ l (mapAt l s) = some m := hm
    have hrow : rowAt (l.map mapC) (mapAt l s) = some [iS m.name, iB m.fx, TC.sub 1 (m.l.map intC)] := by rw [rowAt_mapZ, hm]; rfl
    have hml := hs m (getZ_mem hm)
    rw [hm]
    refine brB_no (by simpa using hn) ⟨_, run_spec_MapAt l to (by omega), ?_⟩
    simp only []
    by_cases h1 : 0 ≤ mapAt l to
    · rw [if_pos h1]
      exact brB_yes (by simpa using h1) ⟨rfl, by first | rfl | trivial⟩
    · rw [if_neg h1]
      refine brB_no (by simp <;> omega) ?_
      by_cases h3 : 6 ≤ l.length
      · rw [if_pos h3]
        exact brB_yes (by simp <;> omega) ⟨rfl, by first | rfl | trivial⟩
      · rw [if_neg h3]
        exact brB_no (by simp <;> omega) ⟨_, _, _, hrow, brB_yes (by rw [allSc_int, fitsT (by simp <;> omega)]; rfl) ⟨_, run_spec_l12Put l ⟨to, fx, m.l⟩ hl hs, ⟨rfl, by first | rfl | trivial⟩⟩⟩
theorem run_impl_MapCreate (l : List Mp) (s : ByteArray) (n : Int) (hl : l.length ≤ 1073741000) (hs : ∀ x ∈ l, x.l.length ≤ 1073741824) (hz : s.size ≤ 140737488355328) : RunF C impl_MapCreate [vMaps l, vS s, vI n] (tMI (mapCreate l s n)) [] := by
  refine (f_impl_MapCreate _ _ _ _ ⟨_, (c_impl_NameOk s (by omega) (nameOk s)).2 rfl, ?_⟩).run
  unfold mapCreate
  cases ha : nameOk s with
  | false => exact brB_yes rfl ⟨_, run_impl_copyMaps l (by omega) hs, ⟨rfl, by first | rfl | trivial⟩⟩
  | true =>
    refine brB_no rfl ⟨_, run_impl_MapAt l s (by omega), ?_⟩
    simp only [if_true]
    by_cases h1 : 0 ≤ mapAt l s
    · rw [if_pos h1]
      exact brB_yes (by simpa using h1) ⟨_, run_impl_copyMaps l (by omega) hs, ⟨rfl, by first | rfl | trivial⟩⟩
    · rw [if_neg h1]
      refine brB_no (by simp <;> omega) ⟨_, run_within n 1 12, ?_⟩
      cases h2 : inB n 1 12 with
      | false => exact brB_yes rfl ⟨_, run_impl_copyMaps l (by omega) hs, ⟨rfl, by first | rfl | trivial⟩⟩
      | true =>
        have hn := inB_nat h2
        refine brB_no rfl ?_
        simp only [if_true]
        by_cases h3 : 6 ≤ l.length
        · rw [if_pos h3]
          exact brB_yes (by simp <;> omega) ⟨_, run_impl_copyMaps l (by omega) hs, ⟨rfl, by first | rfl | trivial⟩⟩
        · rw [if_neg h3]
          refine brB_no (by simp <;> omega) (brB_yes (by rw [numI_eq, fitsT (by omega)]; simp <;> omega) ?_)
          rw [show List.replicate (numI n) [iI 0] = (List.replicate n.toNat (0 : Int)).map intC from by rw [numI_eq, List.map_replicate]; rfl]
          exact ⟨_, run_impl_insertMap l ⟨s, false, List.replicate n.toNat 0⟩ hl hs, ⟨rfl, by first | rfl | trivial⟩⟩
theorem run_impl_MapSnap (l : List Mp) (s to : ByteArray) (fx : Bool) (hl : l.length ≤ 1073741000) (hs : ∀ x ∈ l, x.l.length ≤ 1073741824) (hz : s.size ≤ 140737488355328) (hz2 : to.size ≤ 140737488355328) : RunF C impl_MapSnap [vMaps l, vS s, vS to, vB fx] (tMI (mapSnap l s to fx)) [] := by
  refine (f_impl_MapSnap _ _ _ _ _ ⟨_, run_impl_MapAt l s (by omega), _, (c_impl_NameOk s (by omega) (nameOk s)).2 rfl, ?_⟩).run
  unfold mapSnap
  cases ha : nameOk s with
  | false =>
    rw [if_neg (by simp)]
    exact brB_yes rfl ⟨_, run_impl_copyMaps l (by omega) hs, ⟨rfl, by first | rfl | trivial⟩⟩
  | true =>
  refine brB_no rfl ⟨_, (c_impl_NameOk to (by omega) (nameOk to)).2 rfl, ?_⟩
  cases hb : nameOk to with
  | false =>
    rw [if_neg (by simp)]
    exact brB_yes rfl ⟨_, run_impl_copyMaps l (by omega) hs, ⟨rfl, by first | rfl | trivial⟩⟩
  | true =>
  rw [if_pos ⟨rfl, by first | rfl | trivial⟩]
  refine brB_no rfl ?_
  by_cases hn : mapAt l s < 0
  · rw [getZ_none (by omega)]
    exact brB_yes (by simpa using hn) ⟨_, run_impl_copyMaps l (by omega) hs, ⟨rfl, by first | rfl | trivial⟩⟩
  · obtain ⟨m, hm, _⟩ := idxF_get _ l (show ¬ idxF (fun m : Mp => decide (m.name = s)) l 0 < 0 from hn)
    have hm : getZ l (mapAt l s) = some m := hm
    have hrow : rowAt (l.map mapC) (mapAt l s) = some [iS m.name, iB m.fx, TC.sub 1 (m.l.map intC)] := by rw [rowAt_mapZ, hm]; rfl
    have hml := hs m (getZ_mem hm)
    rw [hm]
    refine brB_no (by simpa using hn) ⟨_, run_impl_MapAt l to (by omega), ?_⟩
    simp only []
    by_cases h1 : 0 ≤ mapAt l to
    · rw [if_pos h1]
      exact brB_yes (by simpa using h1) ⟨_, run_impl_copyMaps l (by omega) hs, ⟨rfl, by first | rfl | trivial⟩⟩
    · rw [if_neg h1]
      refine brB_no (by simp <;> omega) ?_
      by_cases h3 : 6 ≤ l.length
      · rw [if_pos h3]
        exact brB_yes (by simp <;> omega) ⟨_, run_impl_copyMaps l (by omega) hs, ⟨rfl, by first | rfl | trivial⟩⟩
      · rw [if_neg h3]
        exact brB_no (by simp <;> omega) ⟨_, _, _, hrow, ⟨_, run_impl_copyInts m.l (by omega), _, run_impl_insertMap l ⟨to, fx, m.l⟩ hl hs, ⟨rfl, by first | rfl | trivial⟩⟩⟩
theorem run_Delete_Map (l : List Mp) (k : Nat) (hk : k < l.length) : RunF C slices_Delete_Map [vMaps l, vI (k : Int), vI ((k : Int) + 1)] (vMaps (l.take k ++ l.drop (k + 1))) [] := by
  refine RunF.ext (p := delP 3) rfl ?_
  unfold delP
  simp only []
  rw [if_pos ⟨trivial, by omega, by simp <;> omega, trivial⟩, Int.toNat_natCast, show ((k : Int) + 1).toNat = k + 1 from rfl]
  unfold vMaps
  rw [List.map_append, List.map_take, List.map_drop]
theorem run_impl_MapKill (l : List Mp) (s : ByteArray) (hl : l.length ≤ 1073741000) (hs : ∀ x ∈ l, x.l.length ≤ 1073741824) (hz : s.size ≤ 140737488355328) : RunF C impl_MapKill [vMaps l, vS s] (tMI (mapKill l s)) [] := by
  refine (f_impl_MapKill _ _ _ ⟨_, run_impl_MapAt l s (by omega), _, (c_impl_NameOk s (by omega) (nameOk s)).2 rfl, ?_⟩).run
  unfold mapKill
  cases ha : nameOk s with
  | false => exact brB_yes rfl ⟨_, run_impl_copyMaps l (by omega) hs, ⟨rfl, by first | rfl | trivial⟩⟩
  | true =>
    refine brB_no rfl ?_
    simp only [if_true]
    by_cases hn : mapAt l s < 0
    · rw [if_pos hn]
      exact brB_yes (by simpa using hn) ⟨_, run_impl_copyMaps l (by omega) hs, ⟨rfl, by first | rfl | trivial⟩⟩
    · rw [if_neg hn]
      have hlt := idxF_lt (fun m : Mp => decide (m.name = s)) l
      have hlt : mapAt l s < l.length := hlt.2
      obtain ⟨k, hk⟩ : ∃ k : Nat, mapAt l s = (k : Int) := ⟨(mapAt l s).toNat, by omega⟩
      rw [hk] at hlt ⊢
      refine brB_no (by simp <;> omega) ⟨_, run_impl_copyMaps l (by omega) hs, ?_⟩
      rw [addW_eq (by omega), Int.toNat_natCast]
      exact ⟨_, run_Delete_Map l k (by omega), ⟨rfl, by first | rfl | trivial⟩⟩
attribute [local semireducible] moveRows cutRows in
theorem cut_move {rows : RR} {k : Nat} (hk : k < rows.length) : cutRows (moveRows 3 rows 0 (k : Int)) ((k : Int) + 1) (Int.ofNat rows.length) = rows.drop (k + 1) := by
  unfold cutRows moveRows
  rw [Int.toNat_natCast, show ((k : Int) + 1).toNat = k + 1 from rfl, show (0 : Int).toNat = 0 from rfl, show (Int.ofNat rows.length).toNat = rows.length from rfl, List.take_zero, List.nil_append, Nat.sub_zero]
  rw [List.take_of_length_le (by simp <;> omega), List.drop_append, List.length_replicate, List.drop_of_length_le (by simp), List.nil_append, List.drop_drop]
  congr 1; omega
theorem run_spec_MapKill (l : List Mp) (s : ByteArray) (hl : l.length ≤ 1073741000) (hs : ∀ x ∈ l, x.l.length ≤ 1073741824) (hz : s.size ≤ 140737488355328) : RunF C spec_MapKill [vMaps l, vS s] (tMI (mapKill l s)) [] := by
  refine (f_spec_MapKill _ _ _ ⟨_, run_spec_l12Copy l (by omega) hs, _, run_spec_l12Code l s (by omega) hz, ?_⟩).run
  unfold mapKill
  cases ha : nameOk s with
  | false => exact brB_yes (by simp) ⟨rfl, by first | rfl | trivial⟩
  | true =>
    simp only [Bool.true_eq_false, if_false, if_true]
    by_cases hn : mapAt l s < 0
    · rw [if_pos hn, if_pos hn]
      exact brB_yes (by simp) ⟨rfl, by first | rfl | trivial⟩
    · rw [if_neg hn, if_neg hn]
      have hlt := idxF_lt (fun m : Mp => decide (m.name = s)) l
      have hlt : mapAt l s < l.length := hlt.2
      refine brB_no (by simp) ⟨_, run_spec_MapAt l s (by omega), ?_⟩
      obtain ⟨k, hk⟩ : ∃ k : Nat, mapAt l s = (k : Int) := ⟨(mapAt l s).toNat, by omega⟩
      rw [hk] at hlt ⊢
      rw [addW_eq (by omega), cut_move (by simp <;> omega), Int.toNat_natCast]
      have e1 : cutRows (l.map mapC) 0 (k : Int) = (l.take k).map mapC := by rw [cutRows_map]; rfl
      have e2 : (l.map mapC).drop (k + 1) = (l.drop (k + 1)).map mapC := List.map_drop.symm
      rw [e1, e2]
      refine brB_yes (by simp <;> omega) (brB_yes (by simp <;> omega) (brB_yes (fitsT (by simp <;> omega)) (brB_yes (fitsT (by simp <;> omega)) ?_)))
      rw [app_rows]
      exact ⟨rfl, by first | rfl | trivial⟩
attribute [local semireducible] copyRows in
theorem copy_res (L : List Int) (n : Nat) : copyRows ((List.replicate n (0 : Int)).map intC) (L.map intC) = (resL L n).map intC := by
  unfold copyRows resL
  rw [List.length_map, List.length_map, List.length_replicate, List.map_append, List.map_take, ← List.map_drop, List.drop_replicate]
theorem run_impl_MapResize (l : List Mp) (s : ByteArray) (n : Int) (hl : l.length ≤ 1073741000) (hs : ∀ x ∈ l, x.l.length ≤ 1073741824) (hz : s.size ≤ 140737488355328) : RunF C impl_MapResize [vMaps l, vS s, vI n] (tMI (mapResize l s n)) [] := by
  refine (f_impl_MapResize _ _ _ _ ⟨_, run_impl_copyMaps l (by omega) hs, _, _, run_impl_changeCode l s (by omega) hz, ?_⟩).run
  unfold mapResize
  cases h1 : nameOk s with
  | false => exact brB_yes (by simp) ⟨rfl, by first | rfl | trivial⟩
  | true =>
    simp only [Bool.true_eq_false, if_false]
    by_cases h2 : mapAt l s < 0
    · rw [getZ_none (by omega)]
      exact brB_yes (by simp) ⟨rfl, by first | rfl | trivial⟩
    · obtain ⟨m, hm⟩ := mapAt_some h2
      have hrow : rowAt (l.map mapC) (mapAt l s) = some [iS m.name, iB m.fx, TC.sub 1 (m.l.map intC)] := by rw [rowAt_mapZ, hm]; rfl
      rw [hm]
      cases h3 : m.fx with
      | true => exact brB_yes (by simp [h3]) ⟨by simp [h3], by first | rfl | trivial⟩
      | false =>
        refine brB_no (by simp [h3]) ⟨_, run_within n 1 12, ?_⟩
        rw [h3] at hrow
        cases h4 : inB n 1 12 with
        | false => exact brB_yes rfl ⟨by simp [h3, h4], by first | rfl | trivial⟩
        | true =>
          have hn := inB_nat h4
          refine brB_no rfl (brB_yes (by rw [numI_eq, fitsT (by omega)]; simp <;> omega) ⟨_, _, _, hrow, brB_yes (allSc_int _) ⟨_, _, _, hrow, _, _, _, hrow, ?_⟩⟩)
          rw [show List.replicate (numI n) [iI 0] = (List.replicate n.toNat (0 : Int)).map intC from by rw [numI_eq, List.map_replicate]; rfl, copy_res, sr_map_l]
          exact ⟨by simp [h3, h4], by first | rfl | trivial⟩
theorem run_spec_MapResize (l : List Mp) (s : ByteArray) (n : Int) (hl : l.length ≤ 1073741000) (hs : ∀ x ∈ l, x.l.length ≤ 1073741824) (hz : s.size ≤ 140737488355328) : RunF C spec_MapResize [vMaps l, vS s, vI n] (tMI (mapResize l s n)) [] := by
  refine (f_spec_MapResize _ _ _ _ ⟨_, run_spec_l12Copy l (by omega) hs, _, run_spec_l12Code l s (by omega) hz, _, run_spec_MapAt l s (by omega), ?_⟩).run
  unfold mapResize
  cases h1 : nameOk s with
  | false => exact brB_yes (by simp) ⟨rfl, by first | rfl | trivial⟩
  | true =>
    simp only [Bool.true_eq_false, if_false]
    by_cases h2 : mapAt l s < 0
    · rw [if_pos h2, getZ_none (by omega)]
      exact brB_yes (by simp) ⟨rfl, by first | rfl | trivial⟩
    · obtain ⟨m, hm⟩ := mapAt_some h2
      have hml := hs m (getZ_mem hm)
      have hrow : rowAt (l.map mapC) (mapAt l s) = some [iS m.name, iB m.fx, TC.sub 1 (m.l.map intC)] := by rw [rowAt_mapZ, hm]; rfl
      rw [if_neg h2, hm]
      refine brB_no (by simp) ⟨_, _, _, hrow, ?_⟩
      cases h3 : m.fx with
      | true => exact brB_yes rfl ⟨by simp [h3], by first | rfl | trivial⟩
      | false =>
        refine brB_no rfl ⟨_, run_l1In n 1 12, ?_⟩
        cases h4 : inB n 1 12 with
        | false => exact brB_yes rfl ⟨by simp [h3, h4], by first | rfl | trivial⟩
        | true =>
          have hn := inB_nat h4
          have hT := resL_len m.l n.toNat
          refine brB_no rfl ?_
          have key : LoopG C spec_MapResize pRRRRRRLRB 4 1 (s_spec_MapResize_0 (l.map mapC) n (mapAt l s) ((0 : Nat) : Int) (l.map mapC) (((resL m.l n.toNat).take 0).map intC)) (fun x st => AftF C spec_MapResize pRRRRRRLRB x st fun r fs => r = tMI (l.modify (mapAt l s).toNat (fun x => { x with l := resL m.l n.toNat }), 0) ∧ fs = []) := by
            refine idx_walk (resL m.l n.toNat) (fun i => LoopG C spec_MapResize pRRRRRRLRB 4 1 (s_spec_MapResize_0 (l.map mapC) n (mapAt l s) (i : Int) (l.map mapC) (((resL m.l n.toNat).take i).map intC)) _) ?_ ?_
            · rw [hT]
              refine r_spec_MapResize_0 _ _ _ _ _ _ _ (brB_no (by simp <;> omega) (a_spec_MapResize_1 _ _ _ _ _ _ _ _ ⟨_, _, _, hrow, _, _, _, hrow, ?_⟩))
              rw [List.take_of_length_le (by omega), sr_map_l]
              exact ⟨rfl, by first | rfl | trivial⟩
            · intro i a hi ha hd htk hnx
              rw [htk] at hnx
              rw [hT] at hi
              rw [resL_get hi] at ha
              have hti : ((resL m.l n.toNat).take i).length = i := by rw [List.length_take, hT]; omega
              refine r_spec_MapResize_0 _ _ _ _ _ _ _ (brB_yes (by simp <;> omega) ⟨_, _, _, hrow, ?_⟩)
              by_cases h5 : i < m.l.length
              · have hy : rowAt (m.l.map intC) (i : Int) = some [iI a] := by
                  rw [rowAt_mapZ, getZ_nat, List.getElem?_eq_getElem h5]
                  rw [List.getD_eq_getElem?_getD, List.getElem?_eq_getElem h5] at ha
                  cases ha; rfl
                refine brB_yes (by simp <;> omega) ⟨_, _, _, hrow, _, hy, brB_yes (by rw [allSc1, fitsT (by simp <;> omega)]; rfl) ?_⟩
                rw [addW_eq (by omega), app_int]
                exact hnx
              · have ha0 : a = 0 := by
                  rw [List.getD_eq_getElem?_getD, List.getElem?_eq_none (by omega)] at ha
                  cases ha; rfl
                subst ha0
                refine brB_no (by simp <;> omega) (brB_yes (by rw [allSc1, fitsT (by simp <;> omega)]; rfl) ?_)
                rw [addW_eq (by omega), app_int]
                exact hnx
          simp only [h3, Bool.false_eq_true, if_false, if_true]
          exact key
theorem run_spec_MapApply (l : List Mp) (o : Opn) (hl : l.length ≤ 1073741000) (hs : ∀ x ∈ l, x.l.length ≤ 1073741824) (h1 : o.name.size ≤ 1073741824) (h2 : o.to.size ≤ 1073741824) : RunF C spec_MapApply [vMaps l, .ag (opC o)] (tMI (mapApply l o)) [] := by
  refine (f_spec_MapApply _ _ _ _ _ _ _ ⟨_, run_spec_OpOk o (by omega) (by omega), ?_⟩).run
  unfold mapApply
  cases h : opOk o with
  | false => exact brB_yes rfl ⟨_, run_spec_l12Copy l (by omega) hs, ⟨rfl, by first | rfl | trivial⟩⟩
  | true =>
    refine brB_no rfl ?_
    simp only [if_true]
    by_cases k1 : o.kind = 1
    · rw [if_pos k1]; exact brB_yes (by simp [k1]) ⟨_, _, run_spec_MapCreate l o.name o.a hl hs (by omega), ⟨rfl, by first | rfl | trivial⟩⟩
    · rw [if_neg k1]
      refine brB_no (by simp [k1]) ?_
      by_cases k2 : o.kind = 2
      · rw [if_pos k2]
        refine brB_yes (by simp [k2]) ⟨_, _, run_spec_MapSnap l o.name o.to (eqI o.b 1) hl hs (by omega) (by omega), ?_⟩
        rw [eqI_eq]
        exact ⟨rfl, by first | rfl | trivial⟩
      · rw [if_neg k2]
        refine brB_no (by simp [k2]) ?_
        by_cases k3 : o.kind = 3
        · rw [if_pos k3]; exact brB_yes (by simp [k3]) ⟨_, _, run_spec_MapKill l o.name hl hs (by omega), ⟨rfl, by first | rfl | trivial⟩⟩
        · rw [if_neg k3]
          refine brB_no (by simp [k3]) ?_
          by_cases k4 : o.kind = 4
          · rw [if_pos k4]; exact brB_yes (by simp [k4]) ⟨_, _, run_spec_MapWrite l o.name o.a o.b (by omega) (by omega) hs, ⟨rfl, by first | rfl | trivial⟩⟩
          · rw [if_neg k4]
            refine brB_no (by simp [k4]) ?_
            by_cases k5 : o.kind = 5
            · rw [if_pos k5]; exact brB_yes (by simp [k5]) ⟨_, _, run_spec_MapWrite l o.name o.a 0 (by omega) (by omega) hs, ⟨rfl, by first | rfl | trivial⟩⟩
            · rw [if_neg k5]
              refine brB_no (by simp [k5]) ?_
              by_cases k6 : o.kind = 6
              · rw [if_pos k6]; exact brB_yes (by simp [k6]) ⟨_, _, run_spec_MapResize l o.name o.a hl hs (by omega), ⟨rfl, by first | rfl | trivial⟩⟩
              · rw [if_neg k6]
                exact brB_no (by simp [k6]) ⟨_, run_spec_l12Copy l (by omega) hs, ⟨rfl, by first | rfl | trivial⟩⟩
theorem run_impl_MapApply (l : List Mp) (o : Opn) (hl : l.length ≤ 1073741000) (hs : ∀ x ∈ l, x.l.length ≤ 1073741824) (h1 : o.name.size ≤ 1073741824) (h2 : o.to.size ≤ 1073741824) : RunF C impl_MapApply [vMaps l, .ag (opC o)] (tMI (mapApply l o)) [] := by
  refine (f_impl_MapApply _ _ _ _ _ _ _ ⟨_, run_impl_OpOk o (by omega) (by omega), ?_⟩).run
  unfold mapApply
  cases h : opOk o with
  | false => exact brB_yes rfl ⟨_, run_impl_copyMaps l (by omega) hs, ⟨rfl, by first | rfl | trivial⟩⟩
  | true =>
    refine brB_no rfl ?_
    simp only [if_true]
    by_cases k1 : o.kind = 1
    · rw [if_pos k1]; exact brB_yes (by simp [k1]) ⟨_, _, run_impl_MapCreate l o.name o.a hl hs (by omega), ⟨rfl, by first | rfl | trivial⟩⟩
    · rw [if_neg k1]
      refine brB_no (by simp [k1]) ?_
      by_cases k2 : o.kind = 2
      · rw [if_pos k2]
        refine brB_yes (by simp [k2]) ⟨_, _, run_impl_MapSnap l o.name o.to (eqI o.b 1) hl hs (by omega) (by omega), ?_⟩
        rw [eqI_eq]
        exact ⟨rfl, by first | rfl | trivial⟩
      · rw [if_neg k2]
        refine brB_no (by simp [k2]) ?_
        by_cases k3 : o.kind = 3
        · rw [if_pos k3]; exact brB_yes (by simp [k3]) ⟨_, _, run_impl_MapKill l o.name hl hs (by omega), ⟨rfl, by first | rfl | trivial⟩⟩
        · rw [if_neg k3]
          refine brB_no (by simp [k3]) ?_
          by_cases k4 : o.kind = 4
          · rw [if_pos k4]; exact brB_yes (by simp [k4]) ⟨_, _, run_impl_MapWrite l o.name o.a o.b (by omega) (by omega) hs, ⟨rfl, by first | rfl | trivial⟩⟩
          · rw [if_neg k4]
            refine brB_no (by simp [k4]) ?_
            by_cases k5 : o.kind = 5
            · rw [if_pos k5]; exact brB_yes (by simp [k5]) ⟨_, _, run_impl_MapWrite l o.name o.a 0 (by omega) (by omega) hs, ⟨rfl, by first | rfl | trivial⟩⟩
            · rw [if_neg k5]
              refine brB_no (by simp [k5]) ?_
              by_cases k6 : o.kind = 6
              · rw [if_pos k6]; exact brB_yes (by simp [k6]) ⟨_, _, run_impl_MapResize l o.name o.a hl hs (by omega), ⟨rfl, by first | rfl | trivial⟩⟩
              · rw [if_neg k6]
                exact brB_no (by simp [k6]) ⟨_, run_impl_copyMaps l (by omega) hs, ⟨rfl, by first | rfl | trivial⟩⟩
theorem eqI30 : eqI 3 0 = false := by simp
theorem eqI100 : eqI 10 0 = false := by simp
def mTextF : Nat → Int → ByteArray → ByteArray
  | 0, _, out => out
  | n + 1, k, out => if k ≤ 0 then out else mTextF n (quoI .i64 k 10) (catS (strOf [wrapI .u8 (48 + remI k 10)]) out)
def mText (k : Int) : ByteArray := if k ≤ 0 then ⟨#[109, 48]⟩ else catS ⟨#[109]⟩ (mTextF 19 k bs0)
attribute [local semireducible] byteRows strOf catS in
theorem byteRows1 (n : Int) : byteRows [[TC.sc (.int .u8 n)]] = some [n] := rfl
attribute [local semireducible] strOf in
theorem strOf1 (n : Int) : (strOf [n]).size = 1 := rfl
attribute [local semireducible] catS in
theorem catS_size (a b : ByteArray) : (catS a b).size = a.size + b.size := by show (a ++ b).size = _; simp
attribute [local semireducible] quoI in
theorem quoI_eq {a b : Int} (h0 : 0 ≤ a) (h1 : a ≤ 9223372036854775807) : quoI .i64 a 10 = a / 10 := by
  show IntKind.i64.wrap (a.tdiv 10) = _
  rw [Int.tdiv_eq_ediv_of_nonneg h0]
  exact IntWalk.i64_in _ (by omega)
theorem mTextF_neg (n : Nat) (k : Int) (out : ByteArray) (h : k ≤ 0) : mTextF n k out = out := by cases n <;> simp [mTextF, h]
theorem run_markText (k : Int) (hk : k ≤ 2305843009213693952) : RunF C laws_markText [vI k] (vS (mText k)) [] := by
  refine (f_laws_markText _ _ ?_).run
  unfold mText
  simp only [leI_eq, brB_dec]
  by_cases h : k ≤ 0
  · rw [if_pos h, if_pos h]; exact ⟨rfl, by first | rfl | trivial⟩
  · rw [if_neg h, if_neg h]
    have key : ∀ (F : ByteArray) (n : Nat) (k' : Int) (out : ByteArray), k' < 10 ^ n → k' ≤ 2305843009213693952 → out.size + n ≤ 100 → mTextF n k' out = F → LoopG C laws_markText pRRRLB 4 0 (s_laws_markText_0 k' out) (fun u st => AftF C laws_markText pRRRLB u st fun r fs => r = vS (catS ⟨#[109]⟩ F) ∧ fs = []) := by
      intro F n
      induction n with
      | zero =>
        intro k' out h1 h2 h3 h4
        refine r_laws_markText_0 _ _ _ (brB_no (by simp at h1 ⊢; omega) (a_laws_markText_1 _ _ _ _ ?_))
        simp only [mTextF] at h4
        subst h4
        refine brB_yes (fitsT (by simp only [natAdd, strLen]; omega)) ⟨rfl, by first | rfl | trivial⟩
      | succ n ih =>
        intro k' out h1 h2 h3 h4
        by_cases h0 : k' ≤ 0
        · rw [mTextF_neg _ _ _ h0] at h4
          subst h4
          exact r_laws_markText_0 _ _ _ (brB_no (by simp; omega) (a_laws_markText_1 _ _ _ _ (brB_yes (fitsT (by simp only [natAdd, strLen]; omega)) ⟨rfl, by first | rfl | trivial⟩)))
        · simp only [mTextF, if_neg h0] at h4
          have hr : 0 ≤ remI k' 10 ∧ remI k' 10 ≤ 9 := by rw [remI_eq, Int.tmod_eq_emod_of_nonneg (by omega)]; omega
          refine r_laws_markText_0 _ _ _ (brB_yes (by simp; omega) (brB_no eqI100 ⟨_, byteRows1 _, brB_yes (fitsT (by simp only [natAdd, strLen, strOf1]; omega)) (brB_no eqI100 ?_)⟩))
          rw [addW_eq (by omega)]
          refine ih _ _ ?_ ?_ ?_ h4
          · rw [quoI_eq (b := 0) (by omega) (by omega)]
            have : (10 : Int) ^ (n + 1) = 10 ^ n * 10 := Int.pow_succ ..
            omega
          · rw [quoI_eq (b := 0) (by omega) (by omega)]; omega
          · rw [catS_size, strOf1]; omega
    exact key _ 19 k bs0 (by rw [show (10 : Int) ^ 19 = 10000000000000000000 from by decide]; omega) hk (by decide) rfl
theorem c_markText (k : Int) (hk : k ≤ 2305843009213693952) (q : ByteArray) : RunF C laws_markText [vI k] (vS q) [] ↔ q = mText k := iffS (run_markText k hk)
def mkInt (_ : Int) (k : Int) : Int := k
def wInt (_ : Int) : Nat := 1
theorem markIntS (l : List (Int)) (k : Int) (h0 : 0 ≤ k) (hk : k + tot wInt l ≤ 2305843009213693952) (hl : l.length ≤ 1099511627776) : RunF C laws_markIntS [vInts l, vI k] (vI (k + tot wInt l)) [vInts (markG mkInt wInt l k)] := by
  refine (f_laws_markIntS _ _ _ ?_).run
  refine mark_loop (e := intC) mkInt wInt (fun k i rows => LoopG C laws_markIntS pRLRB 4 0 (s_laws_markIntS_0 k i rows) _) 2305843009213693952 ?_ l [] k h0 hk (by simpa using hl) ?_
  · intro d a r k h0 hk hd hn
    have hw : wInt a = 1 := rfl
    rw [hw] at hk hn
    refine r_laws_markIntS_0 _ _ _ _ (brB_yes (by simp; omega) ?_)
    simp (disch := omega) only [addW_eq]
    simp only [ex_int, sr_int, getZ_mod, ex_some_map, getZ_mid, Option.some.injEq, exists_eq_left', exists_eq_left, mod_mod, eqI30, brB_f, brB_not]
    rw [mod_mid]
    rw [show (k + 1 : Int) = k + ((1 : Nat) : Int) by omega]
    exact hn
  · refine r_laws_markIntS_0 _ _ _ _ (brB_no (by simp [markG_len]) (a_laws_markIntS_1 _ _ _ _ _ ⟨rfl, by first | rfl | trivial⟩))
theorem heldIntS (l : List (Int)) (k : Int) (h0 : 0 ≤ k) (hk : k + tot wInt l ≤ 2305843009213693952) (hl : l.length ≤ 1099511627776) : RunF C laws_heldIntS [vInts (markG mkInt wInt l k), vI k] (vI (k + tot wInt l)) [] := by
  refine (f_laws_heldIntS _ _ _ ?_).run
  refine held_loop (e := intC) mkInt wInt (fun k i rows => LoopG C laws_heldIntS pRLRB 4 0 (s_laws_heldIntS_0 rows k i) _) 2305843009213693952 ?_ l [] k h0 hk (by simpa using hl) ?_
  · intro d a r k h0 hk hd hn
    have hw : wInt a = 1 := rfl
    rw [hw] at hk hn
    refine r_laws_heldIntS_0 _ _ _ _ (brB_yes (by simp; omega) ?_)
    simp (disch := omega) only [addW_eq]
    simp only [ex_int, getZ_mod, ex_some_map, getZ_mid, Option.some.injEq, exists_eq_left', exists_eq_left, mod_mod, eqI30, brB_f, brB_not, mkInt, eqI_eq, eqS_eq, eqB_eq, brB_dec, if_true, decide_true, Bool.not_true]
    rw [show (k + 1 : Int) = k + ((1 : Nat) : Int) by omega]
    exact hn
  · refine r_laws_heldIntS_0 _ _ _ _ (brB_no (by simp [markG_len]) (a_laws_heldIntS_2 _ _ _ _ _ ⟨rfl, by first | rfl | trivial⟩))
def wMap (m : Mp) : Nat := 2 + tot wInt m.l
def mkMap (m : Mp) (k : Int) : Mp := ⟨mText k, eqI (remI (k + 1) 3) 0, markG mkInt wInt m.l (k + 1 + 1)⟩
theorem markMapS (l : List Mp) (k : Int) (h0 : 0 ≤ k) (hk : k + tot wMap l ≤ 2305843009213693952) (hl : l.length ≤ 1099511627776) (hs : ∀ s ∈ l, s.l.length ≤ 1099511627776) : RunF C laws_markMapS [vMaps l, vI k] (vI (k + tot wMap l)) [vMaps (markG mkMap wMap l k)] := by
  refine (f_laws_markMapS _ _ _ ?_).run
  have key : ∀ (r d : List Mp) (k : Int), 0 ≤ k → k + tot wMap r ≤ 2305843009213693952 → d.length + r.length ≤ 1099511627776 → (∀ s ∈ r, s.l.length ≤ 1099511627776) → ∀ (R : TV) (F : List TV), vI (k + tot wMap r) = R → [vMaps (d ++ markG mkMap wMap r k)] = F → LoopG C laws_markMapS pRLRB 4 0 (s_laws_markMapS_0 k (d.length : Int) ((d ++ r).map mapC)) (fun u st => AftF C laws_markMapS pRLRB u st fun r fs => r = R ∧ fs = F) := by
    intro r
    induction r with
    | nil =>
      intro d k h0 hk hl hs R F hR hF
      subst hR hF
      exact r_laws_markMapS_0 _ _ _ _ (brB_no (by simp) (a_laws_markMapS_1 _ _ _ _ _ ⟨by simp [tot], by simp [markG]⟩))
    | cons a r ih =>
      intro d k h0 hk hl hs R F hR hF
      simp only [tot, List.length_cons] at hk hl
      have hca := hs a (.head _)
      have hu : wMap a = 2 + tot wInt a.l := rfl
      refine r_laws_markMapS_0 _ _ _ _ (brB_yes (by simp; omega) ?_)
      simp (disch := omega) only [addW_eq]
      simp only [ex_map, sr_map_name, sr_map_fx, c_markText k (by omega), getZ_mod, ex_some_map, getZ_mid, Option.some.injEq, exists_eq_left', exists_eq_left, mod_mod, eqI30, brB_f, brB_not]
      refine ⟨_, _, markIntS a.l (k + 1 + 1) (by omega) (by omega) hca, ?_⟩
      simp only [sr_map_l, mod_mod]
      rw [mod_mid]
      have := ih (d ++ [mkMap a k]) (k + wMap a) (by omega) (by omega) (by simp; omega) (fun s h => hs s (.tail _ h)) R F (by rw [← hR]; simp only [tot]; rw [show k + (wMap a : Int) + (tot wMap r : Int) = k + ((wMap a + tot wMap r : Nat) : Int) by omega]) (by rw [← hF]; simp [markG])
      rw [show k + 1 + 1 + (tot wInt a.l : Int) = k + (wMap a : Int) by omega]
      simpa [mkMap] using this
  exact key l [] k h0 hk (by simpa using hl) hs _ _ rfl (by simp)
theorem heldMapS (l : List Mp) (k : Int) (h0 : 0 ≤ k) (hk : k + tot wMap l ≤ 2305843009213693952) (hl : l.length ≤ 1099511627776) (hs : ∀ s ∈ l, s.l.length ≤ 1099511627776) : RunF C laws_heldMapS [vMaps (markG mkMap wMap l k), vI k] (vI (k + tot wMap l)) [] := by
  refine (f_laws_heldMapS _ _ _ ?_).run
  have key : ∀ (r d : List Mp) (k : Int), 0 ≤ k → k + tot wMap r ≤ 2305843009213693952 → d.length + r.length ≤ 1099511627776 → (∀ s ∈ r, s.l.length ≤ 1099511627776) → ∀ (R : TV), vI (k + tot wMap r) = R → LoopG C laws_heldMapS pRLRB 4 0 (s_laws_heldMapS_0 ((d ++ markG mkMap wMap r k).map mapC) k (d.length : Int)) (fun u st => AftF C laws_heldMapS pRLRB u st fun r fs => r = R ∧ fs = []) := by
    intro r
    induction r with
    | nil =>
      intro d k h0 hk hl hs R hR
      subst hR
      exact r_laws_heldMapS_0 _ _ _ _ (brB_no (by simp [markG]) (a_laws_heldMapS_2 _ _ _ _ _ ⟨by simp [tot], rfl⟩))
    | cons a r ih =>
      intro d k h0 hk hl hs R hR
      simp only [tot, List.length_cons] at hk hl
      have hca := hs a (.head _)
      have hu : wMap a = 2 + tot wInt a.l := rfl
      simp only [markG]
      refine r_laws_heldMapS_0 _ _ _ _ (brB_yes (by simp; omega) ?_)
      simp (disch := omega) only [addW_eq]
      simp only [ex_map, getZ_mid, Option.some.injEq, exists_eq_left', c_markText k (by omega), exists_eq_left, eqI30, brB_f]
      refine brB_no (by simp [mkMap, eqS_eq]) (brB_no (by simp [mkMap, eqB_eq]) ⟨_, heldIntS a.l (k + 1 + 1) (by omega) (by omega) hca, brB_no (by simp; omega) ?_⟩)
      have := ih (d ++ [mkMap a k]) (k + wMap a) (by omega) (by omega) (by simp; omega) (fun s h => hs s (.tail _ h)) R (by rw [← hR]; simp only [tot]; rw [show k + (wMap a : Int) + (tot wMap r : Int) = k + ((wMap a + tot wMap r : Nat) : Int) by omega])
      rw [show k + 1 + 1 + (tot wInt a.l : Int) = k + (wMap a : Int) by omega]
      simpa using this
  exact key l [] k h0 hk (by simpa using hl) hs _ rfl
theorem len_of {n z : Nat} (h : n * z ≤ reachBytes) (hz : 1 ≤ z) : n ≤ 140737488355328 := by
  have : reachBytes ≤ 140737488355328 := by decide
  have h2 : n * 1 ≤ n * z := Nat.mul_le_mul_left n hz
  omega
theorem int_in {r : List TC} (h : WfT C.tt t_int r) : ∃ n : Int, r = intC n ∧ True := by
  obtain ⟨n, rfl, _⟩ := h.int_inv (k := .i64) (by kernel_rfl)
  exact ⟨n, rfl, trivial⟩
theorem map_in {r : List TC} (h : WfT C.tt t_laws_Map r) : ∃ x : Mp, r = mapC x ∧ x.name.size ≤ 140737488355328 ∧ x.l.length ≤ 140737488355328 := by
  obtain ⟨q0, r0, rfl, h0, k0⟩ := (h.struct_inv (fs := [(0, 9), (1, 4), (2, 43)]) (by kernel_rfl)).cons_inv
  obtain ⟨q1, r1, rfl, h1, k1⟩ := k0.cons_inv
  obtain ⟨q2, r2, rfl, h2, k2⟩ := k1.cons_inv
  have e := k2.nil_inv
  subst e
  obtain ⟨v0, rfl, z0⟩ := h0.str_inv (by kernel_rfl)
  obtain ⟨v1, rfl⟩ := h1.bool_inv (by kernel_rfl)
  obtain ⟨w2, rfl, y2, z2⟩ := h2.slice_inv (e := t_int) (by kernel_rfl)
  obtain ⟨v2, rfl, _⟩ := rows_typed fun r hr => int_in (y2 r hr)
  rw [List.length_map] at z2
  exact ⟨⟨v0, v1, v2⟩, rfl, ⟨Nat.le_trans z0 (by decide), len_of z2 (by decide +kernel)⟩⟩
theorem op_in {r : List TC} (h : WfT C.tt t_laws_Op r) : ∃ x : Opn, r = opC x ∧ x.name.size ≤ 140737488355328 ∧ x.to.size ≤ 140737488355328 := by
  obtain ⟨q0, r0, rfl, h0, k0⟩ := (h.struct_inv (fs := [(0, 3), (1, 9), (2, 9), (3, 3), (4, 3)]) (by kernel_rfl)).cons_inv
  obtain ⟨q1, r1, rfl, h1, k1⟩ := k0.cons_inv
  obtain ⟨q2, r2, rfl, h2, k2⟩ := k1.cons_inv
  obtain ⟨q3, r3, rfl, h3, k3⟩ := k2.cons_inv
  obtain ⟨q4, r4, rfl, h4, k4⟩ := k3.cons_inv
  have e := k4.nil_inv
  subst e
  obtain ⟨v0, rfl, u0⟩ := h0.int_inv (k := .i64) (by kernel_rfl)
  obtain ⟨v1, rfl, z1⟩ := h1.str_inv (by kernel_rfl)
  obtain ⟨v2, rfl, z2⟩ := h2.str_inv (by kernel_rfl)
  obtain ⟨v3, rfl, u3⟩ := h3.int_inv (k := .i64) (by kernel_rfl)
  obtain ⟨v4, rfl, u4⟩ := h4.int_inv (k := .i64) (by kernel_rfl)
  exact ⟨⟨v0, v1, v2, v3, v4⟩, rfl, ⟨Nat.le_trans z1 (by decide), Nat.le_trans z2 (by decide)⟩⟩
theorem maps_rows {r : List TC} (h : WfT C.tt t_S_laws_Map r) : ∃ l : List (Mp), r = [.sub 3 (l.map mapC)] ∧ l.length ≤ 140737488355328 ∧ ∀ x ∈ l, x.name.size ≤ 140737488355328 ∧ x.l.length ≤ 140737488355328 := by
  obtain ⟨w, rfl, y, z⟩ := h.slice_inv (e := t_laws_Map) (by kernel_rfl)
  obtain ⟨l, rfl, hl⟩ := rows_typed fun r hr => map_in (y r hr)
  rw [List.length_map] at z
  exact ⟨l, rfl, len_of z (by decide +kernel), hl⟩
theorem v_maps {v : TV} (h : WfV C.tt t_S_laws_Map v) : ∃ l : List Mp, v = vMaps l ∧ l.length ≤ 140737488355328 ∧ ∀ x ∈ l, x.name.size ≤ 140737488355328 ∧ x.l.length ≤ 140737488355328 := by
  have ht : (C.tt t_S_laws_Map).ti = .slice 45 := by kernel_rfl
  cases h with
  | c _ hw =>
    obtain ⟨l, h1, h2, h3⟩ := maps_rows hw
    cases h1
    exact ⟨l, rfl, h2, h3⟩
  | ag h1 _ => rw [ht] at h1; cases h1
theorem v_op {v : TV} (h : WfV C.tt t_laws_Op v) : ∃ x : Opn, v = .ag (opC x) ∧ (x.name.size ≤ 140737488355328 ∧ x.to.size ≤ 140737488355328) := by
  have ht : (C.tt t_laws_Op).ti = .struct [(0, 3), (1, 9), (2, 9), (3, 3), (4, 3)] := by kernel_rfl
  cases h with
  | c hs hw => exact absurd ht (hs _)
  | ag _ hw =>
    obtain ⟨x, rfl, hx⟩ := op_in hw
    exact ⟨x, rfl, hx⟩
theorem lft_ok {a : Int} {n : Nat} (h : ltI (lft a n) 0 = false) (h0 : 0 ≤ a ∧ a ≤ 1048576) : (n : Int) ≤ a ∧ (0 ≤ lft a n ∧ lft a n ≤ 1048576) ∧ lft a n = a - n := by
  rw [ltI_eq] at h
  have h : ¬ lft a n < 0 := of_decide_eq_false h
  unfold lft at *
  split at h <;> simp_all <;> omega
theorem mapsB_of {l : List Mp} (h : szMaps l ≤ 4194304) : MapsB l := by
  unfold szMaps at h
  refine ⟨by omega, fun m hm => ?_⟩
  have := tot_mem (w := szMap) hm
  have e : szMap m = m.name.size + m.l.length := rfl
  omega
theorem tot_le {α : Type} {w : α → Nat} {c : Nat} : ∀ {l : List α}, (∀ a ∈ l, w a ≤ c) → tot w l ≤ c * l.length
  | [], _ => Nat.zero_le _
  | a :: r, h => by
    have h1 := h a (.head _)
    have h2 := tot_le (l := r) fun b hb => h b (.tail _ hb)
    simp only [tot, List.length_cons, Nat.mul_add]
    omega
theorem law_MapApply (l : List Mp) (w_l : l.length ≤ 140737488355328) (y_l : ∀ x ∈ l, x.name.size ≤ 140737488355328 ∧ x.l.length ≤ 140737488355328) (o : Opn) (w_o : o.name.size ≤ 140737488355328 ∧ o.to.size ≤ 140737488355328) : RunF C laws_FnExactMapApply [vMaps l, .ag (opC o)] (vB true) [] := by
  refine (f_laws_FnExactMapApply _ _ _ _ _ _ _ ?_).run
  obtain ⟨w1_o, w2_o⟩ := w_o
  refine ⟨_, szMapS _ _ (by first | omega | assumption) (by omega) (by assumption), ?_⟩
  refine brB_both (fun _ => ⟨rfl, by first | rfl | trivial⟩) fun hz0 => ?_
  obtain ⟨hz0a, hz0b, hz0c⟩ := lft_ok hz0 (by first | omega | assumption)
  refine ⟨_, szOp_run _ _ _ _ _ _ (by first | omega | assumption) (by omega) (by omega), ?_⟩
  refine brB_both (fun _ => ⟨rfl, by first | rfl | trivial⟩) fun hz1 => ?_
  obtain ⟨hz1a, hz1b, hz1c⟩ := lft_ok hz1 (by first | omega | assumption)
  have hM := mapsB_of (l := l) (show l.length + tot szMap l ≤ 4194304 by omega)
  have hM1 := hM.1
  have hM2 := hM.2
  have hs0 : ∀ x ∈ l, x.l.length ≤ 1048576 := fun x hx => by have := tot_mem (w := szMap) hx; have e : szMap x = x.name.size + x.l.length := rfl; omega
  have hs1 : ∀ x ∈ l, x.l.length ≤ 1073741824 := fun x hx => by have := hs0 x hx; omega
  have hr : (mapApply l o).1.length ≤ l.length + 1 := (mapApply_in l o).1
  have hr2 : ∀ x ∈ (mapApply l o).1, x.l.length ≤ 1048576 := (mapApply_in l o).2 1048576 (by omega) hs0
  have hr3 : ∀ x ∈ (mapApply l o).1, x.l.length ≤ 1099511627776 := fun x hx => by have := hr2 x hx; omega
  have hw2 : tot wMap (mapApply l o).1 ≤ 1048578 * (mapApply l o).1.length := tot_le fun m h => by have := hr2 m h; have e : wMap m = 2 + tot wInt m.l := rfl; have e2 : tot wInt m.l = 1 * m.l.length := tot_const 1 m.l; omega
  have hw3 : tot wMap l ≤ 1048578 * l.length := tot_le fun m h => by have := hs0 m h; have e : wMap m = 2 + tot wInt m.l := rfl; have e2 : tot wInt m.l = 1 * m.l.length := tot_const 1 m.l; omega
  refine ⟨_, toMapS _ (by omega) (by assumption), ?_⟩
  refine ⟨_, _, _, _, _, toOp _ _ _ _ _, ?_⟩
  refine ⟨_, _, run_spec_MapApply l o (by omega) hs1 (by omega) (by omega), ?_⟩
  refine ⟨_, toMapS _ (by omega) (by assumption), ?_⟩
  refine ⟨_, _, _, _, _, toOp _ _ _ _ _, ?_⟩
  refine ⟨_, _, run_impl_MapApply l o (by omega) hs1 (by omega) (by omega), ?_⟩
  refine ⟨_, eqMapS _ (by omega) (by assumption), ?_⟩
  refine brB_no (by first | rfl | (simp; done) | (simp; omega)) ?_
  refine brB_no (by first | rfl | (simp; done) | (simp; omega)) ?_
  refine ⟨_, toMapS _ (by omega) (by assumption), ?_⟩
  refine ⟨_, eqMapS _ (by omega) (by assumption), ?_⟩
  refine brB_no (by first | rfl | (simp; done) | (simp; omega)) ?_
  refine ⟨_, _, markMapS _ 1 (by omega) (by omega) (by omega) (by assumption), ?_⟩
  refine brB_no (by first | rfl | (simp; done) | (simp; omega)) ?_
  refine ⟨_, eqMapS _ (by omega) (by assumption), ?_⟩
  refine brB_no (by first | rfl | (simp; done) | (simp; omega)) ?_
  refine brB_no (by first | rfl | (simp; done) | (simp; omega)) ?_
  refine ⟨_, _, markMapS _ 1 (by omega) (by omega) (by omega) (by assumption), ?_⟩
  refine ⟨_, heldMapS _ 1 (by omega) (by omega) (by omega) (by assumption), ?_⟩
  refine brB_no (by first | rfl | (simp; done) | (simp; omega)) ?_
  refine brB_no (by first | rfl | (simp; done) | (simp; omega)) ?_
  refine ⟨_, toMapS _ (by omega) (by assumption), ?_⟩
  refine ⟨_, _, _, _, _, toOp _ _ _ _ _, ?_⟩
  refine ⟨_, _, run_impl_MapApply l o (by omega) hs1 (by omega) (by omega), ?_⟩
  refine ⟨_, eqMapS _ (by omega) (by assumption), ?_⟩
  refine brB_no (by first | rfl | (simp; done) | (simp; omega)) ?_
  refine brB_no (by first | rfl | (simp; done) | (simp; omega)) ?_
  refine ⟨_, heldMapS _ 1 (by omega) (by omega) (by omega) (by assumption), ?_⟩
  refine brB_no (by first | rfl | (simp; done) | (simp; omega)) ?_
  refine brB_no (by first | rfl | (simp; done) | (simp; omega)) ?_
  exact ⟨rfl, by first | rfl | trivial⟩
theorem all_MapApply (vs : List TV) (h : WfVs C.tt [t_S_laws_Map, t_laws_Op] vs) : ∃ k, callP C k laws_FnExactMapApply vs (vB true) [] := by
  cases h with
  | cons h0 h => 
    cases h with
    | cons h1 h => 
      cases h
      obtain ⟨l, rfl, wl, yl⟩ := v_maps h0
      obtain ⟨o, rfl, wo⟩ := v_op h1
      exact law_MapApply l wl yl o wo
end Go.T.R
