/- What the functions answer. -/
import Derived.Test.YtaijlchekndalabTR0
set_option linter.unusedVariables false
set_option linter.unusedSimpArgs false
set_option maxRecDepth 100000
namespace Go.T.R
open Go Go.T
theorem toIntS (l : List (Int)) (hl : l.length ≤ 1099511627776) : RunF C laws_toIntS [vInts l] (vInts l) [] := by
  refine (f_laws_toIntS _ _ ?_).run
  simp only [List.length_map]
  refine brB_yes (by simp; omega) ?_
  simp only [ofNat_cast, numI_eq, Int.toNat_natCast]
  refine cp_loop (e := intC) (z := [iI 0]) l (fun i rows => LoopG C laws_toIntS pRRLRB 4 0 (s_laws_toIntS_0 (l.map intC) i rows) _) (fun a => rfl) ?_ ?_
  · exact r_laws_toIntS_0 _ _ _ _ (brB_no (by simp) (a_laws_toIntS_1 _ _ _ _ _ ⟨rfl, by first | rfl | trivial⟩))
  · intro i rows a hi ha hr hn
    refine r_laws_toIntS_0 _ _ _ _ (brB_yes (by simp; omega) ⟨_, rowAt_map ha, _, hr, _, hr, ?_⟩)
    rw [addW_eq (by omega)]
    exact hn
theorem eqIntS (l : List (Int)) (hl : l.length ≤ 1099511627776) : RunF C laws_eqIntS [vInts l, vInts l] (vB true) [] := by
  refine (f_laws_eqIntS _ _ _ ?_).run
  refine brB_no (by simp) ?_
  refine idx_walk l (fun i => LoopG C laws_eqIntS pRRLRB 4 0 (s_laws_eqIntS_0 (l.map intC) (l.map intC) i) _) ?_ ?_
  · exact r_laws_eqIntS_0 _ _ _ _ (brB_no (by simp) (a_laws_eqIntS_2 _ _ _ _ _ ⟨rfl, by first | rfl | trivial⟩))
  · intro i a hi ha _ _ hn
    refine r_laws_eqIntS_0 _ _ _ _ (brB_yes (by simp; omega) ⟨_, rowAt_map ha, _, rowAt_map ha, brB_no (by simp) ?_⟩)
    rw [addW_eq (by omega)]
    exact hn
def MapsB (l : List Mp) : Prop := l.length ≤ 1099511627776 ∧ ∀ m ∈ l, m.l.length ≤ 1099511627776
theorem toMap (s : ByteArray) (f : Bool) (l : List Int) (h : l.length ≤ 1099511627776) : RunF C laws_toMap [.ag [iS s, iB f, .sub 1 (l.map intC)]] (.ag [iS s, iB f, .sub 1 (l.map intC)]) [] := (f_laws_toMap _ _ _ _ ⟨_, toIntS _ h, rfl, rfl⟩).run
theorem toMapS (l : List (Mp)) (hl : l.length ≤ 1099511627776) (hs : ∀ m ∈ l, m.l.length ≤ 1099511627776) : RunF C laws_toMapS [vMaps l] (vMaps l) [] := by
  refine (f_laws_toMapS _ _ ?_).run
  simp only [List.length_map]
  refine brB_yes (by simp; omega) ?_
  simp only [ofNat_cast, numI_eq, Int.toNat_natCast]
  refine cp_loop (e := mapC) (z := [iS bs0, iB false, TC.sub 1 []]) l (fun i rows => LoopG C laws_toMapS pRRLRB 4 0 (s_laws_toMapS_0 (l.map mapC) i rows) _) (fun a => rfl) ?_ ?_
  · exact r_laws_toMapS_0 _ _ _ _ (brB_no (by simp) (a_laws_toMapS_1 _ _ _ _ _ ⟨rfl, by first | rfl | trivial⟩))
  · intro i rows a hi ha hr hn
    refine r_laws_toMapS_0 _ _ _ _ (brB_yes (by simp; omega) ⟨_, _, _, rowAt_map ha, _, _, _, toMap _ _ _ (hs _ (List.mem_of_getElem? ha)), _, _, _, hr, _, _, _, hr, ?_⟩)
    rw [addW_eq (by omega)]
    exact hn
theorem eqMap (s : ByteArray) (f : Bool) (l : List Int) (h : l.length ≤ 1099511627776) : RunF C laws_eqMap [.ag [iS s, iB f, .sub 1 (l.map intC)], .ag [iS s, iB f, .sub 1 (l.map intC)]] (vB true) [] := by
  refine (f_laws_eqMap _ _ _ _ _ _ _ ?_).run
  refine brB_no (by simp) (brB_no (by simp) ⟨_, eqIntS _ h, by simp⟩)
theorem eqMapS (l : List (Mp)) (hl : l.length ≤ 1099511627776) (hs : ∀ m ∈ l, m.l.length ≤ 1099511627776) : RunF C laws_eqMapS [vMaps l, vMaps l] (vB true) [] := by
  refine (f_laws_eqMapS _ _ _ ?_).run
  refine brB_no (by simp) ?_
  refine idx_walk l (fun i => LoopG C laws_eqMapS pRRLRB 4 0 (s_laws_eqMapS_0 (l.map mapC) (l.map mapC) i) _) ?_ ?_
  · exact r_laws_eqMapS_0 _ _ _ _ (brB_no (by simp) (a_laws_eqMapS_2 _ _ _ _ _ ⟨rfl, by first | rfl | trivial⟩))
  · intro i a hi ha _ _ hn
    refine r_laws_eqMapS_0 _ _ _ _ (brB_yes (by simp; omega) ⟨_, _, _, rowAt_map ha, _, _, _, rowAt_map ha, _, eqMap _ _ _ (hs _ (List.mem_of_getElem? ha)), brB_no (by simp) ?_⟩)
    rw [addW_eq (by omega)]
    exact hn
theorem szIntS (l : List (Int)) (left : Int) (h0 : 0 ≤ left ∧ left ≤ 1048576) (hl : l.length ≤ 140737488355328) : RunF C laws_szIntS [vInts l, vI left] (vI (lft left l.length)) [] := by
  refine (f_laws_szIntS _ _ _ ?_).run
  simp only [List.length_map, ofNat_cast]
  rw [subW_eq (by omega)]
  unfold lft
  simp only [ltI_eq, brB_dec]
  by_cases h : left < (l.length : Int)
  · rw [if_pos (by omega), if_pos h]; exact ⟨rfl, by first | rfl | trivial⟩
  · rw [if_neg (by omega), if_neg h]; exact ⟨rfl, by first | rfl | trivial⟩
theorem szMap_run (s : ByteArray) (f : Bool) (l : List Int) (left : Int) (h0 : 0 ≤ left ∧ left ≤ 1048576) (hs : s.size ≤ 140737488355328) (hl : l.length ≤ 140737488355328) : RunF C laws_szMap [.ag [iS s, iB f, .sub 1 (l.map intC)], vI left] (vI (lft left (s.size + l.length))) [] := by
  refine (f_laws_szMap _ _ _ _ _ ?_).run
  simp only [strLen, ofNat_cast]
  rw [subW_eq (by omega)]
  refine brB_both (fun hb => ?_) fun hb => ⟨_, szIntS l _ (by simp at hb; omega) hl, ?_⟩
  · refine ⟨?_, by first | rfl | trivial⟩
    simp at hb
    unfold lft
    rw [if_pos (by omega)]
  · simp at hb
    refine brB_both (fun hc => ?_) fun hc => ?_
    · refine ⟨?_, by first | rfl | trivial⟩
      simp at hc
      unfold lft at *
      split <;> simp_all <;> omega
    · refine ⟨?_, by first | rfl | trivial⟩
      simp at hc
      unfold lft at *
      split <;> split <;> simp_all <;> omega
theorem szMapS (l : List (Mp)) (left : Int) (h0 : 0 ≤ left ∧ left ≤ 1048576) (hl : l.length ≤ 140737488355328) (hs : ∀ m ∈ l, m.name.size ≤ 140737488355328 ∧ m.l.length ≤ 140737488355328) : RunF C laws_szMapS [vMaps l, vI left] (vI (lft left (l.length + tot szMap l))) [] := by
  refine (f_laws_szMapS _ _ _ ?_).run
  simp only [List.length_map, ofNat_cast]
  rw [subW_eq (by omega)]
  simp only [ltI_eq, brB_dec]
  by_cases h : left < (l.length : Int)
  · rw [if_pos (by omega)]
    refine ⟨?_, by first | rfl | trivial⟩
    unfold lft
    rw [if_pos (by omega)]
  · rw [if_neg (by omega)]
    have key : ∀ cur : Int, 0 ≤ cur ∧ cur ≤ 1048576 → lft cur (tot szMap (l.drop 0)) = lft left (l.length + tot szMap l) → LoopG C laws_szMapS pRRRLRB 4 0 (s_laws_szMapS_0 (l.map mapC) cur ((0 : Nat) : Int)) (fun x st => AftF C laws_szMapS pRRRLRB x st fun r fs => r = vI (lft left (l.length + tot szMap l)) ∧ fs = []) := by
      refine idx_walk l (fun i => ∀ cur : Int, 0 ≤ cur ∧ cur ≤ 1048576 → lft cur (tot szMap (l.drop i)) = lft left (l.length + tot szMap l) → LoopG C laws_szMapS pRRRLRB 4 0 (s_laws_szMapS_0 (l.map mapC) cur i) _) ?_ ?_
      · intro cur hc he
        refine r_laws_szMapS_0 _ _ _ _ (brB_no (by simp) (a_laws_szMapS_2 _ _ _ _ _ ⟨?_, by first | rfl | trivial⟩))
        rw [← he, List.drop_length]
        unfold lft tot
        rw [if_neg (by omega)]
        simp
      · intro i a hi ha hd _ hn cur hc he
        rw [hd] at he
        simp only [tot] at he
        refine r_laws_szMapS_0 _ _ _ _ (brB_yes (by simp; omega) ⟨_, _, _, rowAt_map ha, _, szMap_run _ _ _ cur hc (hs a (List.mem_of_getElem? ha)).1 (hs a (List.mem_of_getElem? ha)).2, ?_⟩)
        by_cases hw : cur < (szMap a : Int)
        · refine brB_yes (by simp [lft, szMap] at hw ⊢; omega) (a_laws_szMapS_1 _ ⟨?_, by first | rfl | trivial⟩)
          rw [← he]
          unfold lft
          rw [if_pos (by omega)]
        · have hl2 : lft cur (szMap a) = cur - szMap a := if_neg hw
          refine brB_no (by simp [lft, szMap] at hw ⊢; omega) ?_
          rw [addW_eq (by omega)]
          have := hn (cur - szMap a) (by omega) (by rw [← he]; unfold lft; split <;> split <;> omega)
          rw [← hl2] at this
          exact this
    refine key (left - l.length) (by omega) ?_
    simp only [List.drop_zero]
    unfold lft
    split <;> split <;> omega
theorem run0_spec_l12SameInts (l m : List (Int)) (hl : l.length ≤ 1073741824) (he : l.length = m.length) : RunF C spec_l12SameInts [vInts l, vInts m] (vB ((allN l.length (eqAt sqInt l m)))) [] := by
  refine (f_spec_l12SameInts _ _ _ ?_).run
  refine brB_no (by simp [he]) ?_
  have key : ((List.range' 0 (l.length - 0)).all (eqAt sqInt l m)) = (allN l.length (eqAt sqInt l m)) → LoopG C spec_l12SameInts pRRLRB 4 0 (s_spec_l12SameInts_0 (l.map intC) (m.map intC) ((0 : Nat) : Int)) (fun u st => AftF C spec_l12SameInts pRRLRB u st fun r fs => r = vB ((allN l.length (eqAt sqInt l m))) ∧ fs = []) := by
    refine nat_walk (l.length) (fun i => ((List.range' i (l.length - i)).all (eqAt sqInt l m)) = (allN l.length (eqAt sqInt l m)) → LoopG C spec_l12SameInts pRRLRB 4 0 (s_spec_l12SameInts_0 (l.map intC) (m.map intC) i) (fun u st => AftF C spec_l12SameInts pRRLRB u st fun r fs => r = vB ((allN l.length (eqAt sqInt l m))) ∧ fs = [])) ?_ ?_
    · intro h0
      refine r_spec_l12SameInts_0 _ _ _ _ (brB_no (by simp) (a_spec_l12SameInts_2 _ _ _ _ _ ?_))
      rw [Nat.sub_self] at h0
      simp only [List.range'_zero, List.all_nil, Bool.true_and] at h0
      rw [← h0]
      exact ⟨rfl, by first | rfl | trivial⟩
    · intro i hi hn h0
      rw [range_step hi, List.all_cons] at h0
      have ha : l[i]? = some l[i] := List.getElem?_eq_getElem hi
      have gO : (eqAt sqInt l m) i = false → (allN l.length (eqAt sqInt l m)) = false := fun e => by rw [← h0, e]; rfl
      have gN : (eqAt sqInt l m) i = true → LoopG C spec_l12SameInts pRRLRB 4 0 (s_spec_l12SameInts_0 (l.map intC) (m.map intC) ((i : Int) + 1)) (fun u st => AftF C spec_l12SameInts pRRLRB u st fun r fs => r = vB ((allN l.length (eqAt sqInt l m))) ∧ fs = []) := fun e => hn (by rw [← h0, e]; rfl)
      refine r_spec_l12SameInts_0 _ _ _ _ (brB_yes (by simp; omega) ?_)
      have hb : m[i]? = some m[i] := List.getElem?_eq_getElem (by omega)
      have e : eqAt sqInt l m i = sqInt l[i] m[i] := eqAt_some ha hb
      simp only [ex_int, getZ_nat, ha, hb, Option.some.injEq, exists_eq_left']
      rw [addW_eq (by omega)]
      cases h1 : sqInt l[i] m[i] with
      | false => exact brB_yes (show (!sqInt l[i] m[i]) = true by rw [h1]; rfl) (a_spec_l12SameInts_1 _ (by rw [gO (by rw [e]; exact h1)]; exact ⟨rfl, by first | rfl | trivial⟩))
      | true => exact brB_no (show (!sqInt l[i] m[i]) = false by rw [h1]; rfl) (gN (by rw [e]; exact h1))
  exact key rfl
theorem run_spec_l12SameInts (l m : List (Int)) (hl : l.length ≤ 1073741824) : RunF C spec_l12SameInts [vInts l, vInts m] (vB (eqL sqInt l m)) [] := by
  by_cases he : l.length = m.length
  · rw [eqL_eq he]; exact run0_spec_l12SameInts l m hl he 
  · rw [eqL_ne he]
    refine (f_spec_l12SameInts _ _ _ (brB_yes (by simp; omega) ?_)).run
    exact ⟨rfl, by first | rfl | trivial⟩
theorem run0_slices_Equal_int (l m : List (Int)) (hl : l.length ≤ 1073741824) (he : l.length = m.length) : RunF C slices_Equal_int [vInts l, vInts m] (vB ((allN l.length (eqAt sqInt l m)))) [] := by
  refine (f_slices_Equal_int _ _ _ ?_).run
  refine brB_no (by simp [he]) ?_
  have key : ((List.range' 0 (l.length - 0)).all (eqAt sqInt l m)) = (allN l.length (eqAt sqInt l m)) → LoopG C slices_Equal_int pRRLRB 4 0 (s_slices_Equal_int_0 (l.map intC) (m.map intC) ((0 : Nat) : Int)) (fun u st => AftF C slices_Equal_int pRRLRB u st fun r fs => r = vB ((allN l.length (eqAt sqInt l m))) ∧ fs = []) := by
    refine nat_walk (l.length) (fun i => ((List.range' i (l.length - i)).all (eqAt sqInt l m)) = (allN l.length (eqAt sqInt l m)) → LoopG C slices_Equal_int pRRLRB 4 0 (s_slices_Equal_int_0 (l.map intC) (m.map intC) i) (fun u st => AftF C slices_Equal_int pRRLRB u st fun r fs => r = vB ((allN l.length (eqAt sqInt l m))) ∧ fs = [])) ?_ ?_
    · intro h0
      refine r_slices_Equal_int_0 _ _ _ _ (brB_no (by simp) (a_slices_Equal_int_2 _ _ _ _ _ _ ?_))
      rw [Nat.sub_self] at h0
      simp only [List.range'_zero, List.all_nil, Bool.true_and] at h0
      rw [← h0]
      exact ⟨rfl, by first | rfl | trivial⟩
    · intro i hi hn h0
      rw [range_step hi, List.all_cons] at h0
      have ha : l[i]? = some l[i] := List.getElem?_eq_getElem hi
      have gO : (eqAt sqInt l m) i = false → (allN l.length (eqAt sqInt l m)) = false := fun e => by rw [← h0, e]; rfl
      have gN : (eqAt sqInt l m) i = true → LoopG C slices_Equal_int pRRLRB 4 0 (s_slices_Equal_int_0 (l.map intC) (m.map intC) ((i : Int) + 1)) (fun u st => AftF C slices_Equal_int pRRLRB u st fun r fs => r = vB ((allN l.length (eqAt sqInt l m))) ∧ fs = []) := fun e => hn (by rw [← h0, e]; rfl)
      refine r_slices_Equal_int_0 _ _ _ _ (brB_yes (by simp; omega) ?_)
      have hb : m[i]? = some m[i] := List.getElem?_eq_getElem (by omega)
      have e : eqAt sqInt l m i = sqInt l[i] m[i] := eqAt_some ha hb
      simp only [ex_int, getZ_nat, ha, hb, Option.some.injEq, exists_eq_left']
      rw [addW_eq (by omega)]
      cases h1 : sqInt l[i] m[i] with
      | false => exact brB_yes (show (!sqInt l[i] m[i]) = true by rw [h1]; rfl) (a_slices_Equal_int_1 _ (by rw [gO (by rw [e]; exact h1)]; exact ⟨rfl, by first | rfl | trivial⟩))
      | true => exact brB_no (show (!sqInt l[i] m[i]) = false by rw [h1]; rfl) (gN (by rw [e]; exact h1))
  exact key rfl
theorem run_slices_Equal_int (l m : List (Int)) (hl : l.length ≤ 1073741824) : RunF C slices_Equal_int [vInts l, vInts m] (vB (eqL sqInt l m)) [] := by
  by_cases he : l.length = m.length
  · rw [eqL_eq he]; exact run0_slices_Equal_int l m hl he 
  · rw [eqL_ne he]
    refine (f_slices_Equal_int _ _ _ (brB_yes (by simp; omega) ?_)).run
    exact ⟨rfl, by first | rfl | trivial⟩
theorem run_impl_sameMap (x y : Mp) (hx : x.l.length ≤ 1073741824) : RunF C impl_sameMap [.ag (mapC x), .ag (mapC y)] (vB (sqMap x y)) [] := by
  refine (f_impl_sameMap _ _ _ _ _ _ _ ?_).run
  unfold sqMap
  cases h1 : eqS x.name y.name with
  | false => exact brB_no rfl ⟨rfl, by first | rfl | trivial⟩
  | true =>
    refine brB_yes rfl ?_
    cases h2 : eqB x.fx y.fx with
    | false => exact brB_no rfl ⟨rfl, by first | rfl | trivial⟩
    | true => exact brB_yes rfl ⟨_, run_slices_Equal_int x.l y.l hx, ⟨rfl, by first | rfl | trivial⟩⟩
theorem run0_slices_EqualFunc_Map_impl_sameMap (l m : List (Mp)) (hl : l.length ≤ 1073741824) (he : l.length = m.length) (hs : ∀ x ∈ l, x.l.length ≤ 1073741824) : RunF C slices_EqualFunc_Map [vMaps l, vMaps m, .fn 24 []] (vB ((allN l.length (eqAt sqMap l m)))) [] := by
  refine (f_slices_EqualFunc_Map_impl_sameMap _ _ _ ?_).run
  refine brB_no (by simp [he]) ?_
  have key : ((List.range' 0 (l.length - 0)).all (eqAt sqMap l m)) = (allN l.length (eqAt sqMap l m)) → LoopG C slices_EqualFunc_Map pRRLRB 4 0 (s_slices_EqualFunc_Map_impl_sameMap_0 (m.map mapC) (l.map mapC) ((0 : Nat) : Int)) (fun u st => AftF C slices_EqualFunc_Map pRRLRB u st fun r fs => r = vB ((allN l.length (eqAt sqMap l m))) ∧ fs = []) := by
    refine nat_walk (l.length) (fun i => ((List.range' i (l.length - i)).all (eqAt sqMap l m)) = (allN l.length (eqAt sqMap l m)) → LoopG C slices_EqualFunc_Map pRRLRB 4 0 (s_slices_EqualFunc_Map_impl_sameMap_0 (m.map mapC) (l.map mapC) i) (fun u st => AftF C slices_EqualFunc_Map pRRLRB u st fun r fs => r = vB ((allN l.length (eqAt sqMap l m))) ∧ fs = [])) ?_ ?_
    · intro h0
      refine r_slices_EqualFunc_Map_impl_sameMap_0 _ _ _ _ (brB_no (by simp) (a_slices_EqualFunc_Map_impl_sameMap_2 _ _ _ _ _ _ ?_))
      rw [Nat.sub_self] at h0
      simp only [List.range'_zero, List.all_nil, Bool.true_and] at h0
      rw [← h0]
      exact ⟨rfl, by first | rfl | trivial⟩
    · intro i hi hn h0
      rw [range_step hi, List.all_cons] at h0
      have ha : l[i]? = some l[i] := List.getElem?_eq_getElem hi
      have gO : (eqAt sqMap l m) i = false → (allN l.length (eqAt sqMap l m)) = false := fun e => by rw [← h0, e]; rfl
      have gN : (eqAt sqMap l m) i = true → LoopG C slices_EqualFunc_Map pRRLRB 4 0 (s_slices_EqualFunc_Map_impl_sameMap_0 (m.map mapC) (l.map mapC) ((i : Int) + 1)) (fun u st => AftF C slices_EqualFunc_Map pRRLRB u st fun r fs => r = vB ((allN l.length (eqAt sqMap l m))) ∧ fs = []) := fun e => hn (by rw [← h0, e]; rfl)
      refine r_slices_EqualFunc_Map_impl_sameMap_0 _ _ _ _ (brB_yes (by simp; omega) ?_)
      have hb : m[i]? = some m[i] := List.getElem?_eq_getElem (by omega)
      have e : eqAt sqMap l m i = sqMap l[i] m[i] := eqAt_some ha hb
      have hcall : ∀ q, RunF C impl_sameMap [.ag [iS l[i].name, iB l[i].fx, .sub 1 (l[i].l.map intC)], .ag [iS m[i].name, iB m[i].fx, .sub 1 (m[i].l.map intC)]] (vB q) [] ↔ q = sqMap l[i] m[i] := fun q => iffB (run_impl_sameMap _ _ (hs _ (List.getElem_mem hi)))
      simp only [ex_map, getZ_nat, ha, hb, Option.some.injEq, exists_eq_left', hcall, exists_eq_left]
      rw [addW_eq (by omega)]
      cases h1 : sqMap l[i] m[i] with
      | false => exact brB_yes rfl (a_slices_EqualFunc_Map_impl_sameMap_1 _ _ _ _ _ _ _ (by rw [gO (by rw [e]; exact h1)]; exact ⟨rfl, by first | rfl | trivial⟩))
      | true => exact brB_no rfl (gN (by rw [e]; exact h1))
  exact key rfl
theorem run_slices_EqualFunc_Map_impl_sameMap (l m : List (Mp)) (hl : l.length ≤ 1073741824) (hs : ∀ x ∈ l, x.l.length ≤ 1073741824) : RunF C slices_EqualFunc_Map [vMaps l, vMaps m, .fn 24 []] (vB (eqL sqMap l m)) [] := by
  by_cases he : l.length = m.length
  · rw [eqL_eq he]; exact run0_slices_EqualFunc_Map_impl_sameMap l m hl he hs
  · rw [eqL_ne he]
    refine (f_slices_EqualFunc_Map_impl_sameMap _ _ _ (brB_yes (by simp; omega) ?_)).run
    exact ⟨rfl, by first | rfl | trivial⟩
theorem run_impl_SameMaps (l m : List Mp) (hl : l.length ≤ 1073741824) (hs : ∀ x ∈ l, x.l.length ≤ 1073741824) : RunF C impl_SameMaps [vMaps l, vMaps m] (vB (eqL sqMap l m)) [] := by
  refine (f_impl_SameMaps _ _ _ ?_).run
  exact ⟨_, run_slices_EqualFunc_Map_impl_sameMap l m hl hs, ⟨rfl, by first | rfl | trivial⟩⟩
theorem run0_spec_SameMaps (l m : List Mp) (hl : l.length ≤ 1073741824) (he : l.length = m.length) (hs : ∀ x ∈ l, x.l.length ≤ 1073741824) : RunF C spec_SameMaps [vMaps l, vMaps m] (vB ((allN l.length (eqAt sqMap l m)))) [] := by
  refine (f_spec_SameMaps _ _ _ ?_).run
  refine brB_no (by simp [he]) ?_
  have key : ((List.range' 0 (l.length - 0)).all (eqAt sqMap l m)) = (allN l.length (eqAt sqMap l m)) → LoopG C spec_SameMaps pRRLRB 4 0 (s_spec_SameMaps_0 (l.map mapC) (m.map mapC) ((0 : Nat) : Int)) (fun u st => AftF C spec_SameMaps pRRLRB u st fun r fs => r = vB ((allN l.length (eqAt sqMap l m))) ∧ fs = []) := by
    refine nat_walk (l.length) (fun i => ((List.range' i (l.length - i)).all (eqAt sqMap l m)) = (allN l.length (eqAt sqMap l m)) → LoopG C spec_SameMaps pRRLRB 4 0 (s_spec_SameMaps_0 (l.map mapC) (m.map mapC) i) (fun u st => AftF C spec_SameMaps pRRLRB u st fun r fs => r = vB ((allN l.length (eqAt sqMap l m))) ∧ fs = [])) ?_ ?_
    · intro h0
      refine r_spec_SameMaps_0 _ _ _ _ (brB_no (by simp) (a_spec_SameMaps_2 _ _ _ _ _ ?_))
      rw [Nat.sub_self] at h0
      simp only [List.range'_zero, List.all_nil, Bool.true_and] at h0
      rw [← h0]
      exact ⟨rfl, by first | rfl | trivial⟩
    · intro i hi hn h0
      rw [range_step hi, List.all_cons] at h0
      have ha : l[i]? = some l[i] := List.getElem?_eq_getElem hi
      have gO : (eqAt sqMap l m) i = false → (allN l.length (eqAt sqMap l m)) = false := fun e => by rw [← h0, e]; rfl
      have gN : (eqAt sqMap l m) i = true → LoopG C spec_SameMaps pRRLRB 4 0 (s_spec_SameMaps_0 (l.map mapC) (m.map mapC) ((i : Int) + 1)) (fun u st => AftF C spec_SameMaps pRRLRB u st fun r fs => r = vB ((allN l.length (eqAt sqMap l m))) ∧ fs = []) := fun e => hn (by rw [← h0, e]; rfl)
      refine r_spec_SameMaps_0 _ _ _ _ (brB_yes (by simp; omega) ?_)
      have hb : m[i]? = some m[i] := List.getElem?_eq_getElem (by omega)
      have e : eqAt sqMap l m i = sqMap l[i] m[i] := eqAt_some ha hb
      have e2 : sqMap l[i] m[i] = (eqS l[i].name m[i].name && (eqB l[i].fx m[i].fx && eqL sqInt l[i].l m[i].l)) := rfl
      rw [e2] at e
      simp only [ex_map, getZ_nat, ha, hb, Option.some.injEq, exists_eq_left']
      rw [addW_eq (by omega)]
      cases h1 : eqS l[i].name m[i].name with
      | false => exact brB_yes rfl (a_spec_SameMaps_1 _ (by rw [gO (by rw [e]; first | (rw [h1, h2, h3]; rfl) | (rw [h1, h2]; rfl) | (rw [h1]; rfl))]; exact ⟨rfl, by first | rfl | trivial⟩))
      | true =>
        refine brB_no rfl ?_
        cases h2 : eqB l[i].fx m[i].fx with
        | false => exact brB_yes rfl (a_spec_SameMaps_1 _ (by rw [gO (by rw [e]; first | (rw [h1, h2, h3]; rfl) | (rw [h1, h2]; rfl) | (rw [h1]; rfl))]; exact ⟨rfl, by first | rfl | trivial⟩))
        | true =>
          refine brB_no rfl ⟨_, run_spec_l12SameInts _ _ (hs _ (List.getElem_mem hi)), ?_⟩
          cases h3 : eqL sqInt l[i].l m[i].l with
          | false => exact brB_yes rfl (a_spec_SameMaps_1 _ (by rw [gO (by rw [e]; first | (rw [h1, h2, h3]; rfl) | (rw [h1, h2]; rfl) | (rw [h1]; rfl))]; exact ⟨rfl, by first | rfl | trivial⟩))
          | true => exact brB_no rfl (gN (by rw [e]; first | (rw [h1, h2, h3]; rfl) | (rw [h1, h2]; rfl) | (rw [h1]; rfl)))
  exact key rfl
theorem run_spec_SameMaps (l m : List Mp) (hl : l.length ≤ 1073741824) (hs : ∀ x ∈ l, x.l.length ≤ 1073741824) : RunF C spec_SameMaps [vMaps l, vMaps m] (vB (eqL sqMap l m)) [] := by
  by_cases he : l.length = m.length
  · rw [eqL_eq he]; exact run0_spec_SameMaps l m hl he hs
  · rw [eqL_ne he]
    refine (f_spec_SameMaps _ _ _ (brB_yes (by simp; omega) ?_)).run
    exact ⟨rfl, by first | rfl | trivial⟩
theorem len_of {n z : Nat} (h : n * z ≤ reachBytes) (hz : 1 ≤ z) : n ≤ 140737488355328 := by
  have : reachBytes ≤ 140737488355328 := by decide
  have h2 : n * 1 ≤ n * z := Nat.mul_le_mul_left n hz
  omega
theorem int_in {r : List TC} (h : WfT C.tt t_int r) : ∃ n : Int, r = intC n ∧ True := by
  obtain ⟨n, rfl, _⟩ := h.int_inv (k := .i64) (by kernel_rfl)
  exact ⟨n, rfl, trivial⟩
theorem map_in {r : List TC} (h : WfT C.tt t_laws_Map r) : ∃ x : Mp, r = mapC x ∧ x.name.size ≤ 140737488355328 ∧ x.l.length ≤ 140737488355328 := by
  obtain ⟨q0, r0, rfl, h0, k0⟩ := (h.struct_inv (fs := [(0, 9), (1, 4), (2, 42)]) (by kernel_rfl)).cons_inv
  obtain ⟨q1, r1, rfl, h1, k1⟩ := k0.cons_inv
  obtain ⟨q2, r2, rfl, h2, k2⟩ := k1.cons_inv
  have e := k2.nil_inv
  subst e
  obtain ⟨v0, rfl, z0⟩ := h0.str_inv (by kernel_rfl)
  obtain ⟨v1, rfl⟩ := h1.bool_inv (by kernel_rfl)
  obtain ⟨w2, rfl, y2, z2⟩ := h2.slice_inv (e := t_int) (by kernel_rfl)
  obtain ⟨v2, rfl, _⟩ := rows_typed fun r hr => int_in (y2 r hr)
  rw [List.length_map] at z2
  exact ⟨⟨v0, v1, v2⟩, rfl, ⟨Nat.le_trans z0 (by decide), len_of z2 (by decide +kernel)⟩⟩
theorem maps_rows {r : List TC} (h : WfT C.tt t_S_laws_Map r) : ∃ l : List (Mp), r = [.sub 3 (l.map mapC)] ∧ l.length ≤ 140737488355328 ∧ ∀ x ∈ l, x.name.size ≤ 140737488355328 ∧ x.l.length ≤ 140737488355328 := by
  obtain ⟨w, rfl, y, z⟩ := h.slice_inv (e := t_laws_Map) (by kernel_rfl)
  obtain ⟨l, rfl, hl⟩ := rows_typed fun r hr => map_in (y r hr)
  rw [List.length_map] at z
  exact ⟨l, rfl, len_of z (by decide +kernel), hl⟩
theorem v_maps {v : TV} (h : WfV C.tt t_S_laws_Map v) : ∃ l : List Mp, v = vMaps l ∧ l.length ≤ 140737488355328 ∧ ∀ x ∈ l, x.name.size ≤ 140737488355328 ∧ x.l.length ≤ 140737488355328 := by
  have ht : (C.tt t_S_laws_Map).ti = .slice 44 := by kernel_rfl
  cases h with
  | c _ hw =>
    obtain ⟨l, h1, h2, h3⟩ := maps_rows hw
    cases h1
    exact ⟨l, rfl, h2, h3⟩
  | ag h1 _ => rw [ht] at h1; cases h1
theorem lft_ok {a : Int} {n : Nat} (h : ltI (lft a n) 0 = false) (h0 : 0 ≤ a ∧ a ≤ 1048576) : (n : Int) ≤ a ∧ (0 ≤ lft a n ∧ lft a n ≤ 1048576) ∧ lft a n = a - n := by
  rw [ltI_eq] at h
  have h : ¬ lft a n < 0 := of_decide_eq_false h
  unfold lft at *
  split at h <;> simp_all <;> omega
theorem mapsB_of {l : List Mp} (h : szMaps l ≤ 1048576) : MapsB l := by
  unfold szMaps at h
  refine ⟨by omega, fun m hm => ?_⟩
  have := tot_mem (w := szMap) hm
  have e : szMap m = m.name.size + m.l.length := rfl
  omega
theorem law_SameMaps (l : List Mp) (w_l : l.length ≤ 140737488355328) (y_l : ∀ x ∈ l, x.name.size ≤ 140737488355328 ∧ x.l.length ≤ 140737488355328) (m : List Mp) (w_m : m.length ≤ 140737488355328) (y_m : ∀ x ∈ m, x.name.size ≤ 140737488355328 ∧ x.l.length ≤ 140737488355328) : RunF C laws_FnExactSameMaps [vMaps l, vMaps m] (vB true) [] := by
  refine (f_laws_FnExactSameMaps _ _ _ ?_).run
  refine ⟨_, szMapS _ _ (by first | omega | assumption) (by omega) (by assumption), ?_⟩
  refine brB_both (fun _ => ⟨rfl, by first | rfl | trivial⟩) fun hz0 => ?_
  obtain ⟨hz0a, hz0b, hz0c⟩ := lft_ok hz0 (by first | omega | assumption)
  refine ⟨_, szMapS _ _ (by first | omega | assumption) (by omega) (by assumption), ?_⟩
  refine brB_both (fun _ => ⟨rfl, by first | rfl | trivial⟩) fun hz1 => ?_
  obtain ⟨hz1a, hz1b, hz1c⟩ := lft_ok hz1 (by first | omega | assumption)
  have hM := mapsB_of (l := l) (show l.length + tot szMap l ≤ 1048576 by omega)
  have hM1 := hM.1
  have hM2 := hM.2
  have hN := mapsB_of (l := m) (show m.length + tot szMap m ≤ 1048576 by omega)
  have hN1 := hN.1
  have hN2 := hN.2
  have hs0 : ∀ x ∈ l, x.l.length ≤ 1048576 := fun x hx => by have := tot_mem (w := szMap) hx; have e : szMap x = x.name.size + x.l.length := rfl; omega
  have hs1 : ∀ x ∈ l, x.l.length ≤ 1073741824 := fun x hx => by have := hs0 x hx; omega
  refine ⟨_, toMapS _ (by omega) (by assumption), ?_⟩
  refine ⟨_, toMapS _ (by omega) (by assumption), ?_⟩
  refine ⟨_, run_spec_SameMaps l m (by omega) hs1, ?_⟩
  refine ⟨_, toMapS _ (by omega) (by assumption), ?_⟩
  refine ⟨_, toMapS _ (by omega) (by assumption), ?_⟩
  refine ⟨_, run_impl_SameMaps l m (by omega) hs1, ?_⟩
  refine brB_no (by first | rfl | (simp; done) | (simp; omega)) ?_
  refine ⟨_, toMapS _ (by omega) (by assumption), ?_⟩
  refine ⟨_, eqMapS _ (by omega) (by assumption), ?_⟩
  refine brB_no (by first | rfl | (simp; done) | (simp; omega)) ?_
  refine ⟨_, toMapS _ (by omega) (by assumption), ?_⟩
  refine ⟨_, eqMapS _ (by omega) (by assumption), ?_⟩
  refine brB_no (by first | rfl | (simp; done) | (simp; omega)) ?_
  exact ⟨rfl, by first | rfl | trivial⟩
theorem all_SameMaps (vs : List TV) (h : WfVs C.tt [t_S_laws_Map, t_S_laws_Map] vs) : ∃ k, callP C k laws_FnExactSameMaps vs (vB true) [] := by
  cases h with
  | cons h0 h => 
    cases h with
    | cons h1 h => 
      cases h
      obtain ⟨l, rfl, wl, yl⟩ := v_maps h0
      obtain ⟨m, rfl, wm, ym⟩ := v_maps h1
      exact law_SameMaps l wl yl m wm ym
end Go.T.R
