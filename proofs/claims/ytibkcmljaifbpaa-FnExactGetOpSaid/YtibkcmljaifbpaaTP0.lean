/- What the functions answer. -/
import Derived.Test.YtibkcmljaifbpaaTR0
set_option linter.unusedVariables false
set_option linter.unusedSimpArgs false
set_option maxRecDepth 100000
namespace Go.T.R
open Go Go.T
theorem eqOp (v0 : Int) (v1 : ByteArray) (v2 : ByteArray) (v3 : Int) (v4 : Int) : RunF C laws_eqOp [.ag [iI v0, iS v1, iS v2, iI v3, iI v4], .ag [iI v0, iS v1, iS v2, iI v3, iI v4]] (vB true) [] := by
  refine (f_laws_eqOp _ _ _ _ _ _ _ _ _ _ _ ?_).run
  simp
theorem toByteS (l : List (Int)) (hl : l.length ≤ 1099511627776) : RunF C laws_toByteS [vBytes l] (vBytes l) [] := by
  refine (f_laws_toByteS _ _ ?_).run
  simp only [List.length_map]
  refine brB_yes (by simp; omega) ?_
  simp only [ofNat_cast, numI_eq, Int.toNat_natCast]
  refine cp_loop (e := byteC) (z := [.sc (.int .u8 0)]) l (fun i rows => LoopG C laws_toByteS pRRLRB 4 0 (s_laws_toByteS_0 (l.map byteC) i rows) _) (fun a => rfl) ?_ ?_
  · exact r_laws_toByteS_0 _ _ _ _ (brB_no (by simp) (a_laws_toByteS_1 _ _ _ _ _ ⟨rfl, by first | rfl | trivial⟩))
  · intro i rows a hi ha hr hn
    refine r_laws_toByteS_0 _ _ _ _ (brB_yes (by simp; omega) ⟨_, rowAt_map ha, _, hr, _, hr, ?_⟩)
    rw [addW_eq (by omega)]
    exact hn
theorem eqByteS (l : List (Int)) (hl : l.length ≤ 1099511627776) : RunF C laws_eqByteS [vBytes l, vBytes l] (vB true) [] := by
  refine (f_laws_eqByteS _ _ _ ?_).run
  refine brB_no (by simp) ?_
  refine idx_walk l (fun i => LoopG C laws_eqByteS pRRLRB 4 0 (s_laws_eqByteS_0 (l.map byteC) (l.map byteC) i) _) ?_ ?_
  · exact r_laws_eqByteS_0 _ _ _ _ (brB_no (by simp) (a_laws_eqByteS_2 _ _ _ _ _ ⟨rfl, by first | rfl | trivial⟩))
  · intro i a hi ha _ _ hn
    refine r_laws_eqByteS_0 _ _ _ _ (brB_yes (by simp; omega) ⟨_, rowAt_map ha, _, rowAt_map ha, brB_no (by simp) ?_⟩)
    rw [addW_eq (by omega)]
    exact hn
theorem run_within (a b c : Int) : RunF C impl_within [vI a, vI b, vI c] (vB (inB a b c)) [] := by
  refine (f_impl_within _ _ _ _ ?_).run
  simp only [leI_eq, brB_dec, inB]
  split <;> simp_all <;> omega
theorem run_l1In (a b c : Int) : RunF C spec_l1In [vI a, vI b, vI c] (vB (inB a b c)) [] := by
  refine (f_spec_l1In _ _ _ _ ?_).run
  simp only [leI_eq, brB_dec, inB]
  split <;> simp_all <;> omega
@[simp] theorem c_within (a b c : Int) (q : Bool) : RunF C impl_within [vI a, vI b, vI c] (vB q) [] ↔ q = inB a b c := iffB (run_within a b c)
@[simp] theorem c_l1In (a b c : Int) (q : Bool) : RunF C spec_l1In [vI a, vI b, vI c] (vB q) [] ↔ q = inB a b c := iffB (run_l1In a b c)
@[simp] theorem c_spec_l1Word (a : Int) (q : Bool) : RunF C spec_l1Word [vI a] (vB q) [] ↔ q = isWordB a := iffB ((f_spec_l1Word _ _ ⟨_, run_l1In _ _ _, rfl, by first | rfl | trivial⟩).run)
@[simp] theorem c_impl_isWord (a : Int) (q : Bool) : RunF C impl_isWord [vI a] (vB q) [] ↔ q = isWordB a := iffB ((f_impl_isWord _ _ ⟨_, run_within _ _ _, rfl, by first | rfl | trivial⟩).run)
theorem run_spec_NameOk (s : ByteArray) (hl : s.size ≤ 140737488355328) : RunF C spec_NameOk [vS s] (vB ((allN s.size (nameAtOk s) && inB s.size 1 6))) [] := by
  refine (f_spec_NameOk _ _ ?_).run
  have key : ((List.range' 0 (s.size - 0)).all (nameAtOk s) && inB s.size 1 6) = (allN s.size (nameAtOk s) && inB s.size 1 6) → LoopG C spec_NameOk pRLRB 4 0 (s_spec_NameOk_0 s ((0 : Nat) : Int)) (fun u st => AftF C spec_NameOk pRLRB u st fun r fs => r = vB ((allN s.size (nameAtOk s) && inB s.size 1 6)) ∧ fs = []) := by
    refine nat_walk (s.size) (fun i => ((List.range' i (s.size - i)).all (nameAtOk s) && inB s.size 1 6) = (allN s.size (nameAtOk s) && inB s.size 1 6) → LoopG C spec_NameOk pRLRB 4 0 (s_spec_NameOk_0 s i) (fun u st => AftF C spec_NameOk pRLRB u st fun r fs => r = vB ((allN s.size (nameAtOk s) && inB s.size 1 6)) ∧ fs = [])) ?_ ?_
    · intro h0
      refine r_spec_NameOk_0 _ _ _ (brB_no (by simp) (a_spec_NameOk_2 _ _ _ _ ?_))
      rw [Nat.sub_self] at h0
      simp only [List.range'_zero, List.all_nil, Bool.true_and] at h0
      rw [← h0]
      simp only [c_l1In, exists_eq_left, strLen, Int.ofNat_eq_natCast]
      simp
    · intro i hi hn h0
      rw [range_step hi, List.all_cons] at h0
      have gO : (nameAtOk s) i = false → (allN s.size (nameAtOk s) && inB s.size 1 6) = false := fun e => by rw [← h0, e]; rfl
      have gN : (nameAtOk s) i = true → LoopG C spec_NameOk pRLRB 4 0 (s_spec_NameOk_0 s ((i : Int) + 1)) (fun u st => AftF C spec_NameOk pRLRB u st fun r fs => r = vB ((allN s.size (nameAtOk s) && inB s.size 1 6)) ∧ fs = []) := fun e => hn (by rw [← h0, e]; rfl)
      refine r_spec_NameOk_0 _ _ _ (brB_yes (by simp; omega) ?_)
      obtain ⟨n, hb, hn0, hn1⟩ := byteAt_ok hi
      have hw : wrapI .i64 n = n := wrapI_eq (by omega)
      simp only [hb, Option.some.injEq, exists_eq_left', c_l1In, exists_eq_left, hw, brB_not]
      rw [addW_eq (by omega)]
      have e : nameAtOk s i = (inB n 97 122 || inB n 48 57) := by unfold nameAtOk; rw [hb]; rfl
      rw [e] at gO gN
      cases h1 : inB n 97 122 <;> cases h2 : inB n 48 57 <;> simp only [brB_t, brB_f] <;> first | exact gN (by rw [h1, h2]; rfl) | exact a_spec_NameOk_1 _ (by rw [gO (by rw [h1, h2]; rfl)]; exact ⟨rfl, by first | rfl | trivial⟩)
  exact key rfl
theorem c_spec_NameOk (s : ByteArray) (hl : s.size ≤ 140737488355328) (q : Bool) : RunF C spec_NameOk [vS s] (vB q) [] ↔ q = nameOk s := iffB (run_spec_NameOk s hl)
theorem run_impl_NameOk (s : ByteArray) (hl : s.size ≤ 140737488355328) : RunF C impl_NameOk [vS s] (vB ((allN s.size (nameAtOk s) && inB s.size 1 6))) [] := by
  refine (f_impl_NameOk _ _ ?_).run
  have key : ((List.range' 0 (s.size - 0)).all (nameAtOk s) && inB s.size 1 6) = (allN s.size (nameAtOk s) && inB s.size 1 6) → LoopG C impl_NameOk pRLRB 4 0 (s_impl_NameOk_0 s ((0 : Nat) : Int)) (fun u st => AftF C impl_NameOk pRLRB u st fun r fs => r = vB ((allN s.size (nameAtOk s) && inB s.size 1 6)) ∧ fs = []) := by
    refine nat_walk (s.size) (fun i => ((List.range' i (s.size - i)).all (nameAtOk s) && inB s.size 1 6) = (allN s.size (nameAtOk s) && inB s.size 1 6) → LoopG C impl_NameOk pRLRB 4 0 (s_impl_NameOk_0 s i) (fun u st => AftF C impl_NameOk pRLRB u st fun r fs => r = vB ((allN s.size (nameAtOk s) && inB s.size 1 6)) ∧ fs = [])) ?_ ?_
    · intro h0
      refine r_impl_NameOk_0 _ _ _ (brB_no (by simp) (a_impl_NameOk_2 _ _ _ _ ?_))
      rw [Nat.sub_self] at h0
      simp only [List.range'_zero, List.all_nil, Bool.true_and] at h0
      rw [← h0]
      simp only [c_within, exists_eq_left, strLen, Int.ofNat_eq_natCast]
      simp
    · intro i hi hn h0
      rw [range_step hi, List.all_cons] at h0
      have gO : (nameAtOk s) i = false → (allN s.size (nameAtOk s) && inB s.size 1 6) = false := fun e => by rw [← h0, e]; rfl
      have gN : (nameAtOk s) i = true → LoopG C impl_NameOk pRLRB 4 0 (s_impl_NameOk_0 s ((i : Int) + 1)) (fun u st => AftF C impl_NameOk pRLRB u st fun r fs => r = vB ((allN s.size (nameAtOk s) && inB s.size 1 6)) ∧ fs = []) := fun e => hn (by rw [← h0, e]; rfl)
      refine r_impl_NameOk_0 _ _ _ (brB_yes (by simp; omega) ?_)
      obtain ⟨n, hb, hn0, hn1⟩ := byteAt_ok hi
      have hw : wrapI .i64 n = n := wrapI_eq (by omega)
      simp only [hb, Option.some.injEq, exists_eq_left', c_within, exists_eq_left, hw, brB_not]
      rw [addW_eq (by omega)]
      have e : nameAtOk s i = (inB n 97 122 || inB n 48 57) := by unfold nameAtOk; rw [hb]; rfl
      rw [e] at gO gN
      cases h1 : inB n 97 122 <;> cases h2 : inB n 48 57 <;> simp only [brB_t, brB_f] <;> first | exact gN (by rw [h1, h2]; rfl) | exact a_impl_NameOk_1 _ (by rw [gO (by rw [h1, h2]; rfl)]; exact ⟨rfl, by first | rfl | trivial⟩)
  exact key rfl
theorem c_impl_NameOk (s : ByteArray) (hl : s.size ≤ 140737488355328) (q : Bool) : RunF C impl_NameOk [vS s] (vB q) [] ↔ q = nameOk s := iffB (run_impl_NameOk s hl)
theorem run_spec_l15Zero (o : Opn) : RunF C spec_l15Zero [.ag (opC o)] (vB (opZero o)) [] := by
  refine (f_spec_l15Zero _ _ _ _ _ _ ?_).run
  simp only [c_l1In, exists_eq_left, leI_eq, eqI_eq, eqS_eq, brB_dec, brB_not]
  unfold opZero
  (repeat' split) <;> simp_all <;> omega
theorem c_spec_l15Zero (k : Int) (s t : ByteArray) (a b : Int) (q : Bool) : RunF C spec_l15Zero [.ag [iI k, iS s, iS t, iI a, iI b]] (vB q) [] ↔ q = opZero ⟨k, s, t, a, b⟩ := iffB (run_spec_l15Zero ⟨k, s, t, a, b⟩)
theorem run_spec_OpOk (o : Opn) (h1 : o.name.size ≤ 140737488355328) (h2 : o.to.size ≤ 140737488355328) : RunF C spec_OpOk [.ag (opC o)] (vB (opOk o)) [] := by
  obtain ⟨k, s, t, a, b⟩ := o
  refine (f_spec_OpOk _ _ _ _ _ _ ?_).run
  simp only [c_l1In, c_spec_NameOk s h1, c_spec_NameOk t h2, c_spec_l1Word, c_spec_l15Zero, exists_eq_left, leI_eq, eqI_eq, eqS_eq, brB_dec, brB_not]
  unfold opOk opName opTo
  simp only []
  generalize opZero ⟨k, s, t, a, b⟩ = z
  generalize nameOk s = x
  generalize nameOk t = y
  generalize isWordB a = u
  generalize isWordB b = v
  generalize inB k 1 9 = w
  by_cases p1 : 7 ≤ k <;> by_cases p2 : k = 2 <;> by_cases p3 : s = bs0 <;> by_cases p4 : t = bs0 <;> first
    | omega
    | (simp only [p1, p2, p3, p4, if_true, if_false, decide_true, decide_false, reduceIte]
       cases w <;> (try simp only [brB_t, brB_f, Bool.true_and, Bool.false_and]) <;> cases x <;> cases y <;> cases u <;> cases v <;> (try simp only [brB_t, brB_f, Bool.and_true, Bool.and_false, Bool.true_and, Bool.false_and]) <;> (first | exact ⟨rfl, by first | rfl | trivial⟩ | simp))
theorem run_impl_OpOk (o : Opn) (h1 : o.name.size ≤ 140737488355328) (h2 : o.to.size ≤ 140737488355328) : RunF C impl_OpOk [.ag (opC o)] (vB (opOk o)) [] := by
  obtain ⟨k, s, t, a, b⟩ := o
  refine (f_impl_OpOk _ _ _ _ _ _ ?_).run
  simp only [c_within, c_impl_NameOk s h1, c_impl_NameOk t h2, c_impl_isWord, exists_eq_left, leI_eq, eqI_eq, eqS_eq, brB_dec, brB_not]
  unfold opOk opName opTo opZero
  simp only []
  cases hv : isWordB b with
  | false => cases inB k 1 9 <;> cases isWordB a <;> simp only [brB_t, brB_f] <;> exact ⟨by simp, by first | rfl | trivial⟩
  | true =>
    have hb : 0 ≤ b := by simp [isWordB, inB] at hv; omega
    have hb1 : inB b 0 1 = decide (b ≤ 1) := by by_cases h : b ≤ 1 <;> simp [inB, h, hb]
    rw [hb1]
    generalize nameOk s = x
    generalize nameOk t = y
    generalize isWordB a = u
    generalize hw : inB k 1 9 = w
    generalize decide (b ≤ 1) = z1
    generalize decide (b = 0) = z0
    cases w with
    | false => simp only [brB_t, brB_f]; exact ⟨by simp, by first | rfl | trivial⟩
    | true =>
    cases u with
    | false => simp only [brB_t, brB_f]; exact ⟨by simp, by first | rfl | trivial⟩
    | true =>
    simp only [brB_t, brB_f, Bool.true_and]
    clear hw hv hb1 hb h1 h2
    by_cases p1 : k ≤ 6 <;> by_cases p0 : 7 ≤ k <;> by_cases p2 : k = 2 <;> by_cases p3 : k = 3 <;> by_cases p4 : k = 4 <;> by_cases p7 : k = 7 <;> first
      | omega
      | (simp only [p0, p1, p2, p3, p4, p7, if_true, if_false, reduceIte, or_true, true_or, or_false, false_or]
         by_cases q : a = 0 <;> by_cases q3 : s = bs0 <;> by_cases q4 : t = bs0 <;> (try simp only [q, q3, q4, if_true, if_false, reduceIte, decide_true, decide_false]) <;> cases x <;> cases y <;> (try simp only [brB_t, brB_f, Bool.and_true, Bool.and_false, Bool.true_and, Bool.false_and]) <;> (first | exact ⟨rfl, by first | rfl | trivial⟩ | simp))
theorem run_spec_GetW (b : List Int) (i : Int) (hb : b.length ≤ 1073741824) : RunF C spec_GetW [vBytes b, vI i] (tIIB (getW b i)) [] := by
  refine (f_spec_GetW _ _ _ ⟨_, run_l1In _ _ _, ?_⟩).run
  have e1 : subW (Int.ofNat (b.map byteC).length) 2 = (b.length : Int) - 2 := by rw [subW_eq (by simp <;> omega)]; simp
  rw [e1]
  unfold getW
  by_cases h : 0 ≤ i ∧ i + 2 ≤ b.length
  · rw [if_pos h]
    have e2 : addW i 1 = i + 1 := addW_eq (by omega)
    have e3 : addW i 2 = i + 2 := addW_eq (by omega)
    rw [e2, e3]
    exact brB_no (by simp [inB] <;> omega) ⟨_, rowB h.1 (by omega), _, rowB (by omega) (by omega), ⟨rfl, by first | rfl | trivial⟩⟩
  · rw [if_neg h]
    exact brB_yes (by simp [inB] <;> omega) ⟨rfl, by first | rfl | trivial⟩
theorem run_impl_GetW (b : List Int) (i : Int) (hb : b.length ≤ 1073741824) : RunF C impl_GetW [vBytes b, vI i] (tIIB (getW b i)) [] := by
  refine (f_impl_GetW _ _ _ ?_).run
  have e1 : subW (Int.ofNat (b.map byteC).length) 2 = (b.length : Int) - 2 := by rw [subW_eq (by simp <;> omega)]; simp
  rw [e1]
  unfold getW
  by_cases h0 : i < 0
  · rw [if_neg (by omega)]
    exact brB_yes (by simpa using h0) ⟨rfl, by first | rfl | trivial⟩
  · refine brB_no (by simpa using h0) ?_
    by_cases h : i + 2 ≤ b.length
    · rw [if_pos ⟨by omega, h⟩]
      have e2 : addW i 1 = i + 1 := addW_eq (by omega)
      have e3 : addW i 2 = i + 2 := addW_eq (by omega)
      rw [e2, e3]
      exact brB_no (by simp <;> omega) ⟨_, rowB (by omega) (by omega), _, rowB (by omega) (by omega), ⟨rfl, by first | rfl | trivial⟩⟩
    · rw [if_neg (by omega)]
      exact brB_yes (by simp <;> omega) ⟨rfl, by first | rfl | trivial⟩
theorem run_spec_GetText (b : List Int) (i : Int) (hb : b.length ≤ 1073741824) (hB : Byts b) : RunF C spec_GetText [vBytes b, vI i] (tSIB (getText b i)) [] := by
  refine (f_spec_GetText _ _ _ ⟨_, _, _, run_spec_GetW b i hb, ?_⟩).run
  have hp := getW_pos hB i
  have e1 : subW (Int.ofNat (b.map byteC).length) (getW b i).2.1 = (b.length : Int) - (getW b i).2.1 := by rw [subW_eq (by simp <;> omega)]; simp
  rw [e1]
  unfold getText
  cases h1 : (getW b i).2.2 with
  | false =>
    rw [if_neg (by simp)]
    exact brB_yes rfl ⟨rfl, by first | rfl | trivial⟩
  | true =>
    refine brB_no rfl ?_
    by_cases h2 : 60 < (getW b i).1
    · rw [if_neg (by omega)]
      exact brB_yes (by simpa using h2) ⟨rfl, by first | rfl | trivial⟩
    · refine brB_no (by simpa using h2) ?_
      by_cases h3 : (b.length : Int) - (getW b i).2.1 < (getW b i).1
      · rw [if_neg (by omega)]
        exact brB_yes (by simpa using h3) ⟨rfl, by first | rfl | trivial⟩
      · rw [if_pos ⟨rfl, by omega, by omega⟩]
        have e2 : addW (getW b i).2.1 (getW b i).1 = (getW b i).2.1 + (getW b i).1 := addW_eq (by omega)
        rw [e2]
        refine brB_no (by simpa using h3) (brB_yes (by simp <;> omega) ⟨_, by rw [cutRows_map, byteRows_map], ⟨rfl, by first | rfl | trivial⟩⟩)
theorem run_impl_GetText (b : List Int) (i : Int) (hb : b.length ≤ 1073741824) (hB : Byts b) : RunF C impl_GetText [vBytes b, vI i] (tSIB (getText b i)) [] := by
  refine (f_impl_GetText _ _ _ ⟨_, _, _, run_impl_GetW b i hb, ?_⟩).run
  have hp := getW_pos hB i
  have e1 : subW (Int.ofNat (b.map byteC).length) (getW b i).2.1 = (b.length : Int) - (getW b i).2.1 := by rw [subW_eq (by simp <;> omega)]; simp
  rw [e1]
  unfold getText
  cases h1 : (getW b i).2.2 with
  | false =>
    rw [if_neg (by simp)]
    exact brB_yes rfl ⟨rfl, by first | rfl | trivial⟩
  | true =>
    refine brB_no rfl ?_
    by_cases h2 : 60 < (getW b i).1
    · rw [if_neg (by omega)]
      exact brB_yes (by simpa using h2) ⟨rfl, by first | rfl | trivial⟩
    · refine brB_no (by simpa using h2) ?_
      by_cases h3 : (b.length : Int) - (getW b i).2.1 < (getW b i).1
      · rw [if_neg (by omega)]
        exact brB_yes (by simpa using h3) ⟨rfl, by first | rfl | trivial⟩
      · rw [if_pos ⟨rfl, by omega, by omega⟩]
        have e2 : addW (getW b i).2.1 (getW b i).1 = (getW b i).2.1 + (getW b i).1 := addW_eq (by omega)
        rw [e2]
        refine brB_no (by simpa using h3) (brB_yes (by simp <;> omega) ⟨_, by rw [cutRows_map, byteRows_map], ⟨rfl, by first | rfl | trivial⟩⟩)
theorem run_spec_GetOp (b : List Int) (i : Int) (hb : b.length ≤ 1073741824) (hB : Byts b) : RunF C spec_GetOp [vBytes b, vI i] (tOIB (getOp b i)) [] := by
  refine (f_spec_GetOp _ _ _ ⟨_, run_l1In _ _ _, ?_⟩).run
  have e1 : subW (Int.ofNat (b.map byteC).length) 1 = (b.length : Int) - 1 := by rw [subW_eq (by simp <;> omega)]; simp
  rw [e1]
  unfold getOp
  by_cases h : 0 ≤ i ∧ i < b.length
  · rw [if_pos h]
    have e2 : addW i 1 = i + 1 := addW_eq (by omega)
    have s1 := getText_size b (i + 1)
    have s2 := getText_size b (getText b (i + 1)).2.1
    have hok : RunF C spec_OpOk [.ag (opC (opAt b i))] (vB (opOk (opAt b i))) [] := run_spec_OpOk _ (by unfold opAt; simp only []; omega) (by unfold opAt; simp only []; omega)
    refine brB_no (by simp [inB] <;> omega) ⟨_, rowB h.1 h.2, _, _, _, by rw [e2]; exact run_spec_GetText b (i + 1) hb hB, _, _, _, run_spec_GetText b _ hb hB, _, _, _, run_spec_GetW b _ hb, _, _, _, run_spec_GetW b _ hb, ?_⟩
    unfold opGood
    cases h1 : (getText b (i + 1)).2.2 with
    | false => exact brB_yes rfl ⟨rfl, by first | rfl | trivial⟩
    | true =>
      refine brB_no rfl ?_
      cases h2 : (getText b (getText b (i + 1)).2.1).2.2 with
      | false => exact brB_yes rfl ⟨rfl, by first | rfl | trivial⟩
      | true =>
        refine brB_no rfl ?_
        cases h3 : (getW b (getText b (getText b (i + 1)).2.1).2.1).2.2 with
        | false => exact brB_yes rfl ⟨rfl, by first | rfl | trivial⟩
        | true =>
          refine brB_no rfl ?_
          cases h4 : (getW b (getW b (getText b (getText b (i + 1)).2.1).2.1).2.1).2.2 with
          | false => exact brB_yes rfl ⟨rfl, by first | rfl | trivial⟩
          | true =>
            refine brB_no rfl ⟨_, hok, ?_⟩
            cases h5 : opOk (opAt b i) with
            | false => exact brB_yes rfl ⟨rfl, by first | rfl | trivial⟩
            | true => exact brB_no rfl ⟨rfl, by first | rfl | trivial⟩
  · rw [if_neg h]
    exact brB_yes (by simp [inB] <;> omega) ⟨rfl, by first | rfl | trivial⟩
theorem run_one_ok (b : List Int) (i : Int) (hb : b.length ≤ 1073741824) (h : 0 ≤ i ∧ i < b.length) : RunF C impl_reader__one [TV.bx [TC.sub 1 (b.map byteC), iI i, iB false]] (vI (wrapI .i64 (byteZ b i))) [TV.bx [TC.sub 1 (b.map byteC), iI (i + 1), iB false]] := by
  refine (f_impl_reader__one _ _ _ _ (brB_no rfl (brB_no (by simp <;> omega) (brB_no (by simp <;> omega) ?_)))).run
  have e2 : addW i 1 = i + 1 := addW_eq (by omega)
  have e3 : subW (i + 1) 1 = i := by rw [subW_eq (by omega)]; omega
  rw [e2, e3]
  exact ⟨_, rowB h.1 h.2, ⟨rfl, by first | rfl | trivial⟩⟩
theorem run_one_no (b : List Int) (i : Int) (hb : b.length ≤ 1073741824) (bad : Bool) (h : bad = true ∨ ¬ (0 ≤ i ∧ i < b.length)) : RunF C impl_reader__one [TV.bx [TC.sub 1 (b.map byteC), iI i, iB bad]] (vI 0) [TV.bx [TC.sub 1 (b.map byteC), iI i, iB true]] := by
  refine (f_impl_reader__one _ _ _ _ ?_).run
  cases bad with
  | true => exact brB_yes rfl ⟨rfl, by first | rfl | trivial⟩
  | false =>
    have h : ¬ (0 ≤ i ∧ i < b.length) := by simpa using h
    refine brB_no rfl ?_
    by_cases h0 : i < 0
    · exact brB_yes (by simpa using h0) ⟨rfl, by first | rfl | trivial⟩
    · exact brB_no (by simpa using h0) (brB_yes (by simp <;> omega) ⟨rfl, by first | rfl | trivial⟩)
theorem run_text_ok (b : List Int) (i : Int) (hb : b.length ≤ 1073741824) (hB : Byts b) (h : (getText b i).2.2 = true) : RunF C impl_reader__text [TV.bx [TC.sub 1 (b.map byteC), iI i, iB false]] (vS (getText b i).1) [TV.bx [TC.sub 1 (b.map byteC), iI (getText b i).2.1, iB false]] := by
  refine (f_impl_reader__text _ _ _ _ ⟨_, _, _, run_impl_GetText b i hb hB, ?_⟩).run
  rw [h]
  exact brB_no rfl (brB_no rfl ⟨rfl, by first | rfl | trivial⟩)
theorem run_text_no (b : List Int) (i : Int) (hb : b.length ≤ 1073741824) (hB : Byts b) (bad : Bool) (h : bad = true ∨ (getText b i).2.2 = false) : RunF C impl_reader__text [TV.bx [TC.sub 1 (b.map byteC), iI i, iB bad]] (vS bs0) [TV.bx [TC.sub 1 (b.map byteC), iI i, iB true]] := by
  refine (f_impl_reader__text _ _ _ _ ⟨_, _, _, run_impl_GetText b i hb hB, ?_⟩).run
  cases bad with
  | true => exact brB_yes rfl ⟨rfl, by first | rfl | trivial⟩
  | false =>
    have h : (getText b i).2.2 = false := by simpa using h
    rw [h]
    exact brB_no rfl (brB_yes rfl ⟨rfl, by first | rfl | trivial⟩)
theorem run_word_ok (b : List Int) (i : Int) (hb : b.length ≤ 1073741824) (hB : Byts b) (h : (getW b i).2.2 = true) : RunF C impl_reader__word [TV.bx [TC.sub 1 (b.map byteC), iI i, iB false]] (vI (getW b i).1) [TV.bx [TC.sub 1 (b.map byteC), iI (getW b i).2.1, iB false]] := by
  refine (f_impl_reader__word _ _ _ _ ⟨_, _, _, run_impl_GetW b i hb, ?_⟩).run
  rw [h]
  exact brB_no rfl (brB_no rfl ⟨rfl, by first | rfl | trivial⟩)
theorem run_word_no (b : List Int) (i : Int) (hb : b.length ≤ 1073741824) (hB : Byts b) (bad : Bool) (h : bad = true ∨ (getW b i).2.2 = false) : RunF C impl_reader__word [TV.bx [TC.sub 1 (b.map byteC), iI i, iB bad]] (vI 0) [TV.bx [TC.sub 1 (b.map byteC), iI i, iB true]] := by
  refine (f_impl_reader__word _ _ _ _ ⟨_, _, _, run_impl_GetW b i hb, ?_⟩).run
  cases bad with
  | true => exact brB_yes rfl ⟨rfl, by first | rfl | trivial⟩
  | false =>
    have h : (getW b i).2.2 = false := by simpa using h
    rw [h]
    exact brB_no rfl (brB_yes rfl ⟨rfl, by first | rfl | trivial⟩)
theorem run_op_no (b : List Int) (i : Int) (hb : b.length ≤ 1073741824) (hB : Byts b) (h : getOp b i = (opn0, 0, false)) : ∃ j, RunF C impl_reader__op [TV.bx [TC.sub 1 (b.map byteC), iI i, iB false]] (.ag (opC opn0)) [TV.bx [TC.sub 1 (b.map byteC), iI j, iB true]] := by
  unfold getOp at h
  by_cases h0 : 0 ≤ i ∧ i < b.length
  · rw [if_pos h0] at h
    unfold opGood at h
    have s1 := getText_size b (i + 1)
    have s2 := getText_size b (getText b (i + 1)).2.1
    cases h1 : (getText b (i + 1)).2.2 with
    | false => exact ⟨_, (f_impl_reader__op _ _ _ _ ⟨_, _, _, _, run_one_ok b i hb h0, _, _, _, _, run_text_no b _ hb hB false (.inr h1), _, _, _, _, run_text_no b _ hb hB true (.inl rfl), _, _, _, _, run_word_no b _ hb hB true (.inl rfl), _, _, _, _, run_word_no b _ hb hB true (.inl rfl), brB_yes rfl ⟨rfl, by first | rfl | trivial⟩⟩).run⟩
    | true =>
      cases h2 : (getText b (getText b (i + 1)).2.1).2.2 with
      | false => exact ⟨_, (f_impl_reader__op _ _ _ _ ⟨_, _, _, _, run_one_ok b i hb h0, _, _, _, _, run_text_ok b _ hb hB h1, _, _, _, _, run_text_no b _ hb hB false (.inr h2), _, _, _, _, run_word_no b _ hb hB true (.inl rfl), _, _, _, _, run_word_no b _ hb hB true (.inl rfl), brB_yes rfl ⟨rfl, by first | rfl | trivial⟩⟩).run⟩
      | true =>
        cases h3 : (getW b (getText b (getText b (i + 1)).2.1).2.1).2.2 with
        | false => exact ⟨_, (f_impl_reader__op _ _ _ _ ⟨_, _, _, _, run_one_ok b i hb h0, _, _, _, _, run_text_ok b _ hb hB h1, _, _, _, _, run_text_ok b _ hb hB h2, _, _, _, _, run_word_no b _ hb hB false (.inr h3), _, _, _, _, run_word_no b _ hb hB true (.inl rfl), brB_yes rfl ⟨rfl, by first | rfl | trivial⟩⟩).run⟩
        | true =>
          cases h4 : (getW b (getW b (getText b (getText b (i + 1)).2.1).2.1).2.1).2.2 with
          | false => exact ⟨_, (f_impl_reader__op _ _ _ _ ⟨_, _, _, _, run_one_ok b i hb h0, _, _, _, _, run_text_ok b _ hb hB h1, _, _, _, _, run_text_ok b _ hb hB h2, _, _, _, _, run_word_ok b _ hb hB h3, _, _, _, _, run_word_no b _ hb hB false (.inr h4), brB_yes rfl ⟨rfl, by first | rfl | trivial⟩⟩).run⟩
          | true =>
            have hok : RunF C impl_OpOk [.ag (opC (opAt b i))] (vB (opOk (opAt b i))) [] := run_impl_OpOk _ (by unfold opAt; simp only []; omega) (by unfold opAt; simp only []; omega)
            have h5 : opOk (opAt b i) = false := by
              cases h5 : opOk (opAt b i) with
              | false => rfl
              | true => rw [h1, h2, h3, h4] at h; simp [h5] at h
            refine ⟨(getW b (getW b (getText b (getText b (i + 1)).2.1).2.1).2.1).2.1, (f_impl_reader__op _ _ _ _ ⟨_, _, _, _, run_one_ok b i hb h0, _, _, _, _, run_text_ok b _ hb hB h1, _, _, _, _, run_text_ok b _ hb hB h2, _, _, _, _, run_word_ok b _ hb hB h3, _, _, _, _, run_word_ok b _ hb hB h4, brB_no rfl ⟨_, hok, ?_⟩⟩).run⟩
            exact brB_yes (by rw [h5]; rfl) ⟨rfl, by first | rfl | trivial⟩
  · exact ⟨_, (f_impl_reader__op _ _ _ _ ⟨_, _, _, _, run_one_no b i hb false (.inr h0), _, _, _, _, run_text_no b _ hb hB true (.inl rfl), _, _, _, _, run_text_no b _ hb hB true (.inl rfl), _, _, _, _, run_word_no b _ hb hB true (.inl rfl), _, _, _, _, run_word_no b _ hb hB true (.inl rfl), brB_yes rfl ⟨rfl, by first | rfl | trivial⟩⟩).run⟩
theorem run_op_yes (b : List Int) (i : Int) (hb : b.length ≤ 1073741824) (hB : Byts b) (h0 : 0 ≤ i ∧ i < b.length) (hg : opGood b i = true) (h5 : opOk (opAt b i) = true) : RunF C impl_reader__op [TV.bx [TC.sub 1 (b.map byteC), iI i, iB false]] (.ag (opC (opAt b i))) [TV.bx [TC.sub 1 (b.map byteC), iI (getW b (getW b (getText b (getText b (i + 1)).2.1).2.1).2.1).2.1, iB false]] := by
  unfold opGood at hg
  simp only [Bool.and_eq_true] at hg
  obtain ⟨h1, h2, h3, h4⟩ := hg
  have s1 := getText_size b (i + 1)
  have s2 := getText_size b (getText b (i + 1)).2.1
  have hok : RunF C impl_OpOk [.ag (opC (opAt b i))] (vB (opOk (opAt b i))) [] := run_impl_OpOk _ (by unfold opAt; simp only []; omega) (by unfold opAt; simp only []; omega)
  refine (f_impl_reader__op _ _ _ _ ⟨_, _, _, _, run_one_ok b i hb h0, _, _, _, _, run_text_ok b _ hb hB h1, _, _, _, _, run_text_ok b _ hb hB h2, _, _, _, _, run_word_ok b _ hb hB h3, _, _, _, _, run_word_ok b _ hb hB h4, brB_no rfl ⟨_, hok, ?_⟩⟩).run
  exact brB_no (by rw [h5]; rfl) ⟨rfl, by first | rfl | trivial⟩
theorem run_impl_GetOp (b : List Int) (i : Int) (hb : b.length ≤ 1073741824) (hB : Byts b) : RunF C impl_GetOp [vBytes b, vI i] (tOIB (getOp b i)) [] := by
  by_cases h : (0 ≤ i ∧ i < b.length) ∧ opGood b i = true ∧ opOk (opAt b i) = true
  · have e : getOp b i = (opAt b i, (getW b (getW b (getText b (getText b (i + 1)).2.1).2.1).2.1).2.1, true) := by
      unfold getOp
      rw [if_pos h.1, if_pos h.2.1, if_pos h.2.2]
    rw [e]
    exact (f_impl_GetOp _ _ _ ⟨_, _, _, _, _, _, _, _, run_op_yes b i hb hB h.1 h.2.1 h.2.2, brB_no rfl ⟨rfl, by first | rfl | trivial⟩⟩).run
  · have e : getOp b i = (opn0, 0, false) := by
      unfold getOp
      split
      · split
        · split
          · rename_i h1 h2 h3; exact absurd ⟨h1, h2, h3⟩ h
          · rfl
        · rfl
      · rfl
    obtain ⟨j, hj⟩ := run_op_no b i hb hB e
    rw [e]
    exact (f_impl_GetOp _ _ _ ⟨_, _, _, _, _, _, _, _, hj, brB_yes rfl ⟨rfl, by first | rfl | trivial⟩⟩).run
theorem len_of {n z : Nat} (h : n * z ≤ reachBytes) (hz : 1 ≤ z) : n ≤ 140737488355328 := by
  have : reachBytes ≤ 140737488355328 := by decide
  have h2 : n * 1 ≤ n * z := Nat.mul_le_mul_left n hz
  omega
theorem int_in {r : List TC} (h : WfT C.tt t_int r) : ∃ n : Int, r = intC n ∧ True := by
  obtain ⟨n, rfl, _⟩ := h.int_inv (k := .i64) (by kernel_rfl)
  exact ⟨n, rfl, trivial⟩
theorem byte_in {r : List TC} (h : WfT C.tt t_uint8 r) : ∃ n : Int, r = byteC n ∧ (0 ≤ n ∧ n ≤ 255) := by
  obtain ⟨n, rfl, h1⟩ := h.int_inv (k := .u8) (by kernel_rfl)
  exact ⟨n, rfl, u8_wf h1⟩
theorem bytes_rows {r : List TC} (h : WfT C.tt t_S_uint8 r) : ∃ l : List (Int), r = [.sub 1 (l.map byteC)] ∧ l.length ≤ 140737488355328 ∧ ∀ x ∈ l, 0 ≤ x ∧ x ≤ 255 := by
  obtain ⟨w, rfl, y, z⟩ := h.slice_inv (e := t_uint8) (by kernel_rfl)
  obtain ⟨l, rfl, hl⟩ := rows_typed fun r hr => byte_in (y r hr)
  rw [List.length_map] at z
  exact ⟨l, rfl, len_of z (by decide +kernel), hl⟩
theorem v_int {v : TV} (h : WfV C.tt t_int v) : ∃ n : Int, v = vI n := by
  have ht : (C.tt t_int).ti = .int .i64 := by kernel_rfl
  cases h with
  | c _ hw =>
    obtain ⟨n, h1, _⟩ := int_in hw
    unfold intC at h1
    cases h1
    exact ⟨n, rfl⟩
  | ag h1 _ => rw [ht] at h1; cases h1
theorem v_bytes {v : TV} (h : WfV C.tt t_S_uint8 v) : ∃ l : List Int, v = vBytes l ∧ l.length ≤ 140737488355328 ∧ ∀ x ∈ l, 0 ≤ x ∧ x ≤ 255 := by
  have ht : (C.tt t_S_uint8).ti = .slice 5 := by kernel_rfl
  cases h with
  | c _ hw =>
    obtain ⟨l, h1, h2, h3⟩ := bytes_rows hw
    cases h1
    exact ⟨l, rfl, h2, h3⟩
  | ag h1 _ => rw [ht] at h1; cases h1
theorem ltI_no {a b : Int} (h : ltI a b = false) : b ≤ a := by
  rw [ltI_eq] at h
  have := of_decide_eq_false h
  omega
theorem law_GetOp (b : List Int) (w_b : b.length ≤ 140737488355328) (y_b : ∀ x ∈ b, 0 ≤ x ∧ x ≤ 255) (i : Int) : RunF C laws_FnExactGetOp [vBytes b, vI i] (vB true) [] := by
  refine (f_laws_FnExactGetOp _ _ _ ?_).run
  refine brB_both (fun _ => ⟨rfl, by first | rfl | trivial⟩) fun hn0 => ?_
  have hn0 := ltI_no hn0
  have hb0 : b.length ≤ 1048576 := by have h := hn0; simp only [List.length_map] at h; exact Int.ofNat_le.1 h
  refine ⟨_, toByteS _ (by omega), ?_⟩
  refine ⟨_, _, _, _, _, _, _, run_spec_GetOp b i (by omega) y_b, ?_⟩
  refine ⟨_, toByteS _ (by omega), ?_⟩
  refine ⟨_, _, _, _, _, _, _, run_impl_GetOp b i (by omega) y_b, ?_⟩
  refine ⟨_, eqOp _ _ _ _ _, ?_⟩
  refine brB_no (by first | rfl | (simp; done) | (simp; omega)) ?_
  refine brB_no (by first | rfl | (simp; done) | (simp; omega)) ?_
  refine brB_no (by first | rfl | (simp; done) | (simp; omega)) ?_
  refine ⟨_, toByteS _ (by omega), ?_⟩
  refine ⟨_, eqByteS _ (by omega), ?_⟩
  refine brB_no (by first | rfl | (simp; done) | (simp; omega)) ?_
  exact ⟨rfl, by first | rfl | trivial⟩
theorem all_GetOp (vs : List TV) (h : WfVs C.tt [t_S_uint8, t_int] vs) : ∃ k, callP C k laws_FnExactGetOp vs (vB true) [] := by
  cases h with
  | cons h0 h => 
    cases h with
    | cons h1 h => 
      cases h
      obtain ⟨b, rfl, wb, yb⟩ := v_bytes h0
      obtain ⟨i, rfl⟩ := v_int h1
      exact law_GetOp b wb yb i
end Go.T.R
