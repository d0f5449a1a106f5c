/- What the functions answer. -/
import Derived.Test.YtaijlchekndalaaTR0
set_option linter.unusedVariables false
set_option linter.unusedSimpArgs false
set_option maxRecDepth 100000
namespace Go.T.R
open Go Go.T
theorem toOp (v0 : Int) (v1 : ByteArray) (v2 : ByteArray) (v3 : Int) (v4 : Int) : RunF C laws_toOp [.ag [iI v0, iS v1, iS v2, iI v3, iI v4]] (.ag [iI v0, iS v1, iS v2, iI v3, iI v4]) [] := (f_laws_toOp _ _ _ _ _ _ ⟨rfl, by first | rfl | trivial⟩).run
theorem szOp_run (k : Int) (s t : ByteArray) (a b left : Int) (h0 : 0 ≤ left ∧ left ≤ 1048576) (hs : s.size ≤ 140737488355328) (ht : t.size ≤ 140737488355328) : RunF C laws_szOp [.ag [iI k, iS s, iS t, iI a, iI b], vI left] (vI (lft left (s.size + t.size))) [] := by
  refine (f_laws_szOp _ _ _ _ _ _ _ ?_).run
  simp only [strLen, ofNat_cast]
  rw [subW_eq (a := left) (by omega), subW_eq (by omega)]
  unfold lft
  simp only [ltI_eq, brB_dec]
  split
  · rw [if_pos (by omega)]; exact ⟨rfl, by first | rfl | trivial⟩
  · split
    · rw [if_pos (by omega)]; exact ⟨rfl, by first | rfl | trivial⟩
    · rw [if_neg (by omega)]; rw [show left - (s.size : Int) - (t.size : Int) = left - ((s.size + t.size : Nat) : Int) by omega]; exact ⟨rfl, by first | rfl | trivial⟩
theorem run_within (a b c : Int) : RunF C impl_within [vI a, vI b, vI c] (vB (inB a b c)) [] := by
  refine (f_impl_within _ _ _ _ ?_).run
  simp only [leI_eq, brB_dec, inB]
  split <;> simp_all <;> omega
theorem run_l1In (a b c : Int) : RunF C spec_l1In [vI a, vI b, vI c] (vB (inB a b c)) [] := by
  refine (f_spec_l1In _ _ _ _ ?_).run
  simp only [leI_eq, brB_dec, inB]
  split <;> simp_all <;> omega
@[simp] theorem c_within (a b c : Int) (q : Bool) : RunF C impl_within [vI a, vI b, vI c] (vB q) [] ↔ q = inB a b c := iffB (run_within a b c)
@[simp] theorem c_l1In (a b c : Int) (q : Bool) : RunF C spec_l1In [vI a, vI b, vI c] (vB q) [] ↔ q = inB a b c := iffB (run_l1In a b c)
@[simp] theorem c_spec_l1Word (a : Int) (q : Bool) : RunF C spec_l1Word [vI a] (vB q) [] ↔ q = isWordB a := iffB ((f_spec_l1Word _ _ ⟨_, run_l1In _ _ _, rfl, by first | rfl | trivial⟩).run)
@[simp] theorem c_impl_isWord (a : Int) (q : Bool) : RunF C impl_isWord [vI a] (vB q) [] ↔ q = isWordB a := iffB ((f_impl_isWord _ _ ⟨_, run_within _ _ _, rfl, by first | rfl | trivial⟩).run)
theorem run_spec_NameOk (s : ByteArray) (hl : s.size ≤ 140737488355328) : RunF C spec_NameOk [vS s] (vB ((allN s.size (nameAtOk s) && inB s.size 1 6))) [] := by
  refine (f_spec_NameOk _ _ ?_).run
  have key : ((List.range' 0 (s.size - 0)).all (nameAtOk s) && inB s.size 1 6) = (allN s.size (nameAtOk s) && inB s.size 1 6) → LoopG C spec_NameOk pRLRB 4 0 (s_spec_NameOk_0 s ((0 : Nat) : Int)) (fun u st => AftF C spec_NameOk pRLRB u st fun r fs => r = vB ((allN s.size (nameAtOk s) && inB s.size 1 6)) ∧ fs = []) := by
    refine nat_walk (s.size) (fun i => ((List.range' i (s.size - i)).all (nameAtOk s) && inB s.size 1 6) = (allN s.size (nameAtOk s) && inB s.size 1 6) → LoopG C spec_NameOk pRLRB 4 0 (s_spec_NameOk_0 s i) (fun u st => AftF C spec_NameOk pRLRB u st fun r fs => r = vB ((allN s.size (nameAtOk s) && inB s.size 1 6)) ∧ fs = [])) ?_ ?_
    · intro h0
      refine r_spec_NameOk_0 _ _ _ (brB_no (by simp) (a_spec_NameOk_2 _ _ _ _ ?_))
      rw [Nat.sub_self] at h0
      simp only [List.range'_zero, List.all_nil, Bool.true_and] at h0
      rw [← h0]
      simp only [c_l1In, exists_eq_left, strLen, Int.ofNat_eq_natCast]
      simp
    · intro i hi hn h0
      rw [range_step hi, List.all_cons] at h0
      have gO : (nameAtOk s) i = false → (allN s.size (nameAtOk s) && inB s.size 1 6) = false := fun e => by rw [← h0, e]; rfl
      have gN : (nameAtOk s) i = true → LoopG C spec_NameOk pRLRB 4 0 (s_spec_NameOk_0 s ((i : Int) + 1)) (fun u st => AftF C spec_NameOk pRLRB u st fun r fs => r = vB ((allN s.size (nameAtOk s) && inB s.size 1 6)) ∧ fs = []) := fun e => hn (by rw [← h0, e]; rfl)
      refine r_spec_NameOk_0 _ _ _ (brB_yes (by simp; omega) ?_)
      obtain ⟨n, hb, hn0, hn1⟩ := byteAt_ok hi
      have hw : wrapI .i64 n = n := wrapI_eq (by omega)
      simp only [hb, Option.some.injEq, exists_eq_left', c_l1In, exists_eq_left, hw, brB_not]
      rw [addW_eq (by omega)]
      have e : nameAtOk s i = (inB n 97 122 || inB n 48 57) := by unfold nameAtOk; rw [hb]; rfl
      rw [e] at gO gN
      cases h1 : inB n 97 122 <;> cases h2 : inB n 48 57 <;> simp only [brB_t, brB_f] <;> first | exact gN (by rw [h1, h2]; rfl) | exact a_spec_NameOk_1 _ (by rw [gO (by rw [h1, h2]; rfl)]; exact ⟨rfl, by first | rfl | trivial⟩)
  exact key rfl
theorem c_spec_NameOk (s : ByteArray) (hl : s.size ≤ 140737488355328) (q : Bool) : RunF C spec_NameOk [vS s] (vB q) [] ↔ q = nameOk s := iffB (run_spec_NameOk s hl)
theorem run_impl_NameOk (s : ByteArray) (hl : s.size ≤ 140737488355328) : RunF C impl_NameOk [vS s] (vB ((allN s.size (nameAtOk s) && inB s.size 1 6))) [] := by
  refine (f_impl_NameOk _ _ ?_).run
  have key : ((List.range' 0 (s.size - 0)).all (nameAtOk s) && inB s.size 1 6) = (allN s.size (nameAtOk s) && inB s.size 1 6) → LoopG C impl_NameOk pRLRB 4 0 (s_impl_NameOk_0 s ((0 : Nat) : Int)) (fun u st => AftF C impl_NameOk pRLRB u st fun r fs => r = vB ((allN s.size (nameAtOk s) && inB s.size 1 6)) ∧ fs = []) := by
    refine nat_walk (s.size) (fun i => ((List.range' i (s.size - i)).all (nameAtOk s) && inB s.size 1 6) = (allN s.size (nameAtOk s) && inB s.size 1 6) → LoopG C impl_NameOk pRLRB 4 0 (s_impl_NameOk_0 s i) (fun u st => AftF C impl_NameOk pRLRB u st fun r fs => r = vB ((allN s.size (nameAtOk s) && inB s.size 1 6)) ∧ fs = [])) ?_ ?_
    · intro h0
      refine r_impl_NameOk_0 _ _ _ (brB_no (by simp) (a_impl_NameOk_2 _ _ _ _ ?_))
      rw [Nat.sub_self] at h0
      simp only [List.range'_zero, List.all_nil, Bool.true_and] at h0
      rw [← h0]
      simp only [c_within, exists_eq_left, strLen, Int.ofNat_eq_natCast]
      simp
    · intro i hi hn h0
      rw [range_step hi, List.all_cons] at h0
      have gO : (nameAtOk s) i = false → (allN s.size (nameAtOk s) && inB s.size 1 6) = false := fun e => by rw [← h0, e]; rfl
      have gN : (nameAtOk s) i = true → LoopG C impl_NameOk pRLRB 4 0 (s_impl_NameOk_0 s ((i : Int) + 1)) (fun u st => AftF C impl_NameOk pRLRB u st fun r fs => r = vB ((allN s.size (nameAtOk s) && inB s.size 1 6)) ∧ fs = []) := fun e => hn (by rw [← h0, e]; rfl)
      refine r_impl_NameOk_0 _ _ _ (brB_yes (by simp; omega) ?_)
      obtain ⟨n, hb, hn0, hn1⟩ := byteAt_ok hi
      have hw : wrapI .i64 n = n := wrapI_eq (by omega)
      simp only [hb, Option.some.injEq, exists_eq_left', c_within, exists_eq_left, hw, brB_not]
      rw [addW_eq (by omega)]
      have e : nameAtOk s i = (inB n 97 122 || inB n 48 57) := by unfold nameAtOk; rw [hb]; rfl
      rw [e] at gO gN
      cases h1 : inB n 97 122 <;> cases h2 : inB n 48 57 <;> simp only [brB_t, brB_f] <;> first | exact gN (by rw [h1, h2]; rfl) | exact a_impl_NameOk_1 _ (by rw [gO (by rw [h1, h2]; rfl)]; exact ⟨rfl, by first | rfl | trivial⟩)
  exact key rfl
theorem c_impl_NameOk (s : ByteArray) (hl : s.size ≤ 140737488355328) (q : Bool) : RunF C impl_NameOk [vS s] (vB q) [] ↔ q = nameOk s := iffB (run_impl_NameOk s hl)
theorem run_spec_l15Zero (o : Opn) : RunF C spec_l15Zero [.ag (opC o)] (vB (opZero o)) [] := by
  refine (f_spec_l15Zero _ _ _ _ _ _ ?_).run
  simp only [c_l1In, exists_eq_left, leI_eq, eqI_eq, eqS_eq, brB_dec, brB_not]
  unfold opZero
  (repeat' split) <;> simp_all <;> omega
theorem c_spec_l15Zero (k : Int) (s t : ByteArray) (a b : Int) (q : Bool) : RunF C spec_l15Zero [.ag [iI k, iS s, iS t, iI a, iI b]] (vB q) [] ↔ q = opZero ⟨k, s, t, a, b⟩ := iffB (run_spec_l15Zero ⟨k, s, t, a, b⟩)
theorem run_spec_OpOk (o : Opn) (h1 : o.name.size ≤ 140737488355328) (h2 : o.to.size ≤ 140737488355328) : RunF C spec_OpOk [.ag (opC o)] (vB (opOk o)) [] := by
  obtain ⟨k, s, t, a, b⟩ := o
  refine (f_spec_OpOk _ _ _ _ _ _ ?_).run
  simp only [c_l1In, c_spec_NameOk s h1, c_spec_NameOk t h2, c_spec_l1Word, c_spec_l15Zero, exists_eq_left, leI_eq, eqI_eq, eqS_eq, brB_dec, brB_not]
  unfold opOk opName opTo
  simp only []
  generalize opZero ⟨k, s, t, a, b⟩ = z
  generalize nameOk s = x
  generalize nameOk t = y
  generalize isWordB a = u
  generalize isWordB b = v
  generalize inB k 1 9 = w
  by_cases p1 : 7 ≤ k <;> by_cases p2 : k = 2 <;> by_cases p3 : s = bs0 <;> by_cases p4 : t = bs0 <;> first
    | omega
    | (simp only [p1, p2, p3, p4, if_true, if_false, decide_true, decide_false, reduceIte]
       cases w <;> (try simp only [brB_t, brB_f, Bool.true_and, Bool.false_and]) <;> cases x <;> cases y <;> cases u <;> cases v <;> (try simp only [brB_t, brB_f, Bool.and_true, Bool.and_false, Bool.true_and, Bool.false_and]) <;> (first | exact ⟨rfl, by first | rfl | trivial⟩ | simp))
theorem run_impl_OpOk (o : Opn) (h1 : o.name.size ≤ 140737488355328) (h2 : o.to.size ≤ 140737488355328) : RunF C impl_OpOk [.ag (opC o)] (vB (opOk o)) [] := by
  obtain ⟨k, s, t, a, b⟩ := o
  refine (f_impl_OpOk _ _ _ _ _ _ ?_).run
  simp only [c_within, c_impl_NameOk s h1, c_impl_NameOk t h2, c_impl_isWord, exists_eq_left, leI_eq, eqI_eq, eqS_eq, brB_dec, brB_not]
  unfold opOk opName opTo opZero
  simp only []
  cases hv : isWordB b with
  | false => cases inB k 1 9 <;> cases isWordB a <;> simp only [brB_t, brB_f] <;> exact ⟨by simp, by first | rfl | trivial⟩
  | true =>
    have hb : 0 ≤ b := by simp [isWordB, inB] at hv; omega
    have hb1 : inB b 0 1 = decide (b ≤ 1) := by by_cases h : b ≤ 1 <;> simp [inB, h, hb]
    rw [hb1]
    generalize nameOk s = x
    generalize nameOk t = y
    generalize isWordB a = u
    generalize hw : inB k 1 9 = w
    generalize decide (b ≤ 1) = z1
    generalize decide (b = 0) = z0
    cases w with
    | false => simp only [brB_t, brB_f]; exact ⟨by simp, by first | rfl | trivial⟩
    | true =>
    cases u with
    | false => simp only [brB_t, brB_f]; exact ⟨by simp, by first | rfl | trivial⟩
    | true =>
    simp only [brB_t, brB_f, Bool.true_and]
    clear hw hv hb1 hb h1 h2
    by_cases p1 : k ≤ 6 <;> by_cases p0 : 7 ≤ k <;> by_cases p2 : k = 2 <;> by_cases p3 : k = 3 <;> by_cases p4 : k = 4 <;> by_cases p7 : k = 7 <;> first
      | omega
      | (simp only [p0, p1, p2, p3, p4, p7, if_true, if_false, reduceIte, or_true, true_or, or_false, false_or]
         by_cases q : a = 0 <;> by_cases q3 : s = bs0 <;> by_cases q4 : t = bs0 <;> (try simp only [q, q3, q4, if_true, if_false, reduceIte, decide_true, decide_false]) <;> cases x <;> cases y <;> (try simp only [brB_t, brB_f, Bool.and_true, Bool.and_false, Bool.true_and, Bool.false_and]) <;> (first | exact ⟨rfl, by first | rfl | trivial⟩ | simp))
theorem op_in {r : List TC} (h : WfT C.tt t_laws_Op r) : ∃ x : Opn, r = opC x ∧ x.name.size ≤ 140737488355328 ∧ x.to.size ≤ 140737488355328 := by
  obtain ⟨q0, r0, rfl, h0, k0⟩ := (h.struct_inv (fs := [(0, 3), (1, 9), (2, 9), (3, 3), (4, 3)]) (by kernel_rfl)).cons_inv
  obtain ⟨q1, r1, rfl, h1, k1⟩ := k0.cons_inv
  obtain ⟨q2, r2, rfl, h2, k2⟩ := k1.cons_inv
  obtain ⟨q3, r3, rfl, h3, k3⟩ := k2.cons_inv
  obtain ⟨q4, r4, rfl, h4, k4⟩ := k3.cons_inv
  have e := k4.nil_inv
  subst e
  obtain ⟨v0, rfl, u0⟩ := h0.int_inv (k := .i64) (by kernel_rfl)
  obtain ⟨v1, rfl, z1⟩ := h1.str_inv (by kernel_rfl)
  obtain ⟨v2, rfl, z2⟩ := h2.str_inv (by kernel_rfl)
  obtain ⟨v3, rfl, u3⟩ := h3.int_inv (k := .i64) (by kernel_rfl)
  obtain ⟨v4, rfl, u4⟩ := h4.int_inv (k := .i64) (by kernel_rfl)
  exact ⟨⟨v0, v1, v2, v3, v4⟩, rfl, ⟨Nat.le_trans z1 (by decide), Nat.le_trans z2 (by decide)⟩⟩
theorem v_op {v : TV} (h : WfV C.tt t_laws_Op v) : ∃ x : Opn, v = .ag (opC x) ∧ (x.name.size ≤ 140737488355328 ∧ x.to.size ≤ 140737488355328) := by
  have ht : (C.tt t_laws_Op).ti = .struct [(0, 3), (1, 9), (2, 9), (3, 3), (4, 3)] := by kernel_rfl
  cases h with
  | c hs hw => exact absurd ht (hs _)
  | ag _ hw =>
    obtain ⟨x, rfl, hx⟩ := op_in hw
    exact ⟨x, rfl, hx⟩
theorem lft_ok {a : Int} {n : Nat} (h : ltI (lft a n) 0 = false) (h0 : 0 ≤ a ∧ a ≤ 1048576) : (n : Int) ≤ a ∧ (0 ≤ lft a n ∧ lft a n ≤ 1048576) ∧ lft a n = a - n := by
  rw [ltI_eq] at h
  have h : ¬ lft a n < 0 := of_decide_eq_false h
  unfold lft at *
  split at h <;> simp_all <;> omega
theorem law_OpOk (o : Opn) (w_o : o.name.size ≤ 140737488355328 ∧ o.to.size ≤ 140737488355328) : RunF C laws_FnExactOpOk [.ag (opC o)] (vB true) [] := by
  refine (f_laws_FnExactOpOk _ _ _ _ _ _ ?_).run
  obtain ⟨w1_o, w2_o⟩ := w_o
  refine ⟨_, szOp_run _ _ _ _ _ _ (by first | omega | assumption) (by omega) (by omega), ?_⟩
  refine brB_both (fun _ => ⟨rfl, by first | rfl | trivial⟩) fun hz0 => ?_
  obtain ⟨hz0a, hz0b, hz0c⟩ := lft_ok hz0 (by first | omega | assumption)
  refine ⟨_, _, _, _, _, toOp _ _ _ _ _, ?_⟩
  refine ⟨_, run_spec_OpOk o (by omega) (by omega), ?_⟩
  refine ⟨_, _, _, _, _, toOp _ _ _ _ _, ?_⟩
  refine ⟨_, run_impl_OpOk o (by omega) (by omega), ?_⟩
  refine brB_no (by first | rfl | (simp; done) | (simp; omega)) ?_
  exact ⟨rfl, by first | rfl | trivial⟩
theorem all_OpOk (vs : List TV) (h : WfVs C.tt [t_laws_Op] vs) : ∃ k, callP C k laws_FnExactOpOk vs (vB true) [] := by
  cases h with
  | cons h0 h => 
    cases h
    obtain ⟨o, rfl, wo⟩ := v_op h0
    exact law_OpOk o wo
end Go.T.R
