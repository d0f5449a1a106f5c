/- What the functions answer. -/
import Derived.Test.YtghjiklgaaeiiaaTR0
set_option linter.unusedVariables false
set_option linter.unusedSimpArgs false
set_option maxRecDepth 100000
namespace Go.T.R
open Go Go.T
theorem toOp (v0 : Int) (v1 : ByteArray) (v2 : ByteArray) (v3 : Int) (v4 : Int) : RunF C laws_toOp [.ag [iI v0, iS v1, iS v2, iI v3, iI v4]] (.ag [iI v0, iS v1, iS v2, iI v3, iI v4]) [] := (f_laws_toOp _ _ _ _ _ _ ⟨rfl, by first | rfl | trivial⟩).run
theorem toByteS (l : List (Int)) (hl : l.length ≤ 1099511627776) : RunF C laws_toByteS [vBytes l] (vBytes l) [] := by
  refine (f_laws_toByteS _ _ ?_).run
  simp only [List.length_map]
  refine brB_yes (by simp; omega) ?_
  simp only [ofNat_cast, numI_eq, Int.toNat_natCast]
  refine cp_loop (e := byteC) (z := [.sc (.int .u8 0)]) l (fun i rows => LoopG C laws_toByteS pRRLRB 4 0 (s_laws_toByteS_0 (l.map byteC) i rows) _) (fun a => rfl) ?_ ?_
  · exact r_laws_toByteS_0 _ _ _ _ (brB_no (by simp) (a_laws_toByteS_1 _ _ _ _ _ ⟨rfl, by first | rfl | trivial⟩))
  · intro i rows a hi ha hr hn
    refine r_laws_toByteS_0 _ _ _ _ (brB_yes (by simp; omega) ⟨_, rowAt_map ha, _, hr, _, hr, ?_⟩)
    rw [addW_eq (by omega)]
    exact hn
theorem eqByteS (l : List (Int)) (hl : l.length ≤ 1099511627776) : RunF C laws_eqByteS [vBytes l, vBytes l] (vB true) [] := by
  refine (f_laws_eqByteS _ _ _ ?_).run
  refine brB_no (by simp) ?_
  refine idx_walk l (fun i => LoopG C laws_eqByteS pRRLRB 4 0 (s_laws_eqByteS_0 (l.map byteC) (l.map byteC) i) _) ?_ ?_
  · exact r_laws_eqByteS_0 _ _ _ _ (brB_no (by simp) (a_laws_eqByteS_2 _ _ _ _ _ ⟨rfl, by first | rfl | trivial⟩))
  · intro i a hi ha _ _ hn
    refine r_laws_eqByteS_0 _ _ _ _ (brB_yes (by simp; omega) ⟨_, rowAt_map ha, _, rowAt_map ha, brB_no (by simp) ?_⟩)
    rw [addW_eq (by omega)]
    exact hn
theorem szOp_run (k : Int) (s t : ByteArray) (a b left : Int) (h0 : 0 ≤ left ∧ left ≤ 1048576) (hs : s.size ≤ 140737488355328) (ht : t.size ≤ 140737488355328) : RunF C laws_szOp [.ag [iI k, iS s, iS t, iI a, iI b], vI left] (vI (lft left (s.size + t.size))) [] := by
  refine (f_laws_szOp _ _ _ _ _ _ _ ?_).run
  simp only [strLen, ofNat_cast]
  rw [subW_eq (a := left) (by omega), subW_eq (by omega)]
  unfold lft
  simp only [ltI_eq, brB_dec]
  split
  · rw [if_pos (by omega)]; exact ⟨rfl, by first | rfl | trivial⟩
  · split
    · rw [if_pos (by omega)]; exact ⟨rfl, by first | rfl | trivial⟩
    · rw [if_neg (by omega)]; rw [show left - (s.size : Int) - (t.size : Int) = left - ((s.size + t.size : Nat) : Int) by omega]; exact ⟨rfl, by first | rfl | trivial⟩
theorem run_within (a b c : Int) : RunF C impl_within [vI a, vI b, vI c] (vB (inB a b c)) [] := by
  refine (f_impl_within _ _ _ _ ?_).run
  simp only [leI_eq, brB_dec, inB]
  split <;> simp_all <;> omega
theorem run_l1In (a b c : Int) : RunF C spec_l1In [vI a, vI b, vI c] (vB (inB a b c)) [] := by
  refine (f_spec_l1In _ _ _ _ ?_).run
  simp only [leI_eq, brB_dec, inB]
  split <;> simp_all <;> omega
@[simp] theorem c_within (a b c : Int) (q : Bool) : RunF C impl_within [vI a, vI b, vI c] (vB q) [] ↔ q = inB a b c := iffB (run_within a b c)
@[simp] theorem c_l1In (a b c : Int) (q : Bool) : RunF C spec_l1In [vI a, vI b, vI c] (vB q) [] ↔ q = inB a b c := iffB (run_l1In a b c)
@[simp] theorem c_spec_l1Word (a : Int) (q : Bool) : RunF C spec_l1Word [vI a] (vB q) [] ↔ q = isWordB a := iffB ((f_spec_l1Word _ _ ⟨_, run_l1In _ _ _, rfl, by first | rfl | trivial⟩).run)
@[simp] theorem c_impl_isWord (a : Int) (q : Bool) : RunF C impl_isWord [vI a] (vB q) [] ↔ q = isWordB a := iffB ((f_impl_isWord _ _ ⟨_, run_within _ _ _, rfl, by first | rfl | trivial⟩).run)
theorem run_spec_NameOk (s : ByteArray) (hl : s.size ≤ 140737488355328) : RunF C spec_NameOk [vS s] (vB ((allN s.size (nameAtOk s) && inB s.size 1 6))) [] := by
  refine (f_spec_NameOk _ _ ?_).run
  have key : ((List.range' 0 (s.size - 0)).all (nameAtOk s) && inB s.size 1 6) = (allN s.size (nameAtOk s) && inB s.size 1 6) → LoopG C spec_NameOk pRLRB 4 0 (s_spec_NameOk_0 s ((0 : Nat) : Int)) (fun u st => AftF C spec_NameOk pRLRB u st fun r fs => r = vB ((allN s.size (nameAtOk s) && inB s.size 1 6)) ∧ fs = []) := by
    refine nat_walk (s.size) (fun i => ((List.range' i (s.size - i)).all (nameAtOk s) && inB s.size 1 6) = (allN s.size (nameAtOk s) && inB s.size 1 6) → LoopG C spec_NameOk pRLRB 4 0 (s_spec_NameOk_0 s i) (fun u st => AftF C spec_NameOk pRLRB u st fun r fs => r = vB ((allN s.size (nameAtOk s) && inB s.size 1 6)) ∧ fs = [])) ?_ ?_
    · intro h0
      refine r_spec_NameOk_0 _ _ _ (brB_no (by simp) (a_spec_NameOk_2 _ _ _ _ ?_))
      rw [Nat.sub_self] at h0
      simp only [List.range'_zero, List.all_nil, Bool.true_and] at h0
      rw [← h0]
      simp only [c_l1In, exists_eq_left, strLen, Int.ofNat_eq_natCast]
      simp
    · intro i hi hn h0
      rw [range_step hi, List.all_cons] at h0
      have gO : (nameAtOk s) i = false → (allN s.size (nameAtOk s) && inB s.size 1 6) = false := fun e => by rw [← h0, e]; rfl
      have gN : (nameAtOk s) i = true → LoopG C spec_NameOk pRLRB 4 0 (s_spec_NameOk_0 s ((i : Int) + 1)) (fun u st => AftF C spec_NameOk pRLRB u st fun r fs => r = vB ((allN s.size (nameAtOk s) && inB s.size 1 6)) ∧ fs = []) := fun e => hn (by rw [← h0, e]; rfl)
      refine r_spec_NameOk_0 _ _ _ (brB_yes (by simp; omega) ?_)
      obtain ⟨n, hb, hn0, hn1⟩ := byteAt_ok hi
      have hw : wrapI .i64 n = n := wrapI_eq (by omega)
      simp only [hb, Option.some.injEq, exists_eq_left', c_l1In, exists_eq_left, hw, brB_not]
      rw [addW_eq (by omega)]
      have e : nameAtOk s i = (inB n 97 122 || inB n 48 57) := by unfold nameAtOk; rw [hb]; rfl
      rw [e] at gO gN
      cases h1 : inB n 97 122 <;> cases h2 : inB n 48 57 <;> simp only [brB_t, brB_f] <;> first | exact gN (by rw [h1, h2]; rfl) | exact a_spec_NameOk_1 _ (by rw [gO (by rw [h1, h2]; rfl)]; exact ⟨rfl, by first | rfl | trivial⟩)
  exact key rfl
theorem c_spec_NameOk (s : ByteArray) (hl : s.size ≤ 140737488355328) (q : Bool) : RunF C spec_NameOk [vS s] (vB q) [] ↔ q = nameOk s := iffB (run_spec_NameOk s hl)
theorem run_impl_NameOk (s : ByteArray) (hl : s.size ≤ 140737488355328) : RunF C impl_NameOk [vS s] (vB ((allN s.size (nameAtOk s) && inB s.size 1 6))) [] := by
  refine (f_impl_NameOk _ _ ?_).run
  have key : ((List.range' 0 (s.size - 0)).all (nameAtOk s) && inB s.size 1 6) = (allN s.size (nameAtOk s) && inB s.size 1 6) → LoopG C impl_NameOk pRLRB 4 0 (s_impl_NameOk_0 s ((0 : Nat) : Int)) (fun u st => AftF C impl_NameOk pRLRB u st fun r fs => r = vB ((allN s.size (nameAtOk s) && inB s.size 1 6)) ∧ fs = []) := by
    refine nat_walk (s.size) (fun i => ((List.range' i (s.size - i)).all (nameAtOk s) && inB s.size 1 6) = (allN s.size (nameAtOk s) && inB s.size 1 6) → LoopG C impl_NameOk pRLRB 4 0 (s_impl_NameOk_0 s i) (fun u st => AftF C impl_NameOk pRLRB u st fun r fs => r = vB ((allN s.size (nameAtOk s) && inB s.size 1 6)) ∧ fs = [])) ?_ ?_
    · intro h0
      refine r_impl_NameOk_0 _ _ _ (brB_no (by simp) (a_impl_NameOk_2 _ _ _ _ ?_))
      rw [Nat.sub_self] at h0
      simp only [List.range'_zero, List.all_nil, Bool.true_and] at h0
      rw [← h0]
      simp only [c_within, exists_eq_left, strLen, Int.ofNat_eq_natCast]
      simp
    · intro i hi hn h0
      rw [range_step hi, List.all_cons] at h0
      have gO : (nameAtOk s) i = false → (allN s.size (nameAtOk s) && inB s.size 1 6) = false := fun e => by rw [← h0, e]; rfl
      have gN : (nameAtOk s) i = true → LoopG C impl_NameOk pRLRB 4 0 (s_impl_NameOk_0 s ((i : Int) + 1)) (fun u st => AftF C impl_NameOk pRLRB u st fun r fs => r = vB ((allN s.size (nameAtOk s) && inB s.size 1 6)) ∧ fs = []) := fun e => hn (by rw [← h0, e]; rfl)
      refine r_impl_NameOk_0 _ _ _ (brB_yes (by simp; omega) ?_)
      obtain ⟨n, hb, hn0, hn1⟩ := byteAt_ok hi
      have hw : wrapI .i64 n = n := wrapI_eq (by omega)
      simp only [hb, Option.some.injEq, exists_eq_left', c_within, exists_eq_left, hw, brB_not]
      rw [addW_eq (by omega)]
      have e : nameAtOk s i = (inB n 97 122 || inB n 48 57) := by unfold nameAtOk; rw [hb]; rfl
      rw [e] at gO gN
      cases h1 : inB n 97 122 <;> cases h2 : inB n 48 57 <;> simp only [brB_t, brB_f] <;> first | exact gN (by rw [h1, h2]; rfl) | exact a_impl_NameOk_1 _ (by rw [gO (by rw [h1, h2]; rfl)]; exact ⟨rfl, by first | rfl | trivial⟩)
  exact key rfl
theorem c_impl_NameOk (s : ByteArray) (hl : s.size ≤ 140737488355328) (q : Bool) : RunF C impl_NameOk [vS s] (vB q) [] ↔ q = nameOk s := iffB (run_impl_NameOk s hl)
theorem run_spec_l15Zero (o : Opn) : RunF C spec_l15Zero [.ag (opC o)] (vB (opZero o)) [] := by
  refine (f_spec_l15Zero _ _ _ _ _ _ ?_).run
  simp only [c_l1In, exists_eq_left, leI_eq, eqI_eq, eqS_eq, brB_dec, brB_not]
  unfold opZero
  (repeat' split) <;> simp_all <;> omega
theorem c_spec_l15Zero (k : Int) (s t : ByteArray) (a b : Int) (q : Bool) : RunF C spec_l15Zero [.ag [iI k, iS s, iS t, iI a, iI b]] (vB q) [] ↔ q = opZero ⟨k, s, t, a, b⟩ := iffB (run_spec_l15Zero ⟨k, s, t, a, b⟩)
theorem run_spec_OpOk (o : Opn) (h1 : o.name.size ≤ 140737488355328) (h2 : o.to.size ≤ 140737488355328) : RunF C spec_OpOk [.ag (opC o)] (vB (opOk o)) [] := by
  obtain ⟨k, s, t, a, b⟩ := o
  refine (f_spec_OpOk _ _ _ _ _ _ ?_).run
  simp only [c_l1In, c_spec_NameOk s h1, c_spec_NameOk t h2, c_spec_l1Word, c_spec_l15Zero, exists_eq_left, leI_eq, eqI_eq, eqS_eq, brB_dec, brB_not]
  unfold opOk opName opTo
  simp only []
  generalize opZero ⟨k, s, t, a, b⟩ = z
  generalize nameOk s = x
  generalize nameOk t = y
  generalize isWordB a = u
  generalize isWordB b = v
  generalize inB k 1 9 = w
  by_cases p1 : 7 ≤ k <;> by_cases p2 : k = 2 <;> by_cases p3 : s = bs0 <;> by_cases p4 : t = bs0 <;> first
    | omega
    | (simp only [p1, p2, p3, p4, if_true, if_false, decide_true, decide_false, reduceIte]
       cases w <;> (try simp only [brB_t, brB_f, Bool.true_and, Bool.false_and]) <;> cases x <;> cases y <;> cases u <;> cases v <;> (try simp only [brB_t, brB_f, Bool.and_true, Bool.and_false, Bool.true_and, Bool.false_and]) <;> (first | exact ⟨rfl, by first | rfl | trivial⟩ | simp))
theorem run_impl_OpOk (o : Opn) (h1 : o.name.size ≤ 140737488355328) (h2 : o.to.size ≤ 140737488355328) : RunF C impl_OpOk [.ag (opC o)] (vB (opOk o)) [] := by
  obtain ⟨k, s, t, a, b⟩ := o
  refine (f_impl_OpOk _ _ _ _ _ _ ?_).run
  simp only [c_within, c_impl_NameOk s h1, c_impl_NameOk t h2, c_impl_isWord, exists_eq_left, leI_eq, eqI_eq, eqS_eq, brB_dec, brB_not]
  unfold opOk opName opTo opZero
  simp only []
  cases hv : isWordB b with
  | false => cases inB k 1 9 <;> cases isWordB a <;> simp only [brB_t, brB_f] <;> exact ⟨by simp, by first | rfl | trivial⟩
  | true =>
    have hb : 0 ≤ b := by simp [isWordB, inB] at hv; omega
    have hb1 : inB b 0 1 = decide (b ≤ 1) := by by_cases h : b ≤ 1 <;> simp [inB, h, hb]
    rw [hb1]
    generalize nameOk s = x
    generalize nameOk t = y
    generalize isWordB a = u
    generalize hw : inB k 1 9 = w
    generalize decide (b ≤ 1) = z1
    generalize decide (b = 0) = z0
    cases w with
    | false => simp only [brB_t, brB_f]; exact ⟨by simp, by first | rfl | trivial⟩
    | true =>
    cases u with
    | false => simp only [brB_t, brB_f]; exact ⟨by simp, by first | rfl | trivial⟩
    | true =>
    simp only [brB_t, brB_f, Bool.true_and]
    clear hw hv hb1 hb h1 h2
    by_cases p1 : k ≤ 6 <;> by_cases p0 : 7 ≤ k <;> by_cases p2 : k = 2 <;> by_cases p3 : k = 3 <;> by_cases p4 : k = 4 <;> by_cases p7 : k = 7 <;> first
      | omega
      | (simp only [p0, p1, p2, p3, p4, p7, if_true, if_false, reduceIte, or_true, true_or, or_false, false_or]
         by_cases q : a = 0 <;> by_cases q3 : s = bs0 <;> by_cases q4 : t = bs0 <;> (try simp only [q, q3, q4, if_true, if_false, reduceIte, decide_true, decide_false]) <;> cases x <;> cases y <;> (try simp only [brB_t, brB_f, Bool.and_true, Bool.and_false, Bool.true_and, Bool.false_and]) <;> (first | exact ⟨rfl, by first | rfl | trivial⟩ | simp))
theorem run_impl_joined (l : List (List Int)) (hl : l.length ≤ 1000) (ht : l.flatten.length ≤ 1073741824) : RunF C impl_joined [.c (.sub 1 (l.map bytesC))] (vBytes l.flatten) [] := by
  refine (f_impl_joined _ _ ?_).run
  have key : ∀ acc : List Int, acc ++ (l.drop 0).flatten = l.flatten → LoopG C impl_joined pRRLRB 4 0 (s_impl_joined_0 (l.map bytesC) ((0 : Nat) : Int) (acc.map byteC)) (fun x st => AftF C impl_joined pRRLRB x st fun r fs => r = vBytes l.flatten ∧ fs = []) := by
    refine idx_walk l (fun i => ∀ acc : List Int, acc ++ (l.drop i).flatten = l.flatten → LoopG C impl_joined pRRLRB 4 0 (s_impl_joined_0 (l.map bytesC) (i : Int) (acc.map byteC)) _) ?_ ?_
    · intro acc h
      rw [List.drop_length, List.flatten_nil, List.append_nil] at h
      exact r_impl_joined_0 _ _ _ _ (brB_no (by simp) (a_impl_joined_1 _ _ _ _ _ _ ⟨by rw [h], rfl⟩))
    · intro i a hi ha hd htk hn acc h
      rw [hd, List.flatten_cons, ← List.append_assoc] at h
      have hlen : (acc ++ a).length ≤ l.flatten.length := by have := congrArg List.length h; simp only [List.length_append] at this ⊢; omega
      rw [List.length_append] at hlen
      refine r_impl_joined_0 _ _ _ _ (brB_yes (by simp <;> omega) ⟨a.map byteC, by rw [rowAt_mapZ, getZ_nat, ha]; rfl, brB_yes (by rw [allSc_byte, fitsT (by simp only [List.length_map, Nat.add_eq]; omega)]; rfl) ?_⟩)
      rw [addW_eq (by omega), show List.append (acc.map byteC) (a.map byteC) = (acc ++ a).map byteC from (List.map_append ..).symm]
      exact hn (acc ++ a) h
  exact key [] rfl
theorem run_impl_PutW (b : List Int) (n : Int) (hb : b.length ≤ 1073740824) : RunF C impl_PutW [vBytes b, vI n] (vBytes (putW b n)) [] := by
  refine (f_impl_PutW _ _ _ ⟨_, run_impl_joined [b, [wrapI .u8 (bitI .and .i64 (shrI .i64 n 8) 255), wrapI .u8 (bitI .and .i64 n 255)]] (by simp) (by simp <;> omega), ?_⟩).run
  rw [wrap_and, wrap_and]
  exact ⟨by simp [putW], rfl⟩
theorem run_spec_PutW (b : List Int) (n : Int) (hb : b.length ≤ 1073740824) : RunF C spec_PutW [vBytes b, vI n] (vBytes (putW b n)) [] := by
  refine (f_spec_PutW _ _ _ (brB_yes (by rw [allSc_byte, fitsT (by simp <;> omega)]; rfl) (brB_yes ?_ ?_))).run
  · rw [fitsT (by simp <;> omega), Bool.and_true]
    exact allSc_byte [_, _]
  · exact ⟨by unfold putW vBytes; rw [List.map_append]; rfl, rfl⟩
theorem run_impl_PutText (b : List Int) (s : ByteArray) (hb : b.length ≤ 1073740000) : RunF C impl_PutText [vBytes b, vS s] (vBytes (putText b s)) [] := by
  refine (f_impl_PutText _ _ _ ?_).run
  rw [strLen]
  by_cases h : 60 < s.size
  · refine brB_yes (by simp <;> omega) ⟨_, run_impl_joined [b] (by simp) (by simp <;> omega), ?_⟩
    exact ⟨by unfold putText; rw [if_pos h]; simp, rfl⟩
  · refine brB_no (by simp <;> omega) ⟨_, run_impl_PutW b s.size (by omega), brB_yes (fitsT (by omega)) ?_⟩
    rw [strRows]
    refine ⟨_, run_impl_joined [putW b s.size, strB s] (by simp) (by simp [putW_len, strB_len] <;> omega), ?_⟩
    exact ⟨by unfold putText; rw [if_neg h]; simp, rfl⟩
theorem run_spec_PutText (b : List Int) (s : ByteArray) (hb : b.length ≤ 1073740000) : RunF C spec_PutText [vBytes b, vS s] (vBytes (putText b s)) [] := by
  refine (f_spec_PutText _ _ _ ?_).run
  rw [strLen]
  by_cases h : 60 < s.size
  · refine brB_yes (by simp <;> omega) (brB_yes (by rw [allSc_byte, fitsT (by simp <;> omega)]; rfl) ?_)
    exact ⟨by unfold putText; rw [if_pos h], rfl⟩
  · refine brB_no (by simp <;> omega) ⟨_, run_spec_PutW b s.size (by omega), brB_yes (fitsT (by simp [putW_len] <;> omega)) ?_⟩
    rw [strRows]
    exact ⟨by unfold putText; rw [if_neg h]; unfold vBytes; rw [List.map_append]; rfl, rfl⟩
theorem run_impl_PutOp (b : List Int) (o : Opn) (hb : b.length ≤ 1073730000) (h1 : o.name.size ≤ 1073741824) (h2 : o.to.size ≤ 1073741824) : RunF C impl_PutOp [vBytes b, .ag (opC o)] (vBytes (putOp b o)) [] := by
  refine (f_impl_PutOp _ _ _ _ _ _ _ ⟨_, run_impl_OpOk o (by omega) (by omega), ?_⟩).run
  cases h : opOk o with
  | false =>
    refine brB_yes rfl ⟨_, run_impl_joined [b] (by simp) (by simp <;> omega), ?_⟩
    exact ⟨by unfold putOp; rw [if_neg (by rw [h]; simp)]; simp, rfl⟩
  | true =>
    have l1 := putText_len (b ++ [wrapI .u8 o.kind]) o.name
    have l2 := putText_len (putText (b ++ [wrapI .u8 o.kind]) o.name) o.to
    rw [List.length_append, List.length_singleton] at l1
    have l0 : (b ++ [wrapI .u8 o.kind]).length = b.length + 1 := by simp
    refine brB_no rfl ⟨_, run_impl_joined [b, [wrapI .u8 o.kind]] (by simp) (by simp <;> omega), ?_⟩
    rw [show [b, [wrapI .u8 o.kind]].flatten = b ++ [wrapI .u8 o.kind] from by simp]
    refine ⟨_, run_impl_PutText _ o.name (by omega), _, run_impl_PutText _ o.to (by omega), _, run_impl_PutW _ o.a (by omega), _, run_impl_PutW _ o.b (by rw [putW_len]; omega), ?_⟩
    exact ⟨by unfold putOp; rw [if_pos h], rfl⟩
theorem run_spec_PutOp (b : List Int) (o : Opn) (hb : b.length ≤ 1073730000) (h1 : o.name.size ≤ 1073741824) (h2 : o.to.size ≤ 1073741824) : RunF C spec_PutOp [vBytes b, .ag (opC o)] (vBytes (putOp b o)) [] := by
  refine (f_spec_PutOp _ _ _ _ _ _ _ (brB_yes (by rw [allSc_byte, fitsT (by simp <;> omega)]; rfl) ⟨_, run_spec_OpOk o (by omega) (by omega), ?_⟩)).run
  cases h : opOk o with
  | false => exact brB_yes rfl ⟨by unfold putOp; rw [if_neg (by rw [h]; simp)], rfl⟩
  | true =>
    have l1 := putText_len (b ++ [wrapI .u8 o.kind]) o.name
    have l2 := putText_len (putText (b ++ [wrapI .u8 o.kind]) o.name) o.to
    rw [List.length_append, List.length_singleton] at l1
    have l0 : (b ++ [wrapI .u8 o.kind]).length = b.length + 1 := by simp
    refine brB_no rfl (brB_yes ?_ ?_)
    · rw [fitsT (by simp <;> omega), Bool.and_true]
      exact allSc_byte [_]
    · rw [show List.append (b.map byteC) [[TC.sc (Value.int IntKind.u8 (wrapI IntKind.u8 o.kind))]] = (b ++ [wrapI .u8 o.kind]).map byteC from by rw [List.map_append]; rfl]
      refine ⟨_, run_spec_PutText _ o.name (by omega), _, run_spec_PutText _ o.to (by omega), _, run_spec_PutW _ o.a (by omega), _, run_spec_PutW _ o.b (by rw [putW_len]; omega), ?_⟩
      exact ⟨by unfold putOp; rw [if_pos h], rfl⟩
theorem eqI30 : eqI 3 0 = false := by simp
def mkByte (_ : Int) (k : Int) : Int := wrapI .u8 k
def wByte (_ : Int) : Nat := 1
theorem markByteS (l : List (Int)) (k : Int) (h0 : 0 ≤ k) (hk : k + tot wByte l ≤ 2305843009213693952) (hl : l.length ≤ 1099511627776) : RunF C laws_markByteS [vBytes l, vI k] (vI (k + tot wByte l)) [vBytes (markG mkByte wByte l k)] := by
  refine (f_laws_markByteS _ _ _ ?_).run
  refine mark_loop (e := byteC) mkByte wByte (fun k i rows => LoopG C laws_markByteS pRLRB 4 0 (s_laws_markByteS_0 k i rows) _) 2305843009213693952 ?_ l [] k h0 hk (by simpa using hl) ?_
  · intro d a r k h0 hk hd hn
    have hw : wByte a = 1 := rfl
    rw [hw] at hk hn
    refine r_laws_markByteS_0 _ _ _ _ (brB_yes (by simp; omega) ?_)
    simp (disch := omega) only [addW_eq]
    simp only [ex_byte, sr_byte, getZ_mod, ex_some_map, getZ_mid, Option.some.injEq, exists_eq_left', exists_eq_left, mod_mod, eqI30, brB_f, brB_not]
    rw [mod_mid]
    rw [show (k + 1 : Int) = k + ((1 : Nat) : Int) by omega]
    exact hn
  · refine r_laws_markByteS_0 _ _ _ _ (brB_no (by simp [markG_len]) (a_laws_markByteS_1 _ _ _ _ _ ⟨rfl, by first | rfl | trivial⟩))
theorem heldByteS (l : List (Int)) (k : Int) (h0 : 0 ≤ k) (hk : k + tot wByte l ≤ 2305843009213693952) (hl : l.length ≤ 1099511627776) : RunF C laws_heldByteS [vBytes (markG mkByte wByte l k), vI k] (vI (k + tot wByte l)) [] := by
  refine (f_laws_heldByteS _ _ _ ?_).run
  refine held_loop (e := byteC) mkByte wByte (fun k i rows => LoopG C laws_heldByteS pRLRB 4 0 (s_laws_heldByteS_0 rows k i) _) 2305843009213693952 ?_ l [] k h0 hk (by simpa using hl) ?_
  · intro d a r k h0 hk hd hn
    have hw : wByte a = 1 := rfl
    rw [hw] at hk hn
    refine r_laws_heldByteS_0 _ _ _ _ (brB_yes (by simp; omega) ?_)
    simp (disch := omega) only [addW_eq]
    simp only [ex_byte, getZ_mod, ex_some_map, getZ_mid, Option.some.injEq, exists_eq_left', exists_eq_left, mod_mod, eqI30, brB_f, brB_not, mkByte, eqI_eq, eqS_eq, eqB_eq, brB_dec, if_true, decide_true, Bool.not_true]
    rw [show (k + 1 : Int) = k + ((1 : Nat) : Int) by omega]
    exact hn
  · refine r_laws_heldByteS_0 _ _ _ _ (brB_no (by simp [markG_len]) (a_laws_heldByteS_2 _ _ _ _ _ ⟨rfl, by first | rfl | trivial⟩))
theorem len_of {n z : Nat} (h : n * z ≤ reachBytes) (hz : 1 ≤ z) : n ≤ 140737488355328 := by
  have : reachBytes ≤ 140737488355328 := by decide
  have h2 : n * 1 ≤ n * z := Nat.mul_le_mul_left n hz
  omega
theorem byte_in {r : List TC} (h : WfT C.tt t_uint8 r) : ∃ n : Int, r = byteC n ∧ (0 ≤ n ∧ n ≤ 255) := by
  obtain ⟨n, rfl, h1⟩ := h.int_inv (k := .u8) (by kernel_rfl)
  exact ⟨n, rfl, u8_wf h1⟩
theorem op_in {r : List TC} (h : WfT C.tt t_laws_Op r) : ∃ x : Opn, r = opC x ∧ x.name.size ≤ 140737488355328 ∧ x.to.size ≤ 140737488355328 := by
  obtain ⟨q0, r0, rfl, h0, k0⟩ := (h.struct_inv (fs := [(0, 3), (1, 9), (2, 9), (3, 3), (4, 3)]) (by kernel_rfl)).cons_inv
  obtain ⟨q1, r1, rfl, h1, k1⟩ := k0.cons_inv
  obtain ⟨q2, r2, rfl, h2, k2⟩ := k1.cons_inv
  obtain ⟨q3, r3, rfl, h3, k3⟩ := k2.cons_inv
  obtain ⟨q4, r4, rfl, h4, k4⟩ := k3.cons_inv
  have e := k4.nil_inv
  subst e
  obtain ⟨v0, rfl, u0⟩ := h0.int_inv (k := .i64) (by kernel_rfl)
  obtain ⟨v1, rfl, z1⟩ := h1.str_inv (by kernel_rfl)
  obtain ⟨v2, rfl, z2⟩ := h2.str_inv (by kernel_rfl)
  obtain ⟨v3, rfl, u3⟩ := h3.int_inv (k := .i64) (by kernel_rfl)
  obtain ⟨v4, rfl, u4⟩ := h4.int_inv (k := .i64) (by kernel_rfl)
  exact ⟨⟨v0, v1, v2, v3, v4⟩, rfl, ⟨Nat.le_trans z1 (by decide), Nat.le_trans z2 (by decide)⟩⟩
theorem bytes_rows {r : List TC} (h : WfT C.tt t_S_uint8 r) : ∃ l : List (Int), r = [.sub 1 (l.map byteC)] ∧ l.length ≤ 140737488355328 ∧ ∀ x ∈ l, 0 ≤ x ∧ x ≤ 255 := by
  obtain ⟨w, rfl, y, z⟩ := h.slice_inv (e := t_uint8) (by kernel_rfl)
  obtain ⟨l, rfl, hl⟩ := rows_typed fun r hr => byte_in (y r hr)
  rw [List.length_map] at z
  exact ⟨l, rfl, len_of z (by decide +kernel), hl⟩
theorem v_bytes {v : TV} (h : WfV C.tt t_S_uint8 v) : ∃ l : List Int, v = vBytes l ∧ l.length ≤ 140737488355328 ∧ ∀ x ∈ l, 0 ≤ x ∧ x ≤ 255 := by
  have ht : (C.tt t_S_uint8).ti = .slice 5 := by kernel_rfl
  cases h with
  | c _ hw =>
    obtain ⟨l, h1, h2, h3⟩ := bytes_rows hw
    cases h1
    exact ⟨l, rfl, h2, h3⟩
  | ag h1 _ => rw [ht] at h1; cases h1
theorem v_op {v : TV} (h : WfV C.tt t_laws_Op v) : ∃ x : Opn, v = .ag (opC x) ∧ (x.name.size ≤ 140737488355328 ∧ x.to.size ≤ 140737488355328) := by
  have ht : (C.tt t_laws_Op).ti = .struct [(0, 3), (1, 9), (2, 9), (3, 3), (4, 3)] := by kernel_rfl
  cases h with
  | c hs hw => exact absurd ht (hs _)
  | ag _ hw =>
    obtain ⟨x, rfl, hx⟩ := op_in hw
    exact ⟨x, rfl, hx⟩
theorem lft_ok {a : Int} {n : Nat} (h : ltI (lft a n) 0 = false) (h0 : 0 ≤ a ∧ a ≤ 1048576) : (n : Int) ≤ a ∧ (0 ≤ lft a n ∧ lft a n ≤ 1048576) ∧ lft a n = a - n := by
  rw [ltI_eq] at h
  have h : ¬ lft a n < 0 := of_decide_eq_false h
  unfold lft at *
  split at h <;> simp_all <;> omega
theorem ltI_no {a b : Int} (h : ltI a b = false) : b ≤ a := by
  rw [ltI_eq] at h
  have := of_decide_eq_false h
  omega
theorem wBytes_le (l : List Int) : tot wByte l = 1 * l.length := tot_const 1 l
theorem law_PutOp (b : List Int) (w_b : b.length ≤ 140737488355328) (o : Opn) (w_o : o.name.size ≤ 140737488355328 ∧ o.to.size ≤ 140737488355328) : RunF C laws_FnExactPutOp [vBytes b, .ag (opC o)] (vB true) [] := by
  refine (f_laws_FnExactPutOp _ _ _ _ _ _ _ ?_).run
  obtain ⟨w1_o, w2_o⟩ := w_o
  refine brB_both (fun _ => ⟨rfl, by first | rfl | trivial⟩) fun hn0 => ?_
  have hn0 := ltI_no hn0
  refine ⟨_, szOp_run _ _ _ _ _ _ (by first | omega | assumption) (by omega) (by omega), ?_⟩
  refine brB_both (fun _ => ⟨rfl, by first | rfl | trivial⟩) fun hz1 => ?_
  obtain ⟨hz1a, hz1b, hz1c⟩ := lft_ok hz1 (by first | omega | assumption)
  have hb0 : b.length ≤ 1048576 := by have h := hn0; simp only [List.length_map] at h; exact Int.ofNat_le.1 h
  have hr := putOp_len b o
  have hw := wBytes_le b
  have hw2 := wBytes_le (putOp b o)
  refine ⟨_, toByteS _ (by omega), ?_⟩
  refine ⟨_, _, _, _, _, toOp _ _ _ _ _, ?_⟩
  refine ⟨_, run_spec_PutOp b o (by omega) (by omega) (by omega), ?_⟩
  refine ⟨_, toByteS _ (by omega), ?_⟩
  refine ⟨_, _, _, _, _, toOp _ _ _ _ _, ?_⟩
  refine ⟨_, run_impl_PutOp b o (by omega) (by omega) (by omega), ?_⟩
  refine ⟨_, eqByteS _ (by omega), ?_⟩
  refine brB_no (by first | rfl | (simp; done) | (simp; omega)) ?_
  refine ⟨_, toByteS _ (by omega), ?_⟩
  refine ⟨_, eqByteS _ (by omega), ?_⟩
  refine brB_no (by first | rfl | (simp; done) | (simp; omega)) ?_
  refine ⟨_, _, markByteS _ 1 (by omega) (by omega) (by omega), ?_⟩
  refine brB_no (by first | rfl | (simp; done) | (simp; omega)) ?_
  refine ⟨_, eqByteS _ (by omega), ?_⟩
  refine brB_no (by first | rfl | (simp; done) | (simp; omega)) ?_
  refine ⟨_, _, markByteS _ 1 (by omega) (by omega) (by omega), ?_⟩
  refine ⟨_, heldByteS _ 1 (by omega) (by omega) (by omega), ?_⟩
  refine brB_no (by first | rfl | (simp; done) | (simp; omega)) ?_
  refine brB_no (by first | rfl | (simp; done) | (simp; omega)) ?_
  refine ⟨_, toByteS _ (by omega), ?_⟩
  refine ⟨_, _, _, _, _, toOp _ _ _ _ _, ?_⟩
  refine ⟨_, run_impl_PutOp b o (by omega) (by omega) (by omega), ?_⟩
  refine ⟨_, eqByteS _ (by omega), ?_⟩
  refine brB_no (by first | rfl | (simp; done) | (simp; omega)) ?_
  refine ⟨_, heldByteS _ 1 (by omega) (by omega) (by omega), ?_⟩
  refine brB_no (by first | rfl | (simp; done) | (simp; omega)) ?_
  refine brB_no (by first | rfl | (simp; done) | (simp; omega)) ?_
  exact ⟨rfl, by first | rfl | trivial⟩
theorem all_PutOp (vs : List TV) (h : WfVs C.tt [t_S_uint8, t_laws_Op] vs) : ∃ k, callP C k laws_FnExactPutOp vs (vB true) [] := by
  cases h with
  | cons h0 h => 
    cases h with
    | cons h1 h => 
      cases h
      obtain ⟨b, rfl, wb, _⟩ := v_bytes h0
      obtain ⟨o, rfl, wo⟩ := v_op h1
      exact law_PutOp b wb o wo
end Go.T.R
