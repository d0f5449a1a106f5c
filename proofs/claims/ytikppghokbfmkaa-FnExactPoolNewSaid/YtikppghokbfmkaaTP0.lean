/- What the functions answer. -/
import Derived.Test.YtikppghokbfmkaaTR0
set_option linter.unusedVariables false
set_option linter.unusedSimpArgs false
set_option maxRecDepth 100000
namespace Go.T.R
open Go Go.T
theorem eqKey (v0 : Int) (v1 : Int) (v2 : Int) (v3 : Int) (v4 : Int) : RunF C laws_eqKey [.ag [iI v0, iI v1, iI v2, iI v3, iI v4], .ag [iI v0, iI v1, iI v2, iI v3, iI v4]] (vB true) [] := by
  refine (f_laws_eqKey _ _ _ _ _ _ _ _ _ _ _ ?_).run
  simp
theorem eqKeyS (l : List (Key)) (hl : l.length ≤ 1099511627776) : RunF C laws_eqKeyS [vKeys l, vKeys l] (vB true) [] := by
  refine (f_laws_eqKeyS _ _ _ ?_).run
  refine brB_no (by simp) ?_
  refine idx_walk l (fun i => LoopG C laws_eqKeyS pRRLRB 4 0 (s_laws_eqKeyS_0 (l.map keyC) (l.map keyC) i) _) ?_ ?_
  · exact r_laws_eqKeyS_0 _ _ _ _ (brB_no (by simp) (a_laws_eqKeyS_2 _ _ _ _ _ ⟨rfl, rfl⟩))
  · intro i a hi ha _ _ hn
    refine r_laws_eqKeyS_0 _ _ _ _ (brB_yes (by simp; omega) ⟨_, _, _, _, _, rowAt_map ha, _, _, _, _, _, rowAt_map ha, _, eqKey _ _ _ _ _, brB_no (by simp) ?_⟩)
    rw [addW_eq (by omega)]
    exact hn
theorem eqAge (v0 : Int) (v1 : Int) : RunF C laws_eqAge [.ag [iI v0, iI v1], .ag [iI v0, iI v1]] (vB true) [] := by
  refine (f_laws_eqAge _ _ _ _ _ ?_).run
  simp
theorem eqAgeS (l : List (Age)) (hl : l.length ≤ 1099511627776) : RunF C laws_eqAgeS [vAges l, vAges l] (vB true) [] := by
  refine (f_laws_eqAgeS _ _ _ ?_).run
  refine brB_no (by simp) ?_
  refine idx_walk l (fun i => LoopG C laws_eqAgeS pRRLRB 4 0 (s_laws_eqAgeS_0 (l.map ageC) (l.map ageC) i) _) ?_ ?_
  · exact r_laws_eqAgeS_0 _ _ _ _ (brB_no (by simp) (a_laws_eqAgeS_2 _ _ _ _ _ ⟨rfl, rfl⟩))
  · intro i a hi ha _ _ hn
    refine r_laws_eqAgeS_0 _ _ _ _ (brB_yes (by simp; omega) ⟨_, _, rowAt_map ha, _, _, rowAt_map ha, _, eqAge _ _, brB_no (by simp) ?_⟩)
    rw [addW_eq (by omega)]
    exact hn
theorem eqCell (v0 : Int) (v1 : Bool) (v2 : Int) : RunF C laws_eqCell [.ag [iI v0, iB v1, iI v2], .ag [iI v0, iB v1, iI v2]] (vB true) [] := by
  refine (f_laws_eqCell _ _ _ _ _ _ _ ?_).run
  simp
theorem eqCellS (l : List (Cell)) (hl : l.length ≤ 1099511627776) : RunF C laws_eqCellS [vCells l, vCells l] (vB true) [] := by
  refine (f_laws_eqCellS _ _ _ ?_).run
  refine brB_no (by simp) ?_
  refine idx_walk l (fun i => LoopG C laws_eqCellS pRRLRB 4 0 (s_laws_eqCellS_0 (l.map cellC) (l.map cellC) i) _) ?_ ?_
  · exact r_laws_eqCellS_0 _ _ _ _ (brB_no (by simp) (a_laws_eqCellS_2 _ _ _ _ _ ⟨rfl, rfl⟩))
  · intro i a hi ha _ _ hn
    refine r_laws_eqCellS_0 _ _ _ _ (brB_yes (by simp; omega) ⟨_, _, _, rowAt_map ha, _, _, _, rowAt_map ha, _, eqCell _ _ _, brB_no (by simp) ?_⟩)
    rw [addW_eq (by omega)]
    exact hn
theorem eqVol (v0 : ByteArray) (v1 : Int) (v2 : Int) (v3 : Bool) : RunF C laws_eqVol [.ag [iS v0, iI v1, iI v2, iB v3], .ag [iS v0, iI v1, iI v2, iB v3]] (vB true) [] := by
  refine (f_laws_eqVol _ _ _ _ _ _ _ _ _ ?_).run
  simp
theorem eqVolS (l : List (Vol)) (hl : l.length ≤ 1099511627776) : RunF C laws_eqVolS [vVols l, vVols l] (vB true) [] := by
  refine (f_laws_eqVolS _ _ _ ?_).run
  refine brB_no (by simp) ?_
  refine idx_walk l (fun i => LoopG C laws_eqVolS pRRLRB 4 0 (s_laws_eqVolS_0 (l.map volC) (l.map volC) i) _) ?_ ?_
  · exact r_laws_eqVolS_0 _ _ _ _ (brB_no (by simp) (a_laws_eqVolS_2 _ _ _ _ _ ⟨rfl, rfl⟩))
  · intro i a hi ha _ _ hn
    refine r_laws_eqVolS_0 _ _ _ _ (brB_yes (by simp; omega) ⟨_, _, _, _, rowAt_map ha, _, _, _, _, rowAt_map ha, _, eqVol _ _ _ _, brB_no (by simp) ?_⟩)
    rw [addW_eq (by omega)]
    exact hn
theorem eqIntS (l : List (Int)) (hl : l.length ≤ 1099511627776) : RunF C laws_eqIntS [vInts l, vInts l] (vB true) [] := by
  refine (f_laws_eqIntS _ _ _ ?_).run
  refine brB_no (by simp) ?_
  refine idx_walk l (fun i => LoopG C laws_eqIntS pRRLRB 4 0 (s_laws_eqIntS_0 (l.map intC) (l.map intC) i) _) ?_ ?_
  · exact r_laws_eqIntS_0 _ _ _ _ (brB_no (by simp) (a_laws_eqIntS_2 _ _ _ _ _ ⟨rfl, rfl⟩))
  · intro i a hi ha _ _ hn
    refine r_laws_eqIntS_0 _ _ _ _ (brB_yes (by simp; omega) ⟨_, rowAt_map ha, _, rowAt_map ha, brB_no (by simp) ?_⟩)
    rw [addW_eq (by omega)]
    exact hn
def NodeB (n : List (List Key)) : Prop := n.length ≤ 1099511627776 ∧ ∀ s ∈ n, s.length ≤ 1099511627776
def NodesB (l : List (List (List Key))) : Prop := l.length ≤ 1099511627776 ∧ ∀ n ∈ l, NodeB n
def TreeB (t : Tree) : Prop := t.lows.length ≤ 1099511627776 ∧ NodesB t.nodes
theorem eqKeySS (l : List (List Key)) (hl : l.length ≤ 1099511627776) (hs : ∀ s ∈ l, s.length ≤ 1099511627776) : RunF C laws_eqKeySS [vSets l, vSets l] (vB true) [] := by
  refine (f_laws_eqKeySS _ _ _ ?_).run
  refine brB_no (by simp) ?_
  refine idx_walk l (fun i => LoopG C laws_eqKeySS pRRLRB 4 0 (s_laws_eqKeySS_0 (l.map setC) (l.map setC) i) _) ?_ ?_
  · exact r_laws_eqKeySS_0 _ _ _ _ (brB_no (by simp) (a_laws_eqKeySS_2 _ _ _ _ _ ⟨rfl, rfl⟩))
  · intro i a hi ha _ _ hn
    refine r_laws_eqKeySS_0 _ _ _ _ (brB_yes (by simp; omega) ⟨_, rowAt_map ha, _, rowAt_map ha, _, eqKeyS _ (hs _ (List.mem_of_getElem? ha)), brB_no (by simp) ?_⟩)
    rw [addW_eq (by omega)]
    exact hn
theorem eqNode (n : List (List Key)) (h : NodeB n) : RunF C laws_eqNode [vNode n, vNode n] (vB true) [] := (f_laws_eqNode _ _ _ ⟨_, eqKeySS n h.1 h.2, by simp⟩).run
theorem eqNodeS (l : List (List (List Key))) (hl : l.length ≤ 1099511627776) (hs : ∀ n ∈ l, NodeB n) : RunF C laws_eqNodeS [vNodes l, vNodes l] (vB true) [] := by
  refine (f_laws_eqNodeS _ _ _ ?_).run
  refine brB_no (by simp) ?_
  refine idx_walk l (fun i => LoopG C laws_eqNodeS pRRLRB 4 0 (s_laws_eqNodeS_0 (l.map nodeC) (l.map nodeC) i) _) ?_ ?_
  · exact r_laws_eqNodeS_0 _ _ _ _ (brB_no (by simp) (a_laws_eqNodeS_2 _ _ _ _ _ ⟨rfl, rfl⟩))
  · intro i a hi ha _ _ hn
    refine r_laws_eqNodeS_0 _ _ _ _ (brB_yes (by simp; omega) ⟨_, rowAt_map ha, _, rowAt_map ha, _, eqNode _ (hs _ (List.mem_of_getElem? ha)), brB_no (by simp) ?_⟩)
    rw [addW_eq (by omega)]
    exact hn
theorem eqTree (t : Tree) (h : TreeB t) : RunF C laws_eqTree [vTree t, vTree t] (vB true) [] := (f_laws_eqTree _ _ _ _ _ ⟨_, eqIntS _ h.1, brB_no rfl ⟨_, eqNodeS _ h.2.1 h.2.2, by simp⟩⟩).run
structure PoolB (p : Pool) : Prop where
  t : TreeB p.t
  ages : p.ages.length ≤ 1099511627776
  cells : p.cells.length ≤ 1099511627776
  vols : p.vols.length ≤ 1099511627776
theorem eqPool (p : Pool) (h : PoolB p) : RunF C laws_eqPool [vPool p, vPool p] (vB true) [] := (f_laws_eqPool _ _ _ _ _ _ _ _ _ _ _ _ _ ⟨_, eqTree p.t h.t, brB_no rfl ⟨_, eqAgeS _ h.ages, brB_no rfl ⟨_, eqCellS _ h.cells, brB_no rfl ⟨_, eqVolS _ h.vols, brB_no rfl (by simp)⟩⟩⟩⟩).run
theorem numI24 : numI 24 = 24 := by unfold numI; rfl
theorem g24 {n : Nat} (h : n ≤ 1000) : (true && eqI 24 24 && leI 0 24 && fits (numI 24) n) = true := by rw [numI24, fitsT (by omega)]; simp
theorem run_spec_PoolNew : RunF C spec_PoolNew [] (vPool poolNew) [] := by
  refine (f_spec_PoolNew _ ?_).run
  refine ⟨_, _, (f_spec_TreeNew _ ⟨rfl, by first | rfl | trivial⟩).run, _, (f_spec_CellsNew _ (brB_yes (g24 (by omega)) ⟨rfl, by first | rfl | trivial⟩)).run, ?_⟩
  rw [numI24]
  exact ⟨rfl, by first | rfl | trivial⟩
theorem run_impl_PoolNew : RunF C impl_PoolNew [] (vPool poolNew) [] := by
  refine (f_impl_PoolNew _ ?_).run
  refine ⟨_, _, (f_impl_TreeNew _ ⟨rfl, by first | rfl | trivial⟩).run, _, (f_impl_CellsNew _ (brB_yes (g24 (by omega)) ⟨rfl, by first | rfl | trivial⟩)).run, ?_⟩
  rw [numI24]
  exact ⟨rfl, by first | rfl | trivial⟩
theorem eqI30 : eqI 3 0 = false := by simp
theorem eqI100 : eqI 10 0 = false := by simp
def mTextF : Nat → Int → ByteArray → ByteArray
  | 0, _, out => out
  | n + 1, k, out => if k ≤ 0 then out else mTextF n (quoI .i64 k 10) (catS (strOf [wrapI .u8 (48 + remI k 10)]) out)
def mText (k : Int) : ByteArray := if k ≤ 0 then ⟨#[109, 48]⟩ else catS ⟨#[109]⟩ (mTextF 19 k bs0)
attribute [local semireducible] byteRows strOf catS in
theorem byteRows1 (n : Int) : byteRows [[TC.sc (.int .u8 n)]] = some [n] := rfl
attribute [local semireducible] strOf in
theorem strOf1 (n : Int) : (strOf [n]).size = 1 := rfl
attribute [local semireducible] catS in
theorem catS_size (a b : ByteArray) : (catS a b).size = a.size + b.size := by show (a ++ b).size = _; simp
attribute [local semireducible] quoI in
theorem quoI_eq {a b : Int} (h0 : 0 ≤ a) (h1 : a ≤ 9223372036854775807) : quoI .i64 a 10 = a / 10 := by
  show IntKind.i64.wrap (a.tdiv 10) = _
  rw [Int.tdiv_eq_ediv_of_nonneg h0]
  exact IntWalk.i64_in _ (by omega)
theorem mTextF_neg (n : Nat) (k : Int) (out : ByteArray) (h : k ≤ 0) : mTextF n k out = out := by cases n <;> simp [mTextF, h]
theorem run_markText (k : Int) (hk : k ≤ 2305843009213693952) : RunF C laws_markText [vI k] (vS (mText k)) [] := by
  refine (f_laws_markText _ _ ?_).run
  unfold mText
  simp only [leI_eq, brB_dec]
  by_cases h : k ≤ 0
  · rw [if_pos h, if_pos h]; exact ⟨rfl, by first | rfl | trivial⟩
  · rw [if_neg h, if_neg h]
    have key : ∀ (F : ByteArray) (n : Nat) (k' : Int) (out : ByteArray), k' < 10 ^ n → k' ≤ 2305843009213693952 → out.size + n ≤ 100 → mTextF n k' out = F → LoopG C laws_markText pRRRLB 4 0 (s_laws_markText_0 k' out) (fun u st => AftF C laws_markText pRRRLB u st fun r fs => r = vS (catS ⟨#[109]⟩ F) ∧ fs = []) := by
      intro F n
      induction n with
      | zero =>
        intro k' out h1 h2 h3 h4
        refine r_laws_markText_0 _ _ _ (brB_no (by simp at h1 ⊢; omega) (a_laws_markText_1 _ _ _ _ ?_))
        simp only [mTextF] at h4
        subst h4
        refine brB_yes (fitsT (by simp only [natAdd, strLen]; omega)) ⟨rfl, by first | rfl | trivial⟩
      | succ n ih =>
        intro k' out h1 h2 h3 h4
        by_cases h0 : k' ≤ 0
        · rw [mTextF_neg _ _ _ h0] at h4
          subst h4
          exact r_laws_markText_0 _ _ _ (brB_no (by simp; omega) (a_laws_markText_1 _ _ _ _ (brB_yes (fitsT (by simp only [natAdd, strLen]; omega)) ⟨rfl, by first | rfl | trivial⟩)))
        · simp only [mTextF, if_neg h0] at h4
          have hr : 0 ≤ remI k' 10 ∧ remI k' 10 ≤ 9 := by rw [remI_eq, Int.tmod_eq_emod_of_nonneg (by omega)]; omega
          refine r_laws_markText_0 _ _ _ (brB_yes (by simp; omega) (brB_no eqI100 ⟨_, byteRows1 _, brB_yes (fitsT (by simp only [natAdd, strLen, strOf1]; omega)) (brB_no eqI100 ?_)⟩))
          rw [addW_eq (by omega)]
          refine ih _ _ ?_ ?_ ?_ h4
          · rw [quoI_eq (b := 0) (by omega) (by omega)]
            have : (10 : Int) ^ (n + 1) = 10 ^ n * 10 := Int.pow_succ ..
            omega
          · rw [quoI_eq (b := 0) (by omega) (by omega)]; omega
          · rw [catS_size, strOf1]; omega
    exact key _ 19 k bs0 (by rw [show (10 : Int) ^ 19 = 10000000000000000000 from by decide]; omega) hk (by decide) rfl
theorem c_markText (k : Int) (hk : k ≤ 2305843009213693952) (q : ByteArray) : RunF C laws_markText [vI k] (vS q) [] ↔ q = mText k := iffS (run_markText k hk)
def mkInt (_ : Int) (k : Int) : Int := k
def wInt (_ : Int) : Nat := 1
theorem markIntS (l : List (Int)) (k : Int) (h0 : 0 ≤ k) (hk : k + tot wInt l ≤ 2305843009213693952) (hl : l.length ≤ 1099511627776) : RunF C laws_markIntS [vInts l, vI k] (vI (k + tot wInt l)) [vInts (markG mkInt wInt l k)] := by
  refine (f_laws_markIntS _ _ _ ?_).run
  refine mark_loop (e := intC) mkInt wInt (fun k i rows => LoopG C laws_markIntS pRLRB 4 0 (s_laws_markIntS_0 k i rows) _) 2305843009213693952 ?_ l [] k h0 hk (by simpa using hl) ?_
  · intro d a r k h0 hk hd hn
    have hw : wInt a = 1 := rfl
    rw [hw] at hk hn
    refine r_laws_markIntS_0 _ _ _ _ (brB_yes (by simp; omega) ?_)
    simp (disch := omega) only [addW_eq]
    simp only [ex_int, sr_int, getZ_mod, ex_some_map, getZ_mid, Option.some.injEq, exists_eq_left', exists_eq_left, mod_mod, eqI30, brB_f, brB_not]
    rw [mod_mid]
    rw [show (k + 1 : Int) = k + ((1 : Nat) : Int) by omega]
    exact hn
  · refine r_laws_markIntS_0 _ _ _ _ (brB_no (by simp [markG_len]) (a_laws_markIntS_1 _ _ _ _ _ ⟨rfl, by first | rfl | trivial⟩))
theorem heldIntS (l : List (Int)) (k : Int) (h0 : 0 ≤ k) (hk : k + tot wInt l ≤ 2305843009213693952) (hl : l.length ≤ 1099511627776) : RunF C laws_heldIntS [vInts (markG mkInt wInt l k), vI k] (vI (k + tot wInt l)) [] := by
  refine (f_laws_heldIntS _ _ _ ?_).run
  refine held_loop (e := intC) mkInt wInt (fun k i rows => LoopG C laws_heldIntS pRLRB 4 0 (s_laws_heldIntS_0 rows k i) _) 2305843009213693952 ?_ l [] k h0 hk (by simpa using hl) ?_
  · intro d a r k h0 hk hd hn
    have hw : wInt a = 1 := rfl
    rw [hw] at hk hn
    refine r_laws_heldIntS_0 _ _ _ _ (brB_yes (by simp; omega) ?_)
    simp (disch := omega) only [addW_eq]
    simp only [ex_int, getZ_mod, ex_some_map, getZ_mid, Option.some.injEq, exists_eq_left', exists_eq_left, mod_mod, eqI30, brB_f, brB_not, mkInt, eqI_eq, eqS_eq, eqB_eq, brB_dec, if_true, decide_true, Bool.not_true]
    rw [show (k + 1 : Int) = k + ((1 : Nat) : Int) by omega]
    exact hn
  · refine r_laws_heldIntS_0 _ _ _ _ (brB_no (by simp [markG_len]) (a_laws_heldIntS_2 _ _ _ _ _ ⟨rfl, by first | rfl | trivial⟩))
def mkKey (_ : Key) (k : Int) : Key := ⟨k, k + 1, k + 1 + 1, k + 1 + 1 + 1, k + 1 + 1 + 1 + 1⟩
def wKey (_ : Key) : Nat := 5
theorem markKeyS (l : List (Key)) (k : Int) (h0 : 0 ≤ k) (hk : k + tot wKey l ≤ 2305843009213693952) (hl : l.length ≤ 1099511627776) : RunF C laws_markKeyS [vKeys l, vI k] (vI (k + tot wKey l)) [vKeys (markG mkKey wKey l k)] := by
  refine (f_laws_markKeyS _ _ _ ?_).run
  refine mark_loop (e := keyC) mkKey wKey (fun k i rows => LoopG C laws_markKeyS pRLRB 4 0 (s_laws_markKeyS_0 k i rows) _) 2305843009213693952 ?_ l [] k h0 hk (by simpa using hl) ?_
  · intro d a r k h0 hk hd hn
    have hw : wKey a = 5 := rfl
    rw [hw] at hk hn
    refine r_laws_markKeyS_0 _ _ _ _ (brB_yes (by simp; omega) ?_)
    simp (disch := omega) only [addW_eq]
    simp only [ex_key, sr_key_b, sr_key_a, sr_key_k, sr_key_c, sr_key_g, sr_key, getZ_mod, ex_some_map, getZ_mid, Option.some.injEq, exists_eq_left', exists_eq_left, mod_mod, eqI30, brB_f, brB_not]
    rw [mod_mid]
    rw [show (k + 1 + 1 + 1 + 1 + 1 : Int) = k + ((5 : Nat) : Int) by omega]
    exact hn
  · refine r_laws_markKeyS_0 _ _ _ _ (brB_no (by simp [markG_len]) (a_laws_markKeyS_1 _ _ _ _ _ ⟨rfl, by first | rfl | trivial⟩))
theorem heldKeyS (l : List (Key)) (k : Int) (h0 : 0 ≤ k) (hk : k + tot wKey l ≤ 2305843009213693952) (hl : l.length ≤ 1099511627776) : RunF C laws_heldKeyS [vKeys (markG mkKey wKey l k), vI k] (vI (k + tot wKey l)) [] := by
  refine (f_laws_heldKeyS _ _ _ ?_).run
  refine held_loop (e := keyC) mkKey wKey (fun k i rows => LoopG C laws_heldKeyS pRLRB 4 0 (s_laws_heldKeyS_0 rows k i) _) 2305843009213693952 ?_ l [] k h0 hk (by simpa using hl) ?_
  · intro d a r k h0 hk hd hn
    have hw : wKey a = 5 := rfl
    rw [hw] at hk hn
    refine r_laws_heldKeyS_0 _ _ _ _ (brB_yes (by simp; omega) ?_)
    simp (disch := omega) only [addW_eq]
    simp only [ex_key, getZ_mod, ex_some_map, getZ_mid, Option.some.injEq, exists_eq_left', exists_eq_left, mod_mod, eqI30, brB_f, brB_not, mkKey, eqI_eq, eqS_eq, eqB_eq, brB_dec, if_true, decide_true, Bool.not_true]
    rw [show (k + 1 + 1 + 1 + 1 + 1 : Int) = k + ((5 : Nat) : Int) by omega]
    exact hn
  · refine r_laws_heldKeyS_0 _ _ _ _ (brB_no (by simp [markG_len]) (a_laws_heldKeyS_2 _ _ _ _ _ ⟨rfl, by first | rfl | trivial⟩))
def mkAge (_ : Age) (k : Int) : Age := ⟨k, k + 1⟩
def wAge (_ : Age) : Nat := 2
theorem markAgeS (l : List (Age)) (k : Int) (h0 : 0 ≤ k) (hk : k + tot wAge l ≤ 2305843009213693952) (hl : l.length ≤ 1099511627776) : RunF C laws_markAgeS [vAges l, vI k] (vI (k + tot wAge l)) [vAges (markG mkAge wAge l k)] := by
  refine (f_laws_markAgeS _ _ _ ?_).run
  refine mark_loop (e := ageC) mkAge wAge (fun k i rows => LoopG C laws_markAgeS pRLRB 4 0 (s_laws_markAgeS_0 k i rows) _) 2305843009213693952 ?_ l [] k h0 hk (by simpa using hl) ?_
  · intro d a r k h0 hk hd hn
    have hw : wAge a = 2 := rfl
    rw [hw] at hk hn
    refine r_laws_markAgeS_0 _ _ _ _ (brB_yes (by simp; omega) ?_)
    simp (disch := omega) only [addW_eq]
    simp only [ex_age, sr_age_id, sr_age_fr, sr_age, getZ_mod, ex_some_map, getZ_mid, Option.some.injEq, exists_eq_left', exists_eq_left, mod_mod, eqI30, brB_f, brB_not]
    rw [mod_mid]
    rw [show (k + 1 + 1 : Int) = k + ((2 : Nat) : Int) by omega]
    exact hn
  · refine r_laws_markAgeS_0 _ _ _ _ (brB_no (by simp [markG_len]) (a_laws_markAgeS_1 _ _ _ _ _ ⟨rfl, by first | rfl | trivial⟩))
theorem heldAgeS (l : List (Age)) (k : Int) (h0 : 0 ≤ k) (hk : k + tot wAge l ≤ 2305843009213693952) (hl : l.length ≤ 1099511627776) : RunF C laws_heldAgeS [vAges (markG mkAge wAge l k), vI k] (vI (k + tot wAge l)) [] := by
  refine (f_laws_heldAgeS _ _ _ ?_).run
  refine held_loop (e := ageC) mkAge wAge (fun k i rows => LoopG C laws_heldAgeS pRLRB 4 0 (s_laws_heldAgeS_0 rows k i) _) 2305843009213693952 ?_ l [] k h0 hk (by simpa using hl) ?_
  · intro d a r k h0 hk hd hn
    have hw : wAge a = 2 := rfl
    rw [hw] at hk hn
    refine r_laws_heldAgeS_0 _ _ _ _ (brB_yes (by simp; omega) ?_)
    simp (disch := omega) only [addW_eq]
    simp only [ex_age, getZ_mod, ex_some_map, getZ_mid, Option.some.injEq, exists_eq_left', exists_eq_left, mod_mod, eqI30, brB_f, brB_not, mkAge, eqI_eq, eqS_eq, eqB_eq, brB_dec, if_true, decide_true, Bool.not_true]
    rw [show (k + 1 + 1 : Int) = k + ((2 : Nat) : Int) by omega]
    exact hn
  · refine r_laws_heldAgeS_0 _ _ _ _ (brB_no (by simp [markG_len]) (a_laws_heldAgeS_2 _ _ _ _ _ ⟨rfl, by first | rfl | trivial⟩))
def mkCell (_ : Cell) (k : Int) : Cell := ⟨k, eqI (remI (k + 1) 3) 0, k + 1 + 1⟩
def wCell (_ : Cell) : Nat := 3
theorem markCellS (l : List (Cell)) (k : Int) (h0 : 0 ≤ k) (hk : k + tot wCell l ≤ 2305843009213693952) (hl : l.length ≤ 1099511627776) : RunF C laws_markCellS [vCells l, vI k] (vI (k + tot wCell l)) [vCells (markG mkCell wCell l k)] := by
  refine (f_laws_markCellS _ _ _ ?_).run
  refine mark_loop (e := cellC) mkCell wCell (fun k i rows => LoopG C laws_markCellS pRLRB 4 0 (s_laws_markCellS_0 k i rows) _) 2305843009213693952 ?_ l [] k h0 hk (by simpa using hl) ?_
  · intro d a r k h0 hk hd hn
    have hw : wCell a = 3 := rfl
    rw [hw] at hk hn
    refine r_laws_markCellS_0 _ _ _ _ (brB_yes (by simp; omega) ?_)
    simp (disch := omega) only [addW_eq]
    simp only [ex_cell, sr_cell_g, sr_cell_u, sr_cell_n, sr_cell, getZ_mod, ex_some_map, getZ_mid, Option.some.injEq, exists_eq_left', exists_eq_left, mod_mod, eqI30, brB_f, brB_not]
    rw [mod_mid]
    rw [show (k + 1 + 1 + 1 : Int) = k + ((3 : Nat) : Int) by omega]
    exact hn
  · refine r_laws_markCellS_0 _ _ _ _ (brB_no (by simp [markG_len]) (a_laws_markCellS_1 _ _ _ _ _ ⟨rfl, by first | rfl | trivial⟩))
theorem heldCellS (l : List (Cell)) (k : Int) (h0 : 0 ≤ k) (hk : k + tot wCell l ≤ 2305843009213693952) (hl : l.length ≤ 1099511627776) : RunF C laws_heldCellS [vCells (markG mkCell wCell l k), vI k] (vI (k + tot wCell l)) [] := by
  refine (f_laws_heldCellS _ _ _ ?_).run
  refine held_loop (e := cellC) mkCell wCell (fun k i rows => LoopG C laws_heldCellS pRLRB 4 0 (s_laws_heldCellS_0 rows k i) _) 2305843009213693952 ?_ l [] k h0 hk (by simpa using hl) ?_
  · intro d a r k h0 hk hd hn
    have hw : wCell a = 3 := rfl
    rw [hw] at hk hn
    refine r_laws_heldCellS_0 _ _ _ _ (brB_yes (by simp; omega) ?_)
    simp (disch := omega) only [addW_eq]
    simp only [ex_cell, getZ_mod, ex_some_map, getZ_mid, Option.some.injEq, exists_eq_left', exists_eq_left, mod_mod, eqI30, brB_f, brB_not, mkCell, eqI_eq, eqS_eq, eqB_eq, brB_dec, if_true, decide_true, Bool.not_true]
    rw [show (k + 1 + 1 + 1 : Int) = k + ((3 : Nat) : Int) by omega]
    simpa [mkCell] using hn
  · refine r_laws_heldCellS_0 _ _ _ _ (brB_no (by simp [markG_len]) (a_laws_heldCellS_2 _ _ _ _ _ ⟨rfl, by first | rfl | trivial⟩))
def mkVol (_ : Vol) (k : Int) : Vol := ⟨mText (k), k + 1, k + 1 + 1, eqI (remI (k + 1 + 1 + 1) 3) 0⟩
def wVol (_ : Vol) : Nat := 4
theorem markVolS (l : List (Vol)) (k : Int) (h0 : 0 ≤ k) (hk : k + tot wVol l ≤ 2305843009213693952) (hl : l.length ≤ 1099511627776) : RunF C laws_markVolS [vVols l, vI k] (vI (k + tot wVol l)) [vVols (markG mkVol wVol l k)] := by
  refine (f_laws_markVolS _ _ _ ?_).run
  refine mark_loop (e := volC) mkVol wVol (fun k i rows => LoopG C laws_markVolS pRLRB 4 0 (s_laws_markVolS_0 k i rows) _) 2305843009213693952 ?_ l [] k h0 hk (by simpa using hl) ?_
  · intro d a r k h0 hk hd hn
    have hw : wVol a = 4 := rfl
    rw [hw] at hk hn
    refine r_laws_markVolS_0 _ _ _ _ (brB_yes (by simp; omega) ?_)
    simp (disch := omega) only [addW_eq]
    simp only [ex_vol, sr_vol_name, sr_vol_age, sr_vol_size, sr_vol_fx, sr_vol, c_markText (k) (by omega), getZ_mod, ex_some_map, getZ_mid, Option.some.injEq, exists_eq_left', exists_eq_left, mod_mod, eqI30, brB_f, brB_not]
    rw [mod_mid]
    rw [show (k + 1 + 1 + 1 + 1 : Int) = k + ((4 : Nat) : Int) by omega]
    exact hn
  · refine r_laws_markVolS_0 _ _ _ _ (brB_no (by simp [markG_len]) (a_laws_markVolS_1 _ _ _ _ _ ⟨rfl, by first | rfl | trivial⟩))
theorem heldVolS (l : List (Vol)) (k : Int) (h0 : 0 ≤ k) (hk : k + tot wVol l ≤ 2305843009213693952) (hl : l.length ≤ 1099511627776) : RunF C laws_heldVolS [vVols (markG mkVol wVol l k), vI k] (vI (k + tot wVol l)) [] := by
  refine (f_laws_heldVolS _ _ _ ?_).run
  refine held_loop (e := volC) mkVol wVol (fun k i rows => LoopG C laws_heldVolS pRLRB 4 0 (s_laws_heldVolS_0 rows k i) _) 2305843009213693952 ?_ l [] k h0 hk (by simpa using hl) ?_
  · intro d a r k h0 hk hd hn
    have hw : wVol a = 4 := rfl
    rw [hw] at hk hn
    refine r_laws_heldVolS_0 _ _ _ _ (brB_yes (by simp; omega) ?_)
    simp (disch := omega) only [addW_eq]
    simp only [ex_vol, c_markText (k) (by omega), getZ_mod, ex_some_map, getZ_mid, Option.some.injEq, exists_eq_left', exists_eq_left, mod_mod, eqI30, brB_f, brB_not, mkVol, eqI_eq, eqS_eq, eqB_eq, brB_dec, if_true, decide_true, Bool.not_true]
    rw [show (k + 1 + 1 + 1 + 1 : Int) = k + ((4 : Nat) : Int) by omega]
    simpa [mkVol] using hn
  · refine r_laws_heldVolS_0 _ _ _ _ (brB_no (by simp [markG_len]) (a_laws_heldVolS_2 _ _ _ _ _ ⟨rfl, by first | rfl | trivial⟩))
def mkKeyS (s : List Key) (k : Int) : List Key := markG mkKey wKey s k
def wKeyS (s : List Key) : Nat := tot wKey s
theorem markKeySS : ∀ (l : List (List Key)) (k : Int) (h0 : 0 ≤ k) (hk : k + tot wKeyS l ≤ 2305843009213693952) (hl : l.length ≤ 1099511627776) (hs : ∀ s ∈ l, s.length ≤ 1099511627776), RunF C laws_markKeySS [vSets l, vI k] (vI (k + tot wKeyS l)) [vSets (markG mkKeyS wKeyS l k)] := by
  intro l k h0 hk hl hs
  refine (f_laws_markKeySS _ _ _ ?_).run
  have key : ∀ (r d : List (List Key)) (k : Int), 0 ≤ k → k + tot wKeyS r ≤ 2305843009213693952 → d.length + r.length ≤ 1099511627776 → (∀ s ∈ r, s.length ≤ 1099511627776) → ∀ (R : TV) (F : List TV), vI (k + tot wKeyS r) = R → [vSets (d ++ markG mkKeyS wKeyS r k)] = F → LoopG C laws_markKeySS pRLRB 4 0 (s_laws_markKeySS_0 k (d.length : Int) ((d ++ r).map setC)) (fun u st => AftF C laws_markKeySS pRLRB u st fun r fs => r = R ∧ fs = F) := by
    intro r
    induction r with
    | nil =>
      intro d k h0 hk hl hs R F hR hF
      subst hR hF
      refine r_laws_markKeySS_0 _ _ _ _ (brB_no (by simp) (a_laws_markKeySS_1 _ _ _ _ _ ⟨by simp [tot], by simp [markG]⟩))
    | cons a r ih =>
      intro d k h0 hk hl hs R F hR hF
      simp only [tot, List.length_cons] at hk hl
      have hca := hs a (.head _)
      have hu : tot wKey a = wKeyS a := rfl
      refine r_laws_markKeySS_0 _ _ _ _ (brB_yes (by simp; omega) ?_)
      simp only [ex_set, getZ_mid, Option.some.injEq, exists_eq_left']
      refine ⟨_, _, markKeyS a k h0 (by omega) hca, ?_⟩
      simp only [sr_set]
      rw [mod_mid, addW_eq (by omega)]
      have := ih (d ++ [mkKeyS a k]) (k + wKeyS a) (by omega) (by omega) (by simp; omega) (fun s h => hs s (.tail _ h)) R F (by rw [← hR]; simp only [tot]; rw [show k + (wKeyS a : Int) + (tot wKeyS r : Int) = k + ((wKeyS a + tot wKeyS r : Nat) : Int) by omega]) (by rw [← hF]; simp [markG])
      rw [← hu] at this
      simpa [mkKeyS] using this
  exact key l [] k h0 hk (by simpa using hl) hs _ _ rfl (by simp)
theorem heldKeySS : ∀ (l : List (List Key)) (k : Int) (h0 : 0 ≤ k) (hk : k + tot wKeyS l ≤ 2305843009213693952) (hl : l.length ≤ 1099511627776) (hs : ∀ s ∈ l, s.length ≤ 1099511627776), RunF C laws_heldKeySS [vSets (markG mkKeyS wKeyS l k), vI k] (vI (k + tot wKeyS l)) [] := by
  intro l k h0 hk hl hs
  refine (f_laws_heldKeySS _ _ _ ?_).run
  have key : ∀ (r d : List (List Key)) (k : Int), 0 ≤ k → k + tot wKeyS r ≤ 2305843009213693952 → d.length + r.length ≤ 1099511627776 → (∀ s ∈ r, s.length ≤ 1099511627776) → ∀ (R : TV), vI (k + tot wKeyS r) = R → LoopG C laws_heldKeySS pRLRB 4 0 (s_laws_heldKeySS_0 ((d ++ markG mkKeyS wKeyS r k).map setC) k (d.length : Int)) (fun u st => AftF C laws_heldKeySS pRLRB u st fun r fs => r = R ∧ fs = []) := by
    intro r
    induction r with
    | nil =>
      intro d k h0 hk hl hs R hR
      subst hR
      refine r_laws_heldKeySS_0 _ _ _ _ (brB_no (by simp [markG]) (a_laws_heldKeySS_2 _ _ _ _ _ ⟨by simp [tot], rfl⟩))
    | cons a r ih =>
      intro d k h0 hk hl hs R hR
      simp only [tot, List.length_cons] at hk hl
      have hca := hs a (.head _)
      have hu : tot wKey a = wKeyS a := rfl
      simp only [markG]
      refine r_laws_heldKeySS_0 _ _ _ _ (brB_yes (by simp; omega) ?_)
      simp only [ex_set, getZ_mid, Option.some.injEq, exists_eq_left']
      refine ⟨_, heldKeyS a k h0 (by omega) hca, brB_no (by simp; omega) ?_⟩
      rw [addW_eq (by omega)]
      have := ih (d ++ [mkKeyS a k]) (k + wKeyS a) (by omega) (by omega) (by simp; omega) (fun s h => hs s (.tail _ h)) R (by rw [← hR]; simp only [tot]; rw [show k + (wKeyS a : Int) + (tot wKeyS r : Int) = k + ((wKeyS a + tot wKeyS r : Nat) : Int) by omega])
      rw [hu]
      simpa [mkKeyS] using this
  exact key l [] k h0 hk (by simpa using hl) hs _ rfl
def mkNode (s : List (List Key)) (k : Int) : List (List Key) := markG mkKeyS wKeyS s k
def wNode (s : List (List Key)) : Nat := tot wKeyS s
theorem markNodeS : ∀ (l : List (List (List Key))) (k : Int) (h0 : 0 ≤ k) (hk : k + tot wNode l ≤ 2305843009213693952) (hl : l.length ≤ 1099511627776) (hs : ∀ s ∈ l, NodeB s), RunF C laws_markNodeS [vNodes l, vI k] (vI (k + tot wNode l)) [vNodes (markG mkNode wNode l k)] := by
  intro l k h0 hk hl hs
  refine (f_laws_markNodeS _ _ _ ?_).run
  have key : ∀ (r d : List (List (List Key))) (k : Int), 0 ≤ k → k + tot wNode r ≤ 2305843009213693952 → d.length + r.length ≤ 1099511627776 → (∀ s ∈ r, NodeB s) → ∀ (R : TV) (F : List TV), vI (k + tot wNode r) = R → [vNodes (d ++ markG mkNode wNode r k)] = F → LoopG C laws_markNodeS pRLRB 4 0 (s_laws_markNodeS_0 k (d.length : Int) ((d ++ r).map nodeC)) (fun u st => AftF C laws_markNodeS pRLRB u st fun r fs => r = R ∧ fs = F) := by
    intro r
    induction r with
    | nil =>
      intro d k h0 hk hl hs R F hR hF
      subst hR hF
      refine r_laws_markNodeS_0 _ _ _ _ (brB_no (by simp) (a_laws_markNodeS_1 _ _ _ _ _ ⟨by simp [tot], by simp [markG]⟩))
    | cons a r ih =>
      intro d k h0 hk hl hs R F hR hF
      simp only [tot, List.length_cons] at hk hl
      have hca := hs a (.head _)
      have hu : tot wKeyS a = wNode a := rfl
      refine r_laws_markNodeS_0 _ _ _ _ (brB_yes (by simp; omega) ?_)
      simp only [ex_node, getZ_mid, Option.some.injEq, exists_eq_left']
      refine ⟨_, _, markKeySS a k h0 (by omega) hca.1 hca.2, ?_⟩
      simp only [sr_node]
      rw [mod_mid, addW_eq (by omega)]
      have := ih (d ++ [mkNode a k]) (k + wNode a) (by omega) (by omega) (by simp; omega) (fun s h => hs s (.tail _ h)) R F (by rw [← hR]; simp only [tot]; rw [show k + (wNode a : Int) + (tot wNode r : Int) = k + ((wNode a + tot wNode r : Nat) : Int) by omega]) (by rw [← hF]; simp [markG])
      rw [← hu] at this
      simpa [mkNode] using this
  exact key l [] k h0 hk (by simpa using hl) hs _ _ rfl (by simp)
theorem heldNodeS : ∀ (l : List (List (List Key))) (k : Int) (h0 : 0 ≤ k) (hk : k + tot wNode l ≤ 2305843009213693952) (hl : l.length ≤ 1099511627776) (hs : ∀ s ∈ l, NodeB s), RunF C laws_heldNodeS [vNodes (markG mkNode wNode l k), vI k] (vI (k + tot wNode l)) [] := by
  intro l k h0 hk hl hs
  refine (f_laws_heldNodeS _ _ _ ?_).run
  have key : ∀ (r d : List (List (List Key))) (k : Int), 0 ≤ k → k + tot wNode r ≤ 2305843009213693952 → d.length + r.length ≤ 1099511627776 → (∀ s ∈ r, NodeB s) → ∀ (R : TV), vI (k + tot wNode r) = R → LoopG C laws_heldNodeS pRLRB 4 0 (s_laws_heldNodeS_0 ((d ++ markG mkNode wNode r k).map nodeC) k (d.length : Int)) (fun u st => AftF C laws_heldNodeS pRLRB u st fun r fs => r = R ∧ fs = []) := by
    intro r
    induction r with
    | nil =>
      intro d k h0 hk hl hs R hR
      subst hR
      refine r_laws_heldNodeS_0 _ _ _ _ (brB_no (by simp [markG]) (a_laws_heldNodeS_2 _ _ _ _ _ ⟨by simp [tot], rfl⟩))
    | cons a r ih =>
      intro d k h0 hk hl hs R hR
      simp only [tot, List.length_cons] at hk hl
      have hca := hs a (.head _)
      have hu : tot wKeyS a = wNode a := rfl
      simp only [markG]
      refine r_laws_heldNodeS_0 _ _ _ _ (brB_yes (by simp; omega) ?_)
      simp only [ex_node, getZ_mid, Option.some.injEq, exists_eq_left']
      refine ⟨_, heldKeySS a k h0 (by omega) hca.1 hca.2, brB_no (by simp; omega) ?_⟩
      rw [addW_eq (by omega)]
      have := ih (d ++ [mkNode a k]) (k + wNode a) (by omega) (by omega) (by simp; omega) (fun s h => hs s (.tail _ h)) R (by rw [← hR]; simp only [tot]; rw [show k + (wNode a : Int) + (tot wNode r : Int) = k + ((wNode a + tot wNode r : Nat) : Int) by omega])
      rw [hu]
      simpa [mkNode] using this
  exact key l [] k h0 hk (by simpa using hl) hs _ rfl
def wTree (t : Tree) : Nat := tot wInt t.lows + tot wNode t.nodes
def mkTree (t : Tree) (k : Int) : Tree := ⟨markG mkInt wInt t.lows k, markG mkNode wNode t.nodes (k + tot wInt t.lows)⟩
theorem markTree (t : Tree) (k : Int) (h0 : 0 ≤ k) (hk : k + wTree t ≤ 2305843009213693952) (h : TreeB t) : RunF C laws_markTree [vTree t, vI k] (vI (k + wTree t)) [vTree (mkTree t k)] := by
  unfold wTree at *
  refine (f_laws_markTree _ _ _ _ ⟨_, _, markIntS t.lows k h0 (by omega) h.1, _, _, markNodeS t.nodes _ (by omega) (by omega) h.2.1 h.2.2, ?_⟩).run
  exact ⟨by congr 2; omega, rfl⟩
theorem heldTree (t : Tree) (k : Int) (h0 : 0 ≤ k) (hk : k + wTree t ≤ 2305843009213693952) (h : TreeB t) : RunF C laws_heldTree [vTree (mkTree t k), vI k] (vI (k + wTree t)) [] := by
  unfold wTree at *
  refine (f_laws_heldTree _ _ _ _ ⟨_, heldIntS t.lows k h0 (by omega) h.1, brB_no (by simp; omega) ⟨_, heldNodeS t.nodes _ (by omega) (by omega) h.2.1 h.2.2, brB_no (by simp; omega) ?_⟩⟩).run
  exact ⟨by congr 2; omega, rfl⟩
def wPool (p : Pool) : Nat := wTree p.t + tot wAge p.ages + tot wCell p.cells + tot wVol p.vols
def mkPool (p : Pool) (k : Int) : Pool := ⟨mkTree p.t k, markG mkAge wAge p.ages (k + wTree p.t), markG mkCell wCell p.cells (k + wTree p.t + tot wAge p.ages), markG mkVol wVol p.vols (k + wTree p.t + tot wAge p.ages + tot wCell p.cells), p.next⟩
theorem markPool (p : Pool) (k : Int) (h0 : 0 ≤ k) (hk : k + wPool p ≤ 2305843009213693952) (h : PoolB p) : RunF C laws_markPool [vPool p, vI k] (vI (k + wPool p)) [vPool (mkPool p k)] := by
  unfold wPool at *
  refine (f_laws_markPool _ _ _ _ _ _ _ _ ⟨_, _, _, markTree p.t k h0 (by omega) h.t, _, _, markAgeS p.ages _ (by omega) (by omega) h.ages, _, _, markCellS p.cells _ (by omega) (by omega) h.cells, _, _, markVolS p.vols _ (by omega) (by omega) h.vols, ?_⟩).run
  exact ⟨by congr 2; omega, rfl⟩
theorem heldPool (p : Pool) (k : Int) (h0 : 0 ≤ k) (hk : k + wPool p ≤ 2305843009213693952) (h : PoolB p) : RunF C laws_heldPool [vPool (mkPool p k), vI k] (vI (k + wPool p)) [] := by
  unfold wPool at *
  refine (f_laws_heldPool _ _ _ _ _ _ _ _ ⟨_, heldTree p.t k h0 (by omega) h.t, brB_no (by simp; omega) ⟨_, heldAgeS p.ages _ (by omega) (by omega) h.ages, brB_no (by simp; omega) ⟨_, heldCellS p.cells _ (by omega) (by omega) h.cells, brB_no (by simp; omega) ⟨_, heldVolS p.vols _ (by omega) (by omega) h.vols, brB_no (by simp; omega) ?_⟩⟩⟩⟩).run
  exact ⟨by congr 2; omega, rfl⟩
theorem treeB_of {t : Tree} (h : szTree t ≤ 1048576) : TreeB t := by
  unfold szTree szNodes at h
  refine ⟨by omega, by omega, fun n hn => ?_⟩
  have h1 := tot_mem (w := szNode) hn
  have e : szNode n = n.length + tot szSet n := rfl
  exact ⟨by omega, fun s hs => by
    have h2 := tot_mem (w := szSet) hs
    have e2 : szSet s = s.length := rfl
    omega⟩
theorem poolB_of {p : Pool} (h : szPool p ≤ 1048576) : PoolB p := by
  unfold szPool szVols at h
  exact ⟨treeB_of (by omega), by omega, by omega, by omega⟩
theorem law_PoolNew : RunF C laws_FnExactPoolNew [] (vB true) [] := by
  refine (f_laws_FnExactPoolNew _ ?_).run
  have hB : PoolB poolNew := poolB_of (by decide)
  have hw : wPool poolNew ≤ 1000 := by decide
  refine ⟨_, _, _, _, _, _, run_spec_PoolNew, ?_⟩
  refine ⟨_, _, _, _, _, _, run_impl_PoolNew, ?_⟩
  refine ⟨_, eqPool _ (by assumption), ?_⟩
  refine brB_no (by first | rfl | (simp; done) | (simp; omega)) ?_
  refine ⟨_, _, _, _, _, _, _, markPool _ 1 (by omega) (by omega) (by assumption), ?_⟩
  refine ⟨_, heldPool _ 1 (by omega) (by omega) (by assumption), ?_⟩
  refine brB_no (by first | rfl | (simp; done) | (simp; omega)) ?_
  refine brB_no (by first | rfl | (simp; done) | (simp; omega)) ?_
  refine ⟨_, _, _, _, _, _, run_impl_PoolNew, ?_⟩
  refine ⟨_, eqPool _ (by assumption), ?_⟩
  refine brB_no (by first | rfl | (simp; done) | (simp; omega)) ?_
  refine ⟨_, heldPool _ 1 (by omega) (by omega) (by assumption), ?_⟩
  refine brB_no (by first | rfl | (simp; done) | (simp; omega)) ?_
  refine brB_no (by first | rfl | (simp; done) | (simp; omega)) ?_
  exact ⟨rfl, by first | rfl | trivial⟩
theorem all_PoolNew (vs : List TV) (h : WfVs C.tt [] vs) : ∃ k, callP C k laws_FnExactPoolNew vs (vB true) [] := by
  cases h
  exact law_PoolNew 
end Go.T.R
