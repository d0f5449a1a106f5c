/- A run has one result; the formulas, simplified. The program's data as rows; what the formulas say of them. Rows that are written, as data. Loops over lists: how a run of them is told. What the program's functions come to, in plain Lean. What the program's functions come to: nodes, trees, pools. What the program's functions come to: maps, equality, steps. What the program's functions come to: volumes taken away. Ages and volumes put in: what the functions come to. Maps put in, taken out, resized: what the functions come to. A key put into a node: what it comes to. Sets of keys stay in order; a node that takes no key has more than it may. An operation out of bytes. -/
import Derived.Test.YtibkcmljaifbpaaT5
set_option linter.unusedVariables false
set_option linter.unusedSimpArgs false
namespace Go.T
def DetC (cf : Cf) : Prop := ∀ f vs r fs r' fs', cf f vs r fs → cf f vs r' fs' → r = r' ∧ fs = fs'
def DetL (lp : Lp) : Prop := ∀ f i c st (Q Q' : TX → TS → Prop), lp f i c st Q → lp f i c st Q' → ∃ x s, Q x s ∧ Q' x s
theorem holds_two {R : Type} {cf : Cf} {lp : Lp} (hc : DetC cf) (hl : DetL lp) {Q Q' : R → Prop} : ∀ (e : Ev R), e.holds cf lp Q → e.holds cf lp Q' → ∃ r, Q r ∧ Q' r
  | .fail, h, _ => h.elim
  | .ret r, h, h' => ⟨r, h, h'⟩
  | .test b k, h, h' => holds_two hc hl (k b) h h'
  | .row rows i k, ⟨c, h1, h2⟩, ⟨c', h1', h2'⟩ => by
    rw [h1] at h1'; cases h1'
    exact holds_two hc hl (k c) h2 h2'
  | .byte rows i k, ⟨c, h1, h2⟩, ⟨c', h1', h2'⟩ => by
    rw [h1] at h1'; cases h1'
    exact holds_two hc hl (k c) h2 h2'
  | .bytes rows k, ⟨c, h1, h2⟩, ⟨c', h1', h2'⟩ => by
    rw [h1] at h1'; cases h1'
    exact holds_two hc hl (k c) h2 h2'
  | .call f vs k, ⟨r, fs, h1, h2⟩, ⟨r', fs', h1', h2'⟩ => by
    obtain ⟨rfl, rfl⟩ := hc _ _ _ _ _ _ h1 h1'
    exact holds_two hc hl (k r fs) h2 h2'
  | .loop f i c st k, h, h' => by
    obtain ⟨x, s, h1, h2⟩ := hl _ _ _ _ _ _ h h'
    exact holds_two hc hl (k x s) h1 h2
  | .both a b, ⟨r, h1, h2, h3⟩, ⟨r', h1', h2', h3'⟩ => by
    obtain ⟨r0, e1, e2⟩ := holds_two hc hl a h1 h1'
    subst e1 e2
    exact ⟨_, h3, h3'⟩
section
variable {C : Cfg}
theorem iter_two {cf : Cf} {lp : Lp} (hc : DetC cf) (hl : DetL lp) {fx : List Nat} {f i : Nat} {c : Code} {Q Q' : TX → TS → Prop} : ∀ (n : Nat) (st : TS), iter C cf lp fx f i c Q n st → iter C cf lp fx f i c Q' n st → ∃ x s, Q x s ∧ Q' x s
  | 0, _, h, _ => h.elim
  | n + 1, st, h, h' => by
    obtain ⟨⟨x, s⟩, h1, h2⟩ := holds_two hc hl _ h h'
    cases x with
    | norm =>
      simp only at h1 h2
      rw [fTS_eq] at h1 h2
      exact iter_two hc hl n _ h1 h2
    | ex id => exact ⟨_, _, h1, h2⟩
    | ret => exact ⟨_, _, h1, h2⟩
theorem lpN_det {cf : Cf} (hc : DetC cf) (k : Nat) (fx : List Nat) : ∀ n, DetL (lpN C cf k fx n)
  | 0 => fun _ _ _ _ _ _ h _ => h.elim
  | n + 1 => fun f i c st Q Q' h h' => iter_two hc (lpN_det hc k fx n) k st h h'
theorem callP_det : ∀ k, DetC (callP C k)
  | 0 => fun _ _ _ _ _ _ h _ => h.elim
  | k + 1 => fun f vs r fs r' fs' h h' => by
    unfold callP at h h'
    cases hx : C.ext f with
    | some p => rw [hx] at h h'; have h : p vs = some (r, fs) := h; have h' : p vs = some (r', fs') := h'; rw [h] at h'; cases h'; exact ⟨rfl, rfl⟩
    | none =>
    rw [hx] at h h'
    simp only at h h'
    obtain ⟨p, h1, h2⟩ := holds_two (callP_det k) (lpN_det (callP_det k) k _ 4) _ h h'
    rw [h1] at h2
    cases h2
    exact ⟨rfl, rfl⟩
theorem RunF.det {f : FuncId} {vs : List TV} {r r' : TV} {fs fs' : List TV} (h : RunF C f vs r fs) (h' : RunF C f vs r' fs') : r' = r ∧ fs' = fs := by
  obtain ⟨k, h⟩ := h
  obtain ⟨k', h'⟩ := h'
  obtain ⟨h1, h2⟩ := callP_det (max k k') _ _ _ _ _ _ (callP_mono (Nat.le_max_left _ _) h) (callP_mono (Nat.le_max_right _ _) h')
  exact ⟨h1.symm, h2.symm⟩
end
def getZ {α : Type} (l : List α) (i : Int) : Option α := if 0 ≤ i then l[i.toNat]? else none
theorem getZ_some {α : Type} {l : List α} {i : Int} (h0 : 0 ≤ i) (h1 : i < l.length) : ∃ a, getZ l i = some a := by
  unfold getZ; rw [if_pos h0]; exact ⟨_, List.getElem?_eq_getElem (by omega)⟩
theorem rowAt_mapZ {α : Type} (e : α → List TC) (l : List α) (i : Int) : rowAt (l.map e) i = (getZ l i).map e := by
  unfold rowAt getZ
  split
  · rw [List.getElem?_map]
  · rfl
theorem getZ_mem {α : Type} {l : List α} {i : Int} {a : α} (h : getZ l i = some a) : a ∈ l := by
  unfold getZ at h
  split at h
  · exact List.mem_of_getElem? h
  · cases h
@[simp] theorem cutRows_map {α : Type} (e : α → List TC) (l : List α) (a b : Int) : cutRows (l.map e) a b = ((l.take b.toNat).drop a.toNat).map e := by
  unfold cutRows; rw [← List.map_take, ← List.map_drop]
theorem allSc_of {rows : List (List TC)} (h : ∀ r ∈ rows, ∀ c ∈ r, ∃ v, c = .sc v) : allSc rows = true := by
  unfold allSc
  rw [List.all_eq_true]
  intro r hr
  rw [List.all_eq_true]
  intro c hc
  obtain ⟨v, rfl⟩ := h r hr c hc
  rfl
@[simp] theorem strLen (s : ByteArray) : (ByteArray.data s).1.length = s.size := rfl
@[simp] theorem inCut_eq (l h n : Int) : inCut l h n = decide (0 ≤ l ∧ l ≤ h ∧ h ≤ n) := by unfold inCut; rfl
end Go.T
set_option linter.unusedVariables false
set_option linter.unusedSimpArgs false
namespace Go.T
structure Key where
  b : Int
  a : Int
  k : Int
  c : Int
  g : Int
  deriving DecidableEq
structure Age where
  id : Int
  fr : Int
  deriving DecidableEq
structure Cell where
  g : Int
  u : Bool
  n : Int
  deriving DecidableEq
structure Vol where
  name : ByteArray
  age : Int
  size : Int
  fx : Bool
structure Mp where
  name : ByteArray
  fx : Bool
  l : List Int
structure Tree where
  lows : List Int
  nodes : List (List (List Key))
structure Pool where
  t : Tree
  ages : List Age
  cells : List Cell
  vols : List Vol
  next : Int
structure Opn where
  kind : Int
  name : ByteArray
  to : ByteArray
  a : Int
  b : Int
abbrev iI (n : Int) : TC := .sc (.int .i64 n)
abbrev iB (b : Bool) : TC := .sc (.bool b)
abbrev iS (s : ByteArray) : TC := .sc (.string s)
abbrev cI (n : Int) : CE := .sc (.int .i64 n)
abbrev cB (b : Bool) : CE := .sc (.bool b)
abbrev cS (s : ByteArray) : CE := .sc (.string s)
abbrev addW (a b : Int) : Int := addI .i64 a b
abbrev subW (a b : Int) : Int := subI .i64 a b
theorem addW_eq {a b : Int} (h : -9223372036854775808 ≤ a + b ∧ a + b ≤ 9223372036854775807) : addW a b = a + b := addI_eq h
theorem subW_eq {a b : Int} (h : -9223372036854775808 ≤ a - b ∧ a - b ≤ 9223372036854775807) : subW a b = a - b := subI_eq h
abbrev RR := List (List TC)
abbrev QV := TV → List TV → Prop
abbrev QX := TX → TS → Prop
abbrev sI : Sh := .int .i64
abbrev sB : Sh := .bool
abbrev sS : Sh := .str
abbrev hz : Hint := .z
abbrev hb : Hint → Hint → Hint := .br
abbrev hr : List Sh → Hint → Hint := .row
abbrev hc : ShV → List ShV → Hint → Hint := .call
abbrev bs0 : ByteArray := ⟨#[]⟩
def intC (n : Int) : List TC := [.sc (.int .i64 n)]
def byteC (n : Int) : List TC := [.sc (.int .u8 n)]
def boolC (n : Bool) : List TC := [.sc (.bool n)]
def keyC (x : Key) : List TC := [.sc (.int .i64 x.b), .sc (.int .i64 x.a), .sc (.int .i64 x.k), .sc (.int .i64 x.c), .sc (.int .i64 x.g)]
def ageC (x : Age) : List TC := [.sc (.int .i64 x.id), .sc (.int .i64 x.fr)]
def cellC (x : Cell) : List TC := [.sc (.int .i64 x.g), .sc (.bool x.u), .sc (.int .i64 x.n)]
def volC (x : Vol) : List TC := [.sc (.string x.name), .sc (.int .i64 x.age), .sc (.int .i64 x.size), .sc (.bool x.fx)]
def opC (x : Opn) : List TC := [.sc (.int .i64 x.kind), .sc (.string x.name), .sc (.string x.to), .sc (.int .i64 x.a), .sc (.int .i64 x.b)]
def mapC (x : Mp) : List TC := [.sc (.string x.name), .sc (.bool x.fx), .sub 1 (x.l.map intC)]
def bytesC (x : List Int) : List TC := [.sub 1 (x.map byteC)]
def setC (x : List Key) : List TC := [.sub 5 (x.map keyC)]
def nodeC (x : List (List Key)) : List TC := [.sub 1 (x.map setC)]
abbrev vI (n : Int) : TV := .c (.sc (.int .i64 n))
abbrev vB (b : Bool) : TV := .c (.sc (.bool b))
abbrev vS (s : ByteArray) : TV := .c (.sc (.string s))
abbrev vBytes (l : List Int) : TV := .c (.sub 1 (l.map byteC))
section
variable {i : Int}
@[simp] theorem ex_int {l : List Int} {K : Int → Prop} : (∃ n, rowAt (l.map intC) i = some [.sc (.int .i64 n)] ∧ K n) ↔ ∃ a, getZ l i = some a ∧ K a := by
  rw [rowAt_mapZ]
  constructor
  · rintro ⟨n, h, hK⟩
    obtain ⟨a, ha, h⟩ := Option.map_eq_some_iff.1 h
    unfold intC at h; cases h; exact ⟨_, ha, hK⟩
  · rintro ⟨a, ha, hK⟩
    exact ⟨_, by rw [ha]; rfl, hK⟩
@[simp] theorem ex_byte {l : List Int} {K : Int → Prop} : (∃ n, rowAt (l.map byteC) i = some [.sc (.int .u8 n)] ∧ K n) ↔ ∃ a, getZ l i = some a ∧ K a := by
  rw [rowAt_mapZ]
  constructor
  · rintro ⟨n, h, hK⟩
    obtain ⟨a, ha, h⟩ := Option.map_eq_some_iff.1 h
    unfold byteC at h; cases h; exact ⟨_, ha, hK⟩
  · rintro ⟨a, ha, hK⟩
    exact ⟨_, by rw [ha]; rfl, hK⟩
@[simp] theorem ex_bool {l : List Bool} {K : Bool → Prop} : (∃ n, rowAt (l.map boolC) i = some [.sc (.bool n)] ∧ K n) ↔ ∃ a, getZ l i = some a ∧ K a := by
  rw [rowAt_mapZ]
  constructor
  · rintro ⟨n, h, hK⟩
    obtain ⟨a, ha, h⟩ := Option.map_eq_some_iff.1 h
    unfold boolC at h; cases h; exact ⟨_, ha, hK⟩
  · rintro ⟨a, ha, hK⟩
    exact ⟨_, by rw [ha]; rfl, hK⟩
@[simp] theorem ex_key {l : List Key} {K : Int → Int → Int → Int → Int → Prop} : (∃ b a k c g, rowAt (l.map keyC) i = some [.sc (.int .i64 b), .sc (.int .i64 a), .sc (.int .i64 k), .sc (.int .i64 c), .sc (.int .i64 g)] ∧ K b a k c g) ↔ ∃ x, getZ l i = some x ∧ K x.b x.a x.k x.c x.g := by
  rw [rowAt_mapZ]
  constructor
  · rintro ⟨_, _, _, _, _, h, hK⟩
    obtain ⟨a, ha, h⟩ := Option.map_eq_some_iff.1 h
    unfold keyC at h; cases h; exact ⟨_, ha, hK⟩
  · rintro ⟨a, ha, hK⟩
    exact ⟨_, _, _, _, _, by rw [ha]; rfl, hK⟩
@[simp] theorem ex_age {l : List Age} {K : Int → Int → Prop} : (∃ b a, rowAt (l.map ageC) i = some [.sc (.int .i64 b), .sc (.int .i64 a)] ∧ K b a) ↔ ∃ x, getZ l i = some x ∧ K x.id x.fr := by
  rw [rowAt_mapZ]
  constructor
  · rintro ⟨_, _, h, hK⟩
    obtain ⟨a, ha, h⟩ := Option.map_eq_some_iff.1 h
    unfold ageC at h; cases h; exact ⟨_, ha, hK⟩
  · rintro ⟨a, ha, hK⟩
    exact ⟨_, _, by rw [ha]; rfl, hK⟩
@[simp] theorem ex_cell {l : List Cell} {K : Int → Bool → Int → Prop} : (∃ g u n, rowAt (l.map cellC) i = some [.sc (.int .i64 g), .sc (.bool u), .sc (.int .i64 n)] ∧ K g u n) ↔ ∃ x, getZ l i = some x ∧ K x.g x.u x.n := by
  rw [rowAt_mapZ]
  constructor
  · rintro ⟨_, _, _, h, hK⟩
    obtain ⟨a, ha, h⟩ := Option.map_eq_some_iff.1 h
    unfold cellC at h; cases h; exact ⟨_, ha, hK⟩
  · rintro ⟨a, ha, hK⟩
    exact ⟨_, _, _, by rw [ha]; rfl, hK⟩
@[simp] theorem ex_vol {l : List Vol} {K : ByteArray → Int → Int → Bool → Prop} : (∃ s a z f, rowAt (l.map volC) i = some [.sc (.string s), .sc (.int .i64 a), .sc (.int .i64 z), .sc (.bool f)] ∧ K s a z f) ↔ ∃ x, getZ l i = some x ∧ K x.name x.age x.size x.fx := by
  rw [rowAt_mapZ]
  constructor
  · rintro ⟨_, _, _, _, h, hK⟩
    obtain ⟨a, ha, h⟩ := Option.map_eq_some_iff.1 h
    unfold volC at h; cases h; exact ⟨_, ha, hK⟩
  · rintro ⟨a, ha, hK⟩
    exact ⟨_, _, _, _, by rw [ha]; rfl, hK⟩
@[simp] theorem ex_op {l : List Opn} {K : Int → ByteArray → ByteArray → Int → Int → Prop} : (∃ k s t a b, rowAt (l.map opC) i = some [.sc (.int .i64 k), .sc (.string s), .sc (.string t), .sc (.int .i64 a), .sc (.int .i64 b)] ∧ K k s t a b) ↔ ∃ x, getZ l i = some x ∧ K x.kind x.name x.to x.a x.b := by
  rw [rowAt_mapZ]
  constructor
  · rintro ⟨_, _, _, _, _, h, hK⟩
    obtain ⟨a, ha, h⟩ := Option.map_eq_some_iff.1 h
    unfold opC at h; cases h; exact ⟨_, ha, hK⟩
  · rintro ⟨a, ha, hK⟩
    exact ⟨_, _, _, _, _, by rw [ha]; rfl, hK⟩
@[simp] theorem ex_map {l : List Mp} {K : ByteArray → Bool → List (List TC) → Prop} : (∃ s f r, rowAt (l.map mapC) i = some [.sc (.string s), .sc (.bool f), .sub 1 r] ∧ K s f r) ↔ ∃ x, getZ l i = some x ∧ K x.name x.fx (x.l.map intC) := by
  rw [rowAt_mapZ]
  constructor
  · rintro ⟨_, _, _, h, hK⟩
    obtain ⟨a, ha, h⟩ := Option.map_eq_some_iff.1 h
    unfold mapC at h; cases h; exact ⟨_, ha, hK⟩
  · rintro ⟨a, ha, hK⟩
    exact ⟨_, _, _, by rw [ha]; rfl, hK⟩
@[simp] theorem ex_set {l : List (List Key)} {K : List (List TC) → Prop} : (∃ r, rowAt (l.map setC) i = some [.sub 5 r] ∧ K r) ↔ ∃ x, getZ l i = some x ∧ K (x.map keyC) := by
  rw [rowAt_mapZ]
  constructor
  · rintro ⟨_, h, hK⟩
    obtain ⟨a, ha, h⟩ := Option.map_eq_some_iff.1 h
    unfold setC at h; cases h; exact ⟨_, ha, hK⟩
  · rintro ⟨a, ha, hK⟩
    exact ⟨_, by rw [ha]; rfl, hK⟩
@[simp] theorem ex_node {l : List (List (List Key))} {K : List (List TC) → Prop} : (∃ r, rowAt (l.map nodeC) i = some [.sub 1 r] ∧ K r) ↔ ∃ x, getZ l i = some x ∧ K (x.map setC) := by
  rw [rowAt_mapZ]
  constructor
  · rintro ⟨_, h, hK⟩
    obtain ⟨a, ha, h⟩ := Option.map_eq_some_iff.1 h
    unfold nodeC at h; cases h; exact ⟨_, ha, hK⟩
  · rintro ⟨a, ha, hK⟩
    exact ⟨_, by rw [ha]; rfl, hK⟩
@[simp] theorem ex_bytes {l : List (List Int)} {K : List (List TC) → Prop} : (∃ r, rowAt (l.map bytesC) i = some [.sub 1 r] ∧ K r) ↔ ∃ x, getZ l i = some x ∧ K (x.map byteC) := by
  rw [rowAt_mapZ]
  constructor
  · rintro ⟨_, h, hK⟩
    obtain ⟨a, ha, h⟩ := Option.map_eq_some_iff.1 h
    unfold bytesC at h; cases h; exact ⟨_, ha, hK⟩
  · rintro ⟨a, ha, hK⟩
    exact ⟨_, by rw [ha]; rfl, hK⟩
end
theorem ofNat_cast (n : Nat) : Int.ofNat n = (n : Int) := rfl
@[simp] theorem natAdd (a b : Nat) : Nat.add a b = a + b := rfl
@[simp] theorem listApp {α : Type} (a b : List α) : List.append a b = a ++ b := rfl
theorem allSc_int (l : List Int) : allSc (l.map intC) = true := allSc_of fun r hr c hc => by
  obtain ⟨a, _, rfl⟩ := List.mem_map.1 hr; unfold intC at hc; simp only [List.mem_singleton] at hc; exact ⟨_, hc⟩
theorem allSc_byte (l : List Int) : allSc (l.map byteC) = true := allSc_of fun r hr c hc => by
  obtain ⟨a, _, rfl⟩ := List.mem_map.1 hr; unfold byteC at hc; simp only [List.mem_singleton] at hc; exact ⟨_, hc⟩
theorem allSc_key (l : List Key) : allSc (l.map keyC) = true := allSc_of fun r hr c hc => by
  obtain ⟨a, _, rfl⟩ := List.mem_map.1 hr; unfold keyC at hc; simp only [List.mem_cons, List.not_mem_nil, or_false] at hc
  rcases hc with h | h | h | h | h <;> exact ⟨_, h⟩
theorem allSc_age (l : List Age) : allSc (l.map ageC) = true := allSc_of fun r hr c hc => by
  obtain ⟨a, _, rfl⟩ := List.mem_map.1 hr; unfold ageC at hc; simp only [List.mem_cons, List.not_mem_nil, or_false] at hc
  rcases hc with h | h <;> exact ⟨_, h⟩
theorem allSc_cell (l : List Cell) : allSc (l.map cellC) = true := allSc_of fun r hr c hc => by
  obtain ⟨a, _, rfl⟩ := List.mem_map.1 hr; unfold cellC at hc; simp only [List.mem_cons, List.not_mem_nil, or_false] at hc
  rcases hc with h | h | h <;> exact ⟨_, h⟩
theorem allSc_vol (l : List Vol) : allSc (l.map volC) = true := allSc_of fun r hr c hc => by
  obtain ⟨a, _, rfl⟩ := List.mem_map.1 hr; unfold volC at hc; simp only [List.mem_cons, List.not_mem_nil, or_false] at hc
  rcases hc with h | h | h | h <;> exact ⟨_, h⟩
@[simp] theorem allSc1 (v : Value) : allSc [[.sc v]] = true := allSc_of fun r hr c hc => by
  simp only [List.mem_singleton] at hr; subst hr; simp only [List.mem_singleton] at hc; exact ⟨_, hc⟩
attribute [simp] allSc_int allSc_byte allSc_key allSc_age allSc_cell allSc_vol
end Go.T
set_option linter.unusedVariables false
set_option linter.unusedSimpArgs false
namespace Go.T
theorem modify_at {α : Type} (g : α → α) : ∀ (l : List α) (i : Nat) (a : α), l[i]? = some a → l.modify i g = l.set i (g a)
  | [], i, a, h => by simp at h
  | x :: r, 0, a, h => by simp only [List.getElem?_cons_zero, Option.some.injEq] at h; subst h; rfl
  | x :: r, i + 1, a, h => by
    simp only [List.getElem?_cons_succ] at h
    rw [List.modify_succ_cons, List.set_cons_succ, modify_at g r i a h]
theorem setRow_mod {α : Type} {e : α → List TC} {l : List α} {i : Int} {f : Nat} {cs : List TC} {g : α → α} (he : ∀ a, (e a).take f ++ cs ++ (e a).drop (f + cs.length) = e (g a)) : setRow (l.map e) i f cs = (l.modify i.toNat g).map e := by
  unfold setRow
  rw [List.getElem?_map]
  cases h : l[i.toNat]? with
  | none =>
    have : l.length ≤ i.toNat := List.getElem?_eq_none_iff.1 h
    simp only [Option.map_none]
    rw [List.modify_eq_self this]
  | some a =>
    simp only [Option.map_some]
    rw [he, modify_at g l _ a h, List.map_set]
@[simp] theorem sr_key_b {l : List Key} {i : Int} {v : Int} : setRow (l.map keyC) i 0 [.sc (.int .i64 v)] = (l.modify i.toNat fun x => { x with b := v }).map keyC := setRow_mod fun a => rfl
@[simp] theorem sr_key_a {l : List Key} {i : Int} {v : Int} : setRow (l.map keyC) i 1 [.sc (.int .i64 v)] = (l.modify i.toNat fun x => { x with a := v }).map keyC := setRow_mod fun a => rfl
@[simp] theorem sr_key_k {l : List Key} {i : Int} {v : Int} : setRow (l.map keyC) i 2 [.sc (.int .i64 v)] = (l.modify i.toNat fun x => { x with k := v }).map keyC := setRow_mod fun a => rfl
@[simp] theorem sr_key_c {l : List Key} {i : Int} {v : Int} : setRow (l.map keyC) i 3 [.sc (.int .i64 v)] = (l.modify i.toNat fun x => { x with c := v }).map keyC := setRow_mod fun a => rfl
@[simp] theorem sr_key_g {l : List Key} {i : Int} {v : Int} : setRow (l.map keyC) i 4 [.sc (.int .i64 v)] = (l.modify i.toNat fun x => { x with g := v }).map keyC := setRow_mod fun a => rfl
@[simp] theorem sr_key {l : List Key} {i : Int} {v0 : Int} {v1 : Int} {v2 : Int} {v3 : Int} {v4 : Int} : setRow (l.map keyC) i 0 [.sc (.int .i64 v0), .sc (.int .i64 v1), .sc (.int .i64 v2), .sc (.int .i64 v3), .sc (.int .i64 v4)] = (l.modify i.toNat fun _ => ⟨v0, v1, v2, v3, v4⟩).map keyC := setRow_mod fun a => rfl
@[simp] theorem sr_age_id {l : List Age} {i : Int} {v : Int} : setRow (l.map ageC) i 0 [.sc (.int .i64 v)] = (l.modify i.toNat fun x => { x with id := v }).map ageC := setRow_mod fun a => rfl
@[simp] theorem sr_age_fr {l : List Age} {i : Int} {v : Int} : setRow (l.map ageC) i 1 [.sc (.int .i64 v)] = (l.modify i.toNat fun x => { x with fr := v }).map ageC := setRow_mod fun a => rfl
@[simp] theorem sr_age {l : List Age} {i : Int} {v0 : Int} {v1 : Int} : setRow (l.map ageC) i 0 [.sc (.int .i64 v0), .sc (.int .i64 v1)] = (l.modify i.toNat fun _ => ⟨v0, v1⟩).map ageC := setRow_mod fun a => rfl
@[simp] theorem sr_cell_g {l : List Cell} {i : Int} {v : Int} : setRow (l.map cellC) i 0 [.sc (.int .i64 v)] = (l.modify i.toNat fun x => { x with g := v }).map cellC := setRow_mod fun a => rfl
@[simp] theorem sr_cell_u {l : List Cell} {i : Int} {v : Bool} : setRow (l.map cellC) i 1 [.sc (.bool v)] = (l.modify i.toNat fun x => { x with u := v }).map cellC := setRow_mod fun a => rfl
@[simp] theorem sr_cell_n {l : List Cell} {i : Int} {v : Int} : setRow (l.map cellC) i 2 [.sc (.int .i64 v)] = (l.modify i.toNat fun x => { x with n := v }).map cellC := setRow_mod fun a => rfl
@[simp] theorem sr_cell {l : List Cell} {i : Int} {v0 : Int} {v1 : Bool} {v2 : Int} : setRow (l.map cellC) i 0 [.sc (.int .i64 v0), .sc (.bool v1), .sc (.int .i64 v2)] = (l.modify i.toNat fun _ => ⟨v0, v1, v2⟩).map cellC := setRow_mod fun a => rfl
@[simp] theorem sr_vol_name {l : List Vol} {i : Int} {v : ByteArray} : setRow (l.map volC) i 0 [.sc (.string v)] = (l.modify i.toNat fun x => { x with name := v }).map volC := setRow_mod fun a => rfl
@[simp] theorem sr_vol_age {l : List Vol} {i : Int} {v : Int} : setRow (l.map volC) i 1 [.sc (.int .i64 v)] = (l.modify i.toNat fun x => { x with age := v }).map volC := setRow_mod fun a => rfl
@[simp] theorem sr_vol_size {l : List Vol} {i : Int} {v : Int} : setRow (l.map volC) i 2 [.sc (.int .i64 v)] = (l.modify i.toNat fun x => { x with size := v }).map volC := setRow_mod fun a => rfl
@[simp] theorem sr_vol_fx {l : List Vol} {i : Int} {v : Bool} : setRow (l.map volC) i 3 [.sc (.bool v)] = (l.modify i.toNat fun x => { x with fx := v }).map volC := setRow_mod fun a => rfl
@[simp] theorem sr_vol {l : List Vol} {i : Int} {v0 : ByteArray} {v1 : Int} {v2 : Int} {v3 : Bool} : setRow (l.map volC) i 0 [.sc (.string v0), .sc (.int .i64 v1), .sc (.int .i64 v2), .sc (.bool v3)] = (l.modify i.toNat fun _ => ⟨v0, v1, v2, v3⟩).map volC := setRow_mod fun a => rfl
@[simp] theorem sr_op_kind {l : List Opn} {i : Int} {v : Int} : setRow (l.map opC) i 0 [.sc (.int .i64 v)] = (l.modify i.toNat fun x => { x with kind := v }).map opC := setRow_mod fun a => rfl
@[simp] theorem sr_op_name {l : List Opn} {i : Int} {v : ByteArray} : setRow (l.map opC) i 1 [.sc (.string v)] = (l.modify i.toNat fun x => { x with name := v }).map opC := setRow_mod fun a => rfl
@[simp] theorem sr_op_to {l : List Opn} {i : Int} {v : ByteArray} : setRow (l.map opC) i 2 [.sc (.string v)] = (l.modify i.toNat fun x => { x with to := v }).map opC := setRow_mod fun a => rfl
@[simp] theorem sr_op_a {l : List Opn} {i : Int} {v : Int} : setRow (l.map opC) i 3 [.sc (.int .i64 v)] = (l.modify i.toNat fun x => { x with a := v }).map opC := setRow_mod fun a => rfl
@[simp] theorem sr_op_b {l : List Opn} {i : Int} {v : Int} : setRow (l.map opC) i 4 [.sc (.int .i64 v)] = (l.modify i.toNat fun x => { x with b := v }).map opC := setRow_mod fun a => rfl
@[simp] theorem sr_op {l : List Opn} {i : Int} {v0 : Int} {v1 : ByteArray} {v2 : ByteArray} {v3 : Int} {v4 : Int} : setRow (l.map opC) i 0 [.sc (.int .i64 v0), .sc (.string v1), .sc (.string v2), .sc (.int .i64 v3), .sc (.int .i64 v4)] = (l.modify i.toNat fun _ => ⟨v0, v1, v2, v3, v4⟩).map opC := setRow_mod fun a => rfl
@[simp] theorem sr_map_name {l : List Mp} {i : Int} {v : ByteArray} : setRow (l.map mapC) i 0 [.sc (.string v)] = (l.modify i.toNat fun x => { x with name := v }).map mapC := setRow_mod fun a => rfl
@[simp] theorem sr_map_fx {l : List Mp} {i : Int} {v : Bool} : setRow (l.map mapC) i 1 [.sc (.bool v)] = (l.modify i.toNat fun x => { x with fx := v }).map mapC := setRow_mod fun a => rfl
@[simp] theorem sr_map_l {l : List Mp} {i : Int} {v : List Int} : setRow (l.map mapC) i 2 [.sub 1 (v.map intC)] = (l.modify i.toNat fun x => { x with l := v }).map mapC := setRow_mod fun a => rfl
@[simp] theorem sr_map {l : List Mp} {i : Int} {v0 : ByteArray} {v1 : Bool} {v2 : List Int} : setRow (l.map mapC) i 0 [.sc (.string v0), .sc (.bool v1), .sub 1 (v2.map intC)] = (l.modify i.toNat fun _ => ⟨v0, v1, v2⟩).map mapC := setRow_mod fun a => rfl
@[simp] theorem sr_int {l : List (Int)} {i : Int} {v : Int} : setRow (l.map intC) i 0 [.sc (.int .i64 v)] = (l.modify i.toNat fun _ => v).map intC := setRow_mod fun a => rfl
@[simp] theorem sr_byte {l : List (Int)} {i : Int} {v : Int} : setRow (l.map byteC) i 0 [.sc (.int .u8 v)] = (l.modify i.toNat fun _ => v).map byteC := setRow_mod fun a => rfl
@[simp] theorem sr_bool {l : List (Bool)} {i : Int} {v : Bool} : setRow (l.map boolC) i 0 [.sc (.bool v)] = (l.modify i.toNat fun _ => v).map boolC := setRow_mod fun a => rfl
@[simp] theorem sr_set {l : List (List Key)} {i : Int} {v : List Key} : setRow (l.map setC) i 0 [.sub 5 (v.map keyC)] = (l.modify i.toNat fun _ => v).map setC := setRow_mod fun a => rfl
@[simp] theorem sr_node {l : List (List (List Key))} {i : Int} {v : List (List Key)} : setRow (l.map nodeC) i 0 [.sub 1 (v.map setC)] = (l.modify i.toNat fun _ => v).map nodeC := setRow_mod fun a => rfl
end Go.T
set_option linter.unusedVariables false
set_option linter.unusedSimpArgs false
namespace Go.T
theorem idx_walk {α : Type} (l : List α) (P : Nat → Prop) (fin : P l.length) (step : ∀ i a, i < l.length → l[i]? = some a → l.drop i = a :: l.drop (i + 1) → l.take (i + 1) = l.take i ++ [a] → P (i + 1) → P i) : P 0 := by
  have : ∀ k i, i + k = l.length → P i := by
    intro k
    induction k with
    | zero => intro i h; have : i = l.length := by omega
              subst this; exact fin
    | succ k ih =>
      intro i h
      have hi : i < l.length := by omega
      refine step i l[i] hi (List.getElem?_eq_getElem hi) (List.drop_eq_getElem_cons hi) ?_ (ih (i + 1) (by omega))
      rw [List.take_add_one, List.getElem?_eq_getElem hi]; rfl
  exact this l.length 0 (by omega)
theorem cp_loop {α : Type} {e : α → List TC} {z : List TC} (l : List α) (P : Int → RR → Prop) (hz : ∀ a, (e a).length = z.length) (fin : P l.length (l.map e))
    (step : ∀ (i : Nat) rows a, i < l.length → l[i]? = some a → rowAt rows i = some z → P ((i : Int) + 1) (setRow rows i 0 (e a)) → P i rows) : P 0 (List.replicate l.length z) := by
  have : ∀ i : Nat, i ≤ l.length → P (i : Int) ((l.take i).map e ++ List.replicate (l.length - i) z) → P 0 (List.replicate l.length z) := by
    intro i
    induction i with
    | zero => intro _ h; simpa using h
    | succ i ih =>
      intro hi h
      refine ih (by omega) ?_
      have hlt : i < l.length := by omega
      have ha := List.getElem?_eq_getElem hlt
      have hk : l.length - i = (l.length - (i + 1)) + 1 := by omega
      rw [hk]
      refine step i _ l[i] hlt ha (part_row (by omega)) ?_
      rw [setRow_part (e := e) ha rfl (hz _).symm]
      exact h
  refine this l.length (Nat.le_refl _) ?_
  simpa using fin
end Go.T
set_option linter.unusedVariables false
set_option linter.unusedSimpArgs false
namespace Go.T
section
variable {C : Cfg} {f : FuncId} {vs : List TV}
theorem iffB {x b : Bool} (h : RunF C f vs (vB x) []) : RunF C f vs (vB b) [] ↔ b = x := ⟨fun h' => by have := (h.det h').1; simpa using this, fun e => e ▸ h⟩
end
theorem byteAt_ok {s : ByteArray} {i : Nat} (h : i < s.size) : ∃ n : Int, byteAt s i = some n ∧ 0 ≤ n ∧ n ≤ 255 := by
  unfold byteAt
  rw [if_pos (Int.natCast_nonneg i), Int.toNat_natCast]
  have : s[i]? = some s[i] := getElem?_pos s i h
  rw [this]
  have := (s[i]).toNat_lt
  refine ⟨_, rfl, ?_, ?_⟩ <;> show _ ≤ _ <;> simp only [] <;> omega
theorem wrapI_eq {n : Int} (h : -9223372036854775808 ≤ n ∧ n ≤ 9223372036854775807) : wrapI .i64 n = n := by unfold wrapI; exact IntWalk.i64_in _ h
def inB (a lo hi : Int) : Bool := decide (lo ≤ a ∧ a ≤ hi)
def isWordB (a : Int) : Bool := inB a 0 65535
def lessKey (x y : Key) : Bool := decide (x.b < y.b ∨ (x.b = y.b ∧ x.a < y.a))
def sameSpot (x y : Key) : Bool := decide (x.b = y.b ∧ x.a = y.a)
def allN (n : Nat) (f : Nat → Bool) : Bool := (List.range' 0 n).all f
theorem range_step {i n : Nat} (h : i < n) : List.range' i (n - i) = i :: List.range' (i + 1) (n - (i + 1)) := by
  obtain ⟨k, hk⟩ : ∃ k, n - i = k + 1 := ⟨n - i - 1, by omega⟩
  rw [hk, show n - (i + 1) = k by omega]
  rfl
theorem nat_walk (n : Nat) (P : Nat → Prop) (fin : P n) (step : ∀ i, i < n → P (i + 1) → P i) : P 0 := by
  have : ∀ k i, i + k = n → P i := by
    intro k
    induction k with
    | zero => intro i h; have : i = n := by omega
              subst this; exact fin
    | succ k ih => intro i h; exact step i (by omega) (ih (i + 1) (by omega))
  exact this n 0 (by omega)
def zeroKey : Key := ⟨0, 0, 0, 0, 0⟩
def setPutF (k : Key) : Bool → List Key → List Key
  | put, [] => if put then [] else [k]
  | put, x :: r => (if !put && !lessKey x k then [k] else []) ++ (if sameSpot x k then [] else [x]) ++ setPutF k (put || !lessKey x k) r
def setPut (l : List Key) (k : Key) : List Key := setPutF k false l
def mergeSets (old new : List Key) : List Key := new.foldl setPut old
def dropN (l : List Key) : List Key := l.filter fun k => !decide (k.k = 0)
def nodeKeys0 (n : List (List Key)) : List Key := n.foldl mergeSets []
def nodeKeys (n : List (List Key)) : List Key := dropN (nodeKeys0 n)
def treeKeys (t : Tree) : List Key := t.nodes.flatMap nodeKeys
def keysOf (t : Tree) (b : Int) : List Key := (treeKeys t).filter fun k => decide (k.b = b)
def idxF {α : Type} (p : α → Bool) : List α → Int → Int
  | [], _ => -1
  | a :: r, i => if p a then i else idxF p r (i + 1)
def ageAt (l : List Age) (id : Int) : Int := idxF (fun a => decide (a.id = id)) l 0
def pathF (l : List Age) : Nat → Int → List Int
  | 0, _ => []
  | n + 1, id => if ageAt l id < 0 then [] else id :: (match getZ l (ageAt l id) with | some a => pathF l n a.fr | none => [])
def pathOf (l : List Age) (id : Int) : List Int := pathF l (l.length + 1) id
def hasI (l : List Int) (n : Int) : Bool := l.any fun a => decide (a = n)
def nearF (path : List Int) : Key × Bool → Key → Key × Bool := fun p k => if hasI path k.a && (!p.2 || decide (p.1.a < k.a)) then (k, true) else p
def near (keys : List Key) (path : List Int) : Key × Bool := keys.foldl (nearF path) (zeroKey, false)
def seenK (t : Tree) (l : List Age) (b id : Int) : Key × Bool := near (keysOf t b) (pathOf l id)
def nameChar (n : Int) : Bool := inB n 97 122 || inB n 48 57
def nameAtOk (s : ByteArray) (i : Nat) : Bool := match byteAt s i with | some n => nameChar n | none => true
def nameOk (s : ByteArray) : Bool := allN s.size (nameAtOk s) && inB s.size 1 6
def cellAt (l : List Cell) (i gen : Int) : Int × Bool := match getZ l i with
  | none => (0, false)
  | some c => if c.u = true ∧ c.g = gen then (c.n, true) else (0, false)
@[simp] theorem app_key {l : List Key} {b a k c g : Int} : List.append (l.map keyC) [[iI b, iI a, iI k, iI c, iI g]] = (l ++ [(⟨b, a, k, c, g⟩ : Key)]).map keyC := by simp [keyC]
@[simp] theorem app_int {l : List Int} {b : Int} : List.append (l.map intC) [[iI b]] = (l ++ [b]).map intC := by simp [intC]
@[simp] theorem app_byte {l : List Int} {b : Int} : List.append (l.map byteC) [[.sc (.int .u8 b)]] = (l ++ [b]).map byteC := by simp [byteC]
@[simp] theorem app_age {l : List Age} {b a : Int} : List.append (l.map ageC) [[iI b, iI a]] = (l ++ [(⟨b, a⟩ : Age)]).map ageC := by simp [ageC]
@[simp] theorem app_vol {l : List Vol} {s : ByteArray} {b a : Int} {q : Bool} : List.append (l.map volC) [[iS s, iI b, iI a, iB q]] = (l ++ [(⟨s, b, a, q⟩ : Vol)]).map volC := by simp [volC]
@[simp] theorem app_set {l : List (List Key)} {s : List Key} : List.append (l.map setC) [[.sub 5 (s.map keyC)]] = (l ++ [s]).map setC := by simp [setC]
@[simp] theorem app_node {l : List (List (List Key))} {s : List (List Key)} : List.append (l.map nodeC) [[.sub 1 (s.map setC)]] = (l ++ [s]).map nodeC := by simp [nodeC]
@[simp] theorem app_map {l : List Mp} {s : ByteArray} {f : Bool} {r : List Int} : List.append (l.map mapC) [[iS s, iB f, .sub 1 (r.map intC)]] = (l ++ [(⟨s, f, r⟩ : Mp)]).map mapC := by simp [mapC]
@[simp] theorem app_rows {α : Type} {e : α → List TC} {l m : List α} : List.append (l.map e) (m.map e) = (l ++ m).map e := by simp
@[simp] theorem nil_keys : ([] : RR) = ([] : List Key).map keyC ↔ True := by simp
@[simp] theorem succ_len {α : Type} (l : List α) : Nat.succ (List.length l) = l.length + 1 := rfl
theorem allSc_key1 (b a k c g : Int) : allSc [[iI b, iI a, iI k, iI c, iI g]] = true := allSc_key [⟨b, a, k, c, g⟩]
theorem allSc_age1 (b a : Int) : allSc [[iI b, iI a]] = true := allSc_age [⟨b, a⟩]
theorem allSc_vol1 (s : ByteArray) (b a : Int) (q : Bool) : allSc [[iS s, iI b, iI a, iB q]] = true := allSc_vol [⟨s, b, a, q⟩]
attribute [simp] allSc_key1 allSc_age1 allSc_vol1
@[simp] theorem key_eta (k : Key) : (⟨k.b, k.a, k.k, k.c, k.g⟩ : Key) = k := rfl
@[simp] theorem age_eta (k : Age) : (⟨k.id, k.fr⟩ : Age) = k := rfl
@[simp] theorem cell_eta (k : Cell) : (⟨k.g, k.u, k.n⟩ : Cell) = k := rfl
@[simp] theorem vol_eta (k : Vol) : (⟨k.name, k.age, k.size, k.fx⟩ : Vol) = k := rfl
@[simp] theorem map_eta (k : Mp) : (⟨k.name, k.fx, k.l⟩ : Mp) = k := rfl
@[simp] theorem op_eta (k : Opn) : (⟨k.kind, k.name, k.to, k.a, k.b⟩ : Opn) = k := rfl
end Go.T
set_option linter.unusedVariables false
set_option linter.unusedSimpArgs false
namespace Go.T
def blockOf (p : Pool) (i b : Int) : Int := match getZ p.vols i with
  | none => 0
  | some v => if 0 ≤ b ∧ b < v.size then (if (seenK p.t p.ages b v.age).2 = true ∧ (seenK p.t p.ages b v.age).1.k = 1 then (cellAt p.cells (seenK p.t p.ages b v.age).1.c (seenK p.t p.ages b v.age).1.g).1 else 0) else 0
end Go.T
set_option linter.unusedVariables false
set_option linter.unusedSimpArgs false
namespace Go.T
def blocks (p : Pool) (i : Nat) (k : Nat) : List Int := (List.range k).map fun b : Nat => blockOf p i b
def opZero (o : Opn) : Bool := if o.kind = 2 then decide (o.a = 0) && inB o.b 0 1 else if o.kind = 3 ∨ o.kind = 7 then decide (o.a = 0) && decide (o.b = 0) else if o.kind = 4 then true else decide (o.b = 0)
def opName (o : Opn) : Bool := if 7 ≤ o.kind then decide (o.name = bs0) else nameOk o.name
def opTo (o : Opn) : Bool := if o.kind = 2 then nameOk o.to else decide (o.to = bs0)
def opOk (o : Opn) : Bool := inB o.kind 1 9 && (opName o && (opTo o && (isWordB o.a && (isWordB o.b && opZero o))))
end Go.T
set_option linter.unusedVariables false
set_option linter.unusedSimpArgs false
namespace Go.T
end Go.T
set_option linter.unusedVariables false
namespace Go.T
def leV (v u : Vol) : Bool := ltS u.name v.name || eqS u.name v.name
theorem bl_trans : ∀ (x y z : List UInt8), Op.bytesLess x y = true → Op.bytesLess y z = true → Op.bytesLess x z = true
  | x, y, [], _, h => by cases y <;> simp [Op.bytesLess] at h
  | x, [], c :: z, h, _ => by cases x <;> simp [Op.bytesLess] at h
  | [], _ :: _, _ :: _, _, _ => by simp [Op.bytesLess]
  | a :: x, b :: y, c :: z, h1, h2 => by
    simp only [Op.bytesLess, Bool.or_eq_true, Bool.and_eq_true, decide_eq_true_eq, beq_iff_eq] at h1 h2 ⊢
    rcases h1 with h1 | ⟨rfl, h1⟩
    · rcases h2 with h2 | ⟨rfl, h2⟩
      · exact .inl (UInt8.lt_trans h1 h2)
      · exact .inl h1
    · rcases h2 with h2 | ⟨rfl, h2⟩
      · exact .inl h2
      · exact .inr ⟨rfl, bl_trans x y z h1 h2⟩
theorem ltS_trans {a b c : ByteArray} (h1 : ltS a b = true) (h2 : ltS b c = true) : ltS a c = true := by
  unfold ltS at *
  exact bl_trans _ _ _ h1 h2
def Rise : List Vol → Prop
  | [] => True
  | [_] => True
  | a :: b :: r => ltS a.name b.name = true ∧ Rise (b :: r)
theorem leV_down {v a b : Vol} (h : ltS a.name b.name = true) (hb : leV v b = true) : leV v a = true := by
  unfold leV at *
  rw [Bool.or_eq_true] at *
  rcases hb with hb | hb
  · exact .inl (ltS_trans h hb)
  · have : b.name.toList = v.name.toList := by
      unfold eqS at hb; exact eq_of_beq hb
    unfold ltS at h ⊢
    rw [← this]; exact .inl h
theorem Rise.tail {a : Vol} {l : List Vol} (h : Rise (a :: l)) : Rise l := by
  cases l with
  | nil => trivial
  | cons b r => exact h.2
theorem Rise.cut {v : Vol} : ∀ {l : List Vol} {k : Nat}, Rise l → k ≤ l.length → (∀ u ∈ l.drop k, leV v u = false) → (∀ u, 0 < k → l[k - 1]? = some u → leV v u = true) → (l.takeWhile (leV v)).length = k
  | [], k, _, hk, _, _ => by simp at hk; simp [hk]
  | a :: l, 0, _, _, h1, _ => by
    have := h1 a (.head _)
    simp [this]
  | a :: l, k + 1, hr, hk, h1, h2 => by
    have ih := Rise.cut (v := v) (l := l) (k := k) hr.tail (by simpa using hk) (fun u hu => h1 u (by simpa using hu)) fun u h0 hu => by
      obtain ⟨j, rfl⟩ : ∃ j, k = j + 1 := ⟨k - 1, by omega⟩
      exact h2 u (by omega) (by simpa using hu)
    have ha : leV v a = true := by
      cases k with
      | zero => exact h2 a (by omega) rfl
      | succ k =>
        cases l with
        | nil => simp at hk
        | cons b r =>
          refine leV_down hr.1 ?_
          rw [List.takeWhile_cons] at ih
          cases hb : leV v b with
          | true => rfl
          | false => rw [hb] at ih; simp at ih
    rw [List.takeWhile_cons, if_pos ha, List.length_cons, ih]
theorem Rise.modify {f : Vol → Vol} (hf : ∀ u, (f u).name = u.name) : ∀ {l : List Vol} (i : Nat), Rise l → Rise (l.modify i f)
  | [], i, h => by cases i <;> exact h
  | [a], 0, _ => trivial
  | [a], i + 1, _ => by cases i <;> trivial
  | a :: b :: r, 0, h => by
    show Rise (f a :: b :: r)
    exact ⟨by rw [hf]; exact h.1, h.2⟩
  | a :: b :: r, 1, h => by
    show Rise (a :: f b :: r)
    refine ⟨by rw [hf]; exact h.1, ?_⟩
    exact Rise.modify hf (l := b :: r) 0 h.2
  | a :: b :: r, i + 2, h => ⟨h.1, Rise.modify hf (l := b :: r) (i + 1) h.2⟩
end Go.T
set_option linter.unusedVariables false
namespace Go.T
def gtM (m u : Mp) : Bool := !(ltS u.name m.name || eqS u.name m.name)
def cutM (l : List Mp) (m : Mp) : Nat → Nat
  | 0 => 0
  | k + 1 => match l[k]? with
    | some u => if gtM m u = true then cutM l m k else k + 1
    | none => k + 1
theorem cutM_le (l : List Mp) (m : Mp) : ∀ k, cutM l m k ≤ k
  | 0 => Nat.le_refl _
  | k + 1 => by
    unfold cutM
    split
    · split
      · exact Nat.le_succ_of_le (cutM_le l m k)
      · exact Nat.le_refl _
    · exact Nat.le_refl _
def insAt {α : Type} (l : List α) (k : Nat) (x : α) : List α := l.take k ++ x :: l.drop k
def putM (l : List Mp) (m : Mp) : List Mp := insAt l (cutM l m l.length) m
theorem putM_len (l : List Mp) (m : Mp) : (putM l m).length = l.length + 1 := by
  have := cutM_le l m l.length
  unfold putM insAt
  rw [List.length_append, List.length_cons, List.length_take, List.length_drop]; omega
theorem putM_mem {l : List Mp} {m x : Mp} (h : x ∈ putM l m) : x ∈ l ∨ x = m := by
  unfold putM insAt at h
  rcases List.mem_append.1 h with h | h
  · exact .inl (List.mem_of_mem_take h)
  · rcases List.mem_cons.1 h with h | h
    · exact .inr h
    · exact .inl (List.mem_of_mem_drop h)
def MapsIn (l l' : List Mp) : Prop := l'.length ≤ l.length + 1 ∧ ∀ B : Nat, 12 ≤ B → (∀ x ∈ l, x.l.length ≤ B) → ∀ x ∈ l', x.l.length ≤ B
theorem MapsIn.refl (l : List Mp) : MapsIn l l := ⟨Nat.le_succ _, fun _ _ h => h⟩
theorem MapsIn.put {l : List Mp} {m : Mp} (h : ∀ B : Nat, 12 ≤ B → (∀ x ∈ l, x.l.length ≤ B) → m.l.length ≤ B) : MapsIn l (putM l m) :=
  ⟨Nat.le_of_eq (putM_len l m), fun B hB hl x hx => (putM_mem hx).elim (hl x) fun e => by rw [e]; exact h B hB hl⟩
end Go.T
set_option linter.unusedVariables false
namespace Go.T
end Go.T
set_option linter.unusedVariables false
namespace Go.T
def KLt (x y : Key) : Prop := x.b < y.b ∨ (x.b = y.b ∧ x.a < y.a)
theorem KLt.trans {x y z : Key} (h1 : KLt x y) (h2 : KLt y z) : KLt x z := by unfold KLt at *; omega
end Go.T
set_option linter.unusedVariables false
namespace Go.T
abbrev tIIB (x : Int × Int × Bool) : TV := .tu [(0, [iI x.1]), (0, [iI x.2.1]), (0, [iB x.2.2])]
abbrev tSIB (x : ByteArray × Int × Bool) : TV := .tu [(0, [iS x.1]), (0, [iI x.2.1]), (0, [iB x.2.2])]
abbrev tOIB (x : Opn × Int × Bool) : TV := .tu [(1, opC x.1), (0, [iI x.2.1]), (0, [iB x.2.2])]
def byteZ (b : List Int) (i : Int) : Int := (getZ b i).getD 0
def gw (x y : Int) : Int := bitI .or .i64 (shlI .i64 (wrapI .i64 x) 8) (wrapI .i64 y)
def Byts (b : List Int) : Prop := ∀ x ∈ b, 0 ≤ x ∧ x ≤ 255
theorem byteZ_rng {b : List Int} (h : Byts b) (i : Int) : 0 ≤ byteZ b i ∧ byteZ b i ≤ 255 := by
  unfold byteZ
  cases hg : getZ b i with
  | none => simp
  | some x => exact h x (getZ_mem hg)
theorem rowB {b : List Int} {i : Int} (h0 : 0 ≤ i) (h1 : i < b.length) : rowAt (b.map byteC) i = some [TC.sc (Value.int IntKind.u8 (byteZ b i))] := by
  obtain ⟨y, hy⟩ := getZ_some h0 h1
  rw [rowAt_mapZ, hy]
  unfold byteZ
  rw [hy]; rfl
theorem wrap_byte {x : Int} (h : 0 ≤ x ∧ x ≤ 255) : wrapI .i64 x = x := by
  unfold wrapI
  rw [Go.IntKind.wrap_i64]; omega
theorem gw_pos {x y : Int} (hx : 0 ≤ x ∧ x ≤ 255) (hy : 0 ≤ y ∧ y ≤ 255) : 0 ≤ gw x y := by
  unfold gw
  rw [wrap_byte hx, wrap_byte hy]
  have e1 : shlI .i64 x 8 = x * 256 := by
    unfold shlI
    rw [show (2 : Int) ^ (min (8 : Int).toNat IntKind.i64.bits) = 256 from by decide, Go.IntKind.wrap_i64]; omega
  rw [e1]
  have h : bitI .or .i64 (x * 256) y = Go.IntKind.i64.wrap (((BitVec.ofInt 64 (x * 256) ||| BitVec.ofInt 64 y).toNat : Nat) : Int) := by unfold bitI; rfl
  rw [h]
  have b1 : (BitVec.ofInt 64 (x * 256)).toNat < 2 ^ 16 := by rw [BitVec.toNat_ofInt]; omega
  have b2 : (BitVec.ofInt 64 y).toNat < 2 ^ 16 := by rw [BitVec.toNat_ofInt]; omega
  have b3 := Nat.or_lt_two_pow b1 b2
  rw [BitVec.toNat_or, Go.IntKind.wrap_i64]
  omega
def getW (b : List Int) (at' : Int) : Int × Int × Bool := if 0 ≤ at' ∧ at' + 2 ≤ b.length then (gw (byteZ b at') (byteZ b (at' + 1)), at' + 2, true) else (0, 0, false)
theorem getW_pos {b : List Int} (h : Byts b) (i : Int) : 0 ≤ (getW b i).1 ∧ 0 ≤ (getW b i).2.1 ∧ (getW b i).2.1 ≤ b.length := by
  unfold getW
  split
  · exact ⟨gw_pos (byteZ_rng h _) (byteZ_rng h _), by simp only []; omega, by simp only []; omega⟩
  · exact ⟨Int.le_refl _, Int.le_refl _, by simp⟩
def getText (b : List Int) (i : Int) : ByteArray × Int × Bool := if (getW b i).2.2 = true ∧ (getW b i).1 ≤ 60 ∧ (getW b i).1 ≤ b.length - (getW b i).2.1 then (strOf ((b.take ((getW b i).2.1 + (getW b i).1).toNat).drop (getW b i).2.1.toNat), (getW b i).2.1 + (getW b i).1, true) else (bs0, 0, false)
attribute [local semireducible] strOf in
theorem strOf_size (l : List Int) : (strOf l).size = l.length := by
  show ((l.map fun n : Int => UInt8.ofNat n.toNat).toArray).size = _
  simp
theorem getText_size (b : List Int) (i : Int) : (getText b i).1.size ≤ b.length := by
  unfold getText
  split
  · rw [strOf_size, List.length_drop, List.length_take]; omega
  · exact Nat.zero_le _
def opn0 : Opn := ⟨0, bs0, bs0, 0, 0⟩
def opAt (b : List Int) (i : Int) : Opn := ⟨wrapI .i64 (byteZ b i), (getText b (i + 1)).1, (getText b (getText b (i + 1)).2.1).1, (getW b (getText b (getText b (i + 1)).2.1).2.1).1, (getW b (getW b (getText b (getText b (i + 1)).2.1).2.1).2.1).1⟩
def opGood (b : List Int) (i : Int) : Bool := (getText b (i + 1)).2.2 && ((getText b (getText b (i + 1)).2.1).2.2 && ((getW b (getText b (getText b (i + 1)).2.1).2.1).2.2 && (getW b (getW b (getText b (getText b (i + 1)).2.1).2.1).2.1).2.2))
def getOp (b : List Int) (i : Int) : Opn × Int × Bool := if 0 ≤ i ∧ i < b.length then (if opGood b i = true then (if opOk (opAt b i) = true then (opAt b i, (getW b (getW b (getText b (getText b (i + 1)).2.1).2.1).2.1).2.1, true) else (opn0, 0, false)) else (opn0, 0, false)) else (opn0, 0, false)
theorem byteRowsR_map : ∀ l : List Int, byteRowsR (l.map byteC) = some l
  | [] => rfl
  | n :: r => by
    show (byteRowsR (r.map byteC)).map (fun ns => n :: ns) = _
    rw [byteRowsR_map r]; rfl
theorem byteRows_map (l : List Int) : byteRows (l.map byteC) = some l := by unfold byteRows; exact byteRowsR_map l
end Go.T

