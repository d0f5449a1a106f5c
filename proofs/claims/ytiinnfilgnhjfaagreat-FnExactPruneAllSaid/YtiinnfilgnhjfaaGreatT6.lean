/- A run has one result; the formulas, simplified. The program's data as rows; what the formulas say of them. Rows that are written, as data. Loops over lists: how a run of them is told. What the program's functions come to, in plain Lean. What the program's functions come to: nodes, trees, pools. What the program's functions come to: maps, equality, steps. What the program's functions come to: volumes taken away. Draws: a cursor over bytes. Ages and volumes put in: what the functions come to. Maps put in, taken out, resized: what the functions come to. A key put into a node: what it comes to. Sets of keys stay in order; a node that takes no key has more than it may. An operation out of bytes. A key put into a tree: what it comes to. Sizes of what is right; keys put into pools; what is done to pools. A key put into a tree: sizes, and where it goes. Each cell that is used is of one key. A goal that is taken apart by what is at hand. -/
import Derived.Test.YtiinnfilgnhjfaaGreatT5
set_option linter.unusedVariables false
set_option linter.unusedSimpArgs false
namespace Go.T
def aaD (cf:Cf):Prop:= ∀f vs r fs r' fs',cf f vs r fs→cf f vs r' fs'→r=r'∧fs=fs'
def ab7 (lp:Lp):Prop:= ∀f i c st (Q Q':TX→TS→Prop),lp f i c st Q→lp f i c st Q'→ ∃x s,Q x s∧Q' x s
theorem pn {R:Type} {cf:Cf} {lp:Lp} (hc:aaD cf) (hl:ab7 lp) {Q Q':R→Prop}: ∀(e:Ev R),e.holds cf lp Q→e.holds cf lp Q'→ ∃r,Q r∧Q' r
 | .fail,h,_=>h.elim
 | .ret r,h,h'=>⟨r,h,h'⟩
 | .test b k,h,h'=>pn hc hl (k b) h h'
 | .row rows i k,⟨c,h1,h2⟩,⟨c',h1',h2'⟩=>by
   rw[h1] at h1';cases h1'
   exact pn hc hl (k c) h2 h2'
 | .byte rows i k,⟨c,h1,h2⟩,⟨c',h1',h2'⟩=>by
   rw[h1] at h1';cases h1'
   exact pn hc hl (k c) h2 h2'
 | .bytes rows k,⟨c,h1,h2⟩,⟨c',h1',h2'⟩=>by
   rw[h1] at h1';cases h1'
   exact pn hc hl (k c) h2 h2'
 | .call f vs k,⟨r,fs,h1,h2⟩,⟨r',fs',h1',h2'⟩=>by
   obtain⟨rfl,rfl⟩:=hc _ _ _ _ _ _ h1 h1'
   exact pn hc hl (k r fs) h2 h2'
 | .loop f i c st k,h,h'=>by
   obtain⟨x,s,h1,h2⟩:=hl _ _ _ _ _ _ h h'
   exact pn hc hl (k x s) h1 h2
 | .both a b,⟨r,h1,h2,h3⟩,⟨r',h1',h2',h3'⟩=>by
   obtain⟨r0,e1,e2⟩:=pn hc hl a h1 h1'
   subst e1 e2
   exact⟨_,h3,h3'⟩
section
variable {C : mz}
theorem Ud {cf:Cf} {lp:Lp} (hc:aaD cf) (hl:ab7 lp) {fx:List Nat} {f i:Nat} {c:Code} {Q Q':TX→TS→Prop}: ∀(n:Nat) (st:TS),iter C cf lp fx f i c Q n st→iter C cf lp fx f i c Q' n st→ ∃x s,Q x s∧Q' x s
 |0,_,h,_=>h.elim
 |n+1,st,h,h'=>by
  obtain⟨⟨x,s⟩,h1,h2⟩:=pn hc hl _ h h'
  cases x with
  |norm=>
   simp only at h1 h2
   rw[r6] at h1 h2
   exact Ud hc hl n _ h1 h2
  |ex id=>exact⟨_,_,h1,h2⟩
  |ret=>exact⟨_,_,h1,h2⟩
theorem Wy {cf:Cf} (hc:aaD cf) (k:Nat) (fx:List Nat): ∀n,ab7 (U3 C cf k fx n)
 |0=>fun _ _ _ _ _ _ h _=>h.elim
 |n+1=>fun f i c st Q Q' h h'=>Ud hc (Wy hc k fx n) k st h h'
theorem Iv: ∀k,aaD (jh C k)
 |0=>fun _ _ _ _ _ _ h _=>h.elim
 |k+1=>fun f vs r fs r' fs' h h'=>by
  unfold jh at h h'
  cases hx:C.ext f with
  |some p=>rw[hx] at h h';have h:p vs=some (r,fs):=h;have h':p vs=some (r',fs'):=h';rw[h] at h';cases h';exact⟨rfl,rfl⟩
  |none=>
  rw[hx] at h h'
  simp only at h h'
  obtain⟨p,h1,h2⟩:=pn (Iv k) (Wy (Iv k) k _ 4) _ h h'
  rw[h1] at h2
  cases h2
  exact⟨rfl,rfl⟩
theorem aa.det {f:FuncId} {vs:List TV} {r r':TV} {fs fs':List TV} (h:aa C f vs r fs) (h':aa C f vs r' fs'):r'=r∧fs'=fs:=by
 obtain⟨k,h⟩:=h
 obtain⟨k',h'⟩:=h'
 obtain⟨h1,h2⟩:=Iv (max k k') _ _ _ _ _ _ (mX (Nat.le_max_left _ _) h) (mX (Nat.le_max_right _ _) h')
 exact⟨h1.symm,h2.symm⟩
end
def fT {α:Type} (l:List α) (i:Int):Option α:=if 0≤i then l[i.toNat]? else none
theorem aE {α:Type} (l:List α) (i:Nat):fT l (i:Int)=l[i]?:=by
 unfold fT;rw[if_pos (Int.natCast_nonneg i),Int.toNat_natCast]
theorem pz {α:Type} {l:List α} {i:Int} (h0:0≤i) (h1:i<l.length): ∃a,fT l i=some a:=by
 unfold fT;rw[if_pos h0];exact⟨_,List.getElem?_eq_getElem (by omega)⟩
theorem pE {α:Type} {l:List α} {i:Int} (h: ¬(0≤i∧i<l.length)):fT l i=none:=by
 unfold fT
 split
 ·exact List.getElem?_eq_none (by omega)
 ·rfl
theorem bD {α:Type} (e:α→List TC) (l:List α) (i:Int):rowAt (l.map e) i=(fT l i).map e:=by
 unfold rowAt fT
 split
 ·rw[List.getElem?_map]
 ·rfl
theorem NG {α:Type} {l:List α} {i:Int} {a:α} (h:fT l i=some a):a∈l:=by
 unfold fT at h
 split at h
 ·exact List.mem_of_getElem? h
 ·cases h
def adb {α:Type} (l:List α) (i:Int) (a:α):List α:=l.set i.toNat a
theorem Ue {α:Type} {e:α→List TC} {l:List α} {i:Int} {a a':α} {f:Nat} {cs:List TC} (h:fT l i=some a) (he:(e a).take f++cs++(e a).drop (f+cs.length)=e a'):setRow (l.map e) i f cs=(adb l i a').map e:=by
 unfold fT at h
 split at h
 ·unfold setRow adb
  rw[List.getElem?_map,h]
  simp only[Option.map_some,he,List.map_set]
 ·cases h
@[simp] theorem cv {α:Type} (e:α→List TC) (l:List α) (a b:Int):aA (l.map e) a b=((l.take b.toNat).drop a.toNat).map e:=by
  unfold aA;rw[←List.map_take,←List.map_drop]
theorem uQ {rows:List (List TC)} (h: ∀r∈rows,∀c∈r,∃v,c= .sc v):bS rows=true:=by
 unfold bS
 rw[List.all_eq_true]
 intro r hr
 rw[List.all_eq_true]
 intro c hc
 obtain⟨v,rfl⟩:=h r hr c hc
 rfl
@[simp] theorem Iw (s:ByteArray):(ByteArray.data s).1.length=s.size:=rfl
@[simp] theorem Dj (l h n:Int):eU l h n=decide (0≤l∧l≤h∧h≤n):=by unfold eU;rfl
end Go.T
namespace Go.T
structure Key where
 b:Int
 a:Int
 k:Int
 c:Int
 g:Int
 deriving DecidableEq
structure Age where
 id:Int
 fr:Int
 deriving DecidableEq
structure Cell where
 g:Int
 u:Bool
 n:Int
 deriving DecidableEq
structure Vol where
 name:ByteArray
 age:Int
 size:Int
 fx:Bool
structure Mp where
 name:ByteArray
 fx:Bool
 l:List Int
structure Tree where
 lows:List Int
 nodes:List (List (List Key))
structure Pool where
 t:Tree
 ages:List Age
 cells:List Cell
 vols:List Vol
 next:Int
structure Y9 where
 kind:Int
 name:ByteArray
 to:ByteArray
 a:Int
 b:Int
abbrev iI (n:Int):TC:= .sc (.int .i64 n)
abbrev iB (b:Bool):TC:= .sc (.bool b)
abbrev iS (s:ByteArray):TC:= .sc (.string s)
abbrev cI (n:Int):CE:= .sc (.int .i64 n)
abbrev cB (b:Bool):CE:= .sc (.bool b)
abbrev cS (s:ByteArray):CE:= .sc (.string s)
abbrev ay (a b:Int):Int:=UT .i64 a b
abbrev ef (a b:Int):Int:=MS .i64 a b
abbrev aaE (a b:Int):Int:=UU .i64 a b
theorem aB {a b:Int} (h: -9223372036854775808≤a+b∧a+b≤9223372036854775807):ay a b=a+b:=aay h
theorem eD {a b:Int} (h: -9223372036854775808≤a-b∧a-b≤9223372036854775807):ef a b=a-b:=aaz h
theorem aaF {a b:Int} (h: -9223372036854775808≤a*b∧a*b≤9223372036854775807):aaE a b=a*b:=aaA h
abbrev RR:=List (List TC)
abbrev QV:=TV→List TV→Prop
abbrev QX:=TX→TS→Prop
abbrev sI:Sh:= .int .i64
abbrev sB:Sh:= .bool
abbrev sS:Sh:= .str
abbrev hz:Hint:= .z
abbrev hb:Hint→Hint→Hint:= .br
abbrev hr:List Sh→Hint→Hint:= .row
abbrev hc:wk→List wk→Hint→Hint:= .call
abbrev bs0:ByteArray:=⟨#[]⟩
def bq (n:Int):List TC:=[.sc (.int .i64 n)]
def Dk (n:Int):List TC:=[.sc (.int .u8 n)]
def Kb (n:Bool):List TC:=[.sc (.bool n)]
def bw (x:Key):List TC:=[.sc (.int .i64 x.b),.sc (.int .i64 x.a),.sc (.int .i64 x.k),.sc (.int .i64 x.c),.sc (.int .i64 x.g)]
def bT (x:Age):List TC:=[.sc (.int .i64 x.id),.sc (.int .i64 x.fr)]
def bR (x:Cell):List TC:=[.sc (.int .i64 x.g),.sc (.bool x.u),.sc (.int .i64 x.n)]
def dh (x:Vol):List TC:=[.sc (.string x.name),.sc (.int .i64 x.age),.sc (.int .i64 x.size),.sc (.bool x.fx)]
def Su (x:Y9):List TC:=[.sc (.int .i64 x.kind),.sc (.string x.name),.sc (.string x.to),.sc (.int .i64 x.a),.sc (.int .i64 x.b)]
def Ix (x:Mp):List TC:=[.sc (.string x.name),.sc (.bool x.fx),.sub 1 (x.l.map bq)]
def Zc (x:List Int):List TC:=[.sub 1 (x.map Dk)]
def bX (x:List Key):List TC:=[.sub 5 (x.map bw)]
def aH (x:List (List Key)):List TC:=[.sub 1 (x.map bX)]
abbrev Wz (t:Tree):List TC:=[.sub 1 (t.lows.map bq),.sub 1 (t.nodes.map aH)]
abbrev jX (p:Pool):List TC:=[.sub 1 (p.t.lows.map bq),.sub 1 (p.t.nodes.map aH),.sub 2 (p.ages.map bT),.sub 3 (p.cells.map bR),.sub 4 (p.vols.map dh),.sc (.int .i64 p.next)]
abbrev vI (n:Int):TV:= .c (.sc (.int .i64 n))
abbrev vB (b:Bool):TV:= .c (.sc (.bool b))
abbrev vS (s:ByteArray):TV:= .c (.sc (.string s))
abbrev lz (l:List Int):TV:= .c (.sub 1 (l.map bq))
abbrev cM (l:List Key):TV:= .c (.sub 5 (l.map bw))
abbrev GP (l:List (List Key)):TV:= .c (.sub 1 (l.map bX))
abbrev uR (l:List (List (List Key))):TV:= .c (.sub 1 (l.map aH))
abbrev fG (l:List Age):TV:= .c (.sub 2 (l.map bT))
abbrev iD (l:List Cell):TV:= .c (.sub 3 (l.map bR))
abbrev yK (l:List Vol):TV:= .c (.sub 4 (l.map dh))
abbrev ru (k:Key):TV:= .ag [.sc (.int .i64 k.b),.sc (.int .i64 k.a),.sc (.int .i64 k.k),.sc (.int .i64 k.c),.sc (.int .i64 k.g)]
abbrev gz (n:List (List Key)):TV:= .ag [.sub 1 (n.map bX)]
abbrev c8 (t:Tree):TV:= .ag (Wz t)
abbrev eX (p:Pool):TV:= .ag (jX p)
section
variable {i : Int}
@[simp] theorem rE {l:List Int} {K:Int→Prop}:(∃n,rowAt (l.map bq) i=some [.sc (.int .i64 n)]∧K n)↔ ∃a,fT l i=some a∧K a:=by
  rw[bD]
  constructor
  ·rintro⟨n,h,hK⟩
   obtain⟨a,ha,h⟩:=Option.map_eq_some_iff.1 h
   unfold bq at h;cases h;exact⟨_,ha,hK⟩
  ·rintro⟨a,ha,hK⟩
   exact⟨_,by rw[ha];rfl,hK⟩
@[simp] theorem adz {l:List Int} {K:Int→Prop}:(∃n,rowAt (l.map Dk) i=some [.sc (.int .u8 n)]∧K n)↔ ∃a,fT l i=some a∧K a:=by
  rw[bD]
  constructor
  ·rintro⟨n,h,hK⟩
   obtain⟨a,ha,h⟩:=Option.map_eq_some_iff.1 h
   unfold Dk at h;cases h;exact⟨_,ha,hK⟩
  ·rintro⟨a,ha,hK⟩
   exact⟨_,by rw[ha];rfl,hK⟩
@[simp] theorem aaG {l:List Bool} {K:Bool→Prop}:(∃n,rowAt (l.map Kb) i=some [.sc (.bool n)]∧K n)↔ ∃a,fT l i=some a∧K a:=by
  rw[bD]
  constructor
  ·rintro⟨n,h,hK⟩
   obtain⟨a,ha,h⟩:=Option.map_eq_some_iff.1 h
   unfold Kb at h;cases h;exact⟨_,ha,hK⟩
  ·rintro⟨a,ha,hK⟩
   exact⟨_,by rw[ha];rfl,hK⟩
@[simp] theorem jj {l:List Key} {K:Int→Int→Int→Int→Int→Prop}:(∃b a k c g,rowAt (l.map bw) i=some [.sc (.int .i64 b),.sc (.int .i64 a),.sc (.int .i64 k),.sc (.int .i64 c),.sc (.int .i64 g)]∧K b a k c g)↔ ∃x,fT l i=some x∧K x.b x.a x.k x.c x.g:=by
  rw[bD]
  constructor
  ·rintro⟨_,_,_,_,_,h,hK⟩
   obtain⟨a,ha,h⟩:=Option.map_eq_some_iff.1 h
   unfold bw at h;cases h;exact⟨_,ha,hK⟩
  ·rintro⟨a,ha,hK⟩
   exact⟨_,_,_,_,_,by rw[ha];rfl,hK⟩
@[simp] theorem rF {l:List Age} {K:Int→Int→Prop}:(∃b a,rowAt (l.map bT) i=some [.sc (.int .i64 b),.sc (.int .i64 a)]∧K b a)↔ ∃x,fT l i=some x∧K x.id x.fr:=by
  rw[bD]
  constructor
  ·rintro⟨_,_,h,hK⟩
   obtain⟨a,ha,h⟩:=Option.map_eq_some_iff.1 h
   unfold bT at h;cases h;exact⟨_,ha,hK⟩
  ·rintro⟨a,ha,hK⟩
   exact⟨_,_,by rw[ha];rfl,hK⟩
@[simp] theorem qm {l:List Cell} {K:Int→Bool→Int→Prop}:(∃g u n,rowAt (l.map bR) i=some [.sc (.int .i64 g),.sc (.bool u),.sc (.int .i64 n)]∧K g u n)↔ ∃x,fT l i=some x∧K x.g x.u x.n:=by
  rw[bD]
  constructor
  ·rintro⟨_,_,_,h,hK⟩
   obtain⟨a,ha,h⟩:=Option.map_eq_some_iff.1 h
   unfold bR at h;cases h;exact⟨_,ha,hK⟩
  ·rintro⟨a,ha,hK⟩
   exact⟨_,_,_,by rw[ha];rfl,hK⟩
@[simp] theorem yj {l:List Vol} {K:ByteArray→Int→Int→Bool→Prop}:(∃s a z f,rowAt (l.map dh) i=some [.sc (.string s),.sc (.int .i64 a),.sc (.int .i64 z),.sc (.bool f)]∧K s a z f)↔ ∃x,fT l i=some x∧K x.name x.age x.size x.fx:=by
  rw[bD]
  constructor
  ·rintro⟨_,_,_,_,h,hK⟩
   obtain⟨a,ha,h⟩:=Option.map_eq_some_iff.1 h
   unfold dh at h;cases h;exact⟨_,ha,hK⟩
  ·rintro⟨a,ha,hK⟩
   exact⟨_,_,_,_,by rw[ha];rfl,hK⟩
@[simp] theorem aed {l:List Y9} {K:Int→ByteArray→ByteArray→Int→Int→Prop}:(∃k s t a b,rowAt (l.map Su) i=some [.sc (.int .i64 k),.sc (.string s),.sc (.string t),.sc (.int .i64 a),.sc (.int .i64 b)]∧K k s t a b)↔ ∃x,fT l i=some x∧K x.kind x.name x.to x.a x.b:=by
  rw[bD]
  constructor
  ·rintro⟨_,_,_,_,_,h,hK⟩
   obtain⟨a,ha,h⟩:=Option.map_eq_some_iff.1 h
   unfold Su at h;cases h;exact⟨_,ha,hK⟩
  ·rintro⟨a,ha,hK⟩
   exact⟨_,_,_,_,_,by rw[ha];rfl,hK⟩
@[simp] theorem adU {l:List Mp} {K:ByteArray→Bool→List (List TC)→Prop}:(∃s f r,rowAt (l.map Ix) i=some [.sc (.string s),.sc (.bool f),.sub 1 r]∧K s f r)↔ ∃x,fT l i=some x∧K x.name x.fx (x.l.map bq):=by
  rw[bD]
  constructor
  ·rintro⟨_,_,_,h,hK⟩
   obtain⟨a,ha,h⟩:=Option.map_eq_some_iff.1 h
   unfold Ix at h;cases h;exact⟨_,ha,hK⟩
  ·rintro⟨a,ha,hK⟩
   exact⟨_,_,_,by rw[ha];rfl,hK⟩
@[simp] theorem su {l:List (List Key)} {K:List (List TC)→Prop}:(∃r,rowAt (l.map bX) i=some [.sub 5 r]∧K r)↔ ∃x,fT l i=some x∧K (x.map bw):=by
  rw[bD]
  constructor
  ·rintro⟨_,h,hK⟩
   obtain⟨a,ha,h⟩:=Option.map_eq_some_iff.1 h
   unfold bX at h;cases h;exact⟨_,ha,hK⟩
  ·rintro⟨a,ha,hK⟩
   exact⟨_,by rw[ha];rfl,hK⟩
@[simp] theorem rG {l:List (List (List Key))} {K:List (List TC)→Prop}:(∃r,rowAt (l.map aH) i=some [.sub 1 r]∧K r)↔ ∃x,fT l i=some x∧K (x.map bX):=by
  rw[bD]
  constructor
  ·rintro⟨_,h,hK⟩
   obtain⟨a,ha,h⟩:=Option.map_eq_some_iff.1 h
   unfold aH at h;cases h;exact⟨_,ha,hK⟩
  ·rintro⟨a,ha,hK⟩
   exact⟨_,by rw[ha];rfl,hK⟩
@[simp] theorem adf {l:List (List Int)} {K:List (List TC)→Prop}:(∃r,rowAt (l.map Zc) i=some [.sub 1 r]∧K r)↔ ∃x,fT l i=some x∧K (x.map Dk):=by
  rw[bD]
  constructor
  ·rintro⟨_,h,hK⟩
   obtain⟨a,ha,h⟩:=Option.map_eq_some_iff.1 h
   unfold Zc at h;cases h;exact⟨_,ha,hK⟩
  ·rintro⟨a,ha,hK⟩
   exact⟨_,by rw[ha];rfl,hK⟩
end
theorem gE (n:Nat):Int.ofNat n=(n:Int):=rfl
@[simp] theorem natAdd (a b:Nat):Nat.add a b=a+b:=rfl
@[simp] theorem WA {α:Type} (a b:List α):List.append a b=a++b:=rfl
theorem kM (l:List Int):bS (l.map bq)=true:=uQ fun r hr c hc=>by
 obtain⟨a,_,rfl⟩:=List.mem_map.1 hr;unfold bq at hc;simp only[List.mem_singleton] at hc;exact⟨_,hc⟩
theorem VB (l:List Int):bS (l.map Dk)=true:=uQ fun r hr c hc=>by
 obtain⟨a,_,rfl⟩:=List.mem_map.1 hr;unfold Dk at hc;simp only[List.mem_singleton] at hc;exact⟨_,hc⟩
theorem kN (l:List Key):bS (l.map bw)=true:=uQ fun r hr c hc=>by
 obtain⟨a,_,rfl⟩:=List.mem_map.1 hr;unfold bw at hc;simp only[List.mem_cons,List.not_mem_nil,or_false] at hc
 rcases hc with h|h|h|h|h<;>exact⟨_,h⟩
theorem yL (l:List Age):bS (l.map bT)=true:=uQ fun r hr c hc=>by
 obtain⟨a,_,rfl⟩:=List.mem_map.1 hr;unfold bT at hc;simp only[List.mem_cons,List.not_mem_nil,or_false] at hc
 rcases hc with h|h<;>exact⟨_,h⟩
theorem Fw (l:List Cell):bS (l.map bR)=true:=uQ fun r hr c hc=>by
 obtain⟨a,_,rfl⟩:=List.mem_map.1 hr;unfold bR at hc;simp only[List.mem_cons,List.not_mem_nil,or_false] at hc
 rcases hc with h|h|h<;>exact⟨_,h⟩
theorem Ey (l:List Vol):bS (l.map dh)=true:=uQ fun r hr c hc=>by
 obtain⟨a,_,rfl⟩:=List.mem_map.1 hr;unfold dh at hc;simp only[List.mem_cons,List.not_mem_nil,or_false] at hc
 rcases hc with h|h|h|h<;>exact⟨_,h⟩
@[simp] theorem Sv (v:Value):bS [[.sc v]]=true:=uQ fun r hr c hc=>by
  simp only[List.mem_singleton] at hr;subst hr;simp only[List.mem_singleton] at hc;exact⟨_,hc⟩
attribute [simp] kM VB kN yL Fw Ey
end Go.T
namespace Go.T
theorem Iy {α:Type} (g:α→α): ∀(l:List α) (i:Nat) (a:α),l[i]?=some a→l.modify i g=l.set i (g a)
 |[],i,a,h=>by simp at h
 |x::r,0,a,h=>by simp only[List.getElem?_cons_zero,Option.some.injEq] at h;subst h;rfl
 |x::r,i+1,a,h=>by
  simp only[List.getElem?_cons_succ] at h
  rw[List.modify_succ_cons,List.set_cons_succ,Iy g r i a h]
theorem bV {α:Type} {e:α→List TC} {l:List α} {i:Int} {f:Nat} {cs:List TC} {g:α→α} (he: ∀a,(e a).take f++cs++(e a).drop (f+cs.length)=e (g a)):setRow (l.map e) i f cs=(l.modify i.toNat g).map e:=by
 unfold setRow
 rw[List.getElem?_map]
 cases h:l[i.toNat]? with
 |none=>
  have:l.length≤i.toNat:=List.getElem?_eq_none_iff.1 h
  simp only[Option.map_none]
  rw[List.modify_eq_self this]
 |some a=>
  simp only[Option.map_some]
  rw[he,Iy g l _ a h,List.map_set]
theorem qe {α:Type} {l:List α} {i:Int} {g:α→α}:fT (l.modify i.toNat g) i=(fT l i).map g:=by
 unfold fT
 split
 ·simp
 ·rfl
theorem mod_mod {α:Type} {l:List α} {i:Nat} {f g:α→α}:(l.modify i f).modify i g=l.modify i (fun x=>g (f x)):=by
 rw[List.modify_modify_eq];rfl
theorem jY {α β:Type} {o:Option α} {f:α→β} {K:β→Prop}:(∃x,o.map f=some x∧K x)↔ ∃x,o=some x∧K (f x):=by
 cases o with
 |none=>simp
 |some a=>simp
theorem lA {α:Type} {d r:List α} {a:α}:fT (d++a::r) (d.length:Int)=some a:=by
 rw[aE];simp
theorem At {α:Type} {d r:List α} {a:α} {f:α→α}:(d++a::r).modify ((d.length:Int).toNat) f=d++f a::r:=by
 rw[Int.toNat_natCast,Iy f _ _ a (by simp)]
 simp
@[simp] theorem Zd {l:List Key} {i:Int} {v:Int}:setRow (l.map bw) i 0 [.sc (.int .i64 v)]=(l.modify i.toNat fun x=>{x with b:=v}).map bw:=bV fun a=>rfl
@[simp] theorem Ze {l:List Key} {i:Int} {v:Int}:setRow (l.map bw) i 1 [.sc (.int .i64 v)]=(l.modify i.toNat fun x=>{x with a:=v}).map bw:=bV fun a=>rfl
@[simp] theorem Zf {l:List Key} {i:Int} {v:Int}:setRow (l.map bw) i 2 [.sc (.int .i64 v)]=(l.modify i.toNat fun x=>{x with k:=v}).map bw:=bV fun a=>rfl
@[simp] theorem Zg {l:List Key} {i:Int} {v:Int}:setRow (l.map bw) i 3 [.sc (.int .i64 v)]=(l.modify i.toNat fun x=>{x with c:=v}).map bw:=bV fun a=>rfl
@[simp] theorem Zh {l:List Key} {i:Int} {v:Int}:setRow (l.map bw) i 4 [.sc (.int .i64 v)]=(l.modify i.toNat fun x=>{x with g:=v}).map bw:=bV fun a=>rfl
@[simp] theorem ab8 {l:List Key} {i:Int} {v0:Int} {v1:Int} {v2:Int} {v3:Int} {v4:Int}:setRow (l.map bw) i 0 [.sc (.int .i64 v0),.sc (.int .i64 v1),.sc (.int .i64 v2),.sc (.int .i64 v3),.sc (.int .i64 v4)]=(l.modify i.toNat fun _=>⟨v0,v1,v2,v3,v4⟩).map bw:=bV fun a=>rfl
@[simp] theorem Xc {l:List Age} {i:Int} {v:Int}:setRow (l.map bT) i 0 [.sc (.int .i64 v)]=(l.modify i.toNat fun x=>{x with id:=v}).map bT:=bV fun a=>rfl
@[simp] theorem Rz {l:List Age} {i:Int} {v:Int}:setRow (l.map bT) i 1 [.sc (.int .i64 v)]=(l.modify i.toNat fun x=>{x with fr:=v}).map bT:=bV fun a=>rfl
@[simp] theorem ab9 {l:List Age} {i:Int} {v0:Int} {v1:Int}:setRow (l.map bT) i 0 [.sc (.int .i64 v0),.sc (.int .i64 v1)]=(l.modify i.toNat fun _=>⟨v0,v1⟩).map bT:=bV fun a=>rfl
@[simp] theorem Xd {l:List Cell} {i:Int} {v:Int}:setRow (l.map bR) i 0 [.sc (.int .i64 v)]=(l.modify i.toNat fun x=>{x with g:=v}).map bR:=bV fun a=>rfl
@[simp] theorem Xe {l:List Cell} {i:Int} {v:Bool}:setRow (l.map bR) i 1 [.sc (.bool v)]=(l.modify i.toNat fun x=>{x with u:=v}).map bR:=bV fun a=>rfl
@[simp] theorem Xf {l:List Cell} {i:Int} {v:Int}:setRow (l.map bR) i 2 [.sc (.int .i64 v)]=(l.modify i.toNat fun x=>{x with n:=v}).map bR:=bV fun a=>rfl
@[simp] theorem Sw {l:List Cell} {i:Int} {v0:Int} {v1:Bool} {v2:Int}:setRow (l.map bR) i 0 [.sc (.int .i64 v0),.sc (.bool v1),.sc (.int .i64 v2)]=(l.modify i.toNat fun _=>⟨v0,v1,v2⟩).map bR:=bV fun a=>rfl
@[simp] theorem Uf {l:List Vol} {i:Int} {v:ByteArray}:setRow (l.map dh) i 0 [.sc (.string v)]=(l.modify i.toNat fun x=>{x with name:=v}).map dh:=bV fun a=>rfl
@[simp] theorem VC {l:List Vol} {i:Int} {v:Int}:setRow (l.map dh) i 1 [.sc (.int .i64 v)]=(l.modify i.toNat fun x=>{x with age:=v}).map dh:=bV fun a=>rfl
@[simp] theorem Ug {l:List Vol} {i:Int} {v:Int}:setRow (l.map dh) i 2 [.sc (.int .i64 v)]=(l.modify i.toNat fun x=>{x with size:=v}).map dh:=bV fun a=>rfl
@[simp] theorem Xg {l:List Vol} {i:Int} {v:Bool}:setRow (l.map dh) i 3 [.sc (.bool v)]=(l.modify i.toNat fun x=>{x with fx:=v}).map dh:=bV fun a=>rfl
@[simp] theorem acd {l:List Vol} {i:Int} {v0:ByteArray} {v1:Int} {v2:Int} {v3:Bool}:setRow (l.map dh) i 0 [.sc (.string v0),.sc (.int .i64 v1),.sc (.int .i64 v2),.sc (.bool v3)]=(l.modify i.toNat fun _=>⟨v0,v1,v2,v3⟩).map dh:=bV fun a=>rfl
@[simp] theorem ace {l:List Y9} {i:Int} {v:Int}:setRow (l.map Su) i 0 [.sc (.int .i64 v)]=(l.modify i.toNat fun x=>{x with kind:=v}).map Su:=bV fun a=>rfl
@[simp] theorem acf {l:List Y9} {i:Int} {v:ByteArray}:setRow (l.map Su) i 1 [.sc (.string v)]=(l.modify i.toNat fun x=>{x with name:=v}).map Su:=bV fun a=>rfl
@[simp] theorem adg {l:List Y9} {i:Int} {v:ByteArray}:setRow (l.map Su) i 2 [.sc (.string v)]=(l.modify i.toNat fun x=>{x with to:=v}).map Su:=bV fun a=>rfl
@[simp] theorem adA {l:List Y9} {i:Int} {v:Int}:setRow (l.map Su) i 3 [.sc (.int .i64 v)]=(l.modify i.toNat fun x=>{x with a:=v}).map Su:=bV fun a=>rfl
@[simp] theorem adB {l:List Y9} {i:Int} {v:Int}:setRow (l.map Su) i 4 [.sc (.int .i64 v)]=(l.modify i.toNat fun x=>{x with b:=v}).map Su:=bV fun a=>rfl
@[simp] theorem aee {l:List Y9} {i:Int} {v0:Int} {v1:ByteArray} {v2:ByteArray} {v3:Int} {v4:Int}:setRow (l.map Su) i 0 [.sc (.int .i64 v0),.sc (.string v1),.sc (.string v2),.sc (.int .i64 v3),.sc (.int .i64 v4)]=(l.modify i.toNat fun _=>⟨v0,v1,v2,v3,v4⟩).map Su:=bV fun a=>rfl
@[simp] theorem abw {l:List Mp} {i:Int} {v:ByteArray}:setRow (l.map Ix) i 0 [.sc (.string v)]=(l.modify i.toNat fun x=>{x with name:=v}).map Ix:=bV fun a=>rfl
@[simp] theorem acV {l:List Mp} {i:Int} {v:Bool}:setRow (l.map Ix) i 1 [.sc (.bool v)]=(l.modify i.toNat fun x=>{x with fx:=v}).map Ix:=bV fun a=>rfl
@[simp] theorem adh {l:List Mp} {i:Int} {v:List Int}:setRow (l.map Ix) i 2 [.sub 1 (v.map bq)]=(l.modify i.toNat fun x=>{x with l:=v}).map Ix:=bV fun a=>rfl
@[simp] theorem adV {l:List Mp} {i:Int} {v0:ByteArray} {v1:Bool} {v2:List Int}:setRow (l.map Ix) i 0 [.sc (.string v0),.sc (.bool v1),.sub 1 (v2.map bq)]=(l.modify i.toNat fun _=>⟨v0,v1,v2⟩).map Ix:=bV fun a=>rfl
@[simp] theorem acg {l:List (Int)} {i:Int} {v:Int}:setRow (l.map bq) i 0 [.sc (.int .i64 v)]=(l.modify i.toNat fun _=>v).map bq:=bV fun a=>rfl
@[simp] theorem adC {l:List (Int)} {i:Int} {v:Int}:setRow (l.map Dk) i 0 [.sc (.int .u8 v)]=(l.modify i.toNat fun _=>v).map Dk:=bV fun a=>rfl
@[simp] theorem aaH {l:List (Bool)} {i:Int} {v:Bool}:setRow (l.map Kb) i 0 [.sc (.bool v)]=(l.modify i.toNat fun _=>v).map Kb:=bV fun a=>rfl
@[simp] theorem ach {l:List (List Key)} {i:Int} {v:List Key}:setRow (l.map bX) i 0 [.sub 5 (v.map bw)]=(l.modify i.toNat fun _=>v).map bX:=bV fun a=>rfl
@[simp] theorem aaI {l:List (List (List Key))} {i:Int} {v:List (List Key)}:setRow (l.map aH) i 0 [.sub 1 (v.map bX)]=(l.modify i.toNat fun _=>v).map aH:=bV fun a=>rfl
end Go.T
namespace Go.T
theorem aW {α:Type} (l:List α) (P:Nat→Prop) (fin:P l.length) (step: ∀i a,i<l.length→l[i]?=some a→l.drop i=a::l.drop (i+1)→l.take (i+1)=l.take i++[a]→P (i+1)→P i):P 0:=by
 have: ∀k i,i+k=l.length→P i:=by
  intro k
  induction k with
  |zero=>intro i h;have:i=l.length:=by omega
         subst this;exact fin
  |succ k ih=>
   intro i h
   have hi:i<l.length:=by omega
   refine step i l[i] hi (List.getElem?_eq_getElem hi) (List.drop_eq_getElem_cons hi) ?_ (ih (i+1) (by omega))
   rw[List.take_add_one,List.getElem?_eq_getElem hi];rfl
 exact this l.length 0 (by omega)
theorem Au {α:Type} {e:α→List TC} {z:List TC} (l:List α) (P:Int→RR→Prop) (hz: ∀a,(e a).length=z.length) (fin:P l.length (l.map e))
 (step: ∀(i:Nat) rows a,i<l.length→l[i]?=some a→rowAt rows i=some z→P ((i:Int)+1) (setRow rows i 0 (e a))→P i rows):P 0 (List.replicate l.length z):=by
 have: ∀i:Nat,i≤l.length→P (i:Int) ((l.take i).map e++List.replicate (l.length-i) z)→P 0 (List.replicate l.length z):=by
  intro i
  induction i with
  |zero=>intro _ h;simpa using h
  |succ i ih=>
   intro hi h
   refine ih (by omega) ?_
   have hlt:i<l.length:=by omega
   have ha:=List.getElem?_eq_getElem hlt
   have hk:l.length-i=(l.length-(i+1))+1:=by omega
   rw[hk]
   refine step i _ l[i] hlt ha (Y7 (by omega)) ?_
   rw[Ua (e:=e) ha rfl (hz _).symm]
   exact h
 refine this l.length (Nat.le_refl _) ?_
 simpa using fin
def tot {α:Type} (w:α→Nat):List α→Nat
 |[]=>0
 |a::r=>w a+tot w r
def gC {α:Type} (mk:α→Int→α) (w:α→Nat):List α→Int→List α
 |[],_=>[]
 |a::r,k=>mk a k::gC mk w r (k+w a)
theorem uB {α:Type} {e:α→List TC} (mk:α→Int→α) (w:α→Nat) (P:Int→Int→RR→Prop) (B:Int)
 (step: ∀(d:List α) a r (k:Int),0≤k→k+w a≤B→d.length<1099511627776→P (k+w a) ((d.length:Int)+1) ((d++mk a k::r).map e)→P k d.length ((d++a::r).map e)):
 ∀(r d:List α) (k:Int),0≤k→k+tot w r≤B→d.length+r.length≤1099511627776→P (k+tot w r) ((d.length+r.length:Nat):Int) ((d++gC mk w r k).map e)→P k d.length ((d++r).map e)
 |[],d,k,_,_,_,h=>by simpa [gC,tot] using h
 |a::r,d,k,h0,h1,h2,h=>by
  simp only[tot,List.length_cons] at h1 h2 h
  refine step d a r k h0 (by omega) (by omega) ?_
  have:=uB mk w P B step r (d++[mk a k]) (k+w a) (by omega) (by omega) (by simp;omega) (by
   simp only[List.append_assoc,List.singleton_append,List.length_append,List.length_singleton]
   rw[show k+(w a:Int)+(tot w r:Int)=k+((w a+tot w r:Nat):Int) by omega,show d.length+1+r.length=d.length+(r.length+1) by omega]
   exact h)
  simpa using this
theorem uC {α:Type} {e:α→List TC} (mk:α→Int→α) (w:α→Nat) (P:Int→Int→RR→Prop) (B:Int)
 (step: ∀(d:List α) a r (k:Int),0≤k→k+w a≤B→d.length<1099511627776→P (k+w a) ((d.length:Int)+1) ((d++mk a k::r).map e)→P k d.length ((d++mk a k::r).map e)):
 ∀(r d:List α) (k:Int),0≤k→k+tot w r≤B→d.length+r.length≤1099511627776→P (k+tot w r) ((d.length+r.length:Nat):Int) ((d++gC mk w r k).map e)→P k d.length ((d++gC mk w r k).map e)
 |[],d,k,_,_,_,h=>by simpa [gC,tot] using h
 |a::r,d,k,h0,h1,h2,h=>by
  simp only[tot,List.length_cons,gC] at h1 h2 h ⊢
  refine step d a _ k h0 (by omega) (by omega) ?_
  have:=uC mk w P B step r (d++[mk a k]) (k+w a) (by omega) (by omega) (by simp;omega) (by
   simp only[List.append_assoc,List.singleton_append,List.length_append,List.length_singleton]
   rw[show k+(w a:Int)+(tot w r:Int)=k+((w a+tot w r:Nat):Int) by omega,show d.length+1+r.length=d.length+(r.length+1) by omega]
   exact h)
  simpa using this
theorem uD {α:Type} (n:Nat): ∀l:List α,tot (fun _=>n) l=n*l.length
 |[]=>rfl
 |a::r=>by simp only[tot,uD n r,List.length_cons,Nat.mul_add];omega
theorem mJ {α:Type} (mk:α→Int→α) (w:α→Nat): ∀(l:List α) (k:Int),(gC mk w l k).length=l.length
 |[],_=>rfl
 |a::r,k=>by simp[gC,mJ mk w r]
theorem oe {α:Type} {w:α→Nat}: ∀{l:List α} {a:α},a∈l→w a≤tot w l
 |[],_,h=>by cases h
 |b::r,a,h=>by
  simp only[tot]
  rcases List.mem_cons.1 h with rfl|h
  ·omega
  ·have:=oe (w:=w) h;omega
theorem lB {α:Type} {w:α→Nat} {l:List α} {i:Nat} {a:α} (h:l[i]?=some a):w a≤tot w l:=oe (List.mem_of_getElem? h)
def bH (s:List Key):Nat:=s.length
def aI (n:List (List Key)):Nat:=n.length+tot bH n
def rH (n:List (List (List Key))):Nat:=n.length+tot aI n
def cz (t:Tree):Nat:=t.lows.length+rH t.nodes
def qZ (v:Vol):Nat:=v.name.size
def Iz (l:List Vol):Nat:=l.length+tot qZ l
def cc (p:Pool):Nat:=cz p.t+p.ages.length+p.cells.length+Iz p.vols
def m4 (left:Int) (n:Nat):Int:=if left<n then-1 else left-n
end Go.T
namespace Go.T
section
variable {C : mz} {f : FuncId} {vs : List TV}
theorem rI {x b:Bool} (h:aa C f vs (vB x) []):aa C f vs (vB b) []↔b=x:=⟨fun h'=>by have:=(h.det h').1;simpa using this,fun e=>e▸h⟩
theorem Zi {x b:Int} (h:aa C f vs (vI x) []):aa C f vs (vI b) []↔b=x:=⟨fun h'=>by have:=(h.det h').1;simpa using this,fun e=>e▸h⟩
theorem adW {x b:ByteArray} (h:aa C f vs (vS x) []):aa C f vs (vS b) []↔b=x:=⟨fun h'=>by have:=(h.det h').1;simpa using this,fun e=>e▸h⟩
theorem Uh {z:Nat} {x b:RR} (h:aa C f vs (.c (.sub z x)) []):aa C f vs (.c (.sub z b)) []↔b=x:=⟨fun h'=>by have:=(h.det h').1;simpa using this,fun e=>e▸h⟩
theorem abx {x b:Int} {y c:Bool} (h:aa C f vs (.tu [(0,[iI x]),(0,[iB y])]) []):aa C f vs (.tu [(0,[iI b]),(0,[iB c])]) []↔b=x∧c=y:=⟨fun h'=>by have:=(h.det h').1;simpa using this,fun⟨e,e'⟩=>e▸e'▸h⟩
end
theorem RA {s:ByteArray} {i:Nat} (h:i<s.size): ∃n:Int,rZ s i=some n∧0≤n∧n≤255:=by
 unfold rZ
 rw[if_pos (Int.natCast_nonneg i),Int.toNat_natCast]
 have:s[i]?=some s[i]:=getElem?_pos s i h
 rw[this]
 have:=(s[i]).toNat_lt
 refine⟨_,rfl,?_,?_⟩<;>show _≤_<;>simp only[]<;>omega
theorem Ui {n:Int} (h: -9223372036854775808≤n∧n≤9223372036854775807):tT .i64 n=n:=by unfold tT;exact IntWalk.i64_in _ h
def jZ (a lo hi:Int):Bool:=decide (lo≤a∧a≤hi)
def GQ (a:Int):Bool:=jZ a 0 65535
def gY (x:Key):Bool:=jZ x.b 0 15&&jZ x.a 1 60&&jZ x.k 0 2&&(if x.k=1 then jZ x.c 0 23&&jZ x.g 0 999 else decide (x.c=0)&&decide (x.g=0))
def dU (x y:Key):Bool:=decide (x.b<y.b∨(x.b=y.b∧x.a<y.a))
def mK (x y:Key):Bool:=decide (x.b=y.b∧x.a=y.a)
def cP (n:Nat) (f:Nat→Bool):Bool:=(List.range' 0 n).all f
theorem ko {i n:Nat} (h:i<n):List.range' i (n-i)=i::List.range' (i+1) (n-(i+1)):=by
 obtain⟨k,hk⟩: ∃k,n-i=k+1:=⟨n-i-1,by omega⟩
 rw[hk,show n-(i+1)=k by omega]
 rfl
theorem oU (n:Nat) (P:Nat→Prop) (fin:P n) (step: ∀i,i<n→P (i+1)→P i):P 0:=by
 have: ∀k i,i+k=n→P i:=by
  intro k
  induction k with
  |zero=>intro i h;have:i=n:=by omega
         subst this;exact fin
  |succ k ih=>intro i h;exact step i (by omega) (ih (i+1) (by omega))
 exact this n 0 (by omega)
theorem WB {α:Type} (f g:α→Bool): ∀l:List α,l.all (fun x=>f x&&g x)=(l.all f&&l.all g)
 |[]=>rfl
 |a::r=>by simp only[List.all_cons,WB f g r];cases f a<;>cases g a<;>simp
theorem Zj (n:Nat) (f g:Nat→Bool):cP n (fun i=>f i&&g i)=(cP n f&&cP n g):=WB f g _
theorem Dl {n:Nat} {f:Nat→Bool}:cP n f=true↔ ∀i,i<n→f i=true:=by
 unfold cP
 rw[List.all_eq_true]
 constructor
 ·intro h i hi;exact h i (by simp[List.mem_range'];exact hi)
 ·intro h i hi
  simp[List.mem_range'] at hi
  exact h i hi
def Xh {α:Type} (l:List α) (f:α→Bool) (i:Nat):Bool:=match l[i]? with|some a=>f a|none=>true
def ie {α:Type} (l:List α) (f:α→α→Bool):Nat→Bool
 |0=>true
 |k+1=>match l[k]?,l[k+1]? with|some x,some y=>f x y|_,_=>true
theorem aaJ {α:Type} (l:List α) (f:α→Bool):cP l.length (Xh l f)=l.all f:=by
 rw[Bool.eq_iff_iff,Dl,List.all_eq_true]
 constructor
 ·intro h a ha
  obtain⟨i,hi,rfl⟩:=List.getElem_of_mem ha
  have:=h i hi
  simpa [Xh,hi] using this
 ·intro h i hi
  simp only[Xh,List.getElem?_eq_getElem hi]
  exact h _ (List.getElem_mem hi)
def mB (l:List Key) (i:Nat):Bool:=Xh l gY i&&ie l dU i
def Dm (l:List Key):Bool:=cP l.length (mB l)&&decide (l.length≤60)
theorem NH (l:List Key):Dm l=(l.all gY&&(cP l.length (ie l dU)&&decide (l.length≤60))):=by
 rw[←Bool.and_assoc,←aaJ,←Zj];rfl
def eo:Key:=⟨0,0,0,0,0⟩
def setAt (l:List Key) (b a:Int):Option Key:=l.find? fun x=>decide (x.b=b∧x.a=a)
def fI (k:Key):Bool→List Key→List Key
 |put,[]=>if put then [] else [k]
 |put,x::r=>(if !put&& !dU x k then [k] else [])++(if mK x k then [] else [x])++fI k (put|| !dU x k) r
def fJ (l:List Key) (k:Key):List Key:=fI k false l
theorem Kd (k:Key): ∀(l:List Key) (put:Bool),(fI k put l).length≤l.length+(if put then 0 else 1)
 |[],put=>by simp only[fI];split<;>simp
 |x::r,put=>by
  have:=Kd k r (put|| !dU x k)
  simp only[fI,List.length_append,List.length_cons]
  have h1:(if mK x k then([]:List Key) else [x]).length≤1:=by split<;>simp
  revert h1
  generalize (if mK x k then([]:List Key) else [x])=m
  intro h1
  cases put<;>cases hk:dU x k<;>simp[hk] at this ⊢ <;>omega
theorem oV (l:List Key) (k:Key):(fJ l k).length≤l.length+1:=by have:=Kd k l false;simpa [fJ] using this
def cK (old new:List Key):List Key:=new.foldl fJ old
theorem sF: ∀(new old:List Key),(cK old new).length≤old.length+new.length
 |[],old=>by simp[cK]
 |x::r,old=>by
  have:=sF r (fJ old x)
  have h2:=oV old x
  simp only[cK,List.foldl_cons,List.length_cons] at this ⊢
  omega
def og (l:List Key):List Key:=l.filter fun k=> !decide (k.k=0)
def uE (n:List (List Key)):List Key:=n.foldl cK []
def aK (n:List (List Key)):List Key:=og (uE n)
theorem AQ: ∀(n:List (List Key)) (a:List Key),(n.foldl cK a).length≤a.length+tot bH n
 |[],a=>by simp[tot]
 |s::r,a=>by
  have:=AQ r (cK a s)
  have h2:=sF s a
  simp only[List.foldl_cons,tot,bH] at this ⊢
  omega
theorem cX (n:List (List Key)):(aK n).length≤tot bH n:=by
 have h1:=AQ n []
 have h2:=List.length_filter_le (fun k:Key=> !decide (k.k=0)) (uE n)
 simp only[List.length_nil,Nat.zero_add] at h1
 exact Nat.le_trans h2 h1
def cq (n:List (List Key)):Nat:=tot bH n
def fK (n:List (List Key)):Bool:=n.all (fun s=>Dm s&& !decide (s.length=0))&&decide (n.length≤3)&&decide (cq n≤8)
def cF (l:List Key):List (List Key):=if l.length=0 then [] else [l]
def aC (t:Tree):List Key:=t.nodes.flatMap aK
theorem GR: ∀(l:List (List (List Key))),(l.flatMap aK).length≤tot aI l
 |[]=>by simp[tot]
 |n::r=>by
  have:=GR r
  have h2:=cX n
  simp only[List.flatMap_cons,List.length_append,tot,aI]
  omega
theorem eJ (t:Tree):(aC t).length≤cz t:=by
 have:=GR t.nodes
 unfold aC cz rH
 omega
def fU (t:Tree) (b:Int):List Key:=(aC t).filter fun k=>decide (k.b=b)
theorem NI (t:Tree) (b:Int):(fU t b).length≤(aC t).length:=List.length_filter_le _ _
def gZ (b a:Int):Int:=ay (aaE 64 b) a
def fj {α:Type} (p:α→Bool):List α→Int→Int
 |[],_=> -1
 |a::r,i=>if p a then i else fj p r (i+1)
theorem GS {α:Type} (p:α→Bool): ∀(l:List α) (i:Int),0≤i→decide (0≤fj p l i)=l.any p
 |[],i,_=>by simp[fj]
 |a::r,i,h=>by
  by_cases hp:p a=true
  ·simp[fj,hp,h]
  ·have:=GS p r (i+1) (by omega)
   simp only[fj,if_neg hp,List.any_cons]
   rw[this]
   simp[hp]
theorem IA {α:Type} (p:α→Bool): ∀(l:List α) (i:Int),0≤i→(fj p l i= -1∧ ∀a∈l,p a=false)∨ ∃(j:Nat) (a:α),fj p l i=i+j∧l[j]?=some a∧p a=true∧j<l.length∧ ∀k,k<j→ ∀b,l[k]?=some b→p b=false
 |[],i,_=> .inl ⟨rfl,fun a h=>by cases h⟩
 |a::r,i,h=>by
  simp only[fj]
  cases hp:p a with
  |true=>exact .inr ⟨0,a,by simp,rfl,hp,by simp,fun k hk=>by omega⟩
  |false=>
   rcases IA p r (i+1) (by omega) with⟨h1,h2⟩|⟨j,b,h1,h2,h3,h4,h5⟩
   ·refine .inl ⟨by simpa using h1,fun b hb=> ?_⟩
    rcases List.mem_cons.1 hb with rfl|hb
    ·exact hp
    ·exact h2 b hb
   ·refine .inr ⟨j+1,b,by simp[h1];omega,h2,h3,by simp;omega,fun k hk c hc=> ?_⟩
    cases k with
    |zero=>simp at hc;rw[←hc];exact hp
    |succ k=>exact h5 k (by omega) c hc
theorem aaK {α:Type} (p:α→Bool) (l:List α): -1≤fj p l 0∧fj p l 0<l.length:=by
 rcases IA p l 0 (by omega) with⟨h,_⟩|⟨j,a,h,_,_,h4,_⟩<;>omega
theorem Dn {α:Type} (p:α→Bool) (l:List α) (h: ¬fj p l 0<0): ∃a,fT l (fj p l 0)=some a∧p a=true:=by
 rcases IA p l 0 (by omega) with⟨h1,_⟩|⟨j,a,h1,h2,h3,_⟩
 ·omega
 ·refine⟨a,?_,h3⟩
  rw[h1,Int.zero_add,aE];exact h2
def eg (l:List Age) (id:Int):Int:=fj (fun a=>decide (a.id=id)) l 0
theorem Uj (l:List Age) (id:Int): -1≤eg l id∧eg l id<l.length:=aaK _ _
theorem Ez (l:List Age) (id:Int) (h: ¬eg l id<0): ∃a,fT l (eg l id)=some a∧a.id=id:=by
 obtain⟨a,h1,h2⟩:=Dn _ l h
 exact⟨a,h1,of_decide_eq_true h2⟩
def Dp (l:List Age):Nat→Int→List Int
 |0,_=>[]
 |n+1,id=>if eg l id<0 then [] else id::(match fT l (eg l id) with|some a=>Dp l n a.fr|none=>[])
def pathOf (l:List Age) (id:Int):List Int:=Dp l (l.length+1) id
theorem RB (l:List Age): ∀(n:Nat) (id:Int),(Dp l n id).length≤n
 |0,_=>by simp[Dp]
 |n+1,id=>by
  simp only[Dp]
  split
  ·simp
  ·split
   ·have:=RB l n
    simp only[List.length_cons]
    rename_i a _
    have:=this a.fr
    omega
   ·simp
theorem Av (l:List Age) (id:Int):(pathOf l id).length≤l.length+1:=RB l _ id
def EI (l:List Int) (n:Int):Bool:=l.any fun a=>decide (a=n)
def GU (path:List Int):Key×Bool→Key→Key×Bool:=fun p k=>if EI path k.a&&(!p.2||decide (p.1.a<k.a)) then(k,true) else p
def near (keys:List Key) (path:List Int):Key×Bool:=keys.foldl (GU path) (eo,false)
def EX (t:Tree) (l:List Age) (b id:Int):Key×Bool:=near (fU t b) (pathOf l id)
def yM (t:Tree) (l:List Age) (b id:Int):Key×Bool:=near (fU t b) ((pathOf l id).drop 1)
theorem Zk (keys:List Key):near keys []=(eo,false):=by
 unfold near
 suffices ∀(l:List Key),l.foldl (GU []) (eo,false)=(eo,false) from this keys
 intro l
 induction l with
 |nil=>rfl
 |cons a r ih=>simpa [GU,EI] using ih
def kr (t:Tree) (l:List Age) (k:Key) (id:Int):Bool:=(EX t l k.b id).2&&decide ((EX t l k.b id).1.a=k.a)
def IB (p:Pool) (k:Key):Bool:=p.vols.any fun v=>decide (k.b<v.size)&&kr p.t p.ages k v.age
def c7 (l:List Age) (id:Int):List Int:=if id=0 then [] else(l.filter fun a=>decide (a.fr=id)).map (·.id)
theorem NJ (l:List Age) (id:Int):(c7 l id).length≤l.length:=by
 unfold c7
 split
 ·simp
 ·rw[List.length_map];exact List.length_filter_le _ _
abbrev OY (p:Key×Bool):TV:= .tu [(1,[iI p.1.b,iI p.1.a,iI p.1.k,iI p.1.c,iI p.1.g]),(0,[iB p.2])]
def Zl (n:Int):Bool:=jZ n 97 122||jZ n 48 57
def ey (s:ByteArray) (i:Nat):Bool:=match rZ s i with|some n=>Zl n|none=>true
def Dq (s:ByteArray):Bool:=cP s.size (ey s)&&jZ s.size 1 6
def eE (l:List Age) (i:Nat):Bool:=Xh l (fun a=>jZ a.id 1 60) i&&(ie l (fun x y=>decide (x.id<y.id)) i&&Xh l (fun a=>decide (a.fr=0)|| !decide (eg (l.take i) a.fr<0)) i)
def gX (l:List Age):Bool:=cP l.length (eE l)&&decide (l.length≤16)
def nj (l:List Vol) (id:Int):Bool:= !l.any fun v=>decide (v.age=id)
def cellAt (l:List Cell) (i gen:Int):Int×Bool:=match fT l i with
 |none=>(0,false)
 |some c=>if c.u=true∧c.g=gen then(c.n,true) else(0,false)
def bQ (l:List Cell):Nat:=(l.filter (·.u)).length
def iH (c:Cell):Bool:=jZ c.g 0 999&&(GQ c.n&&(c.u||decide (c.n=0)))
def ff (l:List Cell):Bool:=l.all iH&&decide (l.length=24)
abbrev tIB (p:Int×Bool):TV:= .tu [(0,[iI p.1]),(0,[iB p.2])]
@[simp] theorem wm {l:List Key} {b a k c g:Int}:List.append (l.map bw) [[iI b,iI a,iI k,iI c,iI g]]=(l++[(⟨b,a,k,c,g⟩:Key)]).map bw:=by simp[bw]
@[simp] theorem MM {l:List Int} {b:Int}:List.append (l.map bq) [[iI b]]=(l++[b]).map bq:=by simp[bq]
@[simp] theorem adi {l:List Int} {b:Int}:List.append (l.map Dk) [[.sc (.int .u8 b)]]=(l++[b]).map Dk:=by simp[Dk]
@[simp] theorem WC {l:List Age} {b a:Int}:List.append (l.map bT) [[iI b,iI a]]=(l++[(⟨b,a⟩:Age)]).map bT:=by simp[bT]
@[simp] theorem adD {l:List Vol} {s:ByteArray} {b a:Int} {q:Bool}:List.append (l.map dh) [[iS s,iI b,iI a,iB q]]=(l++[(⟨s,b,a,q⟩:Vol)]).map dh:=by simp[dh]
@[simp] theorem adE {l:List (List Key)} {s:List Key}:List.append (l.map bX) [[.sub 5 (s.map bw)]]=(l++[s]).map bX:=by simp[bX]
@[simp] theorem GV {l:List (List (List Key))} {s:List (List Key)}:List.append (l.map aH) [[.sub 1 (s.map bX)]]=(l++[s]).map aH:=by simp[aH]
@[simp] theorem adF {l:List Mp} {s:ByteArray} {f:Bool} {r:List Int}:List.append (l.map Ix) [[iS s,iB f,.sub 1 (r.map bq)]]=(l++[(⟨s,f,r⟩:Mp)]).map Ix:=by simp[Ix]
@[simp] theorem ku {α:Type} {e:α→List TC} {l m:List α}:List.append (l.map e) (m.map e)=(l++m).map e:=by simp
@[simp] theorem adj:([]:RR)=([]:List Key).map bw↔True:=by simp
@[simp] theorem ck {α:Type} (l:List α):Nat.succ (List.length l)=l.length+1:=rfl
theorem m5 (b a k c g:Int):bS [[iI b,iI a,iI k,iI c,iI g]]=true:=kN [⟨b,a,k,c,g⟩]
theorem NK (b a:Int):bS [[iI b,iI a]]=true:=yL [⟨b,a⟩]
theorem VD (s:ByteArray) (b a:Int) (q:Bool):bS [[iS s,iI b,iI a,iB q]]=true:=Ey [⟨s,b,a,q⟩]
attribute [simp] m5 NK VD
@[simp] theorem dg (k:Key):(⟨k.b,k.a,k.k,k.c,k.g⟩:Key)=k:=rfl
@[simp] theorem dV (k:Age):(⟨k.id,k.fr⟩:Age)=k:=rfl
@[simp] theorem cY (k:Cell):(⟨k.g,k.u,k.n⟩:Cell)=k:=rfl
@[simp] theorem dW (k:Vol):(⟨k.name,k.age,k.size,k.fx⟩:Vol)=k:=rfl
@[simp] theorem dX (k:Mp):(⟨k.name,k.fx,k.l⟩:Mp)=k:=rfl
@[simp] theorem fM (k:Y9):(⟨k.kind,k.name,k.to,k.a,k.b⟩:Y9)=k:=rfl
theorem cZ {n b:Nat} (h:n*b≤140737488355328∧n≤140737488355328):fits n b=true:=by rw[aaw];exact decide_eq_true h
end Go.T
namespace Go.T
def dj (s:List Key):Bool:=Dm s&& !decide (s.length=0)
theorem RC (n:List (List Key)):fK n=(n.all dj&&(decide (n.length≤3)&&decide (cq n≤8))):=by
 unfold fK;rw[Bool.and_assoc];rfl
def VE (lows:List Int) (i:Nat) (x:Int):Bool:=match lows[i]? with
 |some lo=> !decide (x<lo)&&(match lows[i+1]? with|some hi=>decide (x<hi)|none=>true)
 |none=>true
def gP (lows:List Int) (i:Nat) (k:Key):Bool:=VE lows i (gZ k.b k.a)
def bU (lows:List Int) (i:Nat) (s:List Key):Bool:=s.all (gP lows i)
def cT (t:Tree) (i:Nat):Bool:=ie t.lows (fun x y=>decide (x<y)) i&&(match t.nodes[i]? with
 |some n=>fK n&&((decide (i=0)|| !decide ((aK n).length=0))&&n.all (bU t.lows i))
 |none=>true)
def eK (t:Tree):Bool:=jZ t.nodes.length 1 20&&(decide (t.lows.length=t.nodes.length)&&((match t.lows[0]? with|some x=>decide (x=0)|none=>true)&&(cP t.nodes.length (cT t)&&decide ((aC t).length≤60))))
def bZ (p:Pool) (i:Nat):Bool:=match p.vols[i]? with
 |some v=>Dq v.name&&(jZ v.size 1 12&&(!decide (eg p.ages v.age<0)&&(decide ((c7 p.ages v.age).length=0)&&(ie p.vols (fun x y=>OZ x.name y.name) i&& !(p.vols.take i).any fun u=>decide (u.age=v.age)))))
 |none=>true
def iJ (p:Pool):Bool:=cP p.vols.length (bZ p)&&decide (p.vols.length≤6)
def cN (p:Pool) (l:List Key) (i:Nat):Bool:=match l[i]? with
 |some k=> !decide (eg p.ages k.a<0)&&(!decide (k.k=1)||((cellAt p.cells k.c k.g).2&& !(l.take i).any fun x=>decide (x.k=1)&&decide (x.c=k.c)))
 |none=>true
def cg (l:List Key):Nat:=(l.filter fun k=>decide (k.k=1)).length
def iW (p:Pool):Bool:=cP (aC p.t).length (cN p (aC p.t))&&decide ((bQ p.cells:Int)=cg (aC p.t))
def jk (p:Pool):Bool:=p.ages.all (fun a=>decide (a.id<p.next))&&(eK p.t&&(gX p.ages&&(ff p.cells&&(jZ p.next 1 61&&(iJ p&&iW p)))))
def aaL (p:Pool) (i b:Int):Int:=match fT p.vols i with
 |none=>0
 |some v=>if 0≤b∧b<v.size then(if(EX p.t p.ages b v.age).2=true∧(EX p.t p.ages b v.age).1.k=1 then(cellAt p.cells (EX p.t p.ages b v.age).1.c (EX p.t p.ages b v.age).1.g).1 else 0) else 0
def pF (l:List Key):List Bool:=(List.range 24).map fun m:Nat=>l.any fun x=>decide (x.k=1)&&decide (x.c=(m:Int))
theorem Uk:pF []=List.replicate 24 false:=by decide
theorem Ul (l:List Key) {c:Int} (h:0≤c∧c<24):fT (pF l) c=some (l.any fun x=>decide (x.k=1)&&decide (x.c=c)):=by
 obtain⟨n,rfl⟩: ∃n:Nat,c=n:=⟨c.toNat,by omega⟩
 rw[aE]
 unfold pF
 rw[List.getElem?_map,List.getElem?_range (by omega)]
 rfl
theorem Um (l:List Key) (k:Key) (hk:k.k=1) (h:0≤k.c∧k.c<24):(pF l).modify k.c.toNat (fun _=>true)=pF (l++[k]):=by
 apply List.ext_getElem?
 intro m
 rw[List.getElem?_modify]
 unfold pF
 rw[List.getElem?_map,List.getElem?_map]
 by_cases hm:m<24
 ·rw[List.getElem?_range hm]
  simp only[Option.map_some,List.any_append,List.any_cons,List.any_nil,Bool.or_false,hk,decide_true,Bool.true_and]
  by_cases e:k.c.toNat=m
  ·have:k.c=(m:Int):=by omega
   simp[e,this]
  ·have: ¬k.c=(m:Int):=by omega
   simp[e,this]
 ·rw[List.getElem?_eq_none (by simp;omega)];rfl
theorem Sx (l:List Key) (k:Key) (hk: ¬k.k=1):pF (l++[k])=pF l:=by
 unfold pF
 simp[hk]
theorem EY (k:Key) (l:List Key):cg (k::l)=(if k.k=1 then 1 else 0)+cg l:=by
 unfold cg
 by_cases h:k.k=1<;>simp[h]
 omega
theorem Xi {l:List Cell} {i g:Int} (h:(cellAt l i g).2=true):0≤i∧i<l.length:=by
 unfold cellAt at h
 apply Classical.byContradiction
 intro hn
 rw[pE hn] at h
 cases h
theorem fu {p:Pool} (h:cc p≤4194304):cz p.t≤4194304∧p.ages.length≤4194304∧p.cells.length≤4194304∧p.vols.length≤4194304∧tot qZ p.vols≤4194304:=by
 unfold cc Iz at h
 omega
end Go.T
namespace Go.T
def blocks (p:Pool) (i:Nat) (k:Nat):List Int:=(List.range k).map fun b:Nat=>aaL p i b
def gQ (l:List Cell) (i:Int):List Cell:=match fT l i with
 |none=>l
 |some c=>if ff l=true∧c.u=true then l.modify i.toNat (fun _=>⟨x8 (ay c.g 1) 1000,false,0⟩) else l
theorem EZ {l:List Cell} {i:Int} (h:fT l i=none):gQ l i=l:=by unfold gQ;rw[h]
theorem GW {l:List Cell} {i:Int} (h:ff l=false):gQ l i=l:=by
 unfold gQ
 cases fT l i with
 |none=>rfl
 |some c=>exact if_neg (fun hh=>by rw[h] at hh;cases hh.1)
theorem Ke {l:List Cell} {i:Int} {c:Cell} (hc:fT l i=some c) (h:c.u=false):gQ l i=l:=by
 unfold gQ;rw[hc];exact if_neg (fun hh=>by rw[h] at hh;cases hh.2)
theorem GX {l:List Cell} {i:Int} {c:Cell} (hc:fT l i=some c) (h:ff l=true) (hu:c.u=true):gQ l i=l.modify i.toNat (fun _=>⟨x8 (ay c.g 1) 1000,false,0⟩):=by
 unfold gQ;rw[hc];exact if_pos ⟨h,hu⟩
theorem Sy (l:List Cell) (i:Int):(gQ l i).length=l.length:=by
 unfold gQ
 cases fT l i with
 |none=>rfl
 |some c=>simp only[];split<;>simp
abbrev US (x:Int×Int):TV:= .tu [(0,[iI x.1]),(0,[iI x.2])]
theorem Un {p:Pool} (h:jk p=true):iJ p=true:=by
 simp only[jk,Bool.and_eq_true] at h
 exact h.2.2.2.2.2.1
theorem Kf {p:Pool} (h:jk p=true):gX p.ages=true:=by
 simp only[jk,Bool.and_eq_true] at h
 exact h.2.2.1
theorem Zm {l:List Age} (h:gX l=true): ∀a∈l,1≤a.id:=by
 intro a ha
 simp only[gX,Bool.and_eq_true,Dl] at h
 obtain⟨i,hi,rfl⟩:=List.getElem_of_mem ha
 have h1:=h.1 i hi
 simp only[eE,Bool.and_eq_true] at h1
 have h2:=h1.1
 simp only[Xh,List.getElem?_eq_getElem hi] at h2
 simp[jZ] at h2
 omega
theorem Zn {l:List Age} {id:Int} (h:gX l=true): ∀x∈c7 l id,1≤x:=by
 intro x hx
 unfold c7 at hx
 split at hx
 ·cases hx
 ·obtain⟨a,ha,rfl⟩:=List.mem_map.1 hx
  exact Zm h a (List.mem_filter.1 ha).1
def yN (l:List Key) (b a:Int):Key×Bool:=match setAt l b a with|some k=>(k,true)|none=>(eo,false)
def nq (n:List (List Key)) (b a:Int):Nat→Key×Bool
 |0=>(eo,false)
 |k+1=>match n[k]? with
  |some s=>if(yN s b a).2=true then(if(yN s b a).1.k=0 then(eo,false) else yN s b a) else nq n b a k
  |none=>(eo,false)
def rJ (f:Int→Bool) (l:List Int):Nat→Int
 |0=> -1
 |k+1=>match l[k]? with
  |some x=>if f x=true then(k:Int) else rJ f l k
  |none=> -1
def mC (t:Tree) (b a:Int):Int:=rJ (fun x=>decide (x≤gZ b a)) t.lows t.lows.length
def uS (t:Tree) (b a:Int):Key×Bool:=match fT t.nodes (mC t b a) with
 |some n=>nq n b a n.length
 |none=>(eo,false)
def yO (p:Pool) (id:Int):Int:=if nj p.vols id=true∧(c7 p.ages id).length=1 then(match fT (c7 p.ages id) 0 with|some x=>x|none=>0) else 0
def RD (p:Pool) (k:Key):Bool:=if yO p k.a=0 then false else !(uS p.t k.b (yO p k.a)).2
def oh (p:Pool) (step:Int) (k:Key):Bool:=if step=1 then !IB p k else if step=2 then decide (k.k=2)&& !(yM p.t p.ages k.b k.a).2 else RD p k
def hasB (id:Int) (k:Key):Bool:=decide (k.a=id)
def Dr (id:Int) (k:Key):Bool:= !hasB id k
theorem Zo (id:Int) (l:List Key):l.all (Dr id)= !(l.any (hasB id)):=by
 induction l with
 |nil=>rfl
 |cons k r ih=>simp[List.all_cons,List.any_cons,ih,Dr]
def qn (p:Pool) (a:Age):Bool:=(aC p.t).all (Dr a.id)&&(nj p.vols a.id&&decide ((c7 p.ages a.id).length≤1))
def jO (p:Pool) (j:Int):Int:=fj (oh p j) (aC p.t) 0
def Fx (p:Pool):Int:=fj (qn p) p.ages 0
def cm (p:Pool):Int×Int:=
 if jk p=true then(if 0≤jO p 1 then(1,jO p 1) else if 0≤jO p 2 then(2,jO p 2) else if 0≤jO p 3 then(3,jO p 3) else if 0≤Fx p then(4,Fx p) else(0,0)) else(0,0)
abbrev tPB (x:Pool×Bool):TV:= .tu [(1,[.sub 1 (x.1.t.lows.map bq),.sub 1 (x.1.t.nodes.map aH),.sub 2 (x.1.ages.map bT),.sub 3 (x.1.cells.map bR),.sub 4 (x.1.vols.map dh),iI x.1.next]),(0,[iB x.2])]
end Go.T
namespace Go.T
abbrev tPI (x:Pool×Int):TV:= .tu [(1,[.sub 1 (x.1.t.lows.map bq),.sub 1 (x.1.t.nodes.map aH),.sub 2 (x.1.ages.map bT),.sub 3 (x.1.cells.map bR),.sub 4 (x.1.vols.map dh),iI x.1.next]),(0,[iI x.2])]
end Go.T
namespace Go.T
end Go.T
namespace Go.T
def leV (v u:Vol):Bool:=OZ u.name v.name||Tf u.name v.name
theorem Uo: ∀(x y z:List UInt8),Op.bytesLess x y=true→Op.bytesLess y z=true→Op.bytesLess x z=true
 |x,y,[],_,h=>by cases y<;>simp[Op.bytesLess] at h
 |x,[],c::z,h,_=>by cases x<;>simp[Op.bytesLess] at h
 |[],_::_,_::_,_,_=>by simp[Op.bytesLess]
 |a::x,b::y,c::z,h1,h2=>by
  simp only[Op.bytesLess,Bool.or_eq_true,Bool.and_eq_true,decide_eq_true_eq,beq_iff_eq] at h1 h2 ⊢
  rcases h1 with h1|⟨rfl,h1⟩
  ·rcases h2 with h2|⟨rfl,h2⟩
   ·exact .inl (UInt8.lt_trans h1 h2)
   ·exact .inl h1
  ·rcases h2 with h2|⟨rfl,h2⟩
   ·exact .inl h2
   ·exact .inr ⟨rfl,Uo x y z h1 h2⟩
theorem Xj {a b c:ByteArray} (h1:OZ a b=true) (h2:OZ b c=true):OZ a c=true:=by
 unfold OZ at*
 exact Uo _ _ _ h1 h2
def GY:List Vol→Prop
 |[]=>True
 |[_]=>True
 |a::b::r=>OZ a.name b.name=true∧GY (b::r)
theorem Zq {v a b:Vol} (h:OZ a.name b.name=true) (hb:leV v b=true):leV v a=true:=by
 unfold leV at*
 rw[Bool.or_eq_true] at*
 rcases hb with hb|hb
 ·exact .inl (Xj h hb)
 ·have:b.name.toList=v.name.toList:=by
   unfold Tf at hb;exact eq_of_beq hb
  unfold OZ at h ⊢
  rw[←this];exact .inl h
theorem GY.tail {a:Vol} {l:List Vol} (h:GY (a::l)):GY l:=by
 cases l with
 |nil=>trivial
 |cons b r=>exact h.2
theorem GY.cut {v:Vol}: ∀{l:List Vol} {k:Nat},GY l→k≤l.length→(∀u∈l.drop k,leV v u=false)→(∀u,0<k→l[k-1]?=some u→leV v u=true)→(l.takeWhile (leV v)).length=k
 |[],k,_,hk,_,_=>by simp at hk;simp[hk]
 |a::l,0,_,_,h1,_=>by
  have:=h1 a (.head _)
  simp[this]
 |a::l,k+1,hr,hk,h1,h2=>by
  have ih:=GY.cut (v:=v) (l:=l) (k:=k) hr.tail (by simpa using hk) (fun u hu=>h1 u (by simpa using hu)) fun u h0 hu=>by
   obtain⟨j,rfl⟩: ∃j,k=j+1:=⟨k-1,by omega⟩
   exact h2 u (by omega) (by simpa using hu)
  have ha:leV v a=true:=by
   cases k with
   |zero=>exact h2 a (by omega) rfl
   |succ k=>
    cases l with
    |nil=>simp at hk
    |cons b r=>
     refine Zq hr.1 ?_
     rw[List.takeWhile_cons] at ih
     cases hb:leV v b with
     |true=>rfl
     |false=>rw[hb] at ih;simp at ih
  rw[List.takeWhile_cons,if_pos ha,List.length_cons,ih]
theorem GY.modify {f:Vol→Vol} (hf: ∀u,(f u).name=u.name): ∀{l:List Vol} (i:Nat),GY l→GY (l.modify i f)
 |[],i,h=>by cases i<;>exact h
 |[a],0,_=>trivial
 |[a],i+1,_=>by cases i<;>trivial
 |a::b::r,0,h=>by
  show GY (f a::b::r)
  exact⟨by rw[hf];exact h.1,h.2⟩
 |a::b::r,1,h=>by
  show GY (a::f b::r)
  refine⟨by rw[hf];exact h.1,?_⟩
  exact GY.modify hf (l:=b::r) 0 h.2
 |a::b::r,i+2,h=>⟨h.1,GY.modify hf (l:=b::r) (i+1) h.2⟩
end Go.T
namespace Go.T
def gtM (m u:Mp):Bool:= !(OZ u.name m.name||Tf u.name m.name)
def aaM (l:List Mp) (m:Mp):Nat→Nat
 |0=>0
 |k+1=>match l[k]? with
  |some u=>if gtM m u=true then aaM l m k else k+1
  |none=>k+1
theorem WD (l:List Mp) (m:Mp): ∀k,aaM l m k≤k
 |0=>Nat.le_refl _
 |k+1=>by
  unfold aaM
  split
  ·split
   ·exact Nat.le_succ_of_le (WD l m k)
   ·exact Nat.le_refl _
  ·exact Nat.le_refl _
def Zr {α:Type} (l:List α) (k:Nat) (x:α):List α:=l.take k++x::l.drop k
def Zs (l:List Mp) (m:Mp):List Mp:=Zr l (aaM l m l.length) m
theorem Zu (l:List Mp) (m:Mp):(Zs l m).length=l.length+1:=by
 have:=WD l m l.length
 unfold Zs Zr
 rw[List.length_append,List.length_cons,List.length_take,List.length_drop];omega
theorem Zv {l:List Mp} {m x:Mp} (h:x∈Zs l m):x∈l∨x=m:=by
 unfold Zs Zr at h
 rcases List.mem_append.1 h with h|h
 ·exact .inl (List.mem_of_mem_take h)
 ·rcases List.mem_cons.1 h with h|h
  ·exact .inr h
  ·exact .inl (List.mem_of_mem_drop h)
def Sz (l l':List Mp):Prop:=l'.length≤l.length+1∧ ∀B:Nat,12≤B→(∀x∈l,x.l.length≤B)→ ∀x∈l',x.l.length≤B
theorem Sz.refl (l:List Mp):Sz l l:=⟨Nat.le_succ _,fun _ _ h=>h⟩
theorem Sz.put {l:List Mp} {m:Mp} (h: ∀B:Nat,12≤B→(∀x∈l,x.l.length≤B)→m.l.length≤B):Sz l (Zs l m):=
 ⟨Nat.le_of_eq (Zu l m),fun B hB hl x hx=>(Zv hx).elim (hl x) fun e=>by rw[e];exact h B hB hl⟩
end Go.T
namespace Go.T
abbrev Xk (x:List (List Key)×Bool):TV:= .tu [(1,[.sub 1 (x.1.map bX)]),(0,[iB x.2])]
def Fy (s:List Key) (k:Key):Bool:=(yN s k.b k.a).2||decide (s.length<4)
def jP (n:List (List Key)) (k:Key):List (List Key):=match n[n.length-1]? with
 |none=>n++[[k]]
 |some s=>if Fy s k=true then n.set (n.length-1) (fJ s k) else n++[[k]]
def ct (n:List (List Key)) (k:Key):List Key:=og (fJ (aK n) k)
def cj (n:List (List Key)) (k:Key):List (List Key)×Bool:=
 if fK (jP n k)=true then(jP n k,true) else if 8<(ct n k).length then(n,false) else if fK (cF (ct n k))=true then(cF (ct n k),true) else(n,false)
theorem pG (n:List (List Key)) (k:Key):(ct n k).length≤tot bH n+1:=by
 have h1:=cX n
 have h2:=oV (aK n) k
 have h3:(ct n k).length≤(fJ (aK n) k).length:=List.length_filter_le _ _
 omega
theorem Up {α:Type} (w:α→Nat) (l:List α) (a:α):tot w (l++[a])=tot w l+w a:=by
 induction l with
 |nil=>simp[tot]
 |cons b r ih=>simp only[List.cons_append,tot,ih];omega
theorem Uq {α:Type} (w:α→Nat) (c:Nat): ∀(l:List α) (i:Nat) (a a':α),l[i]?=some a→w a'≤w a+c→tot w (l.set i a')≤tot w l+c
 |[],i,a,a',h,_=>by simp at h
 |b::r,0,a,a',h,hw=>by
  simp only[List.getElem?_cons_zero,Option.some.injEq] at h
  subst h
  simp only[List.set_cons_zero,tot];omega
 |b::r,i+1,a,a',h,hw=>by
  have:=Uq w c r i a a' (by simpa using h) hw
  simp only[List.set_cons_succ,tot];omega
theorem Fz (n:List (List Key)) (k:Key):(jP n k).length≤n.length+1:=by
 unfold jP
 split
 ·rw[List.length_append];simp
 ·split
  ·rw[List.length_set];omega
  ·rw[List.length_append];simp
theorem FA (n:List (List Key)) (k:Key):tot bH (jP n k)≤tot bH n+1:=by
 unfold jP
 split
 ·rw[Up];exact Nat.le_refl _
 ·rename_i s hs
  split
  ·exact Uq bH 1 _ _ s _ hs (by have:=oV s k;unfold bH;omega)
  ·rw[Up];exact Nat.le_refl _
theorem wo (l:List Key):(cF l).length≤1:=by
 unfold cF
 split<;>simp
theorem wq (l:List Key):tot bH (cF l)≤l.length:=by
 unfold cF
 split
 ·simp[tot]
 ·simp[tot,bH]
theorem Ds (n:List (List Key)) (k:Key):(cj n k).1.length≤n.length+1:=by
 have h1:=Fz n k
 have h2:=wo (ct n k)
 unfold cj
 repeat' split
 all_goals simp only[];omega
theorem Dt (n:List (List Key)) (k:Key):tot bH (cj n k).1≤tot bH n+1:=by
 have h1:=FA n k
 have h2:=wq (ct n k)
 have h3:=pG n k
 unfold cj
 repeat' split
 all_goals simp only[];omega
end Go.T
namespace Go.T
def Kg (x y:Key):Prop:=x.b<y.b∨(x.b=y.b∧x.a<y.a)
theorem Kg.trans {x y z:Key} (h1:Kg x y) (h2:Kg y z):Kg x z:=by unfold Kg at*;omega
theorem Du {x y:Key}:dU x y=true↔Kg x y:=by unfold dU Kg;simp
theorem GZ {x y:Key}:mK x y=true↔x.b=y.b∧x.a=y.a:=by unfold mK;simp
theorem G0 {k y:Key}: ∀{l:List Key},y∈fI k true l→y∈l
 |[],h=>by simp[fI] at h
 |x::r,h=>by
  simp only[fI,Bool.not_true,Bool.false_and,Bool.false_eq_true,if_false,List.nil_append,Bool.true_or] at h
  rcases List.mem_append.1 h with h|h
  ·split at h
   ·cases h
   ·rw[List.mem_singleton.1 h];exact .head _
  ·exact .tail _ (G0 h)
theorem NL {k y:Key}: ∀{l:List Key} {put:Bool},y∈fI k put l→y∈l∨y=k
 |[],put,h=>by
  simp only[fI] at h
  split at h
  ·cases h
  ·exact .inr (List.mem_singleton.1 h)
 |x::r,put,h=>by
  simp only[fI] at h
  rcases List.mem_append.1 h with h|h
  ·rcases List.mem_append.1 h with h|h
   ·split at h
    ·exact .inr (List.mem_singleton.1 h)
    ·cases h
   ·split at h
    ·cases h
    ·exact .inl (by rw[List.mem_singleton.1 h];exact .head _)
  ·exact(NL h).imp (.tail _) id
theorem EA {k:Key}: ∀{l:List Key},l.Pairwise Kg→(fI k true l).Pairwise Kg
 |[],_=>by simp[fI]
 |x::r,h=>by
  obtain⟨h1,h2⟩:=List.pairwise_cons.1 h
  simp only[fI,Bool.not_true,Bool.false_and,Bool.false_eq_true,if_false,List.nil_append,Bool.true_or]
  split
  ·exact EA h2
  ·exact List.pairwise_cons.2 ⟨fun y hy=>h1 y (G0 hy),EA h2⟩
theorem RE {k:Key}: ∀{l:List Key},l.Pairwise Kg→(fI k false l).Pairwise Kg
 |[],_=>by simp[fI]
 |x::r,h=>by
  obtain⟨h1,h2⟩:=List.pairwise_cons.1 h
  cases hk:dU x k with
  |true=>
   have hlt:=Du.1 hk
   have hns:mK x k=false:=by
    cases hs:mK x k with
    |false=>rfl
    |true=>have:=GZ.1 hs;unfold Kg at hlt;omega
   simp only[fI,hk,hns,Bool.not_false,Bool.not_true,Bool.true_and,Bool.and_false,Bool.false_eq_true,if_false,List.nil_append,Bool.or_false,Bool.false_or]
   refine List.pairwise_cons.2 ⟨fun y hy=> ?_,RE h2⟩
   rcases NL hy with hy|rfl
   ·exact h1 y hy
   ·exact hlt
  |false=>
   have hge: ¬Kg x k:=fun h=>by rw[Du.2 h] at hk;cases hk
   simp only[fI,hk,Bool.not_false,Bool.true_and,if_true,Bool.or_true]
   have hr: ∀y∈fI k true r,Kg k y:=fun y hy=>by
    have:=h1 y (G0 hy)
    unfold Kg at*;omega
   split
   ·exact List.pairwise_cons.2 ⟨hr,EA h2⟩
   ·rename_i hns
    refine List.pairwise_cons.2 ⟨fun y hy=> ?_,List.pairwise_cons.2 ⟨fun y hy=>h1 y (G0 hy),EA h2⟩⟩
    rcases List.mem_cons.1 hy with rfl|hy
    ·have: ¬(y.b=k.b∧y.a=k.a):=fun h=>hns (GZ.2 h)
     unfold Kg at*;omega
    ·exact hr y hy
theorem Kh {l:List Key} {k:Key} (h:l.Pairwise Kg):(fJ l k).Pairwise Kg:=RE h
theorem NM {l:List Key} {k y:Key} (h:y∈fJ l k):y∈l∨y=k:=NL h
theorem NN: ∀(new:List Key) {old:List Key},old.Pairwise Kg→(cK old new).Pairwise Kg
 |[],_,h=>h
 |x::r,_,h=>NN r (Kh h)
theorem RF {y:Key}: ∀{new old:List Key},y∈cK old new→y∈old∨y∈new
 |[],_,h=> .inl h
 |x::r,old,h=>by
  have h:y∈cK (fJ old x) r:=h
  rcases RF h with h|h
  ·exact(NM h).imp id fun e=>by rw[e];exact .head _
  ·exact .inr (.tail _ h)
theorem NO: ∀(n:List (List Key)) {acc:List Key},acc.Pairwise Kg→(n.foldl cK acc).Pairwise Kg
 |[],_,h=>h
 |s::r,_,h=>NO r (NN s h)
theorem RG {y:Key}: ∀{n:List (List Key)} {acc:List Key},y∈n.foldl cK acc→y∈acc∨ ∃s∈n,y∈s
 |[],_,h=> .inl h
 |s::r,acc,h=>by
  rcases RG (n:=r) h with h|⟨s',h1,h2⟩
  ·exact(RF h).imp id fun h=>⟨s,.head _,h⟩
  ·exact .inr ⟨s',.tail _ h1,h2⟩
theorem O7 (n:List (List Key)):(aK n).Pairwise Kg:=(NO n .nil).sublist List.filter_sublist
theorem SA {n:List (List Key)} {y:Key} (h:y∈aK n): ∃s∈n,y∈s:=by
 rcases RG (List.mem_filter.1 h).1 with h|h
 ·cases h
 ·exact h
theorem O8 (n:List (List Key)) (k:Key):(ct n k).Pairwise Kg:=(Kh (O7 n)).sublist List.filter_sublist
theorem SB {n:List (List Key)} {k y:Key} (h:y∈ct n k):y=k∨ ∃s∈n,y∈s:=
 (NM (List.mem_filter.1 h).1).elim (fun h=> .inr (SA h)) .inl
theorem Zw {l:List Key} (h1:l.Pairwise Kg) (h2: ∀y∈l,gY y=true) (h3:l.length≤60):Dm l=true:=by
 rw[NH]
 simp only[Bool.and_eq_true,decide_eq_true_eq]
 refine⟨List.all_eq_true.2 h2,Dl.2 fun i hi=> ?_,h3⟩
 cases i with
 |zero=>rfl
 |succ k=>
  simp only[ie]
  rw[List.getElem?_eq_getElem (by omega:k<l.length),List.getElem?_eq_getElem hi]
  exact Du.2 (List.pairwise_iff_getElem.1 h1 k (k+1) (by omega) hi (by omega))
theorem Ur {n:List (List Key)} (h:fK n=true) {s:List Key} (hs:s∈n) {y:Key} (hy:y∈s):gY y=true:=by
 unfold fK at h
 simp only[Bool.and_eq_true] at h
 have:=List.all_eq_true.1 h.1.1 s hs
 simp only[Bool.and_eq_true] at this
 have h2:=this.1
 rw[NH] at h2
 simp only[Bool.and_eq_true] at h2
 exact List.all_eq_true.1 h2.1 y hy
theorem VF {l:List Key} (h1:l.Pairwise Kg) (h2: ∀y∈l,gY y=true) (h3:l.length≤8):fK (cF l)=true:=by
 unfold cF
 split
 ·decide
 ·rename_i h0
  unfold fK
  have:=Zw h1 h2 (by omega)
  have h00:l≠[]:=fun e=>h0 (by rw[e];rfl)
  simp[this,h00,cq,tot,bH,h3]
theorem Us {n:List (List Key)} {k:Key} (h:fK n=true) (hk:gY k=true): ∀y∈ct n k,gY y=true:=fun y hy=>by
 rcases SB hy with rfl|⟨s,h1,h2⟩
 ·exact hk
 ·exact Ur h h1 h2
theorem NP {n:List (List Key)} {k:Key} (h:fK n=true) (hk:gY k=true) (hp:(cj n k).2=false):8<(ct n k).length∧cj n k=(n,false):=by
 have hn:=VF (O8 n k) (Us h hk)
 unfold cj at hp ⊢
 split at hp
 ·cases hp
 ·rename_i h1
  split at hp
  ·rename_i h2
   exact⟨h2,by rw[if_neg h1,if_pos h2]⟩
  ·rename_i h2
   rw[if_pos (hn (by omega))] at hp
   cases hp
end Go.T
namespace Go.T
def gw (x y:Int):Int:=UW .or .i64 (abB .i64 (tT .i64 x) 8) (tT .i64 y)
end Go.T
namespace Go.T
abbrev zW (x:Tree×Bool):TV:= .tu [(1,Wz x.1),(0,[iB x.2])]
def lC (t:Tree) (i c:Nat) (lows:List Int) (nodes:List (List (List Key))):Tree:=⟨t.lows.take i++lows++t.lows.drop (i+c),t.nodes.take i++nodes++t.nodes.drop (i+c)⟩
def jl (t:Tree) (i:Nat):List Key:=aK (t.nodes.getD i [])
def sR (t:Tree):Nat→Nat→Option Nat
 |0,_=>none
 |d+1,i=>if i+1<t.nodes.length then(if(jl t i).length+(jl t (i+1)).length≤6 then some i else sR t d (i+1)) else none
def p5 (t:Tree):Option Nat:=sR t t.nodes.length 0
def cO (t:Tree) (i:Nat):Tree:=lC t i 2 [t.lows.getD i 0] [cF (jl t i++jl t (i+1))]
def lD:Nat→Tree→Tree
 |0,t=>t
 |n+1,t=>match p5 t with
  |none=>t
  |some i=>lD n (cO t i)
theorem Ki {t:Tree}: ∀{d i j:Nat},sR t d i=some j→i≤j∧j+1<t.nodes.length∧(jl t j).length+(jl t (j+1)).length≤6
 |0,i,j,h=>by cases h
 |d+1,i,j,h=>by
  unfold sR at h
  split at h
  ·split at h
   ·cases h;exact⟨Nat.le_refl _,by assumption,by assumption⟩
   ·have:=Ki h;exact⟨by omega,this.2⟩
  ·cases h
theorem sv {t:Tree} {j:Nat} (h:p5 t=some j):j+1<t.nodes.length∧(jl t j).length+(jl t (j+1)).length≤6:=(Ki h).2
theorem Dv (t:Tree) (i c:Nat) (lows:List Int) (nodes:List (List (List Key))) (h:i+c≤t.nodes.length):(lC t i c lows nodes).nodes.length+c=t.nodes.length+nodes.length:=by
 unfold lC
 simp only[List.length_append,List.length_take,List.length_drop];omega
theorem Aw (t:Tree) (i c:Nat) (lows:List Int) (nodes:List (List (List Key))) (h:i+c≤t.lows.length):(lC t i c lows nodes).lows.length+c=t.lows.length+lows.length:=by
 unfold lC
 simp only[List.length_append,List.length_take,List.length_drop];omega
theorem um {t:Tree} {i:Nat} (h:i+1<t.nodes.length):(cO t i).nodes.length+1=t.nodes.length:=by
 have:=Dv t i 2 [t.lows.getD i 0] [cF (jl t i++jl t (i+1))] (by omega)
 unfold cO
 simp only[List.length_singleton] at this
 omega
def kL (t:Tree) (i:Nat) (k:Key):Tree:=
 if(cj (t.nodes.getD i []) k).2=true then
  (if 0<i∧(aK (cj (t.nodes.getD i []) k).1).length=0 then lC t i 1 [] [] else lC t i 1 [t.lows.getD i 0] [(cj (t.nodes.getD i []) k).1])
 else lC t i 1 [t.lows.getD i 0,gZ ((ct (t.nodes.getD i []) k).getD (((ct (t.nodes.getD i []) k).length+1)/2) eo).b ((ct (t.nodes.getD i []) k).getD (((ct (t.nodes.getD i []) k).length+1)/2) eo).a]
  [cF ((ct (t.nodes.getD i []) k).take (((ct (t.nodes.getD i []) k).length+1)/2)),cF ((ct (t.nodes.getD i []) k).drop (((ct (t.nodes.getD i []) k).length+1)/2))]
def bg (t:Tree) (k:Key):Tree×Bool:=
 if eK t=true∧gY k=true then(if eK (lD (kL t (mC t k.b k.a).toNat k).nodes.length (kL t (mC t k.b k.a).toNat k))=true then(lD (kL t (mC t k.b k.a).toNat k).nodes.length (kL t (mC t k.b k.a).toNat k),true) else(t,false)) else(t,false)
end Go.T
namespace Go.T
theorem VG {α:Type} (w:α→Nat) (c:Nat): ∀l:List α,(∀a∈l,w a≤c)→tot w l≤c*l.length
 |[],_=>by simp[tot]
 |a::r,h=>by
  have h1:=h a (.head _)
  have h2:=VG w c r fun b hb=>h b (.tail _ hb)
  simp only[tot,List.length_cons,Nat.mul_add];omega
theorem EB {n:List (List Key)} (h:fK n=true):n.length≤3∧tot bH n≤8:=by
 unfold fK cq at h
 simp only[Bool.and_eq_true,decide_eq_true_eq] at h
 exact⟨h.1.2,h.2⟩
theorem Xl {t:Tree} (h:eK t=true) {i:Nat} (hi:i<t.nodes.length):cT t i=true:=by
 unfold eK at h
 simp only[Bool.and_eq_true] at h
 exact Dl.1 h.2.2.2.1 i hi
theorem wu {t:Tree} (h:eK t=true) {n:List (List Key)} (hn:n∈t.nodes):fK n=true:=by
 obtain⟨i,hi,rfl⟩:=List.getElem_of_mem hn
 have:=Xl h hi
 unfold cT at this
 rw[List.getElem?_eq_getElem hi] at this
 simp only[Bool.and_eq_true] at this
 exact this.2.1
theorem qR {t:Tree} (h:eK t=true):1≤t.nodes.length∧t.nodes.length≤20∧t.lows.length=t.nodes.length:=by
 unfold eK jZ at h
 simp only[Bool.and_eq_true,decide_eq_true_eq] at h
 omega
theorem VH {t:Tree} (h:eK t=true):t.lows[0]?=some 0:=by
 have hl:=qR h
 unfold eK at h
 simp only[Bool.and_eq_true] at h
 have h0:0<t.lows.length:=by omega
 have:=h.2.2.1
 rw[List.getElem?_eq_getElem h0] at this ⊢
 simp only[decide_eq_true_eq] at this
 rw[this]
theorem NQ {t:Tree} (h:eK t=true):tot aI t.nodes≤220:=by
 have h1:=VG aI 11 t.nodes fun n hn=>by
  have:=EB (wu h hn)
  unfold aI;omega
 have h2:=qR h
 omega
theorem RH {t:Tree} (h:eK t=true):cz t≤260:=by
 have h1:=NQ h
 have h2:=qR h
 unfold cz rH;omega
theorem VI {t:Tree} {k:Key} (h:(bg t k).2=true):eK (bg t k).1=true:=by
 unfold bg at h ⊢
 split
 ·split
  ·assumption
  ·rename_i h1 h2;rw[if_pos h1,if_neg h2] at h;cases h
 ·rename_i h1;rw[if_neg h1] at h;cases h
theorem FB {t:Tree} {k:Key} (h:(bg t k).2=false):(bg t k).1=t:=by
 unfold bg at h ⊢
 split
 ·split
  ·rename_i h1 h2;rw[if_pos h1,if_pos h2] at h;cases h
  ·rfl
 ·rfl
theorem uT (t:Tree) (k:Key):cz (bg t k).1≤max (cz t) 260:=by
 cases h:(bg t k).2 with
 |true=>have:=RH (VI h);omega
 |false=>rw[FB h];omega
theorem Ut {p:Pool} (h:jk p=true):eK p.t=true:=by
 simp only[jk,Bool.and_eq_true] at h;exact h.2.1
theorem SC {p:Pool} (h:jk p=true):ff p.cells=true:=by
 simp only[jk,Bool.and_eq_true] at h;exact h.2.2.2.1
theorem Xm {s:ByteArray} (h:Dq s=true):1≤s.size∧s.size≤6:=by
 simp only[Dq,Bool.and_eq_true,jZ,decide_eq_true_eq] at h
 omega
theorem Xn {p:Pool} (h:iJ p=true) {v:Vol} (hv:v∈p.vols):Dq v.name=true∧1≤v.size∧v.size≤12∧0≤eg p.ages v.age:=by
 obtain⟨i,hi,rfl⟩:=List.getElem_of_mem hv
 simp only[iJ,Bool.and_eq_true,Dl] at h
 have:=h.1 i hi
 unfold bZ at this
 rw[List.getElem?_eq_getElem hi] at this
 simp only[Bool.and_eq_true,jZ,decide_eq_true_eq,Bool.not_eq_true',decide_eq_false_iff_not] at this
 exact⟨this.1,this.2.1.1,this.2.1.2,by omega⟩
theorem Xo {p:Pool} (h:jk p=true):cc p≤500:=by
 have h1:=RH (Ut h)
 have h2:p.ages.length≤16:=by
  have:=Kf h
  simp only[gX,Bool.and_eq_true,decide_eq_true_eq] at this
  exact this.2
 have h3:p.cells.length=24:=by
  have:=SC h
  simp only[ff,Bool.and_eq_true,decide_eq_true_eq] at this
  exact this.2
 have hv:=Un h
 have h4:p.vols.length≤6:=by
  simp only[iJ,Bool.and_eq_true,decide_eq_true_eq] at hv
  exact hv.2
 have h5:=VG qZ 6 p.vols fun v hm=>(Xm (Xn hv hm).1).2
 unfold cc Iz;omega
def Dw (p:Pool) (k:Key):List Cell:=if(uS p.t k.b k.a).2=true∧(uS p.t k.b k.a).1.k=1 then gQ p.cells (uS p.t k.b k.a).1.c else p.cells
def iX (p:Pool) (k:Key):Pool×Bool:=if(bg p.t k).2=true then(⟨(bg p.t k).1,p.ages,Dw p k,p.vols,p.next⟩,true) else(p,false)
theorem SD (p:Pool) (k:Key):(Dw p k).length=p.cells.length:=by
 unfold Dw;split
 ·exact Sy _ _
 ·rfl
theorem Ax (p:Pool) (k:Key):cc (iX p k).1≤cc p+260:=by
 have h1:=uT p.t k
 have h2:=SD p k
 unfold iX
 split
 ·unfold cc;simp only[];omega
 ·simp only[];omega
def E0 (p:Pool) (x:Pool×Bool):Pool×Bool:=if x.2=true∧jk x.1=true then(x.1,true) else(p,false)
theorem Zx (p:Pool) (x:Pool×Bool):cc (E0 p x).1≤max (cc p) 500:=by
 unfold E0
 split
 ·rename_i h;have:=Xo h.2;simp only[];omega
 ·simp only[];omega
def mm (l:List Age) (id fr:Int):List Age:=l.map fun a=>if a.fr=id then {a with fr:=fr} else a
def qS (l:List Age) (id:Int):List Age×Bool:=
 if gX l=true then(match fT l (eg l id) with
  |none=>(l,false)
  |some a=>((mm l id a.fr).take (eg l id).toNat++(mm l id a.fr).drop ((eg l id).toNat+1),true)) else(l,false)
theorem Ay (l:List Age) (id fr:Int):(mm l id fr).length=l.length:=by unfold mm;simp
theorem VJ (l:List Age) (id:Int):(qS l id).1.length≤l.length:=by
 unfold qS
 repeat' split
 all_goals simp only[List.length_append,List.length_take,List.length_drop,Ay];omega
def MN (p:Pool) (i:Int):Key:=match fT (aC p.t) i with|some k=>k|none=>eo
def dY (k:Key):Key:=⟨k.b,k.a,0,0,0⟩
def Az (p:Pool) (k:Key):Key:=⟨k.b,yO p k.a,k.k,k.c,k.g⟩
def wz (p:Pool) (k:Key):Pool×Bool:=
 (⟨(bg (bg p.t (dY k)).1 (Az p k)).1,p.ages,p.cells,p.vols,p.next⟩,(bg p.t (dY k)).2&&(bg (bg p.t (dY k)).1 (Az p k)).2)
def O9 (p:Pool) (id:Int):Pool×Bool:=(⟨p.t,(qS p.ages id).1,p.cells,p.vols,p.next⟩,(qS p.ages id).2)
def Kj (p:Pool) (j i:Int):Pool×Bool:=
 if j=4 then(match fT p.ages i with|some a=>O9 p a.id|none=>(p,false)) else if j=3 then wz p (MN p i) else iX p (dY (MN p i))
def hJ (p:Pool):Pool×Bool:=if(cm p).1=0 then(p,false) else E0 p (Kj p (cm p).1 (cm p).2)
def oW:Nat→Pool→Pool
 |0,p=>p
 |n+1,p=>if(hJ p).2=true then oW n (hJ p).1 else p
def yP (p:Pool):Pool:=oW 1000 p
theorem uo (p:Pool):cc (hJ p).1≤max (cc p) 500:=by
 unfold hJ
 split
 ·simp only[];omega
 ·exact Zx _ _
theorem RI: ∀(n:Nat) (p:Pool),cc (oW n p)≤max (cc p) 500
 |0,p=>by unfold oW;omega
 |n+1,p=>by
  unfold oW
  split
  ·have h1:=RI n (hJ p).1
   have h2:=uo p
   omega
  ·omega
end Go.T
namespace Go.T
theorem EC {α:Type} (w:α→Nat): ∀l m:List α,tot w (l++m)=tot w l+tot w m
 |[],m=>by simp[tot]
 |a::l,m=>by simp only[List.cons_append,tot,EC w l m];omega
theorem aci {α:Type} {l:List α} {i:Nat} {a b:α} (ha:l[i]?=some a) (hb:l[i+1]?=some b):l=l.take i++a::b::l.drop (i+2):=by
 obtain⟨h1,e1⟩:=List.getElem?_eq_some_iff.1 ha
 obtain⟨h2,e2⟩:=List.getElem?_eq_some_iff.1 hb
 conv=>lhs;rw[←List.take_append_drop i l]
 rw[List.drop_eq_getElem_cons h1,List.drop_eq_getElem_cons h2,e1,e2]
theorem FC (l:List Key):aI (cF l)≤l.length+1:=by
 have h1:=wo l
 have h2:=wq l
 unfold aI;omega
theorem ia {t:Tree} {i:Nat} {a:List (List Key)} (h:t.nodes[i]?=some a):jl t i=aK a:=by unfold jl;rw[List.getD_eq_getElem?_getD,h];rfl
theorem sw (n:Nat) (t:Tree):lD (n+1) t=match p5 t with|none=>t|some i=>lD n (cO t i):=rfl
theorem wA {t:Tree} {i:Nat} (h:i+1<t.nodes.length):tot aI (cO t i).nodes+(cO t i).nodes.length≤tot aI t.nodes+t.nodes.length:=by
 obtain⟨a,ha⟩: ∃a,t.nodes[i]?=some a:=⟨_,List.getElem?_eq_getElem (by omega)⟩
 obtain⟨b,hb⟩: ∃b,t.nodes[i+1]?=some b:=⟨_,List.getElem?_eq_getElem h⟩
 have hl:=um h
 have hs:=congrArg (tot aI) (aci ha hb)
 rw[EC] at hs
 simp only[tot] at hs
 have la:=cX a
 have lb:=cX b
 have hn:=FC (jl t i++jl t (i+1))
 rw[List.length_append,ia ha,ia hb] at hn
 have e:tot aI (cO t i).nodes=tot aI (t.nodes.take i)+aI (cF (aK a++aK b))+tot aI (t.nodes.drop (i+2)):=by
  unfold cO lC
  simp only[]
  rw[EC,EC,ia ha,ia hb]
  simp[tot]
 have sa:aI a=a.length+tot bH a:=rfl
 have sb:aI b=b.length+tot bH b:=rfl
 omega
theorem VK {n:Nat} {t:Tree} (h:p5 t=none):lD n t=t:=by
 cases n with
 |zero=>rfl
 |succ n=>rw[sw,h]
theorem E1 {t:Tree} {i:Nat} (h:i+1<t.nodes.length) (hl:t.lows.length=t.nodes.length):(cO t i).lows.length=(cO t i).nodes.length:=by
 have h1:=Aw t i 2 [t.lows.getD i 0] [cF (jl t i++jl t (i+1))] (by omega)
 have h2:=Dv t i 2 [t.lows.getD i 0] [cF (jl t i++jl t (i+1))] (by omega)
 simp only[List.length_singleton] at h1 h2
 unfold cO
 omega
theorem Uu: ∀(n:Nat) (t:Tree),t.lows.length=t.nodes.length→tot aI (lD n t).nodes+(lD n t).nodes.length≤tot aI t.nodes+t.nodes.length∧(lD n t).lows.length=(lD n t).nodes.length
 |0,t,h=>⟨Nat.le_refl _,h⟩
 |n+1,t,h=>by
  rw[sw]
  cases hp:p5 t with
  |none=>exact⟨Nat.le_refl _,h⟩
  |some i=>
   have hlt:=(sv hp).1
   have h1:=wA hlt
   have h2:=Uu n (cO t i) (E1 hlt h)
   exact⟨by simp only[];omega,h2.2⟩
theorem Uv {k:Key} (h:gY k=true):0≤k.b∧k.b≤15∧1≤k.a∧k.a≤60∧0≤k.k∧k.k≤2:=by
 simp only[gY,jZ,Bool.and_eq_true,decide_eq_true_eq] at h
 omega
theorem aaN {b a:Int} (h: -1000≤b∧b≤1000∧ -1000≤a∧a≤1000):gZ b a=64*b+a:=by
 unfold gZ
 rw[aaF (by omega),aB (by omega)]
theorem VL {k:Key} (h:gY k=true):gZ k.b k.a=64*k.b+k.a:=by
 have:=Uv h
 exact aaN (by omega)
theorem NR {f:Int→Bool} {l:List Int} {x:Int} (h0:l[0]?=some x) (hx:f x=true): ∀n:Nat,0<n→n≤l.length→ ∃j:Nat,rJ f l n=j∧j<n
 |0,h,_=>by omega
 |n+1,_,hn=>by
  unfold rJ
  rw[List.getElem?_eq_getElem (by omega)]
  simp only[]
  split
  ·exact⟨n,rfl,by omega⟩
  ·rename_i hf
   cases n with
   |zero=>
    rw[List.getElem?_eq_getElem (by omega)] at h0
    cases h0;exact absurd hx hf
   |succ n=>
    obtain⟨j,h1,h2⟩:=NR h0 hx (n+1) (by omega) (by omega)
    exact⟨j,h1,by omega⟩
theorem NS {t:Tree} {k:Key} (h:eK t=true) (hk:gY k=true): ∃j:Nat,mC t k.b k.a=j∧j<t.nodes.length:=by
 have h1:=qR h
 have h2:=Uv hk
 have h3:=VL hk
 unfold mC
 have:=NR (f:=fun x=>decide (x≤gZ k.b k.a)) (VH h) (by simp only[decide_eq_true_eq];omega) t.lows.length (by omega) (Nat.le_refl _)
 rw[h1.2.2] at this ⊢
 exact this
theorem Uw (n:List (List Key)) (k:Key):aI (cj n k).1≤aI n+2:=by
 have h1:=Ds n k
 have h2:=Dt n k
 unfold aI;omega
theorem Xp (t:Tree) (i c:Nat) (lows:List Int) (nodes:List (List (List Key))):tot aI (lC t i c lows nodes).nodes≤tot aI t.nodes+tot aI nodes:=by
 have h:tot aI (t.nodes.take i++t.nodes.drop i)=tot aI t.nodes:=by rw[List.take_append_drop]
 have h2:tot aI (t.nodes.drop (i+c))≤tot aI (t.nodes.drop i):=by
  rw[←List.drop_drop]
  have h3:tot aI ((t.nodes.drop i).take c++(t.nodes.drop i).drop c)=tot aI (t.nodes.drop i):=by rw[List.take_append_drop]
  rw[EC] at h3;omega
 unfold lC
 simp only[EC] at h ⊢
 omega
theorem aaO {t:Tree} {i:Nat} {k:Key} (hl:t.lows.length=t.nodes.length) (hi:i<t.nodes.length) (ht: ∀n∈t.nodes,tot bH n≤8∧n.length≤3):
 tot aI (kL t i k).nodes≤tot aI t.nodes+40∧(kL t i k).nodes.length≤t.nodes.length+1∧(kL t i k).lows.length=(kL t i k).nodes.length:=by
 have hn:=ht t.nodes[i] (List.getElem_mem hi)
 have hg:t.nodes.getD i []=t.nodes[i]:=by rw[List.getD_eq_getElem?_getD,List.getElem?_eq_getElem hi];rfl
 have hp:=Uw t.nodes[i] k
 have hk:=pG t.nodes[i] k
 have hz:aI t.nodes[i]=t.nodes[i].length+tot bH t.nodes[i]:=rfl
 unfold kL
 rw[hg]
 generalize ct t.nodes[i] k=l at*
 have e1:=FC (l.take ((l.length+1)/2))
 have e2:=FC (l.drop ((l.length+1)/2))
 rw[List.length_take] at e1
 rw[List.length_drop] at e2
 have key: ∀(lows:List Int) (nodes:List (List (List Key))),lows.length=nodes.length→nodes.length≤2→tot aI nodes≤40→tot aI (lC t i 1 lows nodes).nodes≤tot aI t.nodes+40∧(lC t i 1 lows nodes).nodes.length≤t.nodes.length+1∧(lC t i 1 lows nodes).lows.length=(lC t i 1 lows nodes).nodes.length:=by
  intro lows nodes h1 h2 h3
  have h4:=Xp t i 1 lows nodes
  have h5:=Dv t i 1 lows nodes (by omega)
  have h6:=Aw t i 1 lows nodes (by omega)
  omega
 split
 ·split
  ·exact key _ _ rfl (by simp) (by simp[tot])
  ·exact key _ _ rfl (by simp) (by simp only[tot];omega)
 ·exact key _ _ rfl (by simp) (by simp only[tot];omega)
theorem SE {t:Tree} (h:eK t=true): ∀n∈t.nodes,tot bH n≤8∧n.length≤3:=fun n hn=>by
 have:=EB (wu h hn);omega
theorem Ux {t:Tree} {i:Nat} {k:Key} (h:eK t=true) (hi:i<t.nodes.length):
 tot aI (kL t i k).nodes+(kL t i k).nodes.length≤300∧(kL t i k).lows.length=(kL t i k).nodes.length∧cz (lD (kL t i k).nodes.length (kL t i k))≤600:=by
 have h1:=qR h
 have h2:=NQ h
 have h3:=aaO (k:=k) h1.2.2 hi (SE h)
 have h4:=Uu (kL t i k).nodes.length (kL t i k) h3.2.2
 refine⟨by omega,h3.2.2,?_⟩
 unfold cz rH
 omega
theorem WE {n:Nat} (h:8<n):(n+1)/2<n:=by omega
end Go.T
namespace Go.T
end Go.T
namespace Go.T
end Go.T
