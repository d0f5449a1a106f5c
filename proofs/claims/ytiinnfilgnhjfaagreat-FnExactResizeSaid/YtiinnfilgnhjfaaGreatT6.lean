/- A run has one result; the formulas, simplified. The program's data as rows; what the formulas say of them. Rows that are written, as data. Loops over lists: how a run of them is told. What the program's functions come to, in plain Lean. What the program's functions come to: nodes, trees, pools. What the program's functions come to: maps, equality, steps. What the program's functions come to: volumes taken away. Draws: a cursor over bytes. Ages and volumes put in: what the functions come to. Maps put in, taken out, resized: what the functions come to. A key put into a node: what it comes to. Sets of keys stay in order; a node that takes no key has more than it may. An operation out of bytes. A key put into a tree: what it comes to. Sizes of what is right; keys put into pools; what is done to pools. A key put into a tree: sizes, and where it goes. Each cell that is used is of one key. -/
import Derived.Test.YtiinnfilgnhjfaaGreatT5
set_option linter.unusedVariables false
set_option linter.unusedSimpArgs false
namespace Go.T
def W2 (cf:Cf):Prop:= ∀f vs r fs r' fs',cf f vs r fs→cf f vs r' fs'→r=r'∧fs=fs'
def Yl (lp:Lp):Prop:= ∀f i c st (Q Q':TX→TS→Prop),lp f i c st Q→lp f i c st Q'→ ∃x s,Q x s∧Q' x s
theorem nZ {R:Type} {cf:Cf} {lp:Lp} (hc:W2 cf) (hl:Yl lp) {Q Q':R→Prop}: ∀(e:Ev R),e.holds cf lp Q→e.holds cf lp Q'→ ∃r,Q r∧Q' r
 | .fail,h,_=>h.elim
 | .ret r,h,h'=>⟨r,h,h'⟩
 | .test b k,h,h'=>nZ hc hl (k b) h h'
 | .row rows i k,⟨c,h1,h2⟩,⟨c',h1',h2'⟩=>by
   rw[h1] at h1';cases h1'
   exact nZ hc hl (k c) h2 h2'
 | .byte rows i k,⟨c,h1,h2⟩,⟨c',h1',h2'⟩=>by
   rw[h1] at h1';cases h1'
   exact nZ hc hl (k c) h2 h2'
 | .bytes rows k,⟨c,h1,h2⟩,⟨c',h1',h2'⟩=>by
   rw[h1] at h1';cases h1'
   exact nZ hc hl (k c) h2 h2'
 | .call f vs k,⟨r,fs,h1,h2⟩,⟨r',fs',h1',h2'⟩=>by
   obtain⟨rfl,rfl⟩:=hc _ _ _ _ _ _ h1 h1'
   exact nZ hc hl (k r fs) h2 h2'
 | .loop f i c st k,h,h'=>by
   obtain⟨x,s,h1,h2⟩:=hl _ _ _ _ _ _ h h'
   exact nZ hc hl (k x s) h1 h2
 | .both a b,⟨r,h1,h2,h3⟩,⟨r',h1',h2',h3'⟩=>by
   obtain⟨r0,e1,e2⟩:=nZ hc hl a h1 h1'
   subst e1 e2
   exact⟨_,h3,h3'⟩
section
variable {C : lu}
theorem QT {cf:Cf} {lp:Lp} (hc:W2 cf) (hl:Yl lp) {fx:List Nat} {f i:Nat} {c:Code} {Q Q':TX→TS→Prop}: ∀(n:Nat) (st:TS),iter C cf lp fx f i c Q n st→iter C cf lp fx f i c Q' n st→ ∃x s,Q x s∧Q' x s
 |0,_,h,_=>h.elim
 |n+1,st,h,h'=>by
  obtain⟨⟨x,s⟩,h1,h2⟩:=nZ hc hl _ h h'
  cases x with
  |norm=>
   simp only at h1 h2
   rw[qO] at h1 h2
   exact QT hc hl n _ h1 h2
  |ex id=>exact⟨_,_,h1,h2⟩
  |ret=>exact⟨_,_,h1,h2⟩
theorem Ti {cf:Cf} (hc:W2 cf) (k:Nat) (fx:List Nat): ∀n,Yl (RF C cf k fx n)
 |0=>fun _ _ _ _ _ _ h _=>h.elim
 |n+1=>fun f i c st Q Q' h h'=>QT hc (Ti hc k fx n) k st h h'
theorem FU: ∀k,W2 (iH C k)
 |0=>fun _ _ _ _ _ _ h _=>h.elim
 |k+1=>fun f vs r fs r' fs' h h'=>by
  unfold iH at h h'
  cases hx:C.ext f with
  |some p=>rw[hx] at h h';have h:p vs=some (r,fs):=h;have h':p vs=some (r',fs'):=h';rw[h] at h';cases h';exact⟨rfl,rfl⟩
  |none=>
  rw[hx] at h h'
  simp only at h h'
  obtain⟨p,h1,h2⟩:=nZ (FU k) (Ti (FU k) k _ 4) _ h h'
  rw[h1] at h2
  cases h2
  exact⟨rfl,rfl⟩
theorem aa.Zg {f:FuncId} {vs:List TV} {r r':TV} {fs fs':List TV} (h:aa C f vs r fs) (h':aa C f vs r' fs'):r'=r∧fs'=fs:=by
 obtain⟨k,h⟩:=h
 obtain⟨k',h'⟩:=h'
 obtain⟨h1,h2⟩:=FU (max k k') _ _ _ _ _ _ (lU (Nat.le_max_left _ _) h) (lU (Nat.le_max_right _ _) h')
 exact⟨h1.symm,h2.symm⟩
end
def gX {α:Type} (l:List α) (i:Int):Option α:=if 0≤i then l[i.toNat]? else none
theorem aL {α:Type} (l:List α) (i:Nat):gX l (i:Int)=l[i]?:=by
 unfold gX;rw[if_pos (Int.natCast_nonneg i),Int.toNat_natCast]
theorem td {α:Type} {l:List α} {i:Int} (h0:0≤i) (h1:i<l.length): ∃a,gX l i=some a:=by
 unfold gX;rw[if_pos h0];exact⟨_,List.getElem?_eq_getElem (by omega)⟩
theorem oc {α:Type} {l:List α} {i:Int} (h: ¬(0≤i∧i<l.length)):gX l i=none:=by
 unfold gX
 split
 ·exact List.getElem?_eq_none (by omega)
 ·rfl
theorem bR {α:Type} (e:α→List TC) (l:List α) (i:Int):rowAt (l.map e) i=(gX l i).map e:=by
 unfold rowAt gX
 split
 ·rw[List.getElem?_map]
 ·rfl
theorem QU {α:Type} {l:List α} {i:Int} {a:α} (h:gX l i=some a):a∈l:=by
 unfold gX at h
 split at h
 ·exact List.mem_of_getElem? h
 ·cases h
def Zh {α:Type} (l:List α) (i:Int) (a:α):List α:=l.set i.toNat a
theorem QW {α:Type} {e:α→List TC} {l:List α} {i:Int} {a a':α} {f:Nat} {cs:List TC} (h:gX l i=some a) (he:(e a).take f++cs++(e a).drop (f+cs.length)=e a'):setRow (l.map e) i f cs=(Zh l i a').map e:=by
 unfold gX at h
 split at h
 ·unfold setRow Zh
  rw[List.getElem?_map,h]
  simp only[Option.map_some,he,List.map_set]
 ·cases h
@[simp] theorem ct {α:Type} (e:α→List TC) (l:List α) (a b:Int):ax (l.map e) a b=((l.take b.toNat).drop a.toNat).map e:=by
  unfold ax;rw[←List.map_take,←List.map_drop]
theorem tL {rows:List (List TC)} (h: ∀r∈rows,∀c∈r,∃v,c= .sc v):bS rows=true:=by
 unfold bS
 rw[List.all_eq_true]
 intro r hr
 rw[List.all_eq_true]
 intro c hc
 obtain⟨v,rfl⟩:=h r hr c hc
 rfl
@[simp] theorem FV (s:ByteArray):(ByteArray.data s).1.length=s.size:=rfl
@[simp] theorem Br (l h n:Int):cD l h n=decide (0≤l∧l≤h∧h≤n):=by unfold cD;rfl
end Go.T
namespace Go.T
structure Key where
 b:Int
 a:Int
 k:Int
 c:Int
 g:Int
 deriving DecidableEq
structure Age where
 id:Int
 fr:Int
 deriving DecidableEq
structure Cell where
 g:Int
 u:Bool
 n:Int
 deriving DecidableEq
structure Vol where
 name:ByteArray
 age:Int
 size:Int
 fx:Bool
structure Mp where
 name:ByteArray
 fx:Bool
 l:List Int
structure Tree where
 lows:List Int
 nodes:List (List (List Key))
structure Pool where
 t:Tree
 ages:List Age
 cells:List Cell
 vols:List Vol
 next:Int
structure VH where
 kind:Int
 name:ByteArray
 to:ByteArray
 a:Int
 b:Int
abbrev iI (n:Int):TC:= .sc (.int .i64 n)
abbrev iB (b:Bool):TC:= .sc (.bool b)
abbrev iS (s:ByteArray):TC:= .sc (.string s)
abbrev cI (n:Int):CE:= .sc (.int .i64 n)
abbrev cB (b:Bool):CE:= .sc (.bool b)
abbrev cS (s:ByteArray):CE:= .sc (.string s)
abbrev aA (a b:Int):Int:=Rw .i64 a b
abbrev cA (a b:Int):Int:=Ka .i64 a b
abbrev W3 (a b:Int):Int:=Rx .i64 a b
theorem aJ {a b:Int} (h: -9223372036854775808≤a+b∧a+b≤9223372036854775807):aA a b=a+b:=WY h
theorem dg {a b:Int} (h: -9223372036854775808≤a-b∧a-b≤9223372036854775807):cA a b=a-b:=WZ h
theorem W4 {a b:Int} (h: -9223372036854775808≤a*b∧a*b≤9223372036854775807):W3 a b=a*b:=W0 h
abbrev RR:=List (List TC)
abbrev QV:=TV→List TV→Prop
abbrev QX:=TX→TS→Prop
abbrev sI:Sh:= .int .i64
abbrev sB:Sh:= .bool
abbrev sS:Sh:= .str
abbrev hz:Hint:= .z
abbrev hb:Hint→Hint→Hint:= .br
abbrev hr:List Sh→Hint→Hint:= .row
abbrev hc:av→List av→Hint→Hint:= .call
abbrev Zi:ByteArray:=⟨#[]⟩
def bL (n:Int):List TC:=[.sc (.int .i64 n)]
def Bs (n:Int):List TC:=[.sc (.int .u8 n)]
def Hr (n:Bool):List TC:=[.sc (.bool n)]
def bN (x:Key):List TC:=[.sc (.int .i64 x.b),.sc (.int .i64 x.a),.sc (.int .i64 x.k),.sc (.int .i64 x.c),.sc (.int .i64 x.g)]
def dM (x:Age):List TC:=[.sc (.int .i64 x.id),.sc (.int .i64 x.fr)]
def cK (x:Cell):List TC:=[.sc (.int .i64 x.g),.sc (.bool x.u),.sc (.int .i64 x.n)]
def dx (x:Vol):List TC:=[.sc (.string x.name),.sc (.int .i64 x.age),.sc (.int .i64 x.size),.sc (.bool x.fx)]
def Pf (x:VH):List TC:=[.sc (.int .i64 x.kind),.sc (.string x.name),.sc (.string x.to),.sc (.int .i64 x.a),.sc (.int .i64 x.b)]
def FW (x:Mp):List TC:=[.sc (.string x.name),.sc (.bool x.fx),.sub 1 (x.l.map bL)]
def VI (x:List Int):List TC:=[.sub 1 (x.map Bs)]
def cc (x:List Key):List TC:=[.sub 5 (x.map bN)]
def aW (x:List (List Key)):List TC:=[.sub 1 (x.map cc)]
abbrev Tj (t:Tree):List TC:=[.sub 1 (t.lows.map bL),.sub 1 (t.nodes.map aW)]
abbrev fq (p:Pool):List TC:=[.sub 1 (p.t.lows.map bL),.sub 1 (p.t.nodes.map aW),.sub 2 (p.ages.map dM),.sub 3 (p.cells.map cK),.sub 4 (p.vols.map dx),.sc (.int .i64 p.next)]
abbrev vI (n:Int):TV:= .c (.sc (.int .i64 n))
abbrev vB (b:Bool):TV:= .c (.sc (.bool b))
abbrev vS (s:ByteArray):TV:= .c (.sc (.string s))
abbrev ki (l:List Int):TV:= .c (.sub 1 (l.map bL))
abbrev cO (l:List Key):TV:= .c (.sub 5 (l.map bN))
abbrev EC (l:List (List Key)):TV:= .c (.sub 1 (l.map cc))
abbrev tM (l:List (List (List Key))):TV:= .c (.sub 1 (l.map aW))
abbrev jo (l:List Age):TV:= .c (.sub 2 (l.map dM))
abbrev gY (l:List Cell):TV:= .c (.sub 3 (l.map cK))
abbrev yK (l:List Vol):TV:= .c (.sub 4 (l.map dx))
abbrev AY (k:Key):TV:= .ag [.sc (.int .i64 k.b),.sc (.int .i64 k.a),.sc (.int .i64 k.k),.sc (.int .i64 k.c),.sc (.int .i64 k.g)]
abbrev fW (n:List (List Key)):TV:= .ag [.sub 1 (n.map cc)]
abbrev dn (t:Tree):TV:= .ag (Tj t)
abbrev fX (p:Pool):TV:= .ag (fq p)
section
variable {i : Int}
@[simp] theorem rY {l:List Int} {K:Int→Prop}:(∃n,rowAt (l.map bL) i=some [.sc (.int .i64 n)]∧K n)↔ ∃a,gX l i=some a∧K a:=by
  rw[bR]
  constructor
  ·rintro⟨n,h,hK⟩
   obtain⟨a,ha,h⟩:=Option.map_eq_some_iff.1 h
   unfold bL at h;cases h;exact⟨_,ha,hK⟩
  ·rintro⟨a,ha,hK⟩
   exact⟨_,by rw[ha];rfl,hK⟩
@[simp] theorem ZB {l:List Int} {K:Int→Prop}:(∃n,rowAt (l.map Bs) i=some [.sc (.int .u8 n)]∧K n)↔ ∃a,gX l i=some a∧K a:=by
  rw[bR]
  constructor
  ·rintro⟨n,h,hK⟩
   obtain⟨a,ha,h⟩:=Option.map_eq_some_iff.1 h
   unfold Bs at h;cases h;exact⟨_,ha,hK⟩
  ·rintro⟨a,ha,hK⟩
   exact⟨_,by rw[ha];rfl,hK⟩
@[simp] theorem W5 {l:List Bool} {K:Bool→Prop}:(∃n,rowAt (l.map Hr) i=some [.sc (.bool n)]∧K n)↔ ∃a,gX l i=some a∧K a:=by
  rw[bR]
  constructor
  ·rintro⟨n,h,hK⟩
   obtain⟨a,ha,h⟩:=Option.map_eq_some_iff.1 h
   unfold Hr at h;cases h;exact⟨_,ha,hK⟩
  ·rintro⟨a,ha,hK⟩
   exact⟨_,by rw[ha];rfl,hK⟩
@[simp] theorem jS {l:List Key} {K:Int→Int→Int→Int→Int→Prop}:(∃b a k c g,rowAt (l.map bN) i=some [.sc (.int .i64 b),.sc (.int .i64 a),.sc (.int .i64 k),.sc (.int .i64 c),.sc (.int .i64 g)]∧K b a k c g)↔ ∃x,gX l i=some x∧K x.b x.a x.k x.c x.g:=by
  rw[bR]
  constructor
  ·rintro⟨_,_,_,_,_,h,hK⟩
   obtain⟨a,ha,h⟩:=Option.map_eq_some_iff.1 h
   unfold bN at h;cases h;exact⟨_,ha,hK⟩
  ·rintro⟨a,ha,hK⟩
   exact⟨_,_,_,_,_,by rw[ha];rfl,hK⟩
@[simp] theorem rZ {l:List Age} {K:Int→Int→Prop}:(∃b a,rowAt (l.map dM) i=some [.sc (.int .i64 b),.sc (.int .i64 a)]∧K b a)↔ ∃x,gX l i=some x∧K x.id x.fr:=by
  rw[bR]
  constructor
  ·rintro⟨_,_,h,hK⟩
   obtain⟨a,ha,h⟩:=Option.map_eq_some_iff.1 h
   unfold dM at h;cases h;exact⟨_,ha,hK⟩
  ·rintro⟨a,ha,hK⟩
   exact⟨_,_,by rw[ha];rfl,hK⟩
@[simp] theorem pk {l:List Cell} {K:Int→Bool→Int→Prop}:(∃g u n,rowAt (l.map cK) i=some [.sc (.int .i64 g),.sc (.bool u),.sc (.int .i64 n)]∧K g u n)↔ ∃x,gX l i=some x∧K x.g x.u x.n:=by
  rw[bR]
  constructor
  ·rintro⟨_,_,_,h,hK⟩
   obtain⟨a,ha,h⟩:=Option.map_eq_some_iff.1 h
   unfold cK at h;cases h;exact⟨_,ha,hK⟩
  ·rintro⟨a,ha,hK⟩
   exact⟨_,_,_,by rw[ha];rfl,hK⟩
@[simp] theorem Bt {l:List Vol} {K:ByteArray→Int→Int→Bool→Prop}:(∃s a z f,rowAt (l.map dx) i=some [.sc (.string s),.sc (.int .i64 a),.sc (.int .i64 z),.sc (.bool f)]∧K s a z f)↔ ∃x,gX l i=some x∧K x.name x.age x.size x.fx:=by
  rw[bR]
  constructor
  ·rintro⟨_,_,_,_,h,hK⟩
   obtain⟨a,ha,h⟩:=Option.map_eq_some_iff.1 h
   unfold dx at h;cases h;exact⟨_,ha,hK⟩
  ·rintro⟨a,ha,hK⟩
   exact⟨_,_,_,_,by rw[ha];rfl,hK⟩
@[simp] theorem Z6 {l:List VH} {K:Int→ByteArray→ByteArray→Int→Int→Prop}:(∃k s t a b,rowAt (l.map Pf) i=some [.sc (.int .i64 k),.sc (.string s),.sc (.string t),.sc (.int .i64 a),.sc (.int .i64 b)]∧K k s t a b)↔ ∃x,gX l i=some x∧K x.kind x.name x.to x.a x.b:=by
  rw[bR]
  constructor
  ·rintro⟨_,_,_,_,_,h,hK⟩
   obtain⟨a,ha,h⟩:=Option.map_eq_some_iff.1 h
   unfold Pf at h;cases h;exact⟨_,ha,hK⟩
  ·rintro⟨a,ha,hK⟩
   exact⟨_,_,_,_,_,by rw[ha];rfl,hK⟩
@[simp] theorem ZV {l:List Mp} {K:ByteArray→Bool→List (List TC)→Prop}:(∃s f r,rowAt (l.map FW) i=some [.sc (.string s),.sc (.bool f),.sub 1 r]∧K s f r)↔ ∃x,gX l i=some x∧K x.name x.fx (x.l.map bL):=by
  rw[bR]
  constructor
  ·rintro⟨_,_,_,h,hK⟩
   obtain⟨a,ha,h⟩:=Option.map_eq_some_iff.1 h
   unfold FW at h;cases h;exact⟨_,ha,hK⟩
  ·rintro⟨a,ha,hK⟩
   exact⟨_,_,_,by rw[ha];rfl,hK⟩
@[simp] theorem q7 {l:List (List Key)} {K:List (List TC)→Prop}:(∃r,rowAt (l.map cc) i=some [.sub 5 r]∧K r)↔ ∃x,gX l i=some x∧K (x.map bN):=by
  rw[bR]
  constructor
  ·rintro⟨_,h,hK⟩
   obtain⟨a,ha,h⟩:=Option.map_eq_some_iff.1 h
   unfold cc at h;cases h;exact⟨_,ha,hK⟩
  ·rintro⟨a,ha,hK⟩
   exact⟨_,by rw[ha];rfl,hK⟩
@[simp] theorem qv {l:List (List (List Key))} {K:List (List TC)→Prop}:(∃r,rowAt (l.map aW) i=some [.sub 1 r]∧K r)↔ ∃x,gX l i=some x∧K (x.map cc):=by
  rw[bR]
  constructor
  ·rintro⟨_,h,hK⟩
   obtain⟨a,ha,h⟩:=Option.map_eq_some_iff.1 h
   unfold aW at h;cases h;exact⟨_,ha,hK⟩
  ·rintro⟨a,ha,hK⟩
   exact⟨_,by rw[ha];rfl,hK⟩
@[simp] theorem Zj {l:List (List Int)} {K:List (List TC)→Prop}:(∃r,rowAt (l.map VI) i=some [.sub 1 r]∧K r)↔ ∃x,gX l i=some x∧K (x.map Bs):=by
  rw[bR]
  constructor
  ·rintro⟨_,h,hK⟩
   obtain⟨a,ha,h⟩:=Option.map_eq_some_iff.1 h
   unfold VI at h;cases h;exact⟨_,ha,hK⟩
  ·rintro⟨a,ha,hK⟩
   exact⟨_,by rw[ha];rfl,hK⟩
end
theorem fZ (n:Nat):Int.ofNat n=(n:Int):=rfl
@[simp] theorem natAdd (a b:Nat):Nat.add a b=a+b:=rfl
@[simp] theorem Tk {α:Type} (a b:List α):List.append a b=a++b:=rfl
theorem jU (l:List Int):bS (l.map bL)=true:=tL fun r hr c hc=>by
 obtain⟨a,_,rfl⟩:=List.mem_map.1 hr;unfold bL at hc;simp only[List.mem_singleton] at hc;exact⟨_,hc⟩
theorem Sf (l:List Int):bS (l.map Bs)=true:=tL fun r hr c hc=>by
 obtain⟨a,_,rfl⟩:=List.mem_map.1 hr;unfold Bs at hc;simp only[List.mem_singleton] at hc;exact⟨_,hc⟩
theorem jV (l:List Key):bS (l.map bN)=true:=tL fun r hr c hc=>by
 obtain⟨a,_,rfl⟩:=List.mem_map.1 hr;unfold bN at hc;simp only[List.mem_cons,List.not_mem_nil,or_false] at hc
 rcases hc with h|h|h|h|h<;>exact⟨_,h⟩
theorem CJ (l:List Age):bS (l.map dM)=true:=tL fun r hr c hc=>by
 obtain⟨a,_,rfl⟩:=List.mem_map.1 hr;unfold dM at hc;simp only[List.mem_cons,List.not_mem_nil,or_false] at hc
 rcases hc with h|h<;>exact⟨_,h⟩
theorem Dr (l:List Cell):bS (l.map cK)=true:=tL fun r hr c hc=>by
 obtain⟨a,_,rfl⟩:=List.mem_map.1 hr;unfold cK at hc;simp only[List.mem_cons,List.not_mem_nil,or_false] at hc
 rcases hc with h|h|h<;>exact⟨_,h⟩
theorem CK (l:List Vol):bS (l.map dx)=true:=tL fun r hr c hc=>by
 obtain⟨a,_,rfl⟩:=List.mem_map.1 hr;unfold dx at hc;simp only[List.mem_cons,List.not_mem_nil,or_false] at hc
 rcases hc with h|h|h|h<;>exact⟨_,h⟩
@[simp] theorem Pg (v:Value):bS [[.sc v]]=true:=tL fun r hr c hc=>by
  simp only[List.mem_singleton] at hr;subst hr;simp only[List.mem_singleton] at hc;exact⟨_,hc⟩
attribute [simp] jU Sf jV CJ Dr CK
end Go.T
namespace Go.T
theorem FX {α:Type} (g:α→α): ∀(l:List α) (i:Nat) (a:α),l[i]?=some a→l.modify i g=l.set i (g a)
 |[],i,a,h=>by simp at h
 |x::r,0,a,h=>by simp only[List.getElem?_cons_zero,Option.some.injEq] at h;subst h;rfl
 |x::r,i+1,a,h=>by
  simp only[List.getElem?_cons_succ] at h
  rw[List.modify_succ_cons,List.set_cons_succ,FX g r i a h]
theorem bW {α:Type} {e:α→List TC} {l:List α} {i:Int} {f:Nat} {cs:List TC} {g:α→α} (he: ∀a,(e a).take f++cs++(e a).drop (f+cs.length)=e (g a)):setRow (l.map e) i f cs=(l.modify i.toNat g).map e:=by
 unfold setRow
 rw[List.getElem?_map]
 cases h:l[i.toNat]? with
 |none=>
  have:l.length≤i.toNat:=List.getElem?_eq_none_iff.1 h
  simp only[Option.map_none]
  rw[List.modify_eq_self this]
 |some a=>
  simp only[Option.map_some]
  rw[he,FX g l _ a h,List.map_set]
theorem oV {α:Type} {l:List α} {i:Int} {g:α→α}:gX (l.modify i.toNat g) i=(gX l i).map g:=by
 unfold gX
 split
 ·simp
 ·rfl
theorem mod_mod {α:Type} {l:List α} {i:Nat} {f g:α→α}:(l.modify i f).modify i g=l.modify i (fun x=>g (f x)):=by
 rw[List.modify_modify_eq];rfl
theorem jA {α β:Type} {o:Option α} {f:α→β} {K:β→Prop}:(∃x,o.map f=some x∧K x)↔ ∃x,o=some x∧K (f x):=by
 cases o with
 |none=>simp
 |some a=>simp
theorem kj {α:Type} {d r:List α} {a:α}:gX (d++a::r) (d.length:Int)=some a:=by
 rw[aL];simp
theorem yx {α:Type} {d r:List α} {a:α} {f:α→α}:(d++a::r).modify ((d.length:Int).toNat) f=d++f a::r:=by
 rw[Int.toNat_natCast,FX f _ _ a (by simp)]
 simp
@[simp] theorem VJ {l:List Key} {i:Int} {v:Int}:setRow (l.map bN) i 0 [.sc (.int .i64 v)]=(l.modify i.toNat fun x=>{x with b:=v}).map bN:=bW fun a=>rfl
@[simp] theorem VK {l:List Key} {i:Int} {v:Int}:setRow (l.map bN) i 1 [.sc (.int .i64 v)]=(l.modify i.toNat fun x=>{x with a:=v}).map bN:=bW fun a=>rfl
@[simp] theorem VL {l:List Key} {i:Int} {v:Int}:setRow (l.map bN) i 2 [.sc (.int .i64 v)]=(l.modify i.toNat fun x=>{x with k:=v}).map bN:=bW fun a=>rfl
@[simp] theorem VM {l:List Key} {i:Int} {v:Int}:setRow (l.map bN) i 3 [.sc (.int .i64 v)]=(l.modify i.toNat fun x=>{x with c:=v}).map bN:=bW fun a=>rfl
@[simp] theorem VN {l:List Key} {i:Int} {v:Int}:setRow (l.map bN) i 4 [.sc (.int .i64 v)]=(l.modify i.toNat fun x=>{x with g:=v}).map bN:=bW fun a=>rfl
@[simp] theorem Ym {l:List Key} {i:Int} {v0:Int} {v1:Int} {v2:Int} {v3:Int} {v4:Int}:setRow (l.map bN) i 0 [.sc (.int .i64 v0),.sc (.int .i64 v1),.sc (.int .i64 v2),.sc (.int .i64 v3),.sc (.int .i64 v4)]=(l.modify i.toNat fun _=>⟨v0,v1,v2,v3,v4⟩).map bN:=bW fun a=>rfl
@[simp] theorem TT {l:List Age} {i:Int} {v:Int}:setRow (l.map dM) i 0 [.sc (.int .i64 v)]=(l.modify i.toNat fun x=>{x with id:=v}).map dM:=bW fun a=>rfl
@[simp] theorem TU {l:List Age} {i:Int} {v:Int}:setRow (l.map dM) i 1 [.sc (.int .i64 v)]=(l.modify i.toNat fun x=>{x with fr:=v}).map dM:=bW fun a=>rfl
@[simp] theorem Yn {l:List Age} {i:Int} {v0:Int} {v1:Int}:setRow (l.map dM) i 0 [.sc (.int .i64 v0),.sc (.int .i64 v1)]=(l.modify i.toNat fun _=>⟨v0,v1⟩).map dM:=bW fun a=>rfl
@[simp] theorem TW {l:List Cell} {i:Int} {v:Int}:setRow (l.map cK) i 0 [.sc (.int .i64 v)]=(l.modify i.toNat fun x=>{x with g:=v}).map cK:=bW fun a=>rfl
@[simp] theorem TY {l:List Cell} {i:Int} {v:Bool}:setRow (l.map cK) i 1 [.sc (.bool v)]=(l.modify i.toNat fun x=>{x with u:=v}).map cK:=bW fun a=>rfl
@[simp] theorem TZ {l:List Cell} {i:Int} {v:Int}:setRow (l.map cK) i 2 [.sc (.int .i64 v)]=(l.modify i.toNat fun x=>{x with n:=v}).map cK:=bW fun a=>rfl
@[simp] theorem Ph {l:List Cell} {i:Int} {v0:Int} {v1:Bool} {v2:Int}:setRow (l.map cK) i 0 [.sc (.int .i64 v0),.sc (.bool v1),.sc (.int .i64 v2)]=(l.modify i.toNat fun _=>⟨v0,v1,v2⟩).map cK:=bW fun a=>rfl
@[simp] theorem QY {l:List Vol} {i:Int} {v:ByteArray}:setRow (l.map dx) i 0 [.sc (.string v)]=(l.modify i.toNat fun x=>{x with name:=v}).map dx:=bW fun a=>rfl
@[simp] theorem Sg {l:List Vol} {i:Int} {v:Int}:setRow (l.map dx) i 1 [.sc (.int .i64 v)]=(l.modify i.toNat fun x=>{x with age:=v}).map dx:=bW fun a=>rfl
@[simp] theorem Bu {l:List Vol} {i:Int} {v:Int}:setRow (l.map dx) i 2 [.sc (.int .i64 v)]=(l.modify i.toNat fun x=>{x with size:=v}).map dx:=bW fun a=>rfl
@[simp] theorem T2 {l:List Vol} {i:Int} {v:Bool}:setRow (l.map dx) i 3 [.sc (.bool v)]=(l.modify i.toNat fun x=>{x with fx:=v}).map dx:=bW fun a=>rfl
@[simp] theorem Yo {l:List Vol} {i:Int} {v0:ByteArray} {v1:Int} {v2:Int} {v3:Bool}:setRow (l.map dx) i 0 [.sc (.string v0),.sc (.int .i64 v1),.sc (.int .i64 v2),.sc (.bool v3)]=(l.modify i.toNat fun _=>⟨v0,v1,v2,v3⟩).map dx:=bW fun a=>rfl
@[simp] theorem Yp {l:List VH} {i:Int} {v:Int}:setRow (l.map Pf) i 0 [.sc (.int .i64 v)]=(l.modify i.toNat fun x=>{x with kind:=v}).map Pf:=bW fun a=>rfl
@[simp] theorem Yq {l:List VH} {i:Int} {v:ByteArray}:setRow (l.map Pf) i 1 [.sc (.string v)]=(l.modify i.toNat fun x=>{x with name:=v}).map Pf:=bW fun a=>rfl
@[simp] theorem Zk {l:List VH} {i:Int} {v:ByteArray}:setRow (l.map Pf) i 2 [.sc (.string v)]=(l.modify i.toNat fun x=>{x with to:=v}).map Pf:=bW fun a=>rfl
@[simp] theorem ZC {l:List VH} {i:Int} {v:Int}:setRow (l.map Pf) i 3 [.sc (.int .i64 v)]=(l.modify i.toNat fun x=>{x with a:=v}).map Pf:=bW fun a=>rfl
@[simp] theorem ZD {l:List VH} {i:Int} {v:Int}:setRow (l.map Pf) i 4 [.sc (.int .i64 v)]=(l.modify i.toNat fun x=>{x with b:=v}).map Pf:=bW fun a=>rfl
@[simp] theorem Z7 {l:List VH} {i:Int} {v0:Int} {v1:ByteArray} {v2:ByteArray} {v3:Int} {v4:Int}:setRow (l.map Pf) i 0 [.sc (.int .i64 v0),.sc (.string v1),.sc (.string v2),.sc (.int .i64 v3),.sc (.int .i64 v4)]=(l.modify i.toNat fun _=>⟨v0,v1,v2,v3,v4⟩).map Pf:=bW fun a=>rfl
@[simp] theorem XI {l:List Mp} {i:Int} {v:ByteArray}:setRow (l.map FW) i 0 [.sc (.string v)]=(l.modify i.toNat fun x=>{x with name:=v}).map FW:=bW fun a=>rfl
@[simp] theorem YZ {l:List Mp} {i:Int} {v:Bool}:setRow (l.map FW) i 1 [.sc (.bool v)]=(l.modify i.toNat fun x=>{x with fx:=v}).map FW:=bW fun a=>rfl
@[simp] theorem Zl {l:List Mp} {i:Int} {v:List Int}:setRow (l.map FW) i 2 [.sub 1 (v.map bL)]=(l.modify i.toNat fun x=>{x with l:=v}).map FW:=bW fun a=>rfl
@[simp] theorem ZW {l:List Mp} {i:Int} {v0:ByteArray} {v1:Bool} {v2:List Int}:setRow (l.map FW) i 0 [.sc (.string v0),.sc (.bool v1),.sub 1 (v2.map bL)]=(l.modify i.toNat fun _=>⟨v0,v1,v2⟩).map FW:=bW fun a=>rfl
@[simp] theorem Yr {l:List (Int)} {i:Int} {v:Int}:setRow (l.map bL) i 0 [.sc (.int .i64 v)]=(l.modify i.toNat fun _=>v).map bL:=bW fun a=>rfl
@[simp] theorem ZE {l:List (Int)} {i:Int} {v:Int}:setRow (l.map Bs) i 0 [.sc (.int .u8 v)]=(l.modify i.toNat fun _=>v).map Bs:=bW fun a=>rfl
@[simp] theorem W6 {l:List (Bool)} {i:Int} {v:Bool}:setRow (l.map Hr) i 0 [.sc (.bool v)]=(l.modify i.toNat fun _=>v).map Hr:=bW fun a=>rfl
@[simp] theorem Yt {l:List (List Key)} {i:Int} {v:List Key}:setRow (l.map cc) i 0 [.sub 5 (v.map bN)]=(l.modify i.toNat fun _=>v).map cc:=bW fun a=>rfl
@[simp] theorem W7 {l:List (List (List Key))} {i:Int} {v:List (List Key)}:setRow (l.map aW) i 0 [.sub 1 (v.map cc)]=(l.modify i.toNat fun _=>v).map aW:=bW fun a=>rfl
end Go.T
namespace Go.T
theorem bD {α:Type} (l:List α) (P:Nat→Prop) (fin:P l.length) (step: ∀i a,i<l.length→l[i]?=some a→l.drop i=a::l.drop (i+1)→l.take (i+1)=l.take i++[a]→P (i+1)→P i):P 0:=by
 have: ∀k i,i+k=l.length→P i:=by
  intro k
  induction k with
  |zero=>intro i h;have:i=l.length:=by omega
         subst this;exact fin
  |succ k ih=>
   intro i h
   have hi:i<l.length:=by omega
   refine step i l[i] hi (List.getElem?_eq_getElem hi) (List.drop_eq_getElem_cons hi) ?_ (ih (i+1) (by omega))
   rw[List.take_add_one,List.getElem?_eq_getElem hi];rfl
 exact this l.length 0 (by omega)
theorem yy {α:Type} {e:α→List TC} {z:List TC} (l:List α) (P:Int→RR→Prop) (hz: ∀a,(e a).length=z.length) (fin:P l.length (l.map e))
 (step: ∀(i:Nat) rows a,i<l.length→l[i]?=some a→rowAt rows i=some z→P ((i:Int)+1) (setRow rows i 0 (e a))→P i rows):P 0 (List.replicate l.length z):=by
 have: ∀i:Nat,i≤l.length→P (i:Int) ((l.take i).map e++List.replicate (l.length-i) z)→P 0 (List.replicate l.length z):=by
  intro i
  induction i with
  |zero=>intro _ h;simpa using h
  |succ i ih=>
   intro hi h
   refine ih (by omega) ?_
   have hlt:i<l.length:=by omega
   have ha:=List.getElem?_eq_getElem hlt
   have hk:l.length-i=(l.length-(i+1))+1:=by omega
   rw[hk]
   refine step i _ l[i] hlt ha (VF (by omega)) ?_
   rw[QN (e:=e) ha rfl (hz _).symm]
   exact h
 refine this l.length (Nat.le_refl _) ?_
 simpa using fin
def tot {α:Type} (w:α→Nat):List α→Nat
 |[]=>0
 |a::r=>w a+tot w r
def fY {α:Type} (mk:α→Int→α) (w:α→Nat):List α→Int→List α
 |[],_=>[]
 |a::r,k=>mk a k::fY mk w r (k+w a)
theorem tf {α:Type} {e:α→List TC} (mk:α→Int→α) (w:α→Nat) (P:Int→Int→RR→Prop) (B:Int)
 (step: ∀(d:List α) a r (k:Int),0≤k→k+w a≤B→d.length<1099511627776→P (k+w a) ((d.length:Int)+1) ((d++mk a k::r).map e)→P k d.length ((d++a::r).map e)):
 ∀(r d:List α) (k:Int),0≤k→k+tot w r≤B→d.length+r.length≤1099511627776→P (k+tot w r) ((d.length+r.length:Nat):Int) ((d++fY mk w r k).map e)→P k d.length ((d++r).map e)
 |[],d,k,_,_,_,h=>by simpa [fY,tot] using h
 |a::r,d,k,h0,h1,h2,h=>by
  simp only[tot,List.length_cons] at h1 h2 h
  refine step d a r k h0 (by omega) (by omega) ?_
  have:=tf mk w P B step r (d++[mk a k]) (k+w a) (by omega) (by omega) (by simp;omega) (by
   simp only[List.append_assoc,List.singleton_append,List.length_append,List.length_singleton]
   rw[show k+(w a:Int)+(tot w r:Int)=k+((w a+tot w r:Nat):Int) by omega,show d.length+1+r.length=d.length+(r.length+1) by omega]
   exact h)
  simpa using this
theorem tg {α:Type} {e:α→List TC} (mk:α→Int→α) (w:α→Nat) (P:Int→Int→RR→Prop) (B:Int)
 (step: ∀(d:List α) a r (k:Int),0≤k→k+w a≤B→d.length<1099511627776→P (k+w a) ((d.length:Int)+1) ((d++mk a k::r).map e)→P k d.length ((d++mk a k::r).map e)):
 ∀(r d:List α) (k:Int),0≤k→k+tot w r≤B→d.length+r.length≤1099511627776→P (k+tot w r) ((d.length+r.length:Nat):Int) ((d++fY mk w r k).map e)→P k d.length ((d++fY mk w r k).map e)
 |[],d,k,_,_,_,h=>by simpa [fY,tot] using h
 |a::r,d,k,h0,h1,h2,h=>by
  simp only[tot,List.length_cons,fY] at h1 h2 h ⊢
  refine step d a _ k h0 (by omega) (by omega) ?_
  have:=tg mk w P B step r (d++[mk a k]) (k+w a) (by omega) (by omega) (by simp;omega) (by
   simp only[List.append_assoc,List.singleton_append,List.length_append,List.length_singleton]
   rw[show k+(w a:Int)+(tot w r:Int)=k+((w a+tot w r:Nat):Int) by omega,show d.length+1+r.length=d.length+(r.length+1) by omega]
   exact h)
  simpa using this
theorem th {α:Type} (n:Nat): ∀l:List α,tot (fun _=>n) l=n*l.length
 |[]=>rfl
 |a::r=>by simp only[tot,th n r,List.length_cons,Nat.mul_add];omega
theorem lD {α:Type} (mk:α→Int→α) (w:α→Nat): ∀(l:List α) (k:Int),(fY mk w l k).length=l.length
 |[],_=>rfl
 |a::r,k=>by simp[fY,lD mk w r]
theorem m6 {α:Type} {w:α→Nat}: ∀{l:List α} {a:α},a∈l→w a≤tot w l
 |[],_,h=>by cases h
 |b::r,a,h=>by
  simp only[tot]
  rcases List.mem_cons.1 h with rfl|h
  ·omega
  ·have:=m6 (w:=w) h;omega
theorem kk {α:Type} {w:α→Nat} {l:List α} {i:Nat} {a:α} (h:l[i]?=some a):w a≤tot w l:=m6 (List.mem_of_getElem? h)
def bH (s:List Key):Nat:=s.length
def aQ (n:List (List Key)):Nat:=n.length+tot bH n
def qw (n:List (List (List Key))):Nat:=n.length+tot aQ n
def c6 (t:Tree):Nat:=t.lows.length+qw t.nodes
def oW (v:Vol):Nat:=v.name.size
def Ds (l:List Vol):Nat:=l.length+tot oW l
def cq (p:Pool):Nat:=c6 p.t+p.ages.length+p.cells.length+Ds p.vols
def lX (left:Int) (n:Nat):Int:=if left<n then-1 else left-n
end Go.T
namespace Go.T
section
variable {C : lu} {f : FuncId} {vs : List TV}
theorem q8 {x b:Bool} (h:aa C f vs (vB x) []):aa C f vs (vB b) []↔b=x:=⟨fun h'=>by have:=(h.Zg h').1;simpa using this,fun e=>e▸h⟩
theorem VO {x b:Int} (h:aa C f vs (vI x) []):aa C f vs (vI b) []↔b=x:=⟨fun h'=>by have:=(h.Zg h').1;simpa using this,fun e=>e▸h⟩
theorem ZX {x b:ByteArray} (h:aa C f vs (vS x) []):aa C f vs (vS b) []↔b=x:=⟨fun h'=>by have:=(h.Zg h').1;simpa using this,fun e=>e▸h⟩
theorem QZ {z:Nat} {x b:RR} (h:aa C f vs (.c (.sub z x)) []):aa C f vs (.c (.sub z b)) []↔b=x:=⟨fun h'=>by have:=(h.Zg h').1;simpa using this,fun e=>e▸h⟩
theorem XJ {x b:Int} {y c:Bool} (h:aa C f vs (.tu [(0,[iI x]),(0,[iB y])]) []):aa C f vs (.tu [(0,[iI b]),(0,[iB c])]) []↔b=x∧c=y:=⟨fun h'=>by have:=(h.Zg h').1;simpa using this,fun⟨e,e'⟩=>e▸e'▸h⟩
end
theorem Oi {s:ByteArray} {i:Nat} (h:i<s.size): ∃n:Int,qM s i=some n∧0≤n∧n≤255:=by
 unfold qM
 rw[if_pos (Int.natCast_nonneg i),Int.toNat_natCast]
 have:s[i]?=some s[i]:=getElem?_pos s i h
 rw[this]
 have:=(s[i]).toNat_lt
 refine⟨_,rfl,?_,?_⟩<;>show _≤_<;>simp only[]<;>omega
theorem Q1 {n:Int} (h: -9223372036854775808≤n∧n≤9223372036854775807):sr .i64 n=n:=by unfold sr;exact IntWalk.i64_in _ h
def iK (a lo hi:Int):Bool:=decide (lo≤a∧a≤hi)
def ED (a:Int):Bool:=iK a 0 65535
def gx (x:Key):Bool:=iK x.b 0 15&&iK x.a 1 60&&iK x.k 0 2&&(if x.k=1 then iK x.c 0 23&&iK x.g 0 999 else decide (x.c=0)&&decide (x.g=0))
def dK (x y:Key):Bool:=decide (x.b<y.b∨(x.b=y.b∧x.a<y.a))
def lE (x y:Key):Bool:=decide (x.b=y.b∧x.a=y.a)
def cN (n:Nat) (f:Nat→Bool):Bool:=(List.range' 0 n).all f
theorem jI {i n:Nat} (h:i<n):List.range' i (n-i)=i::List.range' (i+1) (n-(i+1)):=by
 obtain⟨k,hk⟩: ∃k,n-i=k+1:=⟨n-i-1,by omega⟩
 rw[hk,show n-(i+1)=k by omega]
 rfl
theorem nP (n:Nat) (P:Nat→Prop) (fin:P n) (step: ∀i,i<n→P (i+1)→P i):P 0:=by
 have: ∀k i,i+k=n→P i:=by
  intro k
  induction k with
  |zero=>intro i h;have:i=n:=by omega
         subst this;exact fin
  |succ k ih=>intro i h;exact step i (by omega) (ih (i+1) (by omega))
 exact this n 0 (by omega)
theorem Tl {α:Type} (f g:α→Bool): ∀l:List α,l.all (fun x=>f x&&g x)=(l.all f&&l.all g)
 |[]=>rfl
 |a::r=>by simp only[List.all_cons,Tl f g r];cases f a<;>cases g a<;>simp
theorem VP (n:Nat) (f g:Nat→Bool):cN n (fun i=>f i&&g i)=(cN n f&&cN n g):=Tl f g _
theorem Bv {n:Nat} {f:Nat→Bool}:cN n f=true↔ ∀i,i<n→f i=true:=by
 unfold cN
 rw[List.all_eq_true]
 constructor
 ·intro h i hi;exact h i (by simp[List.mem_range'];exact hi)
 ·intro h i hi
  simp[List.mem_range'] at hi
  exact h i hi
def Uu {α:Type} (l:List α) (f:α→Bool) (i:Nat):Bool:=match l[i]? with|some a=>f a|none=>true
def gL {α:Type} (l:List α) (f:α→α→Bool):Nat→Bool
 |0=>true
 |k+1=>match l[k]?,l[k+1]? with|some x,some y=>f x y|_,_=>true
theorem W8 {α:Type} (l:List α) (f:α→Bool):cN l.length (Uu l f)=l.all f:=by
 rw[Bool.eq_iff_iff,Bv,List.all_eq_true]
 constructor
 ·intro h a ha
  obtain⟨i,hi,rfl⟩:=List.getElem_of_mem ha
  have:=h i hi
  simpa [Uu,hi] using this
 ·intro h i hi
  simp only[Uu,List.getElem?_eq_getElem hi]
  exact h _ (List.getElem_mem hi)
def ld (l:List Key) (i:Nat):Bool:=Uu l gx i&&gL l dK i
def Bw (l:List Key):Bool:=cN l.length (ld l)&&decide (l.length≤60)
theorem KV (l:List Key):Bw l=(l.all gx&&(cN l.length (gL l dK)&&decide (l.length≤60))):=by
 rw[←Bool.and_assoc,←W8,←VP];rfl
def dY:Key:=⟨0,0,0,0,0⟩
def setAt (l:List Key) (b a:Int):Option Key:=l.find? fun x=>decide (x.b=b∧x.a=a)
def e9 (k:Key):Bool→List Key→List Key
 |put,[]=>if put then [] else [k]
 |put,x::r=>(if !put&& !dK x k then [k] else [])++(if lE x k then [] else [x])++e9 k (put|| !dK x k) r
def fe (l:List Key) (k:Key):List Key:=e9 k false l
theorem Hs (k:Key): ∀(l:List Key) (put:Bool),(e9 k put l).length≤l.length+(if put then 0 else 1)
 |[],put=>by simp only[e9];split<;>simp
 |x::r,put=>by
  have:=Hs k r (put|| !dK x k)
  simp only[e9,List.length_append,List.length_cons]
  have h1:(if lE x k then([]:List Key) else [x]).length≤1:=by split<;>simp
  revert h1
  generalize (if lE x k then([]:List Key) else [x])=m
  intro h1
  cases put<;>cases hk:dK x k<;>simp[hk] at this ⊢ <;>omega
theorem nQ (l:List Key) (k:Key):(fe l k).length≤l.length+1:=by have:=Hs k l false;simpa [fe] using this
def cJ (old new:List Key):List Key:=new.foldl fe old
theorem rB: ∀(new old:List Key),(cJ old new).length≤old.length+new.length
 |[],old=>by simp[cJ]
 |x::r,old=>by
  have:=rB r (fe old x)
  have h2:=nQ old x
  simp only[cJ,List.foldl_cons,List.length_cons] at this ⊢
  omega
def m7 (l:List Key):List Key:=l.filter fun k=> !decide (k.k=0)
def tj (n:List (List Key)):List Key:=n.foldl cJ []
def aR (n:List (List Key)):List Key:=m7 (tj n)
theorem yL: ∀(n:List (List Key)) (a:List Key),(n.foldl cJ a).length≤a.length+tot bH n
 |[],a=>by simp[tot]
 |s::r,a=>by
  have:=yL r (cJ a s)
  have h2:=rB s a
  simp only[List.foldl_cons,tot,bH] at this ⊢
  omega
theorem cV (n:List (List Key)):(aR n).length≤tot bH n:=by
 have h1:=yL n []
 have h2:=List.length_filter_le (fun k:Key=> !decide (k.k=0)) (tj n)
 simp only[List.length_nil,Nat.zero_add] at h1
 exact Nat.le_trans h2 h1
def cm (n:List (List Key)):Nat:=tot bH n
def ff (n:List (List Key)):Bool:=n.all (fun s=>Bw s&& !decide (s.length=0))&&decide (n.length≤3)&&decide (cm n≤8)
def cF (l:List Key):List (List Key):=if l.length=0 then [] else [l]
def bu (t:Tree):List Key:=t.nodes.flatMap aR
theorem EE: ∀(l:List (List (List Key))),(l.flatMap aR).length≤tot aQ l
 |[]=>by simp[tot]
 |n::r=>by
  have:=EE r
  have h2:=cV n
  simp only[List.flatMap_cons,List.length_append,tot,aQ]
  omega
theorem ko (t:Tree):(bu t).length≤c6 t:=by
 have:=EE t.nodes
 unfold bu c6 qw
 omega
def fo (t:Tree) (b:Int):List Key:=(bu t).filter fun k=>decide (k.b=b)
theorem KW (t:Tree) (b:Int):(fo t b).length≤(bu t).length:=List.length_filter_le _ _
def gy (b a:Int):Int:=aA (W3 64 b) a
def gJ {α:Type} (p:α→Bool):List α→Int→Int
 |[],_=> -1
 |a::r,i=>if p a then i else gJ p r (i+1)
theorem KX {α:Type} (p:α→Bool): ∀(l:List α) (i:Int),0≤i→decide (0≤gJ p l i)=l.any p
 |[],i,_=>by simp[gJ]
 |a::r,i,h=>by
  by_cases hp:p a=true
  ·simp[gJ,hp,h]
  ·have:=KX p r (i+1) (by omega)
   simp only[gJ,if_neg hp,List.any_cons]
   rw[this]
   simp[hp]
theorem Oj {α:Type} (p:α→Bool): ∀(l:List α) (i:Int),0≤i→(gJ p l i= -1∧ ∀a∈l,p a=false)∨ ∃(j:Nat) (a:α),gJ p l i=i+j∧l[j]?=some a∧p a=true∧j<l.length∧ ∀k,k<j→ ∀b,l[k]?=some b→p b=false
 |[],i,_=> .inl ⟨rfl,fun a h=>by cases h⟩
 |a::r,i,h=>by
  simp only[gJ]
  cases hp:p a with
  |true=>exact .inr ⟨0,a,by simp,rfl,hp,by simp,fun k hk=>by omega⟩
  |false=>
   rcases Oj p r (i+1) (by omega) with⟨h1,h2⟩|⟨j,b,h1,h2,h3,h4,h5⟩
   ·refine .inl ⟨by simpa using h1,fun b hb=> ?_⟩
    rcases List.mem_cons.1 hb with rfl|hb
    ·exact hp
    ·exact h2 b hb
   ·refine .inr ⟨j+1,b,by simp[h1];omega,h2,h3,by simp;omega,fun k hk c hc=> ?_⟩
    cases k with
    |zero=>simp at hc;rw[←hc];exact hp
    |succ k=>exact h5 k (by omega) c hc
theorem Q2 {α:Type} (p:α→Bool) (l:List α) (h: ¬gJ p l 0<0): ∃a,gX l (gJ p l 0)=some a∧p a=true:=by
 rcases Oj p l 0 (by omega) with⟨h1,_⟩|⟨j,a,h1,h2,h3,_⟩
 ·omega
 ·refine⟨a,?_,h3⟩
  rw[h1,Int.zero_add,aL];exact h2
def g6 (l:List Age) (id:Int):Int:=gJ (fun a=>decide (a.id=id)) l 0
theorem Ok (l:List Age) (id:Int) (h: ¬g6 l id<0): ∃a,gX l (g6 l id)=some a∧a.id=id:=by
 obtain⟨a,h1,h2⟩:=Q2 _ l h
 exact⟨a,h1,of_decide_eq_true h2⟩
def Bx (l:List Age):Nat→Int→List Int
 |0,_=>[]
 |n+1,id=>if g6 l id<0 then [] else id::(match gX l (g6 l id) with|some a=>Bx l n a.fr|none=>[])
def pathOf (l:List Age) (id:Int):List Int:=Bx l (l.length+1) id
theorem Ol (l:List Age): ∀(n:Nat) (id:Int),(Bx l n id).length≤n
 |0,_=>by simp[Bx]
 |n+1,id=>by
  simp only[Bx]
  split
  ·simp
  ·split
   ·have:=Ol l n
    simp only[List.length_cons]
    rename_i a _
    have:=this a.fr
    omega
   ·simp
theorem KY (l:List Age) (id:Int):(pathOf l id).length≤l.length+1:=Ol l _ id
def EF (l:List Int) (n:Int):Bool:=l.any fun a=>decide (a=n)
def EG (path:List Int):Key×Bool→Key→Key×Bool:=fun p k=>if EF path k.a&&(!p.2||decide (p.1.a<k.a)) then(k,true) else p
def near (keys:List Key) (path:List Int):Key×Bool:=keys.foldl (EG path) (dY,false)
def Tm (t:Tree) (l:List Age) (b id:Int):Key×Bool:=near (fo t b) (pathOf l id)
def qh (t:Tree) (l:List Age) (b id:Int):Key×Bool:=near (fo t b) ((pathOf l id).drop 1)
theorem VQ (keys:List Key):near keys []=(dY,false):=by
 unfold near
 suffices ∀(l:List Key),l.foldl (EG []) (dY,false)=(dY,false) from this keys
 intro l
 induction l with
 |nil=>rfl
 |cons a r ih=>simpa [EG,EF] using ih
def jq (l:List Age) (id:Int):List Int:=if id=0 then [] else(l.filter fun a=>decide (a.fr=id)).map (·.id)
theorem KZ (l:List Age) (id:Int):(jq l id).length≤l.length:=by
 unfold jq
 split
 ·simp
 ·rw[List.length_map];exact List.length_filter_le _ _
abbrev Om (p:Key×Bool):TV:= .tu [(1,[iI p.1.b,iI p.1.a,iI p.1.k,iI p.1.c,iI p.1.g]),(0,[iB p.2])]
def VR (n:Int):Bool:=iK n 97 122||iK n 48 57
def dR (s:ByteArray) (i:Nat):Bool:=match qM s i with|some n=>VR n|none=>true
def q9 (s:ByteArray):Bool:=cN s.size (dR s)&&iK s.size 1 6
def eu (l:List Age) (i:Nat):Bool:=Uu l (fun a=>iK a.id 1 60) i&&(gL l (fun x y=>decide (x.id<y.id)) i&&Uu l (fun a=>decide (a.fr=0)|| !decide (g6 (l.take i) a.fr<0)) i)
def lY (l:List Age):Bool:=cN l.length (eu l)&&decide (l.length≤16)
def eP (l:List Vol) (s:ByteArray):Int:=gJ (fun v=>decide (v.name=s)) l 0
def XK (l:List Vol) (id:Int):Bool:= !l.any fun v=>decide (v.age=id)
def cellAt (l:List Cell) (i gen:Int):Int×Bool:=match gX l i with
 |none=>(0,false)
 |some c=>if c.u=true∧c.g=gen then(c.n,true) else(0,false)
def bQ (l:List Cell):Nat:=(l.filter (·.u)).length
def hD (c:Cell):Bool:=iK c.g 0 999&&(ED c.n&&(c.u||decide (c.n=0)))
def eI (l:List Cell):Bool:=l.all hD&&decide (l.length=24)
abbrev Z8 (p:Int×Bool):TV:= .tu [(0,[iI p.1]),(0,[iB p.2])]
@[simp] theorem uT {l:List Key} {b a k c g:Int}:List.append (l.map bN) [[iI b,iI a,iI k,iI c,iI g]]=(l++[(⟨b,a,k,c,g⟩:Key)]).map bN:=by simp[bN]
@[simp] theorem J6 {l:List Int} {b:Int}:List.append (l.map bL) [[iI b]]=(l++[b]).map bL:=by simp[bL]
@[simp] theorem Zm {l:List Int} {b:Int}:List.append (l.map Bs) [[.sc (.int .u8 b)]]=(l++[b]).map Bs:=by simp[Bs]
@[simp] theorem ZF {l:List Age} {b a:Int}:List.append (l.map dM) [[iI b,iI a]]=(l++[(⟨b,a⟩:Age)]).map dM:=by simp[dM]
@[simp] theorem ZG {l:List Vol} {s:ByteArray} {b a:Int} {q:Bool}:List.append (l.map dx) [[iS s,iI b,iI a,iB q]]=(l++[(⟨s,b,a,q⟩:Vol)]).map dx:=by simp[dx]
@[simp] theorem ZH {l:List (List Key)} {s:List Key}:List.append (l.map cc) [[.sub 5 (s.map bN)]]=(l++[s]).map cc:=by simp[cc]
@[simp] theorem EH {l:List (List (List Key))} {s:List (List Key)}:List.append (l.map aW) [[.sub 1 (s.map cc)]]=(l++[s]).map aW:=by simp[aW]
@[simp] theorem ZI {l:List Mp} {s:ByteArray} {f:Bool} {r:List Int}:List.append (l.map FW) [[iS s,iB f,.sub 1 (r.map bL)]]=(l++[(⟨s,f,r⟩:Mp)]).map FW:=by simp[FW]
@[simp] theorem jJ {α:Type} {e:α→List TC} {l m:List α}:List.append (l.map e) (m.map e)=(l++m).map e:=by simp
@[simp] theorem Zn:([]:RR)=([]:List Key).map bN↔True:=by simp
@[simp] theorem cu {α:Type} (l:List α):Nat.succ (List.length l)=l.length+1:=rfl
theorem lZ (b a k c g:Int):bS [[iI b,iI a,iI k,iI c,iI g]]=true:=jV [⟨b,a,k,c,g⟩]
theorem Si (b a:Int):bS [[iI b,iI a]]=true:=CJ [⟨b,a⟩]
theorem Sj (s:ByteArray) (b a:Int) (q:Bool):bS [[iS s,iI b,iI a,iB q]]=true:=CK [⟨s,b,a,q⟩]
attribute [simp] lZ Si Sj
@[simp] theorem dh (k:Key):(⟨k.b,k.a,k.k,k.c,k.g⟩:Key)=k:=rfl
@[simp] theorem dZ (k:Age):(⟨k.id,k.fr⟩:Age)=k:=rfl
@[simp] theorem c8 (k:Cell):(⟨k.g,k.u,k.n⟩:Cell)=k:=rfl
@[simp] theorem ee (k:Vol):(⟨k.name,k.age,k.size,k.fx⟩:Vol)=k:=rfl
@[simp] theorem ef (k:Mp):(⟨k.name,k.fx,k.l⟩:Mp)=k:=rfl
@[simp] theorem fE (k:VH):(⟨k.kind,k.name,k.to,k.a,k.b⟩:VH)=k:=rfl
theorem cY {n b:Nat} (h:n*b≤140737488355328∧n≤140737488355328):fits n b=true:=by rw[WW];exact decide_eq_true h
end Go.T
namespace Go.T
def cZ (s:List Key):Bool:=Bw s&& !decide (s.length=0)
theorem On (n:List (List Key)):ff n=(n.all cZ&&(decide (n.length≤3)&&decide (cm n≤8))):=by
 unfold ff;rw[Bool.and_assoc];rfl
def Sk (lows:List Int) (i:Nat) (x:Int):Bool:=match lows[i]? with
 |some lo=> !decide (x<lo)&&(match lows[i+1]? with|some hi=>decide (x<hi)|none=>true)
 |none=>true
def gj (lows:List Int) (i:Nat) (k:Key):Bool:=Sk lows i (gy k.b k.a)
def bU (lows:List Int) (i:Nat) (s:List Key):Bool:=s.all (gj lows i)
def cR (t:Tree) (i:Nat):Bool:=gL t.lows (fun x y=>decide (x<y)) i&&(match t.nodes[i]? with
 |some n=>ff n&&((decide (i=0)|| !decide ((aR n).length=0))&&n.all (bU t.lows i))
 |none=>true)
def ew (t:Tree):Bool:=iK t.nodes.length 1 20&&(decide (t.lows.length=t.nodes.length)&&((match t.lows[0]? with|some x=>decide (x=0)|none=>true)&&(cN t.nodes.length (cR t)&&decide ((bu t).length≤60))))
def bZ (p:Pool) (i:Nat):Bool:=match p.vols[i]? with
 |some v=>q9 v.name&&(iK v.size 1 12&&(!decide (g6 p.ages v.age<0)&&(decide ((jq p.ages v.age).length=0)&&(gL p.vols (fun x y=>Ma x.name y.name) i&& !(p.vols.take i).any fun u=>decide (u.age=v.age)))))
 |none=>true
def gz (p:Pool):Bool:=cN p.vols.length (bZ p)&&decide (p.vols.length≤6)
def cL (p:Pool) (l:List Key) (i:Nat):Bool:=match l[i]? with
 |some k=> !decide (g6 p.ages k.a<0)&&(!decide (k.k=1)||((cellAt p.cells k.c k.g).2&& !(l.take i).any fun x=>decide (x.k=1)&&decide (x.c=k.c)))
 |none=>true
def cg (l:List Key):Nat:=(l.filter fun k=>decide (k.k=1)).length
def iw (p:Pool):Bool:=cN (bu p.t).length (cL p (bu p.t))&&decide ((bQ p.cells:Int)=cg (bu p.t))
def m4 (p:Pool):Bool:=p.ages.all (fun a=>decide (a.id<p.next))&&(ew p.t&&(lY p.ages&&(eI p.cells&&(iK p.next 1 61&&(gz p&&iw p)))))
def W9 (p:Pool) (i b:Int):Int:=match gX p.vols i with
 |none=>0
 |some v=>if 0≤b∧b<v.size then(if(Tm p.t p.ages b v.age).2=true∧(Tm p.t p.ages b v.age).1.k=1 then(cellAt p.cells (Tm p.t p.ages b v.age).1.c (Tm p.t p.ages b v.age).1.g).1 else 0) else 0
def oe (l:List Key):List Bool:=(List.range 24).map fun m:Nat=>l.any fun x=>decide (x.k=1)&&decide (x.c=(m:Int))
theorem Q3:oe []=List.replicate 24 false:=by decide
theorem Q4 (l:List Key) {c:Int} (h:0≤c∧c<24):gX (oe l) c=some (l.any fun x=>decide (x.k=1)&&decide (x.c=c)):=by
 obtain⟨n,rfl⟩: ∃n:Nat,c=n:=⟨c.toNat,by omega⟩
 rw[aL]
 unfold oe
 rw[List.getElem?_map,List.getElem?_range (by omega)]
 rfl
theorem Q5 (l:List Key) (k:Key) (hk:k.k=1) (h:0≤k.c∧k.c<24):(oe l).modify k.c.toNat (fun _=>true)=oe (l++[k]):=by
 apply List.ext_getElem?
 intro m
 rw[List.getElem?_modify]
 unfold oe
 rw[List.getElem?_map,List.getElem?_map]
 by_cases hm:m<24
 ·rw[List.getElem?_range hm]
  simp only[Option.map_some,List.any_append,List.any_cons,List.any_nil,Bool.or_false,hk,decide_true,Bool.true_and]
  by_cases e:k.c.toNat=m
  ·have:k.c=(m:Int):=by omega
   simp[e,this]
  ·have: ¬k.c=(m:Int):=by omega
   simp[e,this]
 ·rw[List.getElem?_eq_none (by simp;omega)];rfl
theorem Pj (l:List Key) (k:Key) (hk: ¬k.k=1):oe (l++[k])=oe l:=by
 unfold oe
 simp[hk]
theorem CX (k:Key) (l:List Key):cg (k::l)=(if k.k=1 then 1 else 0)+cg l:=by
 unfold cg
 by_cases h:k.k=1<;>simp[h]
 omega
theorem T3 {l:List Cell} {i g:Int} (h:(cellAt l i g).2=true):0≤i∧i<l.length:=by
 unfold cellAt at h
 apply Classical.byContradiction
 intro hn
 rw[oc hn] at h
 cases h
theorem g7 {p:Pool} (h:cq p≤4194304):c6 p.t≤4194304∧p.ages.length≤4194304∧p.cells.length≤4194304∧p.vols.length≤4194304∧tot oW p.vols≤4194304:=by
 unfold cq Ds at h
 omega
end Go.T
namespace Go.T
def blocks (p:Pool) (i:Nat) (k:Nat):List Int:=(List.range k).map fun b:Nat=>W9 p i b
def gl (l:List Cell) (i:Int):List Cell:=match gX l i with
 |none=>l
 |some c=>if eI l=true∧c.u=true then l.modify i.toNat (fun _=>⟨we (aA c.g 1) 1000,false,0⟩) else l
theorem CY {l:List Cell} {i:Int} (h:gX l i=none):gl l i=l:=by unfold gl;rw[h]
theorem EI {l:List Cell} {i:Int} (h:eI l=false):gl l i=l:=by
 unfold gl
 cases gX l i with
 |none=>rfl
 |some c=>exact if_neg (fun hh=>by rw[h] at hh;cases hh.1)
theorem Ht {l:List Cell} {i:Int} {c:Cell} (hc:gX l i=some c) (h:c.u=false):gl l i=l:=by
 unfold gl;rw[hc];exact if_neg (fun hh=>by rw[h] at hh;cases hh.2)
theorem EJ {l:List Cell} {i:Int} {c:Cell} (hc:gX l i=some c) (h:eI l=true) (hu:c.u=true):gl l i=l.modify i.toNat (fun _=>⟨we (aA c.g 1) 1000,false,0⟩):=by
 unfold gl;rw[hc];exact if_pos ⟨h,hu⟩
theorem Pk (l:List Cell) (i:Int):(gl l i).length=l.length:=by
 unfold gl
 cases gX l i with
 |none=>rfl
 |some c=>simp only[];split<;>simp
abbrev Z9 (x:Int×Int):TV:= .tu [(0,[iI x.1]),(0,[iI x.2])]
def By (p:Pool) (s:ByteArray):Bool:=m4 p&&q9 s
theorem rK {p:Pool} (h:m4 p=true):gz p=true:=by
 simp only[m4,Bool.and_eq_true] at h
 exact h.2.2.2.2.2.1
theorem Q6 {p:Pool} (h:m4 p=true):lY p.ages=true:=by
 simp only[m4,Bool.and_eq_true] at h
 exact h.2.2.1
theorem uU {p:Pool} {i:Int} {v:Vol} (h:gz p=true) (hv:gX p.vols i=some v):1≤v.size∧v.size≤12:=by
 obtain⟨n,rfl,hn⟩: ∃n:Nat,i=n∧n<p.vols.length:=by
  have:0≤i∧i<p.vols.length:=Classical.byContradiction fun hn=>by rw[oc hn] at hv;cases hv
  exact⟨i.toNat,by omega,by omega⟩
 simp only[gz,Bool.and_eq_true,Bv] at h
 have:=h.1 n hn
 rw[aL] at hv
 simp only[bZ,hv,Bool.and_eq_true] at this
 have:=this.2.1
 simp[iK] at this
 omega
def wV (l:List Key) (b a:Int):Key×Bool:=match setAt l b a with|some k=>(k,true)|none=>(dY,false)
def mz (n:List (List Key)) (b a:Int):Nat→Key×Bool
 |0=>(dY,false)
 |k+1=>match n[k]? with
  |some s=>if(wV s b a).2=true then(if(wV s b a).1.k=0 then(dY,false) else wV s b a) else mz n b a k
  |none=>(dY,false)
def qx (f:Int→Bool) (l:List Int):Nat→Int
 |0=> -1
 |k+1=>match l[k]? with
  |some x=>if f x=true then(k:Int) else qx f l k
  |none=> -1
def lg (t:Tree) (b a:Int):Int:=qx (fun x=>decide (x≤gy b a)) t.lows t.lows.length
def r5 (t:Tree) (b a:Int):Key×Bool:=match gX t.nodes (lg t b a) with
 |some n=>mz n b a n.length
 |none=>(dY,false)
end Go.T
namespace Go.T
def Sl (p x:Pool):Pool×Int:=if m4 x=true then(x,0) else(p,6)
abbrev Sm (x:Pool×Int):TV:= .tu [(1,[.sub 1 (x.1.t.lows.map bL),.sub 1 (x.1.t.nodes.map aW),.sub 2 (x.1.ages.map dM),.sub 3 (x.1.cells.map cK),.sub 4 (x.1.vols.map dx),iI x.1.next]),(0,[iI x.2])]
end Go.T
namespace Go.T
end Go.T
namespace Go.T
def XL (v u:Vol):Bool:=Ma u.name v.name||Oz u.name v.name
theorem Q7: ∀(x y z:List UInt8),Op.bytesLess x y=true→Op.bytesLess y z=true→Op.bytesLess x z=true
 |x,y,[],_,h=>by cases y<;>simp[Op.bytesLess] at h
 |x,[],c::z,h,_=>by cases x<;>simp[Op.bytesLess] at h
 |[],_::_,_::_,_,_=>by simp[Op.bytesLess]
 |a::x,b::y,c::z,h1,h2=>by
  simp only[Op.bytesLess,Bool.or_eq_true,Bool.and_eq_true,decide_eq_true_eq,beq_iff_eq] at h1 h2 ⊢
  rcases h1 with h1|⟨rfl,h1⟩
  ·rcases h2 with h2|⟨rfl,h2⟩
   ·exact .inl (UInt8.lt_trans h1 h2)
   ·exact .inl h1
  ·rcases h2 with h2|⟨rfl,h2⟩
   ·exact .inl h2
   ·exact .inr ⟨rfl,Q7 x y z h1 h2⟩
theorem T4 {a b c:ByteArray} (h1:Ma a b=true) (h2:Ma b c=true):Ma a c=true:=by
 unfold Ma at*
 exact Q7 _ _ _ h1 h2
def EK:List Vol→Prop
 |[]=>True
 |[_]=>True
 |a::b::r=>Ma a.name b.name=true∧EK (b::r)
theorem VS {v a b:Vol} (h:Ma a.name b.name=true) (hb:XL v b=true):XL v a=true:=by
 unfold XL at*
 rw[Bool.or_eq_true] at*
 rcases hb with hb|hb
 ·exact .inl (T4 h hb)
 ·have:b.name.toList=v.name.toList:=by
   unfold Oz at hb;exact eq_of_beq hb
  unfold Ma at h ⊢
  rw[←this];exact .inl h
theorem EK.tail {a:Vol} {l:List Vol} (h:EK (a::l)):EK l:=by
 cases l with
 |nil=>trivial
 |cons b r=>exact h.2
theorem EK.cut {v:Vol}: ∀{l:List Vol} {k:Nat},EK l→k≤l.length→(∀u∈l.drop k,XL v u=false)→(∀u,0<k→l[k-1]?=some u→XL v u=true)→(l.takeWhile (XL v)).length=k
 |[],k,_,hk,_,_=>by simp at hk;simp[hk]
 |a::l,0,_,_,h1,_=>by
  have:=h1 a (.head _)
  simp[this]
 |a::l,k+1,hr,hk,h1,h2=>by
  have ih:=EK.cut (v:=v) (l:=l) (k:=k) hr.tail (by simpa using hk) (fun u hu=>h1 u (by simpa using hu)) fun u h0 hu=>by
   obtain⟨j,rfl⟩: ∃j,k=j+1:=⟨k-1,by omega⟩
   exact h2 u (by omega) (by simpa using hu)
  have ha:XL v a=true:=by
   cases k with
   |zero=>exact h2 a (by omega) rfl
   |succ k=>
    cases l with
    |nil=>simp at hk
    |cons b r=>
     refine VS hr.1 ?_
     rw[List.takeWhile_cons] at ih
     cases hb:XL v b with
     |true=>rfl
     |false=>rw[hb] at ih;simp at ih
  rw[List.takeWhile_cons,if_pos ha,List.length_cons,ih]
theorem EK.modify {f:Vol→Vol} (hf: ∀u,(f u).name=u.name): ∀{l:List Vol} (i:Nat),EK l→EK (l.modify i f)
 |[],i,h=>by cases i<;>exact h
 |[a],0,_=>trivial
 |[a],i+1,_=>by cases i<;>trivial
 |a::b::r,0,h=>by
  show EK (f a::b::r)
  exact⟨by rw[hf];exact h.1,h.2⟩
 |a::b::r,1,h=>by
  show EK (a::f b::r)
  refine⟨by rw[hf];exact h.1,?_⟩
  exact EK.modify hf (l:=b::r) 0 h.2
 |a::b::r,i+2,h=>⟨h.1,EK.modify hf (l:=b::r) (i+1) h.2⟩
def HH (p x:Pool) (ok:Bool):Pool×Int:=if ok=true then Sl p x else(p,6)
end Go.T
namespace Go.T
def gtM (m u:Mp):Bool:= !(Ma u.name m.name||Oz u.name m.name)
def Xc (l:List Mp) (m:Mp):Nat→Nat
 |0=>0
 |k+1=>match l[k]? with
  |some u=>if gtM m u=true then Xc l m k else k+1
  |none=>k+1
theorem Tn (l:List Mp) (m:Mp): ∀k,Xc l m k≤k
 |0=>Nat.le_refl _
 |k+1=>by
  unfold Xc
  split
  ·split
   ·exact Nat.le_succ_of_le (Tn l m k)
   ·exact Nat.le_refl _
  ·exact Nat.le_refl _
def VT {α:Type} (l:List α) (k:Nat) (x:α):List α:=l.take k++x::l.drop k
def VU (l:List Mp) (m:Mp):List Mp:=VT l (Xc l m l.length) m
theorem VV (l:List Mp) (m:Mp):(VU l m).length=l.length+1:=by
 have:=Tn l m l.length
 unfold VU VT
 rw[List.length_append,List.length_cons,List.length_take,List.length_drop];omega
theorem VW {l:List Mp} {m x:Mp} (h:x∈VU l m):x∈l∨x=m:=by
 unfold VU VT at h
 rcases List.mem_append.1 h with h|h
 ·exact .inl (List.mem_of_mem_take h)
 ·rcases List.mem_cons.1 h with h|h
  ·exact .inr h
  ·exact .inl (List.mem_of_mem_drop h)
def Pm (l l':List Mp):Prop:=l'.length≤l.length+1∧ ∀B:Nat,12≤B→(∀x∈l,x.l.length≤B)→ ∀x∈l',x.l.length≤B
theorem Pm.refl (l:List Mp):Pm l l:=⟨Nat.le_succ _,fun _ _ h=>h⟩
theorem Pm.put {l:List Mp} {m:Mp} (h: ∀B:Nat,12≤B→(∀x∈l,x.l.length≤B)→m.l.length≤B):Pm l (VU l m):=
 ⟨Nat.le_of_eq (VV l m),fun B hB hl x hx=>(VW hx).elim (hl x) fun e=>by rw[e];exact h B hB hl⟩
end Go.T
namespace Go.T
abbrev T6 (x:List (List Key)×Bool):TV:= .tu [(1,[.sub 1 (x.1.map cc)]),(0,[iB x.2])]
def Dt (s:List Key) (k:Key):Bool:=(wV s k.b k.a).2||decide (s.length<4)
def jr (n:List (List Key)) (k:Key):List (List Key):=match n[n.length-1]? with
 |none=>n++[[k]]
 |some s=>if Dt s k=true then n.set (n.length-1) (fe s k) else n++[[k]]
def cr (n:List (List Key)) (k:Key):List Key:=m7 (fe (aR n) k)
def cj (n:List (List Key)) (k:Key):List (List Key)×Bool:=
 if ff (jr n k)=true then(jr n k,true) else if 8<(cr n k).length then(n,false) else if ff (cF (cr n k))=true then(cF (cr n k),true) else(n,false)
theorem og (n:List (List Key)) (k:Key):(cr n k).length≤tot bH n+1:=by
 have h1:=cV n
 have h2:=nQ (aR n) k
 have h3:(cr n k).length≤(fe (aR n) k).length:=List.length_filter_le _ _
 omega
theorem Q8 {α:Type} (w:α→Nat) (l:List α) (a:α):tot w (l++[a])=tot w l+w a:=by
 induction l with
 |nil=>simp[tot]
 |cons b r ih=>simp only[List.cons_append,tot,ih];omega
theorem Q9 {α:Type} (w:α→Nat) (c:Nat): ∀(l:List α) (i:Nat) (a a':α),l[i]?=some a→w a'≤w a+c→tot w (l.set i a')≤tot w l+c
 |[],i,a,a',h,_=>by simp at h
 |b::r,0,a,a',h,hw=>by
  simp only[List.getElem?_cons_zero,Option.some.injEq] at h
  subst h
  simp only[List.set_cons_zero,tot];omega
 |b::r,i+1,a,a',h,hw=>by
  have:=Q9 w c r i a a' (by simpa using h) hw
  simp only[List.set_cons_succ,tot];omega
theorem Du (n:List (List Key)) (k:Key):(jr n k).length≤n.length+1:=by
 unfold jr
 split
 ·rw[List.length_append];simp
 ·split
  ·rw[List.length_set];omega
  ·rw[List.length_append];simp
theorem Dv (n:List (List Key)) (k:Key):tot bH (jr n k)≤tot bH n+1:=by
 unfold jr
 split
 ·rw[Q8];exact Nat.le_refl _
 ·rename_i s hs
  split
  ·exact Q9 bH 1 _ _ s _ hs (by have:=nQ s k;unfold bH;omega)
  ·rw[Q8];exact Nat.le_refl _
theorem uV (l:List Key):(cF l).length≤1:=by
 unfold cF
 split<;>simp
theorem uW (l:List Key):tot bH (cF l)≤l.length:=by
 unfold cF
 split
 ·simp[tot]
 ·simp[tot,bH]
theorem Bz (n:List (List Key)) (k:Key):(cj n k).1.length≤n.length+1:=by
 have h1:=Du n k
 have h2:=uV (cr n k)
 unfold cj
 repeat' split
 all_goals simp only[];omega
theorem BA (n:List (List Key)) (k:Key):tot bH (cj n k).1≤tot bH n+1:=by
 have h1:=Dv n k
 have h2:=uW (cr n k)
 have h3:=og n k
 unfold cj
 repeat' split
 all_goals simp only[];omega
end Go.T
namespace Go.T
def Hu (x y:Key):Prop:=x.b<y.b∨(x.b=y.b∧x.a<y.a)
theorem Hu.trans {x y z:Key} (h1:Hu x y) (h2:Hu y z):Hu x z:=by unfold Hu at*;omega
theorem BC {x y:Key}:dK x y=true↔Hu x y:=by unfold dK Hu;simp
theorem EL {x y:Key}:lE x y=true↔x.b=y.b∧x.a=y.a:=by unfold lE;simp
theorem EM {k y:Key}: ∀{l:List Key},y∈e9 k true l→y∈l
 |[],h=>by simp[e9] at h
 |x::r,h=>by
  simp only[e9,Bool.not_true,Bool.false_and,Bool.false_eq_true,if_false,List.nil_append,Bool.true_or] at h
  rcases List.mem_append.1 h with h|h
  ·split at h
   ·cases h
   ·rw[List.mem_singleton.1 h];exact .head _
  ·exact .tail _ (EM h)
theorem K0 {k y:Key}: ∀{l:List Key} {put:Bool},y∈e9 k put l→y∈l∨y=k
 |[],put,h=>by
  simp only[e9] at h
  split at h
  ·cases h
  ·exact .inr (List.mem_singleton.1 h)
 |x::r,put,h=>by
  simp only[e9] at h
  rcases List.mem_append.1 h with h|h
  ·rcases List.mem_append.1 h with h|h
   ·split at h
    ·exact .inr (List.mem_singleton.1 h)
    ·cases h
   ·split at h
    ·cases h
    ·exact .inl (by rw[List.mem_singleton.1 h];exact .head _)
  ·exact(K0 h).imp (.tail _) id
theorem CL {k:Key}: ∀{l:List Key},l.Pairwise Hu→(e9 k true l).Pairwise Hu
 |[],_=>by simp[e9]
 |x::r,h=>by
  obtain⟨h1,h2⟩:=List.pairwise_cons.1 h
  simp only[e9,Bool.not_true,Bool.false_and,Bool.false_eq_true,if_false,List.nil_append,Bool.true_or]
  split
  ·exact CL h2
  ·exact List.pairwise_cons.2 ⟨fun y hy=>h1 y (EM hy),CL h2⟩
theorem Oo {k:Key}: ∀{l:List Key},l.Pairwise Hu→(e9 k false l).Pairwise Hu
 |[],_=>by simp[e9]
 |x::r,h=>by
  obtain⟨h1,h2⟩:=List.pairwise_cons.1 h
  cases hk:dK x k with
  |true=>
   have hlt:=BC.1 hk
   have hns:lE x k=false:=by
    cases hs:lE x k with
    |false=>rfl
    |true=>have:=EL.1 hs;unfold Hu at hlt;omega
   simp only[e9,hk,hns,Bool.not_false,Bool.not_true,Bool.true_and,Bool.and_false,Bool.false_eq_true,if_false,List.nil_append,Bool.or_false,Bool.false_or]
   refine List.pairwise_cons.2 ⟨fun y hy=> ?_,Oo h2⟩
   rcases K0 hy with hy|rfl
   ·exact h1 y hy
   ·exact hlt
  |false=>
   have hge: ¬Hu x k:=fun h=>by rw[BC.2 h] at hk;cases hk
   simp only[e9,hk,Bool.not_false,Bool.true_and,if_true,Bool.or_true]
   have hr: ∀y∈e9 k true r,Hu k y:=fun y hy=>by
    have:=h1 y (EM hy)
    unfold Hu at*;omega
   split
   ·exact List.pairwise_cons.2 ⟨hr,CL h2⟩
   ·rename_i hns
    refine List.pairwise_cons.2 ⟨fun y hy=> ?_,List.pairwise_cons.2 ⟨fun y hy=>h1 y (EM hy),CL h2⟩⟩
    rcases List.mem_cons.1 hy with rfl|hy
    ·have: ¬(y.b=k.b∧y.a=k.a):=fun h=>hns (EL.2 h)
     unfold Hu at*;omega
    ·exact hr y hy
theorem Hv {l:List Key} {k:Key} (h:l.Pairwise Hu):(fe l k).Pairwise Hu:=Oo h
theorem K1 {l:List Key} {k y:Key} (h:y∈fe l k):y∈l∨y=k:=K0 h
theorem K2: ∀(new:List Key) {old:List Key},old.Pairwise Hu→(cJ old new).Pairwise Hu
 |[],_,h=>h
 |x::r,_,h=>K2 r (Hv h)
theorem Oq {y:Key}: ∀{new old:List Key},y∈cJ old new→y∈old∨y∈new
 |[],_,h=> .inl h
 |x::r,old,h=>by
  have h:y∈cJ (fe old x) r:=h
  rcases Oq h with h|h
  ·exact(K1 h).imp id fun e=>by rw[e];exact .head _
  ·exact .inr (.tail _ h)
theorem K3: ∀(n:List (List Key)) {acc:List Key},acc.Pairwise Hu→(n.foldl cJ acc).Pairwise Hu
 |[],_,h=>h
 |s::r,_,h=>K3 r (K2 s h)
theorem Ot {y:Key}: ∀{n:List (List Key)} {acc:List Key},y∈n.foldl cJ acc→y∈acc∨ ∃s∈n,y∈s
 |[],_,h=> .inl h
 |s::r,acc,h=>by
  rcases Ot (n:=r) h with h|⟨s',h1,h2⟩
  ·exact(Oq h).imp id fun h=>⟨s,.head _,h⟩
  ·exact .inr ⟨s',.tail _ h1,h2⟩
theorem Mj (n:List (List Key)):(aR n).Pairwise Hu:=(K3 n .nil).sublist List.filter_sublist
theorem Pn {n:List (List Key)} {y:Key} (h:y∈aR n): ∃s∈n,y∈s:=by
 rcases Ot (List.mem_filter.1 h).1 with h|h
 ·cases h
 ·exact h
theorem Mk (n:List (List Key)) (k:Key):(cr n k).Pairwise Hu:=(Hv (Mj n)).sublist List.filter_sublist
theorem Po {n:List (List Key)} {k y:Key} (h:y∈cr n k):y=k∨ ∃s∈n,y∈s:=
 (K1 (List.mem_filter.1 h).1).elim (fun h=> .inr (Pn h)) .inl
theorem VX {l:List Key} (h1:l.Pairwise Hu) (h2: ∀y∈l,gx y=true) (h3:l.length≤60):Bw l=true:=by
 rw[KV]
 simp only[Bool.and_eq_true,decide_eq_true_eq]
 refine⟨List.all_eq_true.2 h2,Bv.2 fun i hi=> ?_,h3⟩
 cases i with
 |zero=>rfl
 |succ k=>
  simp only[gL]
  rw[List.getElem?_eq_getElem (by omega:k<l.length),List.getElem?_eq_getElem hi]
  exact BC.2 (List.pairwise_iff_getElem.1 h1 k (k+1) (by omega) hi (by omega))
theorem Ra {n:List (List Key)} (h:ff n=true) {s:List Key} (hs:s∈n) {y:Key} (hy:y∈s):gx y=true:=by
 unfold ff at h
 simp only[Bool.and_eq_true] at h
 have:=List.all_eq_true.1 h.1.1 s hs
 simp only[Bool.and_eq_true] at this
 have h2:=this.1
 rw[KV] at h2
 simp only[Bool.and_eq_true] at h2
 exact List.all_eq_true.1 h2.1 y hy
theorem Sn {l:List Key} (h1:l.Pairwise Hu) (h2: ∀y∈l,gx y=true) (h3:l.length≤8):ff (cF l)=true:=by
 unfold cF
 split
 ·decide
 ·rename_i h0
  unfold ff
  have:=VX h1 h2 (by omega)
  have h00:l≠[]:=fun e=>h0 (by rw[e];rfl)
  simp[this,h00,cm,tot,bH,h3]
theorem Rb {n:List (List Key)} {k:Key} (h:ff n=true) (hk:gx k=true): ∀y∈cr n k,gx y=true:=fun y hy=>by
 rcases Po hy with rfl|⟨s,h1,h2⟩
 ·exact hk
 ·exact Ra h h1 h2
theorem K4 {n:List (List Key)} {k:Key} (h:ff n=true) (hk:gx k=true) (hp:(cj n k).2=false):8<(cr n k).length∧cj n k=(n,false):=by
 have hn:=Sn (Mk n k) (Rb h hk)
 unfold cj at hp ⊢
 split at hp
 ·cases hp
 ·rename_i h1
  split at hp
  ·rename_i h2
   exact⟨h2,by rw[if_neg h1,if_pos h2]⟩
  ·rename_i h2
   rw[if_pos (hn (by omega))] at hp
   cases hp
end Go.T
namespace Go.T
def gw (x y:Int):Int:=Ry .or .i64 (XN .i64 (sr .i64 x) 8) (sr .i64 y)
end Go.T
namespace Go.T
abbrev xU (x:Tree×Bool):TV:= .tu [(1,Tj x.1),(0,[iB x.2])]
def kr (t:Tree) (i c:Nat) (lows:List Int) (nodes:List (List (List Key))):Tree:=⟨t.lows.take i++lows++t.lows.drop (i+c),t.nodes.take i++nodes++t.nodes.drop (i+c)⟩
def iL (t:Tree) (i:Nat):List Key:=aR (t.nodes.getD i [])
def rL (t:Tree):Nat→Nat→Option Nat
 |0,_=>none
 |d+1,i=>if i+1<t.nodes.length then(if(iL t i).length+(iL t (i+1)).length≤6 then some i else rL t d (i+1)) else none
def oO (t:Tree):Option Nat:=rL t t.nodes.length 0
def cM (t:Tree) (i:Nat):Tree:=kr t i 2 [t.lows.getD i 0] [cF (iL t i++iL t (i+1))]
def ku:Nat→Tree→Tree
 |0,t=>t
 |n+1,t=>match oO t with
  |none=>t
  |some i=>ku n (cM t i)
theorem Hw {t:Tree}: ∀{d i j:Nat},rL t d i=some j→i≤j∧j+1<t.nodes.length∧(iL t j).length+(iL t (j+1)).length≤6
 |0,i,j,h=>by cases h
 |d+1,i,j,h=>by
  unfold rL at h
  split at h
  ·split at h
   ·cases h;exact⟨Nat.le_refl _,by assumption,by assumption⟩
   ·have:=Hw h;exact⟨by omega,this.2⟩
  ·cases h
theorem rj {t:Tree} {j:Nat} (h:oO t=some j):j+1<t.nodes.length∧(iL t j).length+(iL t (j+1)).length≤6:=(Hw h).2
theorem BD (t:Tree) (i c:Nat) (lows:List Int) (nodes:List (List (List Key))) (h:i+c≤t.nodes.length):(kr t i c lows nodes).nodes.length+c=t.nodes.length+nodes.length:=by
 unfold kr
 simp only[List.length_append,List.length_take,List.length_drop];omega
theorem yz (t:Tree) (i c:Nat) (lows:List Int) (nodes:List (List (List Key))) (h:i+c≤t.lows.length):(kr t i c lows nodes).lows.length+c=t.lows.length+lows.length:=by
 unfold kr
 simp only[List.length_append,List.length_take,List.length_drop];omega
theorem sN {t:Tree} {i:Nat} (h:i+1<t.nodes.length):(cM t i).nodes.length+1=t.nodes.length:=by
 have:=BD t i 2 [t.lows.getD i 0] [cF (iL t i++iL t (i+1))] (by omega)
 unfold cM
 simp only[List.length_singleton] at this
 omega
def jT (t:Tree) (i:Nat) (k:Key):Tree:=
 if(cj (t.nodes.getD i []) k).2=true then
  (if 0<i∧(aR (cj (t.nodes.getD i []) k).1).length=0 then kr t i 1 [] [] else kr t i 1 [t.lows.getD i 0] [(cj (t.nodes.getD i []) k).1])
 else kr t i 1 [t.lows.getD i 0,gy ((cr (t.nodes.getD i []) k).getD (((cr (t.nodes.getD i []) k).length+1)/2) dY).b ((cr (t.nodes.getD i []) k).getD (((cr (t.nodes.getD i []) k).length+1)/2) dY).a]
  [cF ((cr (t.nodes.getD i []) k).take (((cr (t.nodes.getD i []) k).length+1)/2)),cF ((cr (t.nodes.getD i []) k).drop (((cr (t.nodes.getD i []) k).length+1)/2))]
def bP (t:Tree) (k:Key):Tree×Bool:=
 if ew t=true∧gx k=true then(if ew (ku (jT t (lg t k.b k.a).toNat k).nodes.length (jT t (lg t k.b k.a).toNat k))=true then(ku (jT t (lg t k.b k.a).toNat k).nodes.length (jT t (lg t k.b k.a).toNat k),true) else(t,false)) else(t,false)
end Go.T
namespace Go.T
theorem So {α:Type} (w:α→Nat) (c:Nat): ∀l:List α,(∀a∈l,w a≤c)→tot w l≤c*l.length
 |[],_=>by simp[tot]
 |a::r,h=>by
  have h1:=h a (.head _)
  have h2:=So w c r fun b hb=>h b (.tail _ hb)
  simp only[tot,List.length_cons,Nat.mul_add];omega
theorem CM {n:List (List Key)} (h:ff n=true):n.length≤3∧tot bH n≤8:=by
 unfold ff cm at h
 simp only[Bool.and_eq_true,decide_eq_true_eq] at h
 exact⟨h.1.2,h.2⟩
theorem T7 {t:Tree} (h:ew t=true) {i:Nat} (hi:i<t.nodes.length):cR t i=true:=by
 unfold ew at h
 simp only[Bool.and_eq_true] at h
 exact Bv.1 h.2.2.2.1 i hi
theorem uX {t:Tree} (h:ew t=true) {n:List (List Key)} (hn:n∈t.nodes):ff n=true:=by
 obtain⟨i,hi,rfl⟩:=List.getElem_of_mem hn
 have:=T7 h hi
 unfold cR at this
 rw[List.getElem?_eq_getElem hi] at this
 simp only[Bool.and_eq_true] at this
 exact this.2.1
theorem p8 {t:Tree} (h:ew t=true):1≤t.nodes.length∧t.nodes.length≤20∧t.lows.length=t.nodes.length:=by
 unfold ew iK at h
 simp only[Bool.and_eq_true,decide_eq_true_eq] at h
 omega
theorem Sp {t:Tree} (h:ew t=true):t.lows[0]?=some 0:=by
 have hl:=p8 h
 unfold ew at h
 simp only[Bool.and_eq_true] at h
 have h0:0<t.lows.length:=by omega
 have:=h.2.2.1
 rw[List.getElem?_eq_getElem h0] at this ⊢
 simp only[decide_eq_true_eq] at this
 rw[this]
theorem K5 {t:Tree} (h:ew t=true):tot aQ t.nodes≤220:=by
 have h1:=So aQ 11 t.nodes fun n hn=>by
  have:=CM (uX h hn)
  unfold aQ;omega
 have h2:=p8 h
 omega
theorem Ou {t:Tree} (h:ew t=true):c6 t≤260:=by
 have h1:=K5 h
 have h2:=p8 h
 unfold c6 qw;omega
theorem Sq {t:Tree} {k:Key} (h:(bP t k).2=true):ew (bP t k).1=true:=by
 unfold bP at h ⊢
 split
 ·split
  ·assumption
  ·rename_i h1 h2;rw[if_pos h1,if_neg h2] at h;cases h
 ·rename_i h1;rw[if_neg h1] at h;cases h
theorem Dw {t:Tree} {k:Key} (h:(bP t k).2=false):(bP t k).1=t:=by
 unfold bP at h ⊢
 split
 ·split
  ·rename_i h1 h2;rw[if_pos h1,if_pos h2] at h;cases h
  ·rfl
 ·rfl
theorem Ss (t:Tree) (k:Key):c6 (bP t k).1≤max (c6 t) 260:=by
 cases h:(bP t k).2 with
 |true=>have:=Ou (Sq h);omega
 |false=>rw[Dw h];omega
theorem Rc {p:Pool} (h:m4 p=true):ew p.t=true:=by
 simp only[m4,Bool.and_eq_true] at h;exact h.2.1
theorem Pp {p:Pool} (h:m4 p=true):eI p.cells=true:=by
 simp only[m4,Bool.and_eq_true] at h;exact h.2.2.2.1
theorem T8 {s:ByteArray} (h:q9 s=true):1≤s.size∧s.size≤6:=by
 simp only[q9,Bool.and_eq_true,iK,decide_eq_true_eq] at h
 omega
theorem T9 {p:Pool} (h:gz p=true) {v:Vol} (hv:v∈p.vols):q9 v.name=true∧1≤v.size∧v.size≤12∧0≤g6 p.ages v.age:=by
 obtain⟨i,hi,rfl⟩:=List.getElem_of_mem hv
 simp only[gz,Bool.and_eq_true,Bv] at h
 have:=h.1 i hi
 unfold bZ at this
 rw[List.getElem?_eq_getElem hi] at this
 simp only[Bool.and_eq_true,iK,decide_eq_true_eq,Bool.not_eq_true',decide_eq_false_iff_not] at this
 exact⟨this.1,this.2.1.1,this.2.1.2,by omega⟩
theorem Ua {p:Pool} (h:m4 p=true):cq p≤500:=by
 have h1:=Ou (Rc h)
 have h2:p.ages.length≤16:=by
  have:=Q6 h
  simp only[lY,Bool.and_eq_true,decide_eq_true_eq] at this
  exact this.2
 have h3:p.cells.length=24:=by
  have:=Pp h
  simp only[eI,Bool.and_eq_true,decide_eq_true_eq] at this
  exact this.2
 have hv:=rK h
 have h4:p.vols.length≤6:=by
  simp only[gz,Bool.and_eq_true,decide_eq_true_eq] at hv
  exact hv.2
 have h5:=So oW 6 p.vols fun v hm=>(T8 (T9 hv hm).1).2
 unfold cq Ds;omega
theorem VY (p x:Pool):cq (Sl p x).1≤max (cq p) 500:=by
 unfold Sl
 split
 ·rename_i h;have:=Ua h;simp only[];omega
 ·simp only[];omega
theorem VZ (p x:Pool) (b:Bool):cq (HH p x b).1≤max (cq p) 500:=by
 unfold HH
 split
 ·exact VY p x
 ·simp only[];omega
def BE (p:Pool) (k:Key):List Cell:=if(r5 p.t k.b k.a).2=true∧(r5 p.t k.b k.a).1.k=1 then gl p.cells (r5 p.t k.b k.a).1.c else p.cells
def fM (p:Pool) (k:Key):Pool×Bool:=if(bP p.t k).2=true then(⟨(bP p.t k).1,p.ages,BE p k,p.vols,p.next⟩,true) else(p,false)
theorem EN (p:Pool) (k:Key):(BE p k).length=p.cells.length:=by
 unfold BE;split
 ·exact Pk _ _
 ·rfl
theorem K6 (p:Pool) (k:Key):cq (fM p k).1≤cq p+260:=by
 have h1:=Ss p.t k
 have h2:=EN p k
 unfold fM
 split
 ·unfold cq;simp only[];omega
 ·simp only[];omega
theorem EO (p:Pool) (k:Key):(fM p k).1.ages=p.ages∧(fM p k).1.vols=p.vols∧(fM p k).1.next=p.next∧(fM p k).1.cells.length=p.cells.length:=by
 have h2:=EN p k
 unfold fM
 split
 ·exact⟨rfl,rfl,rfl,h2⟩
 ·exact⟨rfl,rfl,rfl,rfl⟩
def oP (p:Pool) (s:ByteArray) (b:Int):Int:=
 if By p s=true then(match gX p.vols (eP p.vols s) with
  |none=>2
  |some v=>if v.fx=true then 5 else if iK b 0 (v.size-1)=true then 0 else 4) else 1
theorem Hy {p:Pool} {s:ByteArray} {b:Int} (h:oP p s b=0): ∃v,gX p.vols (eP p.vols s)=some v∧By p s=true∧v.fx=false∧0≤b∧b≤v.size-1:=by
 unfold oP at h
 split at h
 ·rename_i hf
  split at h
  ·cases h
  ·rename_i v hv
   split at h
   ·cases h
   ·split at h
    ·rename_i h1 h2
     refine⟨v,hv,hf,by simpa using h1,?_⟩
     simpa [iK] using h2
    ·cases h
 ·cases h
def cQ (p:Pool) (age b:Int):Pool×Bool:=
 if(qh p.t p.ages b age).2=true∧(qh p.t p.ages b age).1.k=1 then fM p ⟨b,age,2,0,0⟩ else if(r5 p.t b age).2=true then fM p ⟨b,age,0,0,0⟩ else(p,true)
theorem EP (p:Pool) (age b:Int):cq (cQ p age b).1≤cq p+260:=by
 unfold cQ
 split
 ·exact K6 _ _
 ·split
  ·exact K6 _ _
  ·simp only[];omega
theorem BF (p:Pool) (age b:Int):(cQ p age b).1.ages=p.ages∧(cQ p age b).1.vols=p.vols∧(cQ p age b).1.next=p.next∧(cQ p age b).1.cells.length=p.cells.length:=by
 unfold cQ
 split
 ·exact EO _ _
 ·split
  ·exact EO _ _
  ·exact⟨rfl,rfl,rfl,rfl⟩
def rM (age:Int):Nat→Int→Pool→Pool×Bool
 |0,_,p=>(p,true)
 |n+1,b,p=>if(cQ p age b).2=true then rM age n (b-1) (cQ p age b).1 else(p,false)
def uY (p:Pool) (i:Int) (n:Int):Pool:=⟨p.t,p.ages,p.cells,p.vols.modify i.toNat fun u=>{u with size:=n},p.next⟩
def me (p:Pool) (s:ByteArray) (n:Int):Pool×Int:=
 if oP p s 0=0 then(if iK n 1 12=true then(match gX p.vols (eP p.vols s) with
  |none=>(p,2)
  |some v=>HH p (uY (rM v.age (v.size-n).toNat (v.size-1) p).1 (eP p.vols s) n) (rM v.age (v.size-n).toNat (v.size-1) p).2) else(p,4)) else(p,oP p s 0)
theorem St (p:Pool) (s:ByteArray) (n:Int):cq (me p s n).1≤max (cq p) 500:=by
 unfold me
 repeat' split
 all_goals first|exact Nat.le_max_left _ _|exact VZ _ _ _
end Go.T
namespace Go.T
theorem CN {α:Type} (w:α→Nat): ∀l m:List α,tot w (l++m)=tot w l+tot w m
 |[],m=>by simp[tot]
 |a::l,m=>by simp only[List.cons_append,tot,CN w l m];omega
theorem Yu {α:Type} {l:List α} {i:Nat} {a b:α} (ha:l[i]?=some a) (hb:l[i+1]?=some b):l=l.take i++a::b::l.drop (i+2):=by
 obtain⟨h1,e1⟩:=List.getElem?_eq_some_iff.1 ha
 obtain⟨h2,e2⟩:=List.getElem?_eq_some_iff.1 hb
 conv=>lhs;rw[←List.take_append_drop i l]
 rw[List.drop_eq_getElem_cons h1,List.drop_eq_getElem_cons h2,e1,e2]
theorem Dx (l:List Key):aQ (cF l)≤l.length+1:=by
 have h1:=uV l
 have h2:=uW l
 unfold aQ;omega
theorem gH {t:Tree} {i:Nat} {a:List (List Key)} (h:t.nodes[i]?=some a):iL t i=aR a:=by unfold iL;rw[List.getD_eq_getElem?_getD,h];rfl
theorem rm (n:Nat) (t:Tree):ku (n+1) t=match oO t with|none=>t|some i=>ku n (cM t i):=rfl
theorem uZ {t:Tree} {i:Nat} (h:i+1<t.nodes.length):tot aQ (cM t i).nodes+(cM t i).nodes.length≤tot aQ t.nodes+t.nodes.length:=by
 obtain⟨a,ha⟩: ∃a,t.nodes[i]?=some a:=⟨_,List.getElem?_eq_getElem (by omega)⟩
 obtain⟨b,hb⟩: ∃b,t.nodes[i+1]?=some b:=⟨_,List.getElem?_eq_getElem h⟩
 have hl:=sN h
 have hs:=congrArg (tot aQ) (Yu ha hb)
 rw[CN] at hs
 simp only[tot] at hs
 have la:=cV a
 have lb:=cV b
 have hn:=Dx (iL t i++iL t (i+1))
 rw[List.length_append,gH ha,gH hb] at hn
 have e:tot aQ (cM t i).nodes=tot aQ (t.nodes.take i)+aQ (cF (aR a++aR b))+tot aQ (t.nodes.drop (i+2)):=by
  unfold cM kr
  simp only[]
  rw[CN,CN,gH ha,gH hb]
  simp[tot]
 have sa:aQ a=a.length+tot bH a:=rfl
 have sb:aQ b=b.length+tot bH b:=rfl
 omega
theorem Su {n:Nat} {t:Tree} (h:oO t=none):ku n t=t:=by
 cases n with
 |zero=>rfl
 |succ n=>rw[rm,h]
theorem CZ {t:Tree} {i:Nat} (h:i+1<t.nodes.length) (hl:t.lows.length=t.nodes.length):(cM t i).lows.length=(cM t i).nodes.length:=by
 have h1:=yz t i 2 [t.lows.getD i 0] [cF (iL t i++iL t (i+1))] (by omega)
 have h2:=BD t i 2 [t.lows.getD i 0] [cF (iL t i++iL t (i+1))] (by omega)
 simp only[List.length_singleton] at h1 h2
 unfold cM
 omega
theorem Re: ∀(n:Nat) (t:Tree),t.lows.length=t.nodes.length→tot aQ (ku n t).nodes+(ku n t).nodes.length≤tot aQ t.nodes+t.nodes.length∧(ku n t).lows.length=(ku n t).nodes.length
 |0,t,h=>⟨Nat.le_refl _,h⟩
 |n+1,t,h=>by
  rw[rm]
  cases hp:oO t with
  |none=>exact⟨Nat.le_refl _,h⟩
  |some i=>
   have hlt:=(rj hp).1
   have h1:=uZ hlt
   have h2:=Re n (cM t i) (CZ hlt h)
   exact⟨by simp only[];omega,h2.2⟩
theorem Rf {k:Key} (h:gx k=true):0≤k.b∧k.b≤15∧1≤k.a∧k.a≤60∧0≤k.k∧k.k≤2:=by
 simp only[gx,iK,Bool.and_eq_true,decide_eq_true_eq] at h
 omega
theorem Xd {b a:Int} (h: -1000≤b∧b≤1000∧ -1000≤a∧a≤1000):gy b a=64*b+a:=by
 unfold gy
 rw[W4 (by omega),aJ (by omega)]
theorem Sv {k:Key} (h:gx k=true):gy k.b k.a=64*k.b+k.a:=by
 have:=Rf h
 exact Xd (by omega)
theorem K7 {f:Int→Bool} {l:List Int} {x:Int} (h0:l[0]?=some x) (hx:f x=true): ∀n:Nat,0<n→n≤l.length→ ∃j:Nat,qx f l n=j∧j<n
 |0,h,_=>by omega
 |n+1,_,hn=>by
  unfold qx
  rw[List.getElem?_eq_getElem (by omega)]
  simp only[]
  split
  ·exact⟨n,rfl,by omega⟩
  ·rename_i hf
   cases n with
   |zero=>
    rw[List.getElem?_eq_getElem (by omega)] at h0
    cases h0;exact absurd hx hf
   |succ n=>
    obtain⟨j,h1,h2⟩:=K7 h0 hx (n+1) (by omega) (by omega)
    exact⟨j,h1,by omega⟩
theorem K8 {t:Tree} {k:Key} (h:ew t=true) (hk:gx k=true): ∃j:Nat,lg t k.b k.a=j∧j<t.nodes.length:=by
 have h1:=p8 h
 have h2:=Rf hk
 have h3:=Sv hk
 unfold lg
 have:=K7 (f:=fun x=>decide (x≤gy k.b k.a)) (Sp h) (by simp only[decide_eq_true_eq];omega) t.lows.length (by omega) (Nat.le_refl _)
 rw[h1.2.2] at this ⊢
 exact this
theorem Rh (n:List (List Key)) (k:Key):aQ (cj n k).1≤aQ n+2:=by
 have h1:=Bz n k
 have h2:=BA n k
 unfold aQ;omega
theorem Ub (t:Tree) (i c:Nat) (lows:List Int) (nodes:List (List (List Key))):tot aQ (kr t i c lows nodes).nodes≤tot aQ t.nodes+tot aQ nodes:=by
 have h:tot aQ (t.nodes.take i++t.nodes.drop i)=tot aQ t.nodes:=by rw[List.take_append_drop]
 have h2:tot aQ (t.nodes.drop (i+c))≤tot aQ (t.nodes.drop i):=by
  rw[←List.drop_drop]
  have h3:tot aQ ((t.nodes.drop i).take c++(t.nodes.drop i).drop c)=tot aQ (t.nodes.drop i):=by rw[List.take_append_drop]
  rw[CN] at h3;omega
 unfold kr
 simp only[CN] at h ⊢
 omega
theorem Xe {t:Tree} {i:Nat} {k:Key} (hl:t.lows.length=t.nodes.length) (hi:i<t.nodes.length) (ht: ∀n∈t.nodes,tot bH n≤8∧n.length≤3):
 tot aQ (jT t i k).nodes≤tot aQ t.nodes+40∧(jT t i k).nodes.length≤t.nodes.length+1∧(jT t i k).lows.length=(jT t i k).nodes.length:=by
 have hn:=ht t.nodes[i] (List.getElem_mem hi)
 have hg:t.nodes.getD i []=t.nodes[i]:=by rw[List.getD_eq_getElem?_getD,List.getElem?_eq_getElem hi];rfl
 have hp:=Rh t.nodes[i] k
 have hk:=og t.nodes[i] k
 have hz:aQ t.nodes[i]=t.nodes[i].length+tot bH t.nodes[i]:=rfl
 unfold jT
 rw[hg]
 generalize cr t.nodes[i] k=l at*
 have e1:=Dx (l.take ((l.length+1)/2))
 have e2:=Dx (l.drop ((l.length+1)/2))
 rw[List.length_take] at e1
 rw[List.length_drop] at e2
 have key: ∀(lows:List Int) (nodes:List (List (List Key))),lows.length=nodes.length→nodes.length≤2→tot aQ nodes≤40→tot aQ (kr t i 1 lows nodes).nodes≤tot aQ t.nodes+40∧(kr t i 1 lows nodes).nodes.length≤t.nodes.length+1∧(kr t i 1 lows nodes).lows.length=(kr t i 1 lows nodes).nodes.length:=by
  intro lows nodes h1 h2 h3
  have h4:=Ub t i 1 lows nodes
  have h5:=BD t i 1 lows nodes (by omega)
  have h6:=yz t i 1 lows nodes (by omega)
  omega
 split
 ·split
  ·exact key _ _ rfl (by simp) (by simp[tot])
  ·exact key _ _ rfl (by simp) (by simp only[tot];omega)
 ·exact key _ _ rfl (by simp) (by simp only[tot];omega)
theorem Pq {t:Tree} (h:ew t=true): ∀n∈t.nodes,tot bH n≤8∧n.length≤3:=fun n hn=>by
 have:=CM (uX h hn);omega
theorem Ri {t:Tree} {i:Nat} {k:Key} (h:ew t=true) (hi:i<t.nodes.length):
 tot aQ (jT t i k).nodes+(jT t i k).nodes.length≤300∧(jT t i k).lows.length=(jT t i k).nodes.length∧c6 (ku (jT t i k).nodes.length (jT t i k))≤600:=by
 have h1:=p8 h
 have h2:=K5 h
 have h3:=Xe (k:=k) h1.2.2 hi (Pq h)
 have h4:=Re (jT t i k).nodes.length (jT t i k) h3.2.2
 refine⟨by omega,h3.2.2,?_⟩
 unfold c6 qw
 omega
theorem C0 {α:Type} {w:α→Nat} {f:α→α} (hf: ∀a,w (f a)=w a): ∀(l:List α) (i:Nat),tot w (l.modify i f)=tot w l
 |[],i=>by cases i<;>rfl
 |a::r,0=>by rw[List.modify_zero_cons];simp only[tot,hf]
 |a::r,i+1=>by rw[List.modify_succ_cons];simp only[tot,C0 hf r i]
theorem Rj (p:Pool) (i n:Int):cq (uY p i n)=cq p:=by
 unfold cq Ds uY
 simp only[List.length_modify]
 rw[C0 (w:=oW) (f:=fun u:Vol=>{u with size:=n}) fun a=>rfl]
theorem To {n:Nat} (h:8<n):(n+1)/2<n:=by omega
end Go.T
namespace Go.T
end Go.T
