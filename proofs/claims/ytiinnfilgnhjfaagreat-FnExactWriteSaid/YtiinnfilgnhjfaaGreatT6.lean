/- A run has one result; the formulas, simplified. The program's data as rows; what the formulas say of them. Rows that are written, as data. Loops over lists: how a run of them is told. What the program's functions come to, in plain Lean. What the program's functions come to: nodes, trees, pools. What the program's functions come to: maps, equality, steps. What the program's functions come to: volumes taken away. Draws: a cursor over bytes. Ages and volumes put in: what the functions come to. Maps put in, taken out, resized: what the functions come to. A key put into a node: what it comes to. Sets of keys stay in order; a node that takes no key has more than it may. An operation out of bytes. A key put into a tree: what it comes to. Sizes of what is right; keys put into pools; what is done to pools. A key put into a tree: sizes, and where it goes. Each cell that is used is of one key. -/
import Derived.Test.YtiinnfilgnhjfaaGreatT5
set_option linter.unusedVariables false
set_option linter.unusedSimpArgs false
namespace Go.T
def Vz (cf:Cf):Prop:= ∀f vs r fs r' fs',cf f vs r fs→cf f vs r' fs'→r=r'∧fs=fs'
def WR (lp:Lp):Prop:= ∀f i c st (Q Q':TX→TS→Prop),lp f i c st Q→lp f i c st Q'→ ∃x s,Q x s∧Q' x s
theorem ny {R:Type} {cf:Cf} {lp:Lp} (hc:Vz cf) (hl:WR lp) {Q Q':R→Prop}: ∀(e:Ev R),e.holds cf lp Q→e.holds cf lp Q'→ ∃r,Q r∧Q' r
 | .fail,h,_=>h.elim
 | .ret r,h,h'=>⟨r,h,h'⟩
 | .test b k,h,h'=>ny hc hl (k b) h h'
 | .row rows i k,⟨c,h1,h2⟩,⟨c',h1',h2'⟩=>by
   rw[h1] at h1';cases h1'
   exact ny hc hl (k c) h2 h2'
 | .byte rows i k,⟨c,h1,h2⟩,⟨c',h1',h2'⟩=>by
   rw[h1] at h1';cases h1'
   exact ny hc hl (k c) h2 h2'
 | .bytes rows k,⟨c,h1,h2⟩,⟨c',h1',h2'⟩=>by
   rw[h1] at h1';cases h1'
   exact ny hc hl (k c) h2 h2'
 | .call f vs k,⟨r,fs,h1,h2⟩,⟨r',fs',h1',h2'⟩=>by
   obtain⟨rfl,rfl⟩:=hc _ _ _ _ _ _ h1 h1'
   exact ny hc hl (k r fs) h2 h2'
 | .loop f i c st k,h,h'=>by
   obtain⟨x,s,h1,h2⟩:=hl _ _ _ _ _ _ h h'
   exact ny hc hl (k x s) h1 h2
 | .both a b,⟨r,h1,h2,h3⟩,⟨r',h1',h2',h3'⟩=>by
   obtain⟨r0,e1,e2⟩:=ny hc hl a h1 h1'
   subst e1 e2
   exact⟨_,h3,h3'⟩
section
variable {C : kG}
theorem Pf {cf:Cf} {lp:Lp} (hc:Vz cf) (hl:WR lp) {fx:List Nat} {f i:Nat} {c:Code} {Q Q':TX→TS→Prop}: ∀(n:Nat) (st:TS),iter C cf lp fx f i c Q n st→iter C cf lp fx f i c Q' n st→ ∃x s,Q x s∧Q' x s
 |0,_,h,_=>h.elim
 |n+1,st,h,h'=>by
  obtain⟨⟨x,s⟩,h1,h2⟩:=ny hc hl _ h h'
  cases x with
  |norm=>
   simp only at h1 h2
   rw[qg] at h1 h2
   exact Pf hc hl n _ h1 h2
  |ex id=>exact⟨_,_,h1,h2⟩
  |ret=>exact⟨_,_,h1,h2⟩
theorem RJ {cf:Cf} (hc:Vz cf) (k:Nat) (fx:List Nat): ∀n,WR (P2 C cf k fx n)
 |0=>fun _ _ _ _ _ _ h _=>h.elim
 |n+1=>fun f i c st Q Q' h h'=>Pf hc (RJ hc k fx n) k st h h'
theorem EN: ∀k,Vz (g9 C k)
 |0=>fun _ _ _ _ _ _ h _=>h.elim
 |k+1=>fun f vs r fs r' fs' h h'=>by
  unfold g9 at h h'
  cases hx:C.ext f with
  |some p=>rw[hx] at h h';have h:p vs=some (r,fs):=h;have h':p vs=some (r',fs'):=h';rw[h] at h';cases h';exact⟨rfl,rfl⟩
  |none=>
  rw[hx] at h h'
  simp only at h h'
  obtain⟨p,h1,h2⟩:=ny (EN k) (RJ (EN k) k _ 4) _ h h'
  rw[h1] at h2
  cases h2
  exact⟨rfl,rfl⟩
theorem aa.XP {f:FuncId} {vs:List TV} {r r':TV} {fs fs':List TV} (h:aa C f vs r fs) (h':aa C f vs r' fs'):r'=r∧fs'=fs:=by
 obtain⟨k,h⟩:=h
 obtain⟨k',h'⟩:=h'
 obtain⟨h1,h2⟩:=EN (max k k') _ _ _ _ _ _ (k9 (Nat.le_max_left _ _) h) (k9 (Nat.le_max_right _ _) h')
 exact⟨h1.symm,h2.symm⟩
end
def gj {α:Type} (l:List α) (i:Int):Option α:=if 0≤i then l[i.toNat]? else none
theorem aL {α:Type} (l:List α) (i:Nat):gj l (i:Int)=l[i]?:=by
 unfold gj;rw[if_pos (Int.natCast_nonneg i),Int.toNat_natCast]
theorem qu {α:Type} {l:List α} {i:Int} (h0:0≤i) (h1:i<l.length): ∃a,gj l i=some a:=by
 unfold gj;rw[if_pos h0];exact⟨_,List.getElem?_eq_getElem (by omega)⟩
theorem nB {α:Type} {l:List α} {i:Int} (h: ¬(0≤i∧i<l.length)):gj l i=none:=by
 unfold gj
 split
 ·exact List.getElem?_eq_none (by omega)
 ·rfl
theorem bM {α:Type} (e:α→List TC) (l:List α) (i:Int):rowAt (l.map e) i=(gj l i).map e:=by
 unfold rowAt gj
 split
 ·rw[List.getElem?_map]
 ·rfl
theorem Pg {α:Type} {l:List α} {i:Int} {a:α} (h:gj l i=some a):a∈l:=by
 unfold gj at h
 split at h
 ·exact List.mem_of_getElem? h
 ·cases h
def XQ {α:Type} (l:List α) (i:Int) (a:α):List α:=l.set i.toNat a
theorem Ph {α:Type} {e:α→List TC} {l:List α} {i:Int} {a a':α} {f:Nat} {cs:List TC} (h:gj l i=some a) (he:(e a).take f++cs++(e a).drop (f+cs.length)=e a'):setRow (l.map e) i f cs=(XQ l i a').map e:=by
 unfold gj at h
 split at h
 ·unfold setRow XQ
  rw[List.getElem?_map,h]
  simp only[Option.map_some,he,List.map_set]
 ·cases h
@[simp] theorem cP {α:Type} (e:α→List TC) (l:List α) (a b:Int):ax (l.map e) a b=((l.take b.toNat).drop a.toNat).map e:=by
  unfold ax;rw[←List.map_take,←List.map_drop]
theorem sD {rows:List (List TC)} (h: ∀r∈rows,∀c∈r,∃v,c= .sc v):bQ rows=true:=by
 unfold bQ
 rw[List.all_eq_true]
 intro r hr
 rw[List.all_eq_true]
 intro c hc
 obtain⟨v,rfl⟩:=h r hr c hc
 rfl
@[simp] theorem EO (s:ByteArray):(ByteArray.data s).1.length=s.size:=rfl
@[simp] theorem Dy (l h n:Int):cG l h n=decide (0≤l∧l≤h∧h≤n):=by unfold cG;rfl
end Go.T
namespace Go.T
structure Key where
 b:Int
 a:Int
 k:Int
 c:Int
 g:Int
 deriving DecidableEq
structure Age where
 id:Int
 fr:Int
 deriving DecidableEq
structure Cell where
 g:Int
 u:Bool
 n:Int
 deriving DecidableEq
structure Vol where
 name:ByteArray
 age:Int
 size:Int
 fx:Bool
structure Mp where
 name:ByteArray
 fx:Bool
 l:List Int
structure Tree where
 lows:List Int
 nodes:List (List (List Key))
structure Pool where
 t:Tree
 ages:List Age
 cells:List Cell
 vols:List Vol
 next:Int
structure UY where
 kind:Int
 name:ByteArray
 to:ByteArray
 a:Int
 b:Int
abbrev iI (n:Int):TC:= .sc (.int .i64 n)
abbrev iB (b:Bool):TC:= .sc (.bool b)
abbrev iS (s:ByteArray):TC:= .sc (.string s)
abbrev cI (n:Int):CE:= .sc (.int .i64 n)
abbrev cB (b:Bool):CE:= .sc (.bool b)
abbrev cS (s:ByteArray):CE:= .sc (.string s)
abbrev aA (a b:Int):Int:=PT .i64 a b
abbrev cQ (a b:Int):Int:=IZ .i64 a b
abbrev VA (a b:Int):Int:=PU .i64 a b
theorem aJ {a b:Int} (h: -9223372036854775808≤a+b∧a+b≤9223372036854775807):aA a b=a+b:=Vv h
theorem dz {a b:Int} (h: -9223372036854775808≤a-b∧a-b≤9223372036854775807):cQ a b=a-b:=Vw h
theorem VB {a b:Int} (h: -9223372036854775808≤a*b∧a*b≤9223372036854775807):VA a b=a*b:=Vx h
abbrev RR:=List (List TC)
abbrev QV:=TV→List TV→Prop
abbrev QX:=TX→TS→Prop
abbrev sI:Sh:= .int .i64
abbrev sB:Sh:= .bool
abbrev sS:Sh:= .str
abbrev hz:Hint:= .z
abbrev hb:Hint→Hint→Hint:= .br
abbrev hr:List Sh→Hint→Hint:= .row
abbrev hc:av→List av→Hint→Hint:= .call
abbrev XR:ByteArray:=⟨#[]⟩
def bO (n:Int):List TC:=[.sc (.int .i64 n)]
def AD (n:Int):List TC:=[.sc (.int .u8 n)]
def Gi (n:Bool):List TC:=[.sc (.bool n)]
def bN (x:Key):List TC:=[.sc (.int .i64 x.b),.sc (.int .i64 x.a),.sc (.int .i64 x.k),.sc (.int .i64 x.c),.sc (.int .i64 x.g)]
def dY (x:Age):List TC:=[.sc (.int .i64 x.id),.sc (.int .i64 x.fr)]
def ct (x:Cell):List TC:=[.sc (.int .i64 x.g),.sc (.bool x.u),.sc (.int .i64 x.n)]
def eg (x:Vol):List TC:=[.sc (.string x.name),.sc (.int .i64 x.age),.sc (.int .i64 x.size),.sc (.bool x.fx)]
def RK (x:UY):List TC:=[.sc (.int .i64 x.kind),.sc (.string x.name),.sc (.string x.to),.sc (.int .i64 x.a),.sc (.int .i64 x.b)]
def EP (x:Mp):List TC:=[.sc (.string x.name),.sc (.bool x.fx),.sub 1 (x.l.map bO)]
def Uh (x:List Int):List TC:=[.sub 1 (x.map AD)]
def bX (x:List Key):List TC:=[.sub 5 (x.map bN)]
def aW (x:List (List Key)):List TC:=[.sub 1 (x.map bX)]
abbrev RL (t:Tree):List TC:=[.sub 1 (t.lows.map bO),.sub 1 (t.nodes.map aW)]
abbrev pI (p:Pool):List TC:=[.sub 1 (p.t.lows.map bO),.sub 1 (p.t.nodes.map aW),.sub 2 (p.ages.map dY),.sub 3 (p.cells.map ct),.sub 4 (p.vols.map eg),.sc (.int .i64 p.next)]
abbrev vI (n:Int):TV:= .c (.sc (.int .i64 n))
abbrev vB (b:Bool):TV:= .c (.sc (.bool b))
abbrev vS (s:ByteArray):TV:= .c (.sc (.string s))
abbrev qd (l:List Int):TV:= .c (.sub 1 (l.map bO))
abbrev cT (l:List Key):TV:= .c (.sub 5 (l.map bN))
abbrev Dz (l:List (List Key)):TV:= .c (.sub 1 (l.map bX))
abbrev sE (l:List (List (List Key))):TV:= .c (.sub 1 (l.map aW))
abbrev jK (l:List Age):TV:= .c (.sub 2 (l.map dY))
abbrev fE (l:List Cell):TV:= .c (.sub 3 (l.map ct))
abbrev yg (l:List Vol):TV:= .c (.sub 4 (l.map eg))
abbrev Ab (k:Key):TV:= .ag [.sc (.int .i64 k.b),.sc (.int .i64 k.a),.sc (.int .i64 k.k),.sc (.int .i64 k.c),.sc (.int .i64 k.g)]
abbrev fC (n:List (List Key)):TV:= .ag [.sub 1 (n.map bX)]
abbrev dD (t:Tree):TV:= .ag (RL t)
abbrev fK (p:Pool):TV:= .ag (pI p)
section
variable {i : Int}
@[simp] theorem vD {l:List Int} {K:Int→Prop}:(∃n,rowAt (l.map bO) i=some [.sc (.int .i64 n)]∧K n)↔ ∃a,gj l i=some a∧K a:=by
  rw[bM]
  constructor
  ·rintro⟨n,h,hK⟩
   obtain⟨a,ha,h⟩:=Option.map_eq_some_iff.1 h
   unfold bO at h;cases h;exact⟨_,ha,hK⟩
  ·rintro⟨a,ha,hK⟩
   exact⟨_,by rw[ha];rfl,hK⟩
@[simp] theorem Yc {l:List Int} {K:Int→Prop}:(∃n,rowAt (l.map AD) i=some [.sc (.int .u8 n)]∧K n)↔ ∃a,gj l i=some a∧K a:=by
  rw[bM]
  constructor
  ·rintro⟨n,h,hK⟩
   obtain⟨a,ha,h⟩:=Option.map_eq_some_iff.1 h
   unfold AD at h;cases h;exact⟨_,ha,hK⟩
  ·rintro⟨a,ha,hK⟩
   exact⟨_,by rw[ha];rfl,hK⟩
@[simp] theorem VC {l:List Bool} {K:Bool→Prop}:(∃n,rowAt (l.map Gi) i=some [.sc (.bool n)]∧K n)↔ ∃a,gj l i=some a∧K a:=by
  rw[bM]
  constructor
  ·rintro⟨n,h,hK⟩
   obtain⟨a,ha,h⟩:=Option.map_eq_some_iff.1 h
   unfold Gi at h;cases h;exact⟨_,ha,hK⟩
  ·rintro⟨a,ha,hK⟩
   exact⟨_,by rw[ha];rfl,hK⟩
@[simp] theorem mC {l:List Key} {K:Int→Int→Int→Int→Int→Prop}:(∃b a k c g,rowAt (l.map bN) i=some [.sc (.int .i64 b),.sc (.int .i64 a),.sc (.int .i64 k),.sc (.int .i64 c),.sc (.int .i64 g)]∧K b a k c g)↔ ∃x,gj l i=some x∧K x.b x.a x.k x.c x.g:=by
  rw[bM]
  constructor
  ·rintro⟨_,_,_,_,_,h,hK⟩
   obtain⟨a,ha,h⟩:=Option.map_eq_some_iff.1 h
   unfold bN at h;cases h;exact⟨_,ha,hK⟩
  ·rintro⟨a,ha,hK⟩
   exact⟨_,_,_,_,_,by rw[ha];rfl,hK⟩
@[simp] theorem vE {l:List Age} {K:Int→Int→Prop}:(∃b a,rowAt (l.map dY) i=some [.sc (.int .i64 b),.sc (.int .i64 a)]∧K b a)↔ ∃x,gj l i=some x∧K x.id x.fr:=by
  rw[bM]
  constructor
  ·rintro⟨_,_,h,hK⟩
   obtain⟨a,ha,h⟩:=Option.map_eq_some_iff.1 h
   unfold dY at h;cases h;exact⟨_,ha,hK⟩
  ·rintro⟨a,ha,hK⟩
   exact⟨_,_,by rw[ha];rfl,hK⟩
@[simp] theorem kC {l:List Cell} {K:Int→Bool→Int→Prop}:(∃g u n,rowAt (l.map ct) i=some [.sc (.int .i64 g),.sc (.bool u),.sc (.int .i64 n)]∧K g u n)↔ ∃x,gj l i=some x∧K x.g x.u x.n:=by
  rw[bM]
  constructor
  ·rintro⟨_,_,_,h,hK⟩
   obtain⟨a,ha,h⟩:=Option.map_eq_some_iff.1 h
   unfold ct at h;cases h;exact⟨_,ha,hK⟩
  ·rintro⟨a,ha,hK⟩
   exact⟨_,_,_,by rw[ha];rfl,hK⟩
@[simp] theorem AE {l:List Vol} {K:ByteArray→Int→Int→Bool→Prop}:(∃s a z f,rowAt (l.map eg) i=some [.sc (.string s),.sc (.int .i64 a),.sc (.int .i64 z),.sc (.bool f)]∧K s a z f)↔ ∃x,gj l i=some x∧K x.name x.age x.size x.fx:=by
  rw[bM]
  constructor
  ·rintro⟨_,_,_,_,h,hK⟩
   obtain⟨a,ha,h⟩:=Option.map_eq_some_iff.1 h
   unfold eg at h;cases h;exact⟨_,ha,hK⟩
  ·rintro⟨a,ha,hK⟩
   exact⟨_,_,_,_,by rw[ha];rfl,hK⟩
@[simp] theorem YG {l:List UY} {K:Int→ByteArray→ByteArray→Int→Int→Prop}:(∃k s t a b,rowAt (l.map RK) i=some [.sc (.int .i64 k),.sc (.string s),.sc (.string t),.sc (.int .i64 a),.sc (.int .i64 b)]∧K k s t a b)↔ ∃x,gj l i=some x∧K x.kind x.name x.to x.a x.b:=by
  rw[bM]
  constructor
  ·rintro⟨_,_,_,_,_,h,hK⟩
   obtain⟨a,ha,h⟩:=Option.map_eq_some_iff.1 h
   unfold RK at h;cases h;exact⟨_,ha,hK⟩
  ·rintro⟨a,ha,hK⟩
   exact⟨_,_,_,_,_,by rw[ha];rfl,hK⟩
@[simp] theorem Yw {l:List Mp} {K:ByteArray→Bool→List (List TC)→Prop}:(∃s f r,rowAt (l.map EP) i=some [.sc (.string s),.sc (.bool f),.sub 1 r]∧K s f r)↔ ∃x,gj l i=some x∧K x.name x.fx (x.l.map bO):=by
  rw[bM]
  constructor
  ·rintro⟨_,_,_,h,hK⟩
   obtain⟨a,ha,h⟩:=Option.map_eq_some_iff.1 h
   unfold EP at h;cases h;exact⟨_,ha,hK⟩
  ·rintro⟨a,ha,hK⟩
   exact⟨_,_,_,by rw[ha];rfl,hK⟩
@[simp] theorem qv {l:List (List Key)} {K:List (List TC)→Prop}:(∃r,rowAt (l.map bX) i=some [.sub 5 r]∧K r)↔ ∃x,gj l i=some x∧K (x.map bN):=by
  rw[bM]
  constructor
  ·rintro⟨_,h,hK⟩
   obtain⟨a,ha,h⟩:=Option.map_eq_some_iff.1 h
   unfold bX at h;cases h;exact⟨_,ha,hK⟩
  ·rintro⟨a,ha,hK⟩
   exact⟨_,by rw[ha];rfl,hK⟩
@[simp] theorem pU {l:List (List (List Key))} {K:List (List TC)→Prop}:(∃r,rowAt (l.map aW) i=some [.sub 1 r]∧K r)↔ ∃x,gj l i=some x∧K (x.map bX):=by
  rw[bM]
  constructor
  ·rintro⟨_,h,hK⟩
   obtain⟨a,ha,h⟩:=Option.map_eq_some_iff.1 h
   unfold aW at h;cases h;exact⟨_,ha,hK⟩
  ·rintro⟨a,ha,hK⟩
   exact⟨_,by rw[ha];rfl,hK⟩
@[simp] theorem XT {l:List (List Int)} {K:List (List TC)→Prop}:(∃r,rowAt (l.map Uh) i=some [.sub 1 r]∧K r)↔ ∃x,gj l i=some x∧K (x.map AD):=by
  rw[bM]
  constructor
  ·rintro⟨_,h,hK⟩
   obtain⟨a,ha,h⟩:=Option.map_eq_some_iff.1 h
   unfold Uh at h;cases h;exact⟨_,ha,hK⟩
  ·rintro⟨a,ha,hK⟩
   exact⟨_,by rw[ha];rfl,hK⟩
end
theorem fF (n:Nat):Int.ofNat n=(n:Int):=rfl
@[simp] theorem natAdd (a b:Nat):Nat.add a b=a+b:=rfl
@[simp] theorem RM {α:Type} (a b:List α):List.append a b=a++b:=rfl
theorem jA (l:List Int):bQ (l.map bO)=true:=sD fun r hr c hc=>by
 obtain⟨a,_,rfl⟩:=List.mem_map.1 hr;unfold bO at hc;simp only[List.mem_singleton] at hc;exact⟨_,hc⟩
theorem QD (l:List Int):bQ (l.map AD)=true:=sD fun r hr c hc=>by
 obtain⟨a,_,rfl⟩:=List.mem_map.1 hr;unfold AD at hc;simp only[List.mem_singleton] at hc;exact⟨_,hc⟩
theorem jB (l:List Key):bQ (l.map bN)=true:=sD fun r hr c hc=>by
 obtain⟨a,_,rfl⟩:=List.mem_map.1 hr;unfold bN at hc;simp only[List.mem_cons,List.not_mem_nil,or_false] at hc
 rcases hc with h|h|h|h|h<;>exact⟨_,h⟩
theorem BI (l:List Age):bQ (l.map dY)=true:=sD fun r hr c hc=>by
 obtain⟨a,_,rfl⟩:=List.mem_map.1 hr;unfold dY at hc;simp only[List.mem_cons,List.not_mem_nil,or_false] at hc
 rcases hc with h|h<;>exact⟨_,h⟩
theorem Cq (l:List Cell):bQ (l.map ct)=true:=sD fun r hr c hc=>by
 obtain⟨a,_,rfl⟩:=List.mem_map.1 hr;unfold ct at hc;simp only[List.mem_cons,List.not_mem_nil,or_false] at hc
 rcases hc with h|h|h<;>exact⟨_,h⟩
theorem BJ (l:List Vol):bQ (l.map eg)=true:=sD fun r hr c hc=>by
 obtain⟨a,_,rfl⟩:=List.mem_map.1 hr;unfold eg at hc;simp only[List.mem_cons,List.not_mem_nil,or_false] at hc
 rcases hc with h|h|h|h<;>exact⟨_,h⟩
@[simp] theorem Ui (v:Value):bQ [[.sc v]]=true:=sD fun r hr c hc=>by
  simp only[List.mem_singleton] at hr;subst hr;simp only[List.mem_singleton] at hc;exact⟨_,hc⟩
attribute [simp] jA QD jB BI Cq BJ
end Go.T
namespace Go.T
theorem ER {α:Type} (g:α→α): ∀(l:List α) (i:Nat) (a:α),l[i]?=some a→l.modify i g=l.set i (g a)
 |[],i,a,h=>by simp at h
 |x::r,0,a,h=>by simp only[List.getElem?_cons_zero,Option.some.injEq] at h;subst h;rfl
 |x::r,i+1,a,h=>by
  simp only[List.getElem?_cons_succ] at h
  rw[List.modify_succ_cons,List.set_cons_succ,ER g r i a h]
theorem bT {α:Type} {e:α→List TC} {l:List α} {i:Int} {f:Nat} {cs:List TC} {g:α→α} (he: ∀a,(e a).take f++cs++(e a).drop (f+cs.length)=e (g a)):setRow (l.map e) i f cs=(l.modify i.toNat g).map e:=by
 unfold setRow
 rw[List.getElem?_map]
 cases h:l[i.toNat]? with
 |none=>
  have:l.length≤i.toNat:=List.getElem?_eq_none_iff.1 h
  simp only[Option.map_none]
  rw[List.modify_eq_self this]
 |some a=>
  simp only[Option.map_some]
  rw[he,ER g l _ a h,List.map_set]
theorem lI {α:Type} {l:List α} {i:Int} {g:α→α}:gj (l.modify i.toNat g) i=(gj l i).map g:=by
 unfold gj
 split
 ·simp
 ·rfl
theorem mod_mod {α:Type} {l:List α} {i:Nat} {f g:α→α}:(l.modify i f).modify i g=l.modify i (fun x=>g (f x)):=by
 rw[List.modify_modify_eq];rfl
theorem gm {α β:Type} {o:Option α} {f:α→β} {K:β→Prop}:(∃x,o.map f=some x∧K x)↔ ∃x,o=some x∧K (f x):=by
 cases o with
 |none=>simp
 |some a=>simp
theorem jL {α:Type} {d r:List α} {a:α}:gj (d++a::r) (d.length:Int)=some a:=by
 rw[aL];simp
theorem xS {α:Type} {d r:List α} {a:α} {f:α→α}:(d++a::r).modify ((d.length:Int).toNat) f=d++f a::r:=by
 rw[Int.toNat_natCast,ER f _ _ a (by simp)]
 simp
@[simp] theorem Uj {l:List Key} {i:Int} {v:Int}:setRow (l.map bN) i 0 [.sc (.int .i64 v)]=(l.modify i.toNat fun x=>{x with b:=v}).map bN:=bT fun a=>rfl
@[simp] theorem Uk {l:List Key} {i:Int} {v:Int}:setRow (l.map bN) i 1 [.sc (.int .i64 v)]=(l.modify i.toNat fun x=>{x with a:=v}).map bN:=bT fun a=>rfl
@[simp] theorem Ul {l:List Key} {i:Int} {v:Int}:setRow (l.map bN) i 2 [.sc (.int .i64 v)]=(l.modify i.toNat fun x=>{x with k:=v}).map bN:=bT fun a=>rfl
@[simp] theorem Um {l:List Key} {i:Int} {v:Int}:setRow (l.map bN) i 3 [.sc (.int .i64 v)]=(l.modify i.toNat fun x=>{x with c:=v}).map bN:=bT fun a=>rfl
@[simp] theorem Un {l:List Key} {i:Int} {v:Int}:setRow (l.map bN) i 4 [.sc (.int .i64 v)]=(l.modify i.toNat fun x=>{x with g:=v}).map bN:=bT fun a=>rfl
@[simp] theorem WS {l:List Key} {i:Int} {v0:Int} {v1:Int} {v2:Int} {v3:Int} {v4:Int}:setRow (l.map bN) i 0 [.sc (.int .i64 v0),.sc (.int .i64 v1),.sc (.int .i64 v2),.sc (.int .i64 v3),.sc (.int .i64 v4)]=(l.modify i.toNat fun _=>⟨v0,v1,v2,v3,v4⟩).map bN:=bT fun a=>rfl
@[simp] theorem Sl {l:List Age} {i:Int} {v:Int}:setRow (l.map dY) i 0 [.sc (.int .i64 v)]=(l.modify i.toNat fun x=>{x with id:=v}).map dY:=bT fun a=>rfl
@[simp] theorem Sm {l:List Age} {i:Int} {v:Int}:setRow (l.map dY) i 1 [.sc (.int .i64 v)]=(l.modify i.toNat fun x=>{x with fr:=v}).map dY:=bT fun a=>rfl
@[simp] theorem WT {l:List Age} {i:Int} {v0:Int} {v1:Int}:setRow (l.map dY) i 0 [.sc (.int .i64 v0),.sc (.int .i64 v1)]=(l.modify i.toNat fun _=>⟨v0,v1⟩).map dY:=bT fun a=>rfl
@[simp] theorem Sn {l:List Cell} {i:Int} {v:Int}:setRow (l.map ct) i 0 [.sc (.int .i64 v)]=(l.modify i.toNat fun x=>{x with g:=v}).map ct:=bT fun a=>rfl
@[simp] theorem ES {l:List Cell} {i:Int} {v:Bool}:setRow (l.map ct) i 1 [.sc (.bool v)]=(l.modify i.toNat fun x=>{x with u:=v}).map ct:=bT fun a=>rfl
@[simp] theorem ET {l:List Cell} {i:Int} {v:Int}:setRow (l.map ct) i 2 [.sc (.int .i64 v)]=(l.modify i.toNat fun x=>{x with n:=v}).map ct:=bT fun a=>rfl
@[simp] theorem NJ {l:List Cell} {i:Int} {v0:Int} {v1:Bool} {v2:Int}:setRow (l.map ct) i 0 [.sc (.int .i64 v0),.sc (.bool v1),.sc (.int .i64 v2)]=(l.modify i.toNat fun _=>⟨v0,v1,v2⟩).map ct:=bT fun a=>rfl
@[simp] theorem Pj {l:List Vol} {i:Int} {v:ByteArray}:setRow (l.map eg) i 0 [.sc (.string v)]=(l.modify i.toNat fun x=>{x with name:=v}).map eg:=bT fun a=>rfl
@[simp] theorem QE {l:List Vol} {i:Int} {v:Int}:setRow (l.map eg) i 1 [.sc (.int .i64 v)]=(l.modify i.toNat fun x=>{x with age:=v}).map eg:=bT fun a=>rfl
@[simp] theorem Pk {l:List Vol} {i:Int} {v:Int}:setRow (l.map eg) i 2 [.sc (.int .i64 v)]=(l.modify i.toNat fun x=>{x with size:=v}).map eg:=bT fun a=>rfl
@[simp] theorem So {l:List Vol} {i:Int} {v:Bool}:setRow (l.map eg) i 3 [.sc (.bool v)]=(l.modify i.toNat fun x=>{x with fx:=v}).map eg:=bT fun a=>rfl
@[simp] theorem WU {l:List Vol} {i:Int} {v0:ByteArray} {v1:Int} {v2:Int} {v3:Bool}:setRow (l.map eg) i 0 [.sc (.string v0),.sc (.int .i64 v1),.sc (.int .i64 v2),.sc (.bool v3)]=(l.modify i.toNat fun _=>⟨v0,v1,v2,v3⟩).map eg:=bT fun a=>rfl
@[simp] theorem WV {l:List UY} {i:Int} {v:Int}:setRow (l.map RK) i 0 [.sc (.int .i64 v)]=(l.modify i.toNat fun x=>{x with kind:=v}).map RK:=bT fun a=>rfl
@[simp] theorem WW {l:List UY} {i:Int} {v:ByteArray}:setRow (l.map RK) i 1 [.sc (.string v)]=(l.modify i.toNat fun x=>{x with name:=v}).map RK:=bT fun a=>rfl
@[simp] theorem XU {l:List UY} {i:Int} {v:ByteArray}:setRow (l.map RK) i 2 [.sc (.string v)]=(l.modify i.toNat fun x=>{x with to:=v}).map RK:=bT fun a=>rfl
@[simp] theorem Yd {l:List UY} {i:Int} {v:Int}:setRow (l.map RK) i 3 [.sc (.int .i64 v)]=(l.modify i.toNat fun x=>{x with a:=v}).map RK:=bT fun a=>rfl
@[simp] theorem Ye {l:List UY} {i:Int} {v:Int}:setRow (l.map RK) i 4 [.sc (.int .i64 v)]=(l.modify i.toNat fun x=>{x with b:=v}).map RK:=bT fun a=>rfl
@[simp] theorem YH {l:List UY} {i:Int} {v0:Int} {v1:ByteArray} {v2:ByteArray} {v3:Int} {v4:Int}:setRow (l.map RK) i 0 [.sc (.int .i64 v0),.sc (.string v1),.sc (.string v2),.sc (.int .i64 v3),.sc (.int .i64 v4)]=(l.modify i.toNat fun _=>⟨v0,v1,v2,v3,v4⟩).map RK:=bT fun a=>rfl
@[simp] theorem Wd {l:List Mp} {i:Int} {v:ByteArray}:setRow (l.map EP) i 0 [.sc (.string v)]=(l.modify i.toNat fun x=>{x with name:=v}).map EP:=bT fun a=>rfl
@[simp] theorem Xy {l:List Mp} {i:Int} {v:Bool}:setRow (l.map EP) i 1 [.sc (.bool v)]=(l.modify i.toNat fun x=>{x with fx:=v}).map EP:=bT fun a=>rfl
@[simp] theorem XV {l:List Mp} {i:Int} {v:List Int}:setRow (l.map EP) i 2 [.sub 1 (v.map bO)]=(l.modify i.toNat fun x=>{x with l:=v}).map EP:=bT fun a=>rfl
@[simp] theorem Yx {l:List Mp} {i:Int} {v0:ByteArray} {v1:Bool} {v2:List Int}:setRow (l.map EP) i 0 [.sc (.string v0),.sc (.bool v1),.sub 1 (v2.map bO)]=(l.modify i.toNat fun _=>⟨v0,v1,v2⟩).map EP:=bT fun a=>rfl
@[simp] theorem WX {l:List (Int)} {i:Int} {v:Int}:setRow (l.map bO) i 0 [.sc (.int .i64 v)]=(l.modify i.toNat fun _=>v).map bO:=bT fun a=>rfl
@[simp] theorem Yf {l:List (Int)} {i:Int} {v:Int}:setRow (l.map AD) i 0 [.sc (.int .u8 v)]=(l.modify i.toNat fun _=>v).map AD:=bT fun a=>rfl
@[simp] theorem VD {l:List (Bool)} {i:Int} {v:Bool}:setRow (l.map Gi) i 0 [.sc (.bool v)]=(l.modify i.toNat fun _=>v).map Gi:=bT fun a=>rfl
@[simp] theorem WY {l:List (List Key)} {i:Int} {v:List Key}:setRow (l.map bX) i 0 [.sub 5 (v.map bN)]=(l.modify i.toNat fun _=>v).map bX:=bT fun a=>rfl
@[simp] theorem VE {l:List (List (List Key))} {i:Int} {v:List (List Key)}:setRow (l.map aW) i 0 [.sub 1 (v.map bX)]=(l.modify i.toNat fun _=>v).map aW:=bT fun a=>rfl
end Go.T
namespace Go.T
theorem bD {α:Type} (l:List α) (P:Nat→Prop) (fin:P l.length) (step: ∀i a,i<l.length→l[i]?=some a→l.drop i=a::l.drop (i+1)→l.take (i+1)=l.take i++[a]→P (i+1)→P i):P 0:=by
 have: ∀k i,i+k=l.length→P i:=by
  intro k
  induction k with
  |zero=>intro i h;have:i=l.length:=by omega
         subst this;exact fin
  |succ k ih=>
   intro i h
   have hi:i<l.length:=by omega
   refine step i l[i] hi (List.getElem?_eq_getElem hi) (List.drop_eq_getElem_cons hi) ?_ (ih (i+1) (by omega))
   rw[List.take_add_one,List.getElem?_eq_getElem hi];rfl
 exact this l.length 0 (by omega)
theorem xT {α:Type} {e:α→List TC} {z:List TC} (l:List α) (P:Int→RR→Prop) (hz: ∀a,(e a).length=z.length) (fin:P l.length (l.map e))
 (step: ∀(i:Nat) rows a,i<l.length→l[i]?=some a→rowAt rows i=some z→P ((i:Int)+1) (setRow rows i 0 (e a))→P i rows):P 0 (List.replicate l.length z):=by
 have: ∀i:Nat,i≤l.length→P (i:Int) ((l.take i).map e++List.replicate (l.length-i) z)→P 0 (List.replicate l.length z):=by
  intro i
  induction i with
  |zero=>intro _ h;simpa using h
  |succ i ih=>
   intro hi h
   refine ih (by omega) ?_
   have hlt:i<l.length:=by omega
   have ha:=List.getElem?_eq_getElem hlt
   have hk:l.length-i=(l.length-(i+1))+1:=by omega
   rw[hk]
   refine step i _ l[i] hlt ha (Uf (by omega)) ?_
   rw[Pb (e:=e) ha rfl (hz _).symm]
   exact h
 refine this l.length (Nat.le_refl _) ?_
 simpa using fin
def tot {α:Type} (w:α→Nat):List α→Nat
 |[]=>0
 |a::r=>w a+tot w r
def fD {α:Type} (mk:α→Int→α) (w:α→Nat):List α→Int→List α
 |[],_=>[]
 |a::r,k=>mk a k::fD mk w r (k+w a)
theorem r9 {α:Type} {e:α→List TC} (mk:α→Int→α) (w:α→Nat) (P:Int→Int→RR→Prop) (B:Int)
 (step: ∀(d:List α) a r (k:Int),0≤k→k+w a≤B→d.length<1099511627776→P (k+w a) ((d.length:Int)+1) ((d++mk a k::r).map e)→P k d.length ((d++a::r).map e)):
 ∀(r d:List α) (k:Int),0≤k→k+tot w r≤B→d.length+r.length≤1099511627776→P (k+tot w r) ((d.length+r.length:Nat):Int) ((d++fD mk w r k).map e)→P k d.length ((d++r).map e)
 |[],d,k,_,_,_,h=>by simpa [fD,tot] using h
 |a::r,d,k,h0,h1,h2,h=>by
  simp only[tot,List.length_cons] at h1 h2 h
  refine step d a r k h0 (by omega) (by omega) ?_
  have:=r9 mk w P B step r (d++[mk a k]) (k+w a) (by omega) (by omega) (by simp;omega) (by
   simp only[List.append_assoc,List.singleton_append,List.length_append,List.length_singleton]
   rw[show k+(w a:Int)+(tot w r:Int)=k+((w a+tot w r:Nat):Int) by omega,show d.length+1+r.length=d.length+(r.length+1) by omega]
   exact h)
  simpa using this
theorem sg {α:Type} {e:α→List TC} (mk:α→Int→α) (w:α→Nat) (P:Int→Int→RR→Prop) (B:Int)
 (step: ∀(d:List α) a r (k:Int),0≤k→k+w a≤B→d.length<1099511627776→P (k+w a) ((d.length:Int)+1) ((d++mk a k::r).map e)→P k d.length ((d++mk a k::r).map e)):
 ∀(r d:List α) (k:Int),0≤k→k+tot w r≤B→d.length+r.length≤1099511627776→P (k+tot w r) ((d.length+r.length:Nat):Int) ((d++fD mk w r k).map e)→P k d.length ((d++fD mk w r k).map e)
 |[],d,k,_,_,_,h=>by simpa [fD,tot] using h
 |a::r,d,k,h0,h1,h2,h=>by
  simp only[tot,List.length_cons,fD] at h1 h2 h ⊢
  refine step d a _ k h0 (by omega) (by omega) ?_
  have:=sg mk w P B step r (d++[mk a k]) (k+w a) (by omega) (by omega) (by simp;omega) (by
   simp only[List.append_assoc,List.singleton_append,List.length_append,List.length_singleton]
   rw[show k+(w a:Int)+(tot w r:Int)=k+((w a+tot w r:Nat):Int) by omega,show d.length+1+r.length=d.length+(r.length+1) by omega]
   exact h)
  simpa using this
theorem si {α:Type} (n:Nat): ∀l:List α,tot (fun _=>n) l=n*l.length
 |[]=>rfl
 |a::r=>by simp only[tot,si n r,List.length_cons,Nat.mul_add];omega
theorem kL {α:Type} (mk:α→Int→α) (w:α→Nat): ∀(l:List α) (k:Int),(fD mk w l k).length=l.length
 |[],_=>rfl
 |a::r,k=>by simp[fD,kL mk w r]
theorem mF {α:Type} {w:α→Nat}: ∀{l:List α} {a:α},a∈l→w a≤tot w l
 |[],_,h=>by cases h
 |b::r,a,h=>by
  simp only[tot]
  rcases List.mem_cons.1 h with rfl|h
  ·omega
  ·have:=mF (w:=w) h;omega
theorem jM {α:Type} {w:α→Nat} {l:List α} {i:Nat} {a:α} (h:l[i]?=some a):w a≤tot w l:=mF (List.mem_of_getElem? h)
def bB (s:List Key):Nat:=s.length
def aP (n:List (List Key)):Nat:=n.length+tot bB n
def pV (n:List (List (List Key))):Nat:=n.length+tot aP n
def dx (t:Tree):Nat:=t.lows.length+pV t.nodes
def pJ (v:Vol):Nat:=v.name.size
def EU (l:List Vol):Nat:=l.length+tot pJ l
def cL (p:Pool):Nat:=dx p.t+p.ages.length+p.cells.length+EU p.vols
def lq (left:Int) (n:Nat):Int:=if left<n then-1 else left-n
end Go.T
namespace Go.T
section
variable {C : kG} {f : FuncId} {vs : List TV}
theorem qZ {x b:Bool} (h:aa C f vs (vB x) []):aa C f vs (vB b) []↔b=x:=⟨fun h'=>by have:=(h.XP h').1;simpa using this,fun e=>e▸h⟩
theorem Uo {x b:Int} (h:aa C f vs (vI x) []):aa C f vs (vI b) []↔b=x:=⟨fun h'=>by have:=(h.XP h').1;simpa using this,fun e=>e▸h⟩
theorem Yy {x b:ByteArray} (h:aa C f vs (vS x) []):aa C f vs (vS b) []↔b=x:=⟨fun h'=>by have:=(h.XP h').1;simpa using this,fun e=>e▸h⟩
theorem Pm {z:Nat} {x b:RR} (h:aa C f vs (.c (.sub z x)) []):aa C f vs (.c (.sub z b)) []↔b=x:=⟨fun h'=>by have:=(h.XP h').1;simpa using this,fun e=>e▸h⟩
theorem We {x b:Int} {y c:Bool} (h:aa C f vs (.tu [(0,[iI x]),(0,[iB y])]) []):aa C f vs (.tu [(0,[iI b]),(0,[iB c])]) []↔b=x∧c=y:=⟨fun h'=>by have:=(h.XP h').1;simpa using this,fun⟨e,e'⟩=>e▸e'▸h⟩
end
theorem MS {s:ByteArray} {i:Nat} (h:i<s.size): ∃n:Int,qe s i=some n∧0≤n∧n≤255:=by
 unfold qe
 rw[if_pos (Int.natCast_nonneg i),Int.toNat_natCast]
 have:s[i]?=some s[i]:=getElem?_pos s i h
 rw[this]
 have:=(s[i]).toNat_lt
 refine⟨_,rfl,?_,?_⟩<;>show _≤_<;>simp only[]<;>omega
theorem Pn {n:Int} (h: -9223372036854775808≤n∧n≤9223372036854775807):rC .i64 n=n:=by unfold rC;exact IntWalk.i64_in _ h
def iQ (a lo hi:Int):Bool:=decide (lo≤a∧a≤hi)
def jw (a:Int):Bool:=iQ a 0 65535
def fW (x:Key):Bool:=iQ x.b 0 15&&iQ x.a 1 60&&iQ x.k 0 2&&(if x.k=1 then iQ x.c 0 23&&iQ x.g 0 999 else decide (x.c=0)&&decide (x.g=0))
def dA (x y:Key):Bool:=decide (x.b<y.b∨(x.b=y.b∧x.a<y.a))
def kM (x y:Key):Bool:=decide (x.b=y.b∧x.a=y.a)
def cE (n:Nat) (f:Nat→Bool):Bool:=(List.range' 0 n).all f
theorem jl {i n:Nat} (h:i<n):List.range' i (n-i)=i::List.range' (i+1) (n-(i+1)):=by
 obtain⟨k,hk⟩: ∃k,n-i=k+1:=⟨n-i-1,by omega⟩
 rw[hk,show n-(i+1)=k by omega]
 rfl
theorem nc (n:Nat) (P:Nat→Prop) (fin:P n) (step: ∀i,i<n→P (i+1)→P i):P 0:=by
 have: ∀k i,i+k=n→P i:=by
  intro k
  induction k with
  |zero=>intro i h;have:i=n:=by omega
         subst this;exact fin
  |succ k ih=>intro i h;exact step i (by omega) (ih (i+1) (by omega))
 exact this n 0 (by omega)
theorem RN {α:Type} (f g:α→Bool): ∀l:List α,l.all (fun x=>f x&&g x)=(l.all f&&l.all g)
 |[]=>rfl
 |a::r=>by simp only[List.all_cons,RN f g r];cases f a<;>cases g a<;>simp
theorem Up (n:Nat) (f g:Nat→Bool):cE n (fun i=>f i&&g i)=(cE n f&&cE n g):=RN f g _
theorem AF {n:Nat} {f:Nat→Bool}:cE n f=true↔ ∀i,i<n→f i=true:=by
 unfold cE
 rw[List.all_eq_true]
 constructor
 ·intro h i hi;exact h i (by simp[List.mem_range'];exact hi)
 ·intro h i hi
  simp[List.mem_range'] at hi
  exact h i hi
def SU {α:Type} (l:List α) (f:α→Bool) (i:Nat):Bool:=match l[i]? with|some a=>f a|none=>true
def gn {α:Type} (l:List α) (f:α→α→Bool):Nat→Bool
 |0=>true
 |k+1=>match l[k]?,l[k+1]? with|some x,some y=>f x y|_,_=>true
theorem VF {α:Type} (l:List α) (f:α→Bool):cE l.length (SU l f)=l.all f:=by
 rw[Bool.eq_iff_iff,AF,List.all_eq_true]
 constructor
 ·intro h a ha
  obtain⟨i,hi,rfl⟩:=List.getElem_of_mem ha
  have:=h i hi
  simpa [SU,hi] using this
 ·intro h i hi
  simp only[SU,List.getElem?_eq_getElem hi]
  exact h _ (List.getElem_mem hi)
def kD (l:List Key) (i:Nat):Bool:=SU l fW i&&gn l dA i
def AG (l:List Key):Bool:=cE l.length (kD l)&&decide (l.length≤60)
theorem JJ (l:List Key):AG l=(l.all fW&&(cE l.length (gn l dA)&&decide (l.length≤60))):=by
 rw[←Bool.and_assoc,←VF,←Up];rfl
def eU:Key:=⟨0,0,0,0,0⟩
def setAt (l:List Key) (b a:Int):Option Key:=l.find? fun x=>decide (x.b=b∧x.a=a)
def eJ (k:Key):Bool→List Key→List Key
 |put,[]=>if put then [] else [k]
 |put,x::r=>(if !put&& !dA x k then [k] else [])++(if kM x k then [] else [x])++eJ k (put|| !dA x k) r
def eK (l:List Key) (k:Key):List Key:=eJ k false l
theorem Gj (k:Key): ∀(l:List Key) (put:Bool),(eJ k put l).length≤l.length+(if put then 0 else 1)
 |[],put=>by simp only[eJ];split<;>simp
 |x::r,put=>by
  have:=Gj k r (put|| !dA x k)
  simp only[eJ,List.length_append,List.length_cons]
  have h1:(if kM x k then([]:List Key) else [x]).length≤1:=by split<;>simp
  revert h1
  generalize (if kM x k then([]:List Key) else [x])=m
  intro h1
  cases put<;>cases hk:dA x k<;>simp[hk] at this ⊢ <;>omega
theorem ng (l:List Key) (k:Key):(eK l k).length≤l.length+1:=by have:=Gj k l false;simpa [eK] using this
def cz (old new:List Key):List Key:=new.foldl eK old
theorem qE: ∀(new old:List Key),(cz old new).length≤old.length+new.length
 |[],old=>by simp[cz]
 |x::r,old=>by
  have:=qE r (eK old x)
  have h2:=ng old x
  simp only[cz,List.foldl_cons,List.length_cons] at this ⊢
  omega
def mG (l:List Key):List Key:=l.filter fun k=> !decide (k.k=0)
def sj (n:List (List Key)):List Key:=n.foldl cz []
def aQ (n:List (List Key)):List Key:=mG (sj n)
theorem yh: ∀(n:List (List Key)) (a:List Key),(n.foldl cz a).length≤a.length+tot bB n
 |[],a=>by simp[tot]
 |s::r,a=>by
  have:=yh r (cz a s)
  have h2:=qE s a
  simp only[List.foldl_cons,tot,bB] at this ⊢
  omega
theorem cM (n:List (List Key)):(aQ n).length≤tot bB n:=by
 have h1:=yh n []
 have h2:=List.length_filter_le (fun k:Key=> !decide (k.k=0)) (sj n)
 simp only[List.length_nil,Nat.zero_add] at h1
 exact Nat.le_trans h2 h1
def cj (n:List (List Key)):Nat:=tot bB n
def eM (n:List (List Key)):Bool:=n.all (fun s=>AG s&& !decide (s.length=0))&&decide (n.length≤3)&&decide (cj n≤8)
def cv (l:List Key):List (List Key):=if l.length=0 then [] else [l]
def bY (t:Tree):List Key:=t.nodes.flatMap aQ
theorem DA: ∀(l:List (List (List Key))),(l.flatMap aQ).length≤tot aP l
 |[]=>by simp[tot]
 |n::r=>by
  have:=DA r
  have h2:=cM n
  simp only[List.flatMap_cons,List.length_append,tot,aP]
  omega
theorem rT (t:Tree):(bY t).length≤dx t:=by
 have:=DA t.nodes
 unfold bY dx pV
 omega
def WZ (t:Tree) (b:Int):List Key:=(bY t).filter fun k=>decide (k.b=b)
def fX (b a:Int):Int:=aA (VA 64 b) a
def fU {α:Type} (p:α→Bool):List α→Int→Int
 |[],_=> -1
 |a::r,i=>if p a then i else fU p r (i+1)
theorem Po {α:Type} (p:α→Bool): ∀(l:List α) (i:Int),0≤i→decide (0≤fU p l i)=l.any p
 |[],i,_=>by simp[fU]
 |a::r,i,h=>by
  by_cases hp:p a=true
  ·simp[fU,hp,h]
  ·have:=Po p r (i+1) (by omega)
   simp only[fU,if_neg hp,List.any_cons]
   rw[this]
   simp[hp]
theorem EV {α:Type} (p:α→Bool): ∀(l:List α) (i:Int),0≤i→(fU p l i= -1∧ ∀a∈l,p a=false)∨ ∃(j:Nat) (a:α),fU p l i=i+j∧l[j]?=some a∧p a=true∧j<l.length∧ ∀k,k<j→ ∀b,l[k]?=some b→p b=false
 |[],i,_=> .inl ⟨rfl,fun a h=>by cases h⟩
 |a::r,i,h=>by
  simp only[fU]
  cases hp:p a with
  |true=>exact .inr ⟨0,a,by simp,rfl,hp,by simp,fun k hk=>by omega⟩
  |false=>
   rcases EV p r (i+1) (by omega) with⟨h1,h2⟩|⟨j,b,h1,h2,h3,h4,h5⟩
   ·refine .inl ⟨by simpa using h1,fun b hb=> ?_⟩
    rcases List.mem_cons.1 hb with rfl|hb
    ·exact hp
    ·exact h2 b hb
   ·refine .inr ⟨j+1,b,by simp[h1];omega,h2,h3,by simp;omega,fun k hk c hc=> ?_⟩
    cases k with
    |zero=>simp at hc;rw[←hc];exact hp
    |succ k=>exact h5 k (by omega) c hc
theorem VG {α:Type} (p:α→Bool) (l:List α): -1≤fU p l 0∧fU p l 0<l.length:=by
 rcases EV p l 0 (by omega) with⟨h,_⟩|⟨j,a,h,_,_,h4,_⟩<;>omega
theorem Pp {α:Type} (p:α→Bool) (l:List α) (h: ¬fU p l 0<0): ∃a,gj l (fU p l 0)=some a∧p a=true:=by
 rcases EV p l 0 (by omega) with⟨h1,_⟩|⟨j,a,h1,h2,h3,_⟩
 ·omega
 ·refine⟨a,?_,h3⟩
  rw[h1,Int.zero_add,aL];exact h2
def jd (l:List Age) (id:Int):Int:=fU (fun a=>decide (a.id=id)) l 0
def Wf (l:List Age):Nat→Int→List Int
 |0,_=>[]
 |n+1,id=>if jd l id<0 then [] else id::(match gj l (jd l id) with|some a=>Wf l n a.fr|none=>[])
def pathOf (l:List Age) (id:Int):List Int:=Wf l (l.length+1) id
def Yz (l:List Int) (n:Int):Bool:=l.any fun a=>decide (a=n)
def XW (path:List Int):Key×Bool→Key→Key×Bool:=fun p k=>if Yz path k.a&&(!p.2||decide (p.1.a<k.a)) then(k,true) else p
def near (keys:List Key) (path:List Int):Key×Bool:=keys.foldl (XW path) (eU,false)
def RO (t:Tree) (l:List Age) (b id:Int):Key×Bool:=near (WZ t b) (pathOf l id)
def iU (l:List Age) (id:Int):List Int:=if id=0 then [] else(l.filter fun a=>decide (a.fr=id)).map (·.id)
theorem JK (l:List Age) (id:Int):(iU l id).length≤l.length:=by
 unfold iU
 split
 ·simp
 ·rw[List.length_map];exact List.length_filter_le _ _
abbrev SV (p:Key×Bool):TV:= .tu [(1,[iI p.1.b,iI p.1.a,iI p.1.k,iI p.1.c,iI p.1.g]),(0,[iB p.2])]
def Uq (n:Int):Bool:=iQ n 97 122||iQ n 48 57
def dJ (s:ByteArray) (i:Nat):Bool:=match qe s i with|some n=>Uq n|none=>true
def qw (s:ByteArray):Bool:=cE s.size (dJ s)&&iQ s.size 1 6
def dR (l:List Age) (i:Nat):Bool:=SU l (fun a=>iQ a.id 1 60) i&&(gn l (fun x y=>decide (x.id<y.id)) i&&SU l (fun a=>decide (a.fr=0)|| !decide (jd (l.take i) a.fr<0)) i)
def lu (l:List Age):Bool:=cE l.length (dR l)&&decide (l.length≤16)
def nh (l:List Vol) (s:ByteArray):Int:=fU (fun v=>decide (v.name=s)) l 0
def cellAt (l:List Cell) (i gen:Int):Int×Bool:=match gj l i with
 |none=>(0,false)
 |some c=>if c.u=true∧c.g=gen then(c.n,true) else(0,false)
def bJ (l:List Cell):Nat:=(l.filter (·.u)).length
def gG (c:Cell):Bool:=iQ c.g 0 999&&(jw c.n&&(c.u||decide (c.n=0)))
def c6 (l:List Cell):Bool:=l.all gG&&decide (l.length=24)
abbrev YI (p:Int×Bool):TV:= .tu [(0,[iI p.1]),(0,[iB p.2])]
@[simp] theorem BK {l:List Key} {b a k c g:Int}:List.append (l.map bN) [[iI b,iI a,iI k,iI c,iI g]]=(l++[(⟨b,a,k,c,g⟩:Key)]).map bN:=by simp[bN]
@[simp] theorem RP {l:List Int} {b:Int}:List.append (l.map bO) [[iI b]]=(l++[b]).map bO:=by simp[bO]
@[simp] theorem XX {l:List Int} {b:Int}:List.append (l.map AD) [[.sc (.int .u8 b)]]=(l++[b]).map AD:=by simp[AD]
@[simp] theorem Yg {l:List Age} {b a:Int}:List.append (l.map dY) [[iI b,iI a]]=(l++[(⟨b,a⟩:Age)]).map dY:=by simp[dY]
@[simp] theorem Yh {l:List Vol} {s:ByteArray} {b a:Int} {q:Bool}:List.append (l.map eg) [[iS s,iI b,iI a,iB q]]=(l++[(⟨s,b,a,q⟩:Vol)]).map eg:=by simp[eg]
@[simp] theorem Yi {l:List (List Key)} {s:List Key}:List.append (l.map bX) [[.sub 5 (s.map bN)]]=(l++[s]).map bX:=by simp[bX]
@[simp] theorem DB {l:List (List (List Key))} {s:List (List Key)}:List.append (l.map aW) [[.sub 1 (s.map bX)]]=(l++[s]).map aW:=by simp[aW]
@[simp] theorem Yj {l:List Mp} {s:ByteArray} {f:Bool} {r:List Int}:List.append (l.map EP) [[iS s,iB f,.sub 1 (r.map bO)]]=(l++[(⟨s,f,r⟩:Mp)]).map EP:=by simp[EP]
@[simp] theorem jm {α:Type} {e:α→List TC} {l m:List α}:List.append (l.map e) (m.map e)=(l++m).map e:=by simp
@[simp] theorem XY:([]:RR)=([]:List Key).map bN↔True:=by simp
@[simp] theorem de {α:Type} (l:List α):Nat.succ (List.length l)=l.length+1:=rfl
theorem pg (b a k c g:Int):bQ [[iI b,iI a,iI k,iI c,iI g]]=true:=jB [⟨b,a,k,c,g⟩]
theorem QF (b a:Int):bQ [[iI b,iI a]]=true:=BI [⟨b,a⟩]
theorem QG (s:ByteArray) (b a:Int) (q:Bool):bQ [[iS s,iI b,iI a,iB q]]=true:=BJ [⟨s,b,a,q⟩]
attribute [simp] pg QF QG
@[simp] theorem dO (k:Key):(⟨k.b,k.a,k.k,k.c,k.g⟩:Key)=k:=rfl
@[simp] theorem eW (k:Age):(⟨k.id,k.fr⟩:Age)=k:=rfl
@[simp] theorem dP (k:Cell):(⟨k.g,k.u,k.n⟩:Cell)=k:=rfl
@[simp] theorem eX (k:Vol):(⟨k.name,k.age,k.size,k.fx⟩:Vol)=k:=rfl
@[simp] theorem eY (k:Mp):(⟨k.name,k.fx,k.l⟩:Mp)=k:=rfl
@[simp] theorem ia (k:UY):(⟨k.kind,k.name,k.to,k.a,k.b⟩:UY)=k:=rfl
theorem cZ {n b:Nat} (h:n*b≤140737488355328∧n≤140737488355328):fits n b=true:=by rw[Vu];exact decide_eq_true h
end Go.T
namespace Go.T
def cR (s:List Key):Bool:=AG s&& !decide (s.length=0)
theorem MT (n:List (List Key)):eM n=(n.all cR&&(decide (n.length≤3)&&decide (cj n≤8))):=by
 unfold eM;rw[Bool.and_assoc];rfl
def QH (lows:List Int) (i:Nat) (x:Int):Bool:=match lows[i]? with
 |some lo=> !decide (x<lo)&&(match lows[i+1]? with|some hi=>decide (x<hi)|none=>true)
 |none=>true
def fM (lows:List Int) (i:Nat) (k:Key):Bool:=QH lows i (fX k.b k.a)
def bR (lows:List Int) (i:Nat) (s:List Key):Bool:=s.all (fM lows i)
def cH (t:Tree) (i:Nat):Bool:=gn t.lows (fun x y=>decide (x<y)) i&&(match t.nodes[i]? with
 |some n=>eM n&&((decide (i=0)|| !decide ((aQ n).length=0))&&n.all (bR t.lows i))
 |none=>true)
def dS (t:Tree):Bool:=iQ t.nodes.length 1 20&&(decide (t.lows.length=t.nodes.length)&&((match t.lows[0]? with|some x=>decide (x=0)|none=>true)&&(cE t.nodes.length (cH t)&&decide ((bY t).length≤60))))
def bW (p:Pool) (i:Nat):Bool:=match p.vols[i]? with
 |some v=>qw v.name&&(iQ v.size 1 12&&(!decide (jd p.ages v.age<0)&&(decide ((iU p.ages v.age).length=0)&&(gn p.vols (fun x y=>KS x.name y.name) i&& !(p.vols.take i).any fun u=>decide (u.age=v.age)))))
 |none=>true
def fY (p:Pool):Bool:=cE p.vols.length (bW p)&&decide (p.vols.length≤6)
def cA (p:Pool) (l:List Key) (i:Nat):Bool:=match l[i]? with
 |some k=> !decide (jd p.ages k.a<0)&&(!decide (k.k=1)||((cellAt p.cells k.c k.g).2&& !(l.take i).any fun x=>decide (x.k=1)&&decide (x.c=k.c)))
 |none=>true
def bZ (l:List Key):Nat:=(l.filter fun k=>decide (k.k=1)).length
def gU (p:Pool):Bool:=cE (bY p.t).length (cA p (bY p.t))&&decide ((bJ p.cells:Int)=bZ (bY p.t))
def mD (p:Pool):Bool:=p.ages.all (fun a=>decide (a.id<p.next))&&(dS p.t&&(lu p.ages&&(c6 p.cells&&(iQ p.next 1 61&&(fY p&&gU p)))))
def VH (p:Pool) (i b:Int):Int:=match gj p.vols i with
 |none=>0
 |some v=>if 0≤b∧b<v.size then(if(RO p.t p.ages b v.age).2=true∧(RO p.t p.ages b v.age).1.k=1 then(cellAt p.cells (RO p.t p.ages b v.age).1.c (RO p.t p.ages b v.age).1.g).1 else 0) else 0
def nC (l:List Key):List Bool:=(List.range 24).map fun m:Nat=>l.any fun x=>decide (x.k=1)&&decide (x.c=(m:Int))
theorem Pq:nC []=List.replicate 24 false:=by decide
theorem Pt (l:List Key) {c:Int} (h:0≤c∧c<24):gj (nC l) c=some (l.any fun x=>decide (x.k=1)&&decide (x.c=c)):=by
 obtain⟨n,rfl⟩: ∃n:Nat,c=n:=⟨c.toNat,by omega⟩
 rw[aL]
 unfold nC
 rw[List.getElem?_map,List.getElem?_range (by omega)]
 rfl
theorem Pu (l:List Key) (k:Key) (hk:k.k=1) (h:0≤k.c∧k.c<24):(nC l).modify k.c.toNat (fun _=>true)=nC (l++[k]):=by
 apply List.ext_getElem?
 intro m
 rw[List.getElem?_modify]
 unfold nC
 rw[List.getElem?_map,List.getElem?_map]
 by_cases hm:m<24
 ·rw[List.getElem?_range hm]
  simp only[Option.map_some,List.any_append,List.any_cons,List.any_nil,Bool.or_false,hk,decide_true,Bool.true_and]
  by_cases e:k.c.toNat=m
  ·have:k.c=(m:Int):=by omega
   simp[e,this]
  ·have: ¬k.c=(m:Int):=by omega
   simp[e,this]
 ·rw[List.getElem?_eq_none (by simp;omega)];rfl
theorem NK (l:List Key) (k:Key) (hk: ¬k.k=1):nC (l++[k])=nC l:=by
 unfold nC
 simp[hk]
theorem BX (k:Key) (l:List Key):bZ (k::l)=(if k.k=1 then 1 else 0)+bZ l:=by
 unfold bZ
 by_cases h:k.k=1<;>simp[h]
 omega
theorem Sp {l:List Cell} {i g:Int} (h:(cellAt l i g).2=true):0≤i∧i<l.length:=by
 unfold cellAt at h
 apply Classical.byContradiction
 intro hn
 rw[nB hn] at h
 cases h
theorem iR {p:Pool} (h:cL p≤4194304):dx p.t≤4194304∧p.ages.length≤4194304∧p.cells.length≤4194304∧p.vols.length≤4194304∧tot pJ p.vols≤4194304:=by
 unfold cL EU at h
 omega
end Go.T
namespace Go.T
def blocks (p:Pool) (i:Nat) (k:Nat):List Int:=(List.range k).map fun b:Nat=>VH p i b
def fO (l:List Cell) (i:Int):List Cell:=match gj l i with
 |none=>l
 |some c=>if c6 l=true∧c.u=true then l.modify i.toNat (fun _=>⟨vq (aA c.g 1) 1000,false,0⟩) else l
theorem BY {l:List Cell} {i:Int} (h:gj l i=none):fO l i=l:=by unfold fO;rw[h]
theorem DC {l:List Cell} {i:Int} (h:c6 l=false):fO l i=l:=by
 unfold fO
 cases gj l i with
 |none=>rfl
 |some c=>exact if_neg (fun hh=>by rw[h] at hh;cases hh.1)
theorem Gk {l:List Cell} {i:Int} {c:Cell} (hc:gj l i=some c) (h:c.u=false):fO l i=l:=by
 unfold fO;rw[hc];exact if_neg (fun hh=>by rw[h] at hh;cases hh.2)
theorem DD {l:List Cell} {i:Int} {c:Cell} (hc:gj l i=some c) (h:c6 l=true) (hu:c.u=true):fO l i=l.modify i.toNat (fun _=>⟨vq (aA c.g 1) 1000,false,0⟩):=by
 unfold fO;rw[hc];exact if_pos ⟨h,hu⟩
theorem NL (l:List Cell) (i:Int):(fO l i).length=l.length:=by
 unfold fO
 cases gj l i with
 |none=>rfl
 |some c=>simp only[];split<;>simp
def sF (c:Cell):Bool:= !c.u
def kN (l:List Cell):Int:=fU sF l 0
def iT (l:List Cell) (n:Int):List Cell×Int×Bool:=
 if c6 l=true∧jw n=true∧0≤kN l then(l.modify (kN l).toNat (fun c=>⟨c.g,true,n⟩),kN l,true) else(l,0,false)
theorem ni {l:List Cell} {n:Int} (h: ¬(c6 l=true∧jw n=true∧0≤kN l)):iT l n=(l,0,false):=if_neg h
theorem xU {l:List Cell} {n:Int} (h:c6 l=true∧jw n=true∧0≤kN l):iT l n=(l.modify (kN l).toNat (fun c=>⟨c.g,true,n⟩),kN l,true):=if_pos h
theorem DE (l:List Cell) (n:Int):(iT l n).1.length=l.length:=by
 unfold iT;split<;>simp
abbrev VI (x:List Cell×Int×Bool):TV:= .tu [(0,[.sub 3 (x.1.map ct)]),(0,[iI x.2.1]),(0,[iB x.2.2])]
abbrev YJ (x:Int×Int):TV:= .tu [(0,[iI x.1]),(0,[iI x.2])]
def DF (p:Pool) (s:ByteArray):Bool:=mD p&&qw s
theorem AH {p:Pool} (h:mD p=true):fY p=true:=by
 simp only[mD,Bool.and_eq_true] at h
 exact h.2.2.2.2.2.1
theorem Pv {p:Pool} (h:mD p=true):lu p.ages=true:=by
 simp only[mD,Bool.and_eq_true] at h
 exact h.2.2.1
theorem Gl {p:Pool} {i:Int} {v:Vol} (h:fY p=true) (hv:gj p.vols i=some v):1≤v.size∧v.size≤12:=by
 obtain⟨n,rfl,hn⟩: ∃n:Nat,i=n∧n<p.vols.length:=by
  have:0≤i∧i<p.vols.length:=Classical.byContradiction fun hn=>by rw[nB hn] at hv;cases hv
  exact⟨i.toNat,by omega,by omega⟩
 simp only[fY,Bool.and_eq_true,AF] at h
 have:=h.1 n hn
 rw[aL] at hv
 simp only[bW,hv,Bool.and_eq_true] at this
 have:=this.2.1
 simp[iQ] at this
 omega
def wk (l:List Key) (b a:Int):Key×Bool:=match setAt l b a with|some k=>(k,true)|none=>(eU,false)
def lJ (n:List (List Key)) (b a:Int):Nat→Key×Bool
 |0=>(eU,false)
 |k+1=>match n[k]? with
  |some s=>if(wk s b a).2=true then(if(wk s b a).1.k=0 then(eU,false) else wk s b a) else lJ n b a k
  |none=>(eU,false)
def pW (f:Int→Bool) (l:List Int):Nat→Int
 |0=> -1
 |k+1=>match l[k]? with
  |some x=>if f x=true then(k:Int) else pW f l k
  |none=> -1
def kE (t:Tree) (b a:Int):Int:=pW (fun x=>decide (x≤fX b a)) t.lows t.lows.length
def xV (t:Tree) (b a:Int):Key×Bool:=match gj t.nodes (kE t b a) with
 |some n=>lJ n b a n.length
 |none=>(eU,false)
end Go.T
namespace Go.T
def QI (p x:Pool):Pool×Int:=if mD x=true then(x,0) else(p,6)
abbrev Xz (x:Pool×Int):TV:= .tu [(1,[.sub 1 (x.1.t.lows.map bO),.sub 1 (x.1.t.nodes.map aW),.sub 2 (x.1.ages.map dY),.sub 3 (x.1.cells.map ct),.sub 4 (x.1.vols.map eg),iI x.1.next]),(0,[iI x.2])]
end Go.T
namespace Go.T
end Go.T
namespace Go.T
def Wg (v u:Vol):Bool:=KS u.name v.name||M3 u.name v.name
theorem Pw: ∀(x y z:List UInt8),Op.bytesLess x y=true→Op.bytesLess y z=true→Op.bytesLess x z=true
 |x,y,[],_,h=>by cases y<;>simp[Op.bytesLess] at h
 |x,[],c::z,h,_=>by cases x<;>simp[Op.bytesLess] at h
 |[],_::_,_::_,_,_=>by simp[Op.bytesLess]
 |a::x,b::y,c::z,h1,h2=>by
  simp only[Op.bytesLess,Bool.or_eq_true,Bool.and_eq_true,decide_eq_true_eq,beq_iff_eq] at h1 h2 ⊢
  rcases h1 with h1|⟨rfl,h1⟩
  ·rcases h2 with h2|⟨rfl,h2⟩
   ·exact .inl (UInt8.lt_trans h1 h2)
   ·exact .inl h1
  ·rcases h2 with h2|⟨rfl,h2⟩
   ·exact .inl h2
   ·exact .inr ⟨rfl,Pw x y z h1 h2⟩
theorem Sq {a b c:ByteArray} (h1:KS a b=true) (h2:KS b c=true):KS a c=true:=by
 unfold KS at*
 exact Pw _ _ _ h1 h2
def DG:List Vol→Prop
 |[]=>True
 |[_]=>True
 |a::b::r=>KS a.name b.name=true∧DG (b::r)
theorem Ur {v a b:Vol} (h:KS a.name b.name=true) (hb:Wg v b=true):Wg v a=true:=by
 unfold Wg at*
 rw[Bool.or_eq_true] at*
 rcases hb with hb|hb
 ·exact .inl (Sq h hb)
 ·have:b.name.toList=v.name.toList:=by
   unfold M3 at hb;exact eq_of_beq hb
  unfold KS at h ⊢
  rw[←this];exact .inl h
theorem DG.tail {a:Vol} {l:List Vol} (h:DG (a::l)):DG l:=by
 cases l with
 |nil=>trivial
 |cons b r=>exact h.2
theorem DG.cut {v:Vol}: ∀{l:List Vol} {k:Nat},DG l→k≤l.length→(∀u∈l.drop k,Wg v u=false)→(∀u,0<k→l[k-1]?=some u→Wg v u=true)→(l.takeWhile (Wg v)).length=k
 |[],k,_,hk,_,_=>by simp at hk;simp[hk]
 |a::l,0,_,_,h1,_=>by
  have:=h1 a (.head _)
  simp[this]
 |a::l,k+1,hr,hk,h1,h2=>by
  have ih:=DG.cut (v:=v) (l:=l) (k:=k) hr.tail (by simpa using hk) (fun u hu=>h1 u (by simpa using hu)) fun u h0 hu=>by
   obtain⟨j,rfl⟩: ∃j,k=j+1:=⟨k-1,by omega⟩
   exact h2 u (by omega) (by simpa using hu)
  have ha:Wg v a=true:=by
   cases k with
   |zero=>exact h2 a (by omega) rfl
   |succ k=>
    cases l with
    |nil=>simp at hk
    |cons b r=>
     refine Ur hr.1 ?_
     rw[List.takeWhile_cons] at ih
     cases hb:Wg v b with
     |true=>rfl
     |false=>rw[hb] at ih;simp at ih
  rw[List.takeWhile_cons,if_pos ha,List.length_cons,ih]
theorem DG.modify {f:Vol→Vol} (hf: ∀u,(f u).name=u.name): ∀{l:List Vol} (i:Nat),DG l→DG (l.modify i f)
 |[],i,h=>by cases i<;>exact h
 |[a],0,_=>trivial
 |[a],i+1,_=>by cases i<;>trivial
 |a::b::r,0,h=>by
  show DG (f a::b::r)
  exact⟨by rw[hf];exact h.1,h.2⟩
 |a::b::r,1,h=>by
  show DG (a::f b::r)
  refine⟨by rw[hf];exact h.1,?_⟩
  exact DG.modify hf (l:=b::r) 0 h.2
 |a::b::r,i+2,h=>⟨h.1,DG.modify hf (l:=b::r) (i+1) h.2⟩
def QJ (p x:Pool) (ok:Bool):Pool×Int:=if ok=true then QI p x else(p,6)
end Go.T
namespace Go.T
def YK (m u:Mp):Bool:= !(KS u.name m.name||M3 u.name m.name)
def VJ (l:List Mp) (m:Mp):Nat→Nat
 |0=>0
 |k+1=>match l[k]? with
  |some u=>if YK m u=true then VJ l m k else k+1
  |none=>k+1
theorem RQ (l:List Mp) (m:Mp): ∀k,VJ l m k≤k
 |0=>Nat.le_refl _
 |k+1=>by
  unfold VJ
  split
  ·split
   ·exact Nat.le_succ_of_le (RQ l m k)
   ·exact Nat.le_refl _
  ·exact Nat.le_refl _
def Us {α:Type} (l:List α) (k:Nat) (x:α):List α:=l.take k++x::l.drop k
def Ut (l:List Mp) (m:Mp):List Mp:=Us l (VJ l m l.length) m
theorem Uu (l:List Mp) (m:Mp):(Ut l m).length=l.length+1:=by
 have:=RQ l m l.length
 unfold Ut Us
 rw[List.length_append,List.length_cons,List.length_take,List.length_drop];omega
theorem Uv {l:List Mp} {m x:Mp} (h:x∈Ut l m):x∈l∨x=m:=by
 unfold Ut Us at h
 rcases List.mem_append.1 h with h|h
 ·exact .inl (List.mem_of_mem_take h)
 ·rcases List.mem_cons.1 h with h|h
  ·exact .inr h
  ·exact .inl (List.mem_of_mem_drop h)
def NM (l l':List Mp):Prop:=l'.length≤l.length+1∧ ∀B:Nat,12≤B→(∀x∈l,x.l.length≤B)→ ∀x∈l',x.l.length≤B
theorem NM.refl (l:List Mp):NM l l:=⟨Nat.le_succ _,fun _ _ h=>h⟩
theorem NM.put {l:List Mp} {m:Mp} (h: ∀B:Nat,12≤B→(∀x∈l,x.l.length≤B)→m.l.length≤B):NM l (Ut l m):=
 ⟨Nat.le_of_eq (Uu l m),fun B hB hl x hx=>(Uv hx).elim (hl x) fun e=>by rw[e];exact h B hB hl⟩
end Go.T
namespace Go.T
abbrev Ss (x:List (List Key)×Bool):TV:= .tu [(1,[.sub 1 (x.1.map bX)]),(0,[iB x.2])]
def Cr (s:List Key) (k:Key):Bool:=(wk s k.b k.a).2||decide (s.length<4)
def iV (n:List (List Key)) (k:Key):List (List Key):=match n[n.length-1]? with
 |none=>n++[[k]]
 |some s=>if Cr s k=true then n.set (n.length-1) (eK s k) else n++[[k]]
def cm (n:List (List Key)) (k:Key):List Key:=mG (eK (aQ n) k)
def cc (n:List (List Key)) (k:Key):List (List Key)×Bool:=
 if eM (iV n k)=true then(iV n k,true) else if 8<(cm n k).length then(n,false) else if eM (cv (cm n k))=true then(cv (cm n k),true) else(n,false)
theorem nD (n:List (List Key)) (k:Key):(cm n k).length≤tot bB n+1:=by
 have h1:=cM n
 have h2:=ng (aQ n) k
 have h3:(cm n k).length≤(eK (aQ n) k).length:=List.length_filter_le _ _
 omega
theorem Px {α:Type} (w:α→Nat) (l:List α) (a:α):tot w (l++[a])=tot w l+w a:=by
 induction l with
 |nil=>simp[tot]
 |cons b r ih=>simp only[List.cons_append,tot,ih];omega
theorem Py {α:Type} (w:α→Nat) (c:Nat): ∀(l:List α) (i:Nat) (a a':α),l[i]?=some a→w a'≤w a+c→tot w (l.set i a')≤tot w l+c
 |[],i,a,a',h,_=>by simp at h
 |b::r,0,a,a',h,hw=>by
  simp only[List.getElem?_cons_zero,Option.some.injEq] at h
  subst h
  simp only[List.set_cons_zero,tot];omega
 |b::r,i+1,a,a',h,hw=>by
  have:=Py w c r i a a' (by simpa using h) hw
  simp only[List.set_cons_succ,tot];omega
theorem Cs (n:List (List Key)) (k:Key):(iV n k).length≤n.length+1:=by
 unfold iV
 split
 ·rw[List.length_append];simp
 ·split
  ·rw[List.length_set];omega
  ·rw[List.length_append];simp
theorem Ct (n:List (List Key)) (k:Key):tot bB (iV n k)≤tot bB n+1:=by
 unfold iV
 split
 ·rw[Px];exact Nat.le_refl _
 ·rename_i s hs
  split
  ·exact Py bB 1 _ _ s _ hs (by have:=ng s k;unfold bB;omega)
  ·rw[Px];exact Nat.le_refl _
theorem ue (l:List Key):(cv l).length≤1:=by
 unfold cv
 split<;>simp
theorem uf (l:List Key):tot bB (cv l)≤l.length:=by
 unfold cv
 split
 ·simp[tot]
 ·simp[tot,bB]
theorem AI (n:List (List Key)) (k:Key):(cc n k).1.length≤n.length+1:=by
 have h1:=Cs n k
 have h2:=ue (cm n k)
 unfold cc
 repeat' split
 all_goals simp only[];omega
theorem AJ (n:List (List Key)) (k:Key):tot bB (cc n k).1≤tot bB n+1:=by
 have h1:=Ct n k
 have h2:=uf (cm n k)
 have h3:=nD n k
 unfold cc
 repeat' split
 all_goals simp only[];omega
end Go.T
namespace Go.T
def Gm (x y:Key):Prop:=x.b<y.b∨(x.b=y.b∧x.a<y.a)
theorem Gm.trans {x y z:Key} (h1:Gm x y) (h2:Gm y z):Gm x z:=by unfold Gm at*;omega
theorem AK {x y:Key}:dA x y=true↔Gm x y:=by unfold dA Gm;simp
theorem DH {x y:Key}:kM x y=true↔x.b=y.b∧x.a=y.a:=by unfold kM;simp
theorem DI {k y:Key}: ∀{l:List Key},y∈eJ k true l→y∈l
 |[],h=>by simp[eJ] at h
 |x::r,h=>by
  simp only[eJ,Bool.not_true,Bool.false_and,Bool.false_eq_true,if_false,List.nil_append,Bool.true_or] at h
  rcases List.mem_append.1 h with h|h
  ·split at h
   ·cases h
   ·rw[List.mem_singleton.1 h];exact .head _
  ·exact .tail _ (DI h)
theorem JL {k y:Key}: ∀{l:List Key} {put:Bool},y∈eJ k put l→y∈l∨y=k
 |[],put,h=>by
  simp only[eJ] at h
  split at h
  ·cases h
  ·exact .inr (List.mem_singleton.1 h)
 |x::r,put,h=>by
  simp only[eJ] at h
  rcases List.mem_append.1 h with h|h
  ·rcases List.mem_append.1 h with h|h
   ·split at h
    ·exact .inr (List.mem_singleton.1 h)
    ·cases h
   ·split at h
    ·cases h
    ·exact .inl (by rw[List.mem_singleton.1 h];exact .head _)
  ·exact(JL h).imp (.tail _) id
theorem BL {k:Key}: ∀{l:List Key},l.Pairwise Gm→(eJ k true l).Pairwise Gm
 |[],_=>by simp[eJ]
 |x::r,h=>by
  obtain⟨h1,h2⟩:=List.pairwise_cons.1 h
  simp only[eJ,Bool.not_true,Bool.false_and,Bool.false_eq_true,if_false,List.nil_append,Bool.true_or]
  split
  ·exact BL h2
  ·exact List.pairwise_cons.2 ⟨fun y hy=>h1 y (DI hy),BL h2⟩
theorem MU {k:Key}: ∀{l:List Key},l.Pairwise Gm→(eJ k false l).Pairwise Gm
 |[],_=>by simp[eJ]
 |x::r,h=>by
  obtain⟨h1,h2⟩:=List.pairwise_cons.1 h
  cases hk:dA x k with
  |true=>
   have hlt:=AK.1 hk
   have hns:kM x k=false:=by
    cases hs:kM x k with
    |false=>rfl
    |true=>have:=DH.1 hs;unfold Gm at hlt;omega
   simp only[eJ,hk,hns,Bool.not_false,Bool.not_true,Bool.true_and,Bool.and_false,Bool.false_eq_true,if_false,List.nil_append,Bool.or_false,Bool.false_or]
   refine List.pairwise_cons.2 ⟨fun y hy=> ?_,MU h2⟩
   rcases JL hy with hy|rfl
   ·exact h1 y hy
   ·exact hlt
  |false=>
   have hge: ¬Gm x k:=fun h=>by rw[AK.2 h] at hk;cases hk
   simp only[eJ,hk,Bool.not_false,Bool.true_and,if_true,Bool.or_true]
   have hr: ∀y∈eJ k true r,Gm k y:=fun y hy=>by
    have:=h1 y (DI hy)
    unfold Gm at*;omega
   split
   ·exact List.pairwise_cons.2 ⟨hr,BL h2⟩
   ·rename_i hns
    refine List.pairwise_cons.2 ⟨fun y hy=> ?_,List.pairwise_cons.2 ⟨fun y hy=>h1 y (DI hy),BL h2⟩⟩
    rcases List.mem_cons.1 hy with rfl|hy
    ·have: ¬(y.b=k.b∧y.a=k.a):=fun h=>hns (DH.2 h)
     unfold Gm at*;omega
    ·exact hr y hy
theorem Gn {l:List Key} {k:Key} (h:l.Pairwise Gm):(eK l k).Pairwise Gm:=MU h
theorem JM {l:List Key} {k y:Key} (h:y∈eK l k):y∈l∨y=k:=JL h
theorem JN: ∀(new:List Key) {old:List Key},old.Pairwise Gm→(cz old new).Pairwise Gm
 |[],_,h=>h
 |x::r,_,h=>JN r (Gn h)
theorem MV {y:Key}: ∀{new old:List Key},y∈cz old new→y∈old∨y∈new
 |[],_,h=> .inl h
 |x::r,old,h=>by
  have h:y∈cz (eK old x) r:=h
  rcases MV h with h|h
  ·exact(JM h).imp id fun e=>by rw[e];exact .head _
  ·exact .inr (.tail _ h)
theorem JO: ∀(n:List (List Key)) {acc:List Key},acc.Pairwise Gm→(n.foldl cz acc).Pairwise Gm
 |[],_,h=>h
 |s::r,_,h=>JO r (JN s h)
theorem MW {y:Key}: ∀{n:List (List Key)} {acc:List Key},y∈n.foldl cz acc→y∈acc∨ ∃s∈n,y∈s
 |[],_,h=> .inl h
 |s::r,acc,h=>by
  rcases MW (n:=r) h with h|⟨s',h1,h2⟩
  ·exact(MV h).imp id fun h=>⟨s,.head _,h⟩
  ·exact .inr ⟨s',.tail _ h1,h2⟩
theorem K1 (n:List (List Key)):(aQ n).Pairwise Gm:=(JO n .nil).sublist List.filter_sublist
theorem NN {n:List (List Key)} {y:Key} (h:y∈aQ n): ∃s∈n,y∈s:=by
 rcases MW (List.mem_filter.1 h).1 with h|h
 ·cases h
 ·exact h
theorem K2 (n:List (List Key)) (k:Key):(cm n k).Pairwise Gm:=(Gn (K1 n)).sublist List.filter_sublist
theorem NO {n:List (List Key)} {k y:Key} (h:y∈cm n k):y=k∨ ∃s∈n,y∈s:=
 (JM (List.mem_filter.1 h).1).elim (fun h=> .inr (NN h)) .inl
theorem Uw {l:List Key} (h1:l.Pairwise Gm) (h2: ∀y∈l,fW y=true) (h3:l.length≤60):AG l=true:=by
 rw[JJ]
 simp only[Bool.and_eq_true,decide_eq_true_eq]
 refine⟨List.all_eq_true.2 h2,AF.2 fun i hi=> ?_,h3⟩
 cases i with
 |zero=>rfl
 |succ k=>
  simp only[gn]
  rw[List.getElem?_eq_getElem (by omega:k<l.length),List.getElem?_eq_getElem hi]
  exact AK.2 (List.pairwise_iff_getElem.1 h1 k (k+1) (by omega) hi (by omega))
theorem Pz {n:List (List Key)} (h:eM n=true) {s:List Key} (hs:s∈n) {y:Key} (hy:y∈s):fW y=true:=by
 unfold eM at h
 simp only[Bool.and_eq_true] at h
 have:=List.all_eq_true.1 h.1.1 s hs
 simp only[Bool.and_eq_true] at this
 have h2:=this.1
 rw[JJ] at h2
 simp only[Bool.and_eq_true] at h2
 exact List.all_eq_true.1 h2.1 y hy
theorem QL {l:List Key} (h1:l.Pairwise Gm) (h2: ∀y∈l,fW y=true) (h3:l.length≤8):eM (cv l)=true:=by
 unfold cv
 split
 ·decide
 ·rename_i h0
  unfold eM
  have:=Uw h1 h2 (by omega)
  have h00:l≠[]:=fun e=>h0 (by rw[e];rfl)
  simp[this,h00,cj,tot,bB,h3]
theorem PA {n:List (List Key)} {k:Key} (h:eM n=true) (hk:fW k=true): ∀y∈cm n k,fW y=true:=fun y hy=>by
 rcases NO hy with rfl|⟨s,h1,h2⟩
 ·exact hk
 ·exact Pz h h1 h2
theorem JP {n:List (List Key)} {k:Key} (h:eM n=true) (hk:fW k=true) (hp:(cc n k).2=false):8<(cm n k).length∧cc n k=(n,false):=by
 have hn:=QL (K2 n k) (PA h hk)
 unfold cc at hp ⊢
 split at hp
 ·cases hp
 ·rename_i h1
  split at hp
  ·rename_i h2
   exact⟨h2,by rw[if_neg h1,if_pos h2]⟩
  ·rename_i h2
   rw[if_pos (hn (by omega))] at hp
   cases hp
end Go.T
namespace Go.T
def gw (x y:Int):Int:=PV .or .i64 (Wj .i64 (rC .i64 x) 8) (rC .i64 y)
end Go.T
namespace Go.T
abbrev xq (x:Tree×Bool):TV:= .tu [(1,RL x.1),(0,[iB x.2])]
def jN (t:Tree) (i c:Nat) (lows:List Int) (nodes:List (List (List Key))):Tree:=⟨t.lows.take i++lows++t.lows.drop (i+c),t.nodes.take i++nodes++t.nodes.drop (i+c)⟩
def ic (t:Tree) (i:Nat):List Key:=aQ (t.nodes.getD i [])
def qN (t:Tree):Nat→Nat→Option Nat
 |0,_=>none
 |d+1,i=>if i+1<t.nodes.length then(if(ic t i).length+(ic t (i+1)).length≤6 then some i else qN t d (i+1)) else none
def oe (t:Tree):Option Nat:=qN t t.nodes.length 0
def cC (t:Tree) (i:Nat):Tree:=jN t i 2 [t.lows.getD i 0] [cv (ic t i++ic t (i+1))]
def jO:Nat→Tree→Tree
 |0,t=>t
 |n+1,t=>match oe t with
  |none=>t
  |some i=>jO n (cC t i)
theorem Gp {t:Tree}: ∀{d i j:Nat},qN t d i=some j→i≤j∧j+1<t.nodes.length∧(ic t j).length+(ic t (j+1)).length≤6
 |0,i,j,h=>by cases h
 |d+1,i,j,h=>by
  unfold qN at h
  split at h
  ·split at h
   ·cases h;exact⟨Nat.le_refl _,by assumption,by assumption⟩
   ·have:=Gp h;exact⟨by omega,this.2⟩
  ·cases h
theorem qx {t:Tree} {j:Nat} (h:oe t=some j):j+1<t.nodes.length∧(ic t j).length+(ic t (j+1)).length≤6:=(Gp h).2
theorem AL (t:Tree) (i c:Nat) (lows:List Int) (nodes:List (List (List Key))) (h:i+c≤t.nodes.length):(jN t i c lows nodes).nodes.length+c=t.nodes.length+nodes.length:=by
 unfold jN
 simp only[List.length_append,List.length_take,List.length_drop];omega
theorem xW (t:Tree) (i c:Nat) (lows:List Int) (nodes:List (List (List Key))) (h:i+c≤t.lows.length):(jN t i c lows nodes).lows.length+c=t.lows.length+lows.length:=by
 unfold jN
 simp only[List.length_append,List.length_take,List.length_drop];omega
theorem rU {t:Tree} {i:Nat} (h:i+1<t.nodes.length):(cC t i).nodes.length+1=t.nodes.length:=by
 have:=AL t i 2 [t.lows.getD i 0] [cv (ic t i++ic t (i+1))] (by omega)
 unfold cC
 simp only[List.length_singleton] at this
 omega
def jz (t:Tree) (i:Nat) (k:Key):Tree:=
 if(cc (t.nodes.getD i []) k).2=true then
  (if 0<i∧(aQ (cc (t.nodes.getD i []) k).1).length=0 then jN t i 1 [] [] else jN t i 1 [t.lows.getD i 0] [(cc (t.nodes.getD i []) k).1])
 else jN t i 1 [t.lows.getD i 0,fX ((cm (t.nodes.getD i []) k).getD (((cm (t.nodes.getD i []) k).length+1)/2) eU).b ((cm (t.nodes.getD i []) k).getD (((cm (t.nodes.getD i []) k).length+1)/2) eU).a]
  [cv ((cm (t.nodes.getD i []) k).take (((cm (t.nodes.getD i []) k).length+1)/2)),cv ((cm (t.nodes.getD i []) k).drop (((cm (t.nodes.getD i []) k).length+1)/2))]
def bI (t:Tree) (k:Key):Tree×Bool:=
 if dS t=true∧fW k=true then(if dS (jO (jz t (kE t k.b k.a).toNat k).nodes.length (jz t (kE t k.b k.a).toNat k))=true then(jO (jz t (kE t k.b k.a).toNat k).nodes.length (jz t (kE t k.b k.a).toNat k),true) else(t,false)) else(t,false)
end Go.T
namespace Go.T
theorem QM {α:Type} (w:α→Nat) (c:Nat): ∀l:List α,(∀a∈l,w a≤c)→tot w l≤c*l.length
 |[],_=>by simp[tot]
 |a::r,h=>by
  have h1:=h a (.head _)
  have h2:=QM w c r fun b hb=>h b (.tail _ hb)
  simp only[tot,List.length_cons,Nat.mul_add];omega
theorem BM {n:List (List Key)} (h:eM n=true):n.length≤3∧tot bB n≤8:=by
 unfold eM cj at h
 simp only[Bool.and_eq_true,decide_eq_true_eq] at h
 exact⟨h.1.2,h.2⟩
theorem St {t:Tree} (h:dS t=true) {i:Nat} (hi:i<t.nodes.length):cH t i=true:=by
 unfold dS at h
 simp only[Bool.and_eq_true] at h
 exact AF.1 h.2.2.2.1 i hi
theorem ug {t:Tree} (h:dS t=true) {n:List (List Key)} (hn:n∈t.nodes):eM n=true:=by
 obtain⟨i,hi,rfl⟩:=List.getElem_of_mem hn
 have:=St h hi
 unfold cH at this
 rw[List.getElem?_eq_getElem hi] at this
 simp only[Bool.and_eq_true] at this
 exact this.2.1
theorem pn {t:Tree} (h:dS t=true):1≤t.nodes.length∧t.nodes.length≤20∧t.lows.length=t.nodes.length:=by
 unfold dS iQ at h
 simp only[Bool.and_eq_true,decide_eq_true_eq] at h
 omega
theorem QN {t:Tree} (h:dS t=true):t.lows[0]?=some 0:=by
 have hl:=pn h
 unfold dS at h
 simp only[Bool.and_eq_true] at h
 have h0:0<t.lows.length:=by omega
 have:=h.2.2.1
 rw[List.getElem?_eq_getElem h0] at this ⊢
 simp only[decide_eq_true_eq] at this
 rw[this]
theorem JQ {t:Tree} (h:dS t=true):tot aP t.nodes≤220:=by
 have h1:=QM aP 11 t.nodes fun n hn=>by
  have:=BM (ug h hn)
  unfold aP;omega
 have h2:=pn h
 omega
theorem MX {t:Tree} (h:dS t=true):dx t≤260:=by
 have h1:=JQ h
 have h2:=pn h
 unfold dx pV;omega
theorem QO {t:Tree} {k:Key} (h:(bI t k).2=true):dS (bI t k).1=true:=by
 unfold bI at h ⊢
 split
 ·split
  ·assumption
  ·rename_i h1 h2;rw[if_pos h1,if_neg h2] at h;cases h
 ·rename_i h1;rw[if_neg h1] at h;cases h
theorem Cu {t:Tree} {k:Key} (h:(bI t k).2=false):(bI t k).1=t:=by
 unfold bI at h ⊢
 split
 ·split
  ·rename_i h1 h2;rw[if_pos h1,if_pos h2] at h;cases h
  ·rfl
 ·rfl
theorem QS (t:Tree) (k:Key):dx (bI t k).1≤max (dx t) 260:=by
 cases h:(bI t k).2 with
 |true=>have:=MX (QO h);omega
 |false=>rw[Cu h];omega
theorem PB {p:Pool} (h:mD p=true):dS p.t=true:=by
 simp only[mD,Bool.and_eq_true] at h;exact h.2.1
theorem NP {p:Pool} (h:mD p=true):c6 p.cells=true:=by
 simp only[mD,Bool.and_eq_true] at h;exact h.2.2.2.1
theorem Su {s:ByteArray} (h:qw s=true):1≤s.size∧s.size≤6:=by
 simp only[qw,Bool.and_eq_true,iQ,decide_eq_true_eq] at h
 omega
theorem Sv {p:Pool} (h:fY p=true) {v:Vol} (hv:v∈p.vols):qw v.name=true∧1≤v.size∧v.size≤12∧0≤jd p.ages v.age:=by
 obtain⟨i,hi,rfl⟩:=List.getElem_of_mem hv
 simp only[fY,Bool.and_eq_true,AF] at h
 have:=h.1 i hi
 unfold bW at this
 rw[List.getElem?_eq_getElem hi] at this
 simp only[Bool.and_eq_true,iQ,decide_eq_true_eq,Bool.not_eq_true',decide_eq_false_iff_not] at this
 exact⟨this.1,this.2.1.1,this.2.1.2,by omega⟩
theorem Sw {p:Pool} (h:mD p=true):cL p≤500:=by
 have h1:=MX (PB h)
 have h2:p.ages.length≤16:=by
  have:=Pv h
  simp only[lu,Bool.and_eq_true,decide_eq_true_eq] at this
  exact this.2
 have h3:p.cells.length=24:=by
  have:=NP h
  simp only[c6,Bool.and_eq_true,decide_eq_true_eq] at this
  exact this.2
 have hv:=AH h
 have h4:p.vols.length≤6:=by
  simp only[fY,Bool.and_eq_true,decide_eq_true_eq] at hv
  exact hv.2
 have h5:=QM pJ 6 p.vols fun v hm=>(Su (Sv hv hm).1).2
 unfold cL EU;omega
theorem Ux (p x:Pool):cL (QI p x).1≤max (cL p) 500:=by
 unfold QI
 split
 ·rename_i h;have:=Sw h;simp only[];omega
 ·simp only[];omega
theorem Uy (p x:Pool) (b:Bool):cL (QJ p x b).1≤max (cL p) 500:=by
 unfold QJ
 split
 ·exact Ux p x
 ·simp only[];omega
def AM (p:Pool) (k:Key):List Cell:=if(xV p.t k.b k.a).2=true∧(xV p.t k.b k.a).1.k=1 then fO p.cells (xV p.t k.b k.a).1.c else p.cells
def jP (p:Pool) (k:Key):Pool×Bool:=if(bI p.t k).2=true then(⟨(bI p.t k).1,p.ages,AM p k,p.vols,p.next⟩,true) else(p,false)
theorem NQ (p:Pool) (k:Key):(AM p k).length=p.cells.length:=by
 unfold AM;split
 ·exact NL _ _
 ·rfl
theorem JR (p:Pool) (k:Key):cL (jP p k).1≤cL p+260:=by
 have h1:=QS p.t k
 have h2:=NQ p k
 unfold jP
 split
 ·unfold cL;simp only[];omega
 ·simp only[];omega
def og (p:Pool) (s:ByteArray) (b:Int):Int:=
 if DF p s=true then(match gj p.vols (nh p.vols s) with
  |none=>2
  |some v=>if v.fx=true then 5 else if iQ b 0 (v.size-1)=true then 0 else 4) else 1
theorem Gq {p:Pool} {s:ByteArray} {b:Int} (h:og p s b=0): ∃v,gj p.vols (nh p.vols s)=some v∧DF p s=true∧v.fx=false∧0≤b∧b≤v.size-1:=by
 unfold og at h
 split at h
 ·rename_i hf
  split at h
  ·cases h
  ·rename_i v hv
   split at h
   ·cases h
   ·split at h
    ·rename_i h1 h2
     refine⟨v,hv,hf,by simpa using h1,?_⟩
     simpa [iQ] using h2
    ·cases h
 ·cases h
def Uz (l:List Cell) (i:Int):Int:=match gj l i with|some c=>c.g|none=>0
def NR (p:Pool) (b n:Int) (v:Vol):Pool×Bool:=jP ⟨p.t,p.ages,(iT p.cells n).1,p.vols,p.next⟩ ⟨b,v.age,1,(iT p.cells n).2.1,Uz (iT p.cells n).1 (iT p.cells n).2.1⟩
def jn (p:Pool) (s:ByteArray) (b n:Int):Pool×Int:=
 if og p s b=0 then(if jw n=true then(match gj p.vols (nh p.vols s) with
  |none=>(p,2)
  |some v=>if(iT p.cells n).2.2=true then QJ p (NR p b n v).1 (NR p b n v).2 else(p,6)) else(p,4)) else(p,og p s b)
theorem Sx (p:Pool) (s:ByteArray) (b n:Int):cL (jn p s b n).1≤max (cL p) 500:=by
 unfold jn
 repeat' split
 all_goals first|exact Nat.le_max_left _ _|exact Uy _ _ _
end Go.T
namespace Go.T
theorem BN {α:Type} (w:α→Nat): ∀l m:List α,tot w (l++m)=tot w l+tot w m
 |[],m=>by simp[tot]
 |a::l,m=>by simp only[List.cons_append,tot,BN w l m];omega
theorem W0 {α:Type} {l:List α} {i:Nat} {a b:α} (ha:l[i]?=some a) (hb:l[i+1]?=some b):l=l.take i++a::b::l.drop (i+2):=by
 obtain⟨h1,e1⟩:=List.getElem?_eq_some_iff.1 ha
 obtain⟨h2,e2⟩:=List.getElem?_eq_some_iff.1 hb
 conv=>lhs;rw[←List.take_append_drop i l]
 rw[List.drop_eq_getElem_cons h1,List.drop_eq_getElem_cons h2,e1,e2]
theorem Cv (l:List Key):aP (cv l)≤l.length+1:=by
 have h1:=ue l
 have h2:=uf l
 unfold aP;omega
theorem gi {t:Tree} {i:Nat} {a:List (List Key)} (h:t.nodes[i]?=some a):ic t i=aQ a:=by unfold ic;rw[List.getD_eq_getElem?_getD,h];rfl
theorem qy (n:Nat) (t:Tree):jO (n+1) t=match oe t with|none=>t|some i=>jO n (cC t i):=rfl
theorem uh {t:Tree} {i:Nat} (h:i+1<t.nodes.length):tot aP (cC t i).nodes+(cC t i).nodes.length≤tot aP t.nodes+t.nodes.length:=by
 obtain⟨a,ha⟩: ∃a,t.nodes[i]?=some a:=⟨_,List.getElem?_eq_getElem (by omega)⟩
 obtain⟨b,hb⟩: ∃b,t.nodes[i+1]?=some b:=⟨_,List.getElem?_eq_getElem h⟩
 have hl:=rU h
 have hs:=congrArg (tot aP) (W0 ha hb)
 rw[BN] at hs
 simp only[tot] at hs
 have la:=cM a
 have lb:=cM b
 have hn:=Cv (ic t i++ic t (i+1))
 rw[List.length_append,gi ha,gi hb] at hn
 have e:tot aP (cC t i).nodes=tot aP (t.nodes.take i)+aP (cv (aQ a++aQ b))+tot aP (t.nodes.drop (i+2)):=by
  unfold cC jN
  simp only[]
  rw[BN,BN,gi ha,gi hb]
  simp[tot]
 have sa:aP a=a.length+tot bB a:=rfl
 have sb:aP b=b.length+tot bB b:=rfl
 omega
theorem QT {n:Nat} {t:Tree} (h:oe t=none):jO n t=t:=by
 cases n with
 |zero=>rfl
 |succ n=>rw[qy,h]
theorem BZ {t:Tree} {i:Nat} (h:i+1<t.nodes.length) (hl:t.lows.length=t.nodes.length):(cC t i).lows.length=(cC t i).nodes.length:=by
 have h1:=xW t i 2 [t.lows.getD i 0] [cv (ic t i++ic t (i+1))] (by omega)
 have h2:=AL t i 2 [t.lows.getD i 0] [cv (ic t i++ic t (i+1))] (by omega)
 simp only[List.length_singleton] at h1 h2
 unfold cC
 omega
theorem PC: ∀(n:Nat) (t:Tree),t.lows.length=t.nodes.length→tot aP (jO n t).nodes+(jO n t).nodes.length≤tot aP t.nodes+t.nodes.length∧(jO n t).lows.length=(jO n t).nodes.length
 |0,t,h=>⟨Nat.le_refl _,h⟩
 |n+1,t,h=>by
  rw[qy]
  cases hp:oe t with
  |none=>exact⟨Nat.le_refl _,h⟩
  |some i=>
   have hlt:=(qx hp).1
   have h1:=uh hlt
   have h2:=PC n (cC t i) (BZ hlt h)
   exact⟨by simp only[];omega,h2.2⟩
theorem PD {k:Key} (h:fW k=true):0≤k.b∧k.b≤15∧1≤k.a∧k.a≤60∧0≤k.k∧k.k≤2:=by
 simp only[fW,iQ,Bool.and_eq_true,decide_eq_true_eq] at h
 omega
theorem VK {b a:Int} (h: -1000≤b∧b≤1000∧ -1000≤a∧a≤1000):fX b a=64*b+a:=by
 unfold fX
 rw[VB (by omega),aJ (by omega)]
theorem QU {k:Key} (h:fW k=true):fX k.b k.a=64*k.b+k.a:=by
 have:=PD h
 exact VK (by omega)
theorem JS {f:Int→Bool} {l:List Int} {x:Int} (h0:l[0]?=some x) (hx:f x=true): ∀n:Nat,0<n→n≤l.length→ ∃j:Nat,pW f l n=j∧j<n
 |0,h,_=>by omega
 |n+1,_,hn=>by
  unfold pW
  rw[List.getElem?_eq_getElem (by omega)]
  simp only[]
  split
  ·exact⟨n,rfl,by omega⟩
  ·rename_i hf
   cases n with
   |zero=>
    rw[List.getElem?_eq_getElem (by omega)] at h0
    cases h0;exact absurd hx hf
   |succ n=>
    obtain⟨j,h1,h2⟩:=JS h0 hx (n+1) (by omega) (by omega)
    exact⟨j,h1,by omega⟩
theorem JT {t:Tree} {k:Key} (h:dS t=true) (hk:fW k=true): ∃j:Nat,kE t k.b k.a=j∧j<t.nodes.length:=by
 have h1:=pn h
 have h2:=PD hk
 have h3:=QU hk
 unfold kE
 have:=JS (f:=fun x=>decide (x≤fX k.b k.a)) (QN h) (by simp only[decide_eq_true_eq];omega) t.lows.length (by omega) (Nat.le_refl _)
 rw[h1.2.2] at this ⊢
 exact this
theorem PE (n:List (List Key)) (k:Key):aP (cc n k).1≤aP n+2:=by
 have h1:=AI n k
 have h2:=AJ n k
 unfold aP;omega
theorem Sy (t:Tree) (i c:Nat) (lows:List Int) (nodes:List (List (List Key))):tot aP (jN t i c lows nodes).nodes≤tot aP t.nodes+tot aP nodes:=by
 have h:tot aP (t.nodes.take i++t.nodes.drop i)=tot aP t.nodes:=by rw[List.take_append_drop]
 have h2:tot aP (t.nodes.drop (i+c))≤tot aP (t.nodes.drop i):=by
  rw[←List.drop_drop]
  have h3:tot aP ((t.nodes.drop i).take c++(t.nodes.drop i).drop c)=tot aP (t.nodes.drop i):=by rw[List.take_append_drop]
  rw[BN] at h3;omega
 unfold jN
 simp only[BN] at h ⊢
 omega
theorem VL {t:Tree} {i:Nat} {k:Key} (hl:t.lows.length=t.nodes.length) (hi:i<t.nodes.length) (ht: ∀n∈t.nodes,tot bB n≤8∧n.length≤3):
 tot aP (jz t i k).nodes≤tot aP t.nodes+40∧(jz t i k).nodes.length≤t.nodes.length+1∧(jz t i k).lows.length=(jz t i k).nodes.length:=by
 have hn:=ht t.nodes[i] (List.getElem_mem hi)
 have hg:t.nodes.getD i []=t.nodes[i]:=by rw[List.getD_eq_getElem?_getD,List.getElem?_eq_getElem hi];rfl
 have hp:=PE t.nodes[i] k
 have hk:=nD t.nodes[i] k
 have hz:aP t.nodes[i]=t.nodes[i].length+tot bB t.nodes[i]:=rfl
 unfold jz
 rw[hg]
 generalize cm t.nodes[i] k=l at*
 have e1:=Cv (l.take ((l.length+1)/2))
 have e2:=Cv (l.drop ((l.length+1)/2))
 rw[List.length_take] at e1
 rw[List.length_drop] at e2
 have key: ∀(lows:List Int) (nodes:List (List (List Key))),lows.length=nodes.length→nodes.length≤2→tot aP nodes≤40→tot aP (jN t i 1 lows nodes).nodes≤tot aP t.nodes+40∧(jN t i 1 lows nodes).nodes.length≤t.nodes.length+1∧(jN t i 1 lows nodes).lows.length=(jN t i 1 lows nodes).nodes.length:=by
  intro lows nodes h1 h2 h3
  have h4:=Sy t i 1 lows nodes
  have h5:=AL t i 1 lows nodes (by omega)
  have h6:=xW t i 1 lows nodes (by omega)
  omega
 split
 ·split
  ·exact key _ _ rfl (by simp) (by simp[tot])
  ·exact key _ _ rfl (by simp) (by simp only[tot];omega)
 ·exact key _ _ rfl (by simp) (by simp only[tot];omega)
theorem NS {t:Tree} (h:dS t=true): ∀n∈t.nodes,tot bB n≤8∧n.length≤3:=fun n hn=>by
 have:=BM (ug h hn);omega
theorem PF {t:Tree} {i:Nat} {k:Key} (h:dS t=true) (hi:i<t.nodes.length):
 tot aP (jz t i k).nodes+(jz t i k).nodes.length≤300∧(jz t i k).lows.length=(jz t i k).nodes.length∧dx (jO (jz t i k).nodes.length (jz t i k))≤600:=by
 have h1:=pn h
 have h2:=JQ h
 have h3:=VL (k:=k) h1.2.2 hi (NS h)
 have h4:=PC (jz t i k).nodes.length (jz t i k) h3.2.2
 refine⟨by omega,h3.2.2,?_⟩
 unfold dx pV
 omega
theorem RS {n:Nat} (h:8<n):(n+1)/2<n:=by omega
end Go.T
namespace Go.T
end Go.T
