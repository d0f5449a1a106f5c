/- A run has one result; the formulas, simplified. The program's data as rows; what the formulas say of them. Rows that are written, as data. Loops over lists: how a run of them is told. What the program's functions come to, in plain Lean. What the program's functions come to: nodes, trees, pools. What the program's functions come to: maps, equality, steps. What the program's functions come to: volumes taken away. Draws: a cursor over bytes. Ages and volumes put in: what the functions come to. Maps put in, taken out, resized: what the functions come to. A key put into a node: what it comes to. Sets of keys stay in order; a node that takes no key has more than it may. An operation out of bytes. A key put into a tree: what it comes to. Sizes of what is right; keys put into pools; what is done to pools. A key put into a tree: sizes, and where it goes. Each cell that is used is of one key. -/
import Derived.Test.YtiinnfilgnhjfaaGreatT5
set_option linter.unusedVariables false
set_option linter.unusedSimpArgs false
namespace Go.T
def VR (cf:Cf):Prop:= ∀f vs r fs r' fs',cf f vs r fs→cf f vs r' fs'→r=r'∧fs=fs'
def Xm (lp:Lp):Prop:= ∀f i c st (Q Q':TX→TS→Prop),lp f i c st Q→lp f i c st Q'→ ∃x s,Q x s∧Q' x s
theorem nC {R:Type} {cf:Cf} {lp:Lp} (hc:VR cf) (hl:Xm lp) {Q Q':R→Prop}: ∀(e:Ev R),e.holds cf lp Q→e.holds cf lp Q'→ ∃r,Q r∧Q' r
 | .fail,h,_=>h.elim
 | .ret r,h,h'=>⟨r,h,h'⟩
 | .test b k,h,h'=>nC hc hl (k b) h h'
 | .row rows i k,⟨c,h1,h2⟩,⟨c',h1',h2'⟩=>by
   rw[h1] at h1';cases h1'
   exact nC hc hl (k c) h2 h2'
 | .byte rows i k,⟨c,h1,h2⟩,⟨c',h1',h2'⟩=>by
   rw[h1] at h1';cases h1'
   exact nC hc hl (k c) h2 h2'
 | .bytes rows k,⟨c,h1,h2⟩,⟨c',h1',h2'⟩=>by
   rw[h1] at h1';cases h1'
   exact nC hc hl (k c) h2 h2'
 | .call f vs k,⟨r,fs,h1,h2⟩,⟨r',fs',h1',h2'⟩=>by
   obtain⟨rfl,rfl⟩:=hc _ _ _ _ _ _ h1 h1'
   exact nC hc hl (k r fs) h2 h2'
 | .loop f i c st k,h,h'=>by
   obtain⟨x,s,h1,h2⟩:=hl _ _ _ _ _ _ h h'
   exact nC hc hl (k x s) h1 h2
 | .both a b,⟨r,h1,h2,h3⟩,⟨r',h1',h2',h3'⟩=>by
   obtain⟨r0,e1,e2⟩:=nC hc hl a h1 h1'
   subst e1 e2
   exact⟨_,h3,h3'⟩
section
variable {C : kK}
theorem Pf {cf:Cf} {lp:Lp} (hc:VR cf) (hl:Xm lp) {fx:List Nat} {f i:Nat} {c:Code} {Q Q':TX→TS→Prop}: ∀(n:Nat) (st:TS),iter C cf lp fx f i c Q n st→iter C cf lp fx f i c Q' n st→ ∃x s,Q x s∧Q' x s
 |0,_,h,_=>h.elim
 |n+1,st,h,h'=>by
  obtain⟨⟨x,s⟩,h1,h2⟩:=nC hc hl _ h h'
  cases x with
  |norm=>
   simp only at h1 h2
   rw[qa] at h1 h2
   exact Pf hc hl n _ h1 h2
  |ex id=>exact⟨_,_,h1,h2⟩
  |ret=>exact⟨_,_,h1,h2⟩
theorem RM {cf:Cf} (hc:VR cf) (k:Nat) (fx:List Nat): ∀n,Xm (P7 C cf k fx n)
 |0=>fun _ _ _ _ _ _ h _=>h.elim
 |n+1=>fun f i c st Q Q' h h'=>Pf hc (RM hc k fx n) k st h h'
theorem EP: ∀k,VR (ic C k)
 |0=>fun _ _ _ _ _ _ h _=>h.elim
 |k+1=>fun f vs r fs r' fs' h h'=>by
  unfold ic at h h'
  cases hx:C.ext f with
  |some p=>rw[hx] at h h';have h:p vs=some (r,fs):=h;have h':p vs=some (r',fs'):=h';rw[h] at h';cases h';exact⟨rfl,rfl⟩
  |none=>
  rw[hx] at h h'
  simp only at h h'
  obtain⟨p,h1,h2⟩:=nC (EP k) (RM (EP k) k _ 4) _ h h'
  rw[h1] at h2
  cases h2
  exact⟨rfl,rfl⟩
theorem aa.Yq {f:FuncId} {vs:List TV} {r r':TV} {fs fs':List TV} (h:aa C f vs r fs) (h':aa C f vs r' fs'):r'=r∧fs'=fs:=by
 obtain⟨k,h⟩:=h
 obtain⟨k',h'⟩:=h'
 obtain⟨h1,h2⟩:=EP (max k k') _ _ _ _ _ _ (lz (Nat.le_max_left _ _) h) (lz (Nat.le_max_right _ _) h')
 exact⟨h1.symm,h2.symm⟩
end
def fE {α:Type} (l:List α) (i:Int):Option α:=if 0≤i then l[i.toNat]? else none
theorem aC {α:Type} (l:List α) (i:Nat):fE l (i:Int)=l[i]?:=by
 unfold fE;rw[if_pos (Int.natCast_nonneg i),Int.toNat_natCast]
theorem qm {α:Type} {l:List α} {i:Int} (h0:0≤i) (h1:i<l.length): ∃a,fE l i=some a:=by
 unfold fE;rw[if_pos h0];exact⟨_,List.getElem?_eq_getElem (by omega)⟩
theorem nD {α:Type} {l:List α} {i:Int} (h: ¬(0≤i∧i<l.length)):fE l i=none:=by
 unfold fE
 split
 ·exact List.getElem?_eq_none (by omega)
 ·rfl
theorem bF {α:Type} (e:α→List TC) (l:List α) (i:Int):rowAt (l.map e) i=(fE l i).map e:=by
 unfold rowAt fE
 split
 ·rw[List.getElem?_map]
 ·rfl
theorem Ut {α:Type} {l:List α} {i:Int} {a:α} (h:fE l i=some a):a∈l:=by
 unfold fE at h
 split at h
 ·exact List.mem_of_getElem? h
 ·cases h
def Yr {α:Type} (l:List α) (i:Int) (a:α):List α:=l.set i.toNat a
theorem Pg {α:Type} {e:α→List TC} {l:List α} {i:Int} {a a':α} {f:Nat} {cs:List TC} (h:fE l i=some a) (he:(e a).take f++cs++(e a).drop (f+cs.length)=e a'):setRow (l.map e) i f cs=(Yr l i a').map e:=by
 unfold fE at h
 split at h
 ·unfold setRow Yr
  rw[List.getElem?_map,h]
  simp only[Option.map_some,he,List.map_set]
 ·cases h
@[simp] theorem cA {α:Type} (e:α→List TC) (l:List α) (a b:Int):ay (l.map e) a b=((l.take b.toNat).drop a.toNat).map e:=by
  unfold ay;rw[←List.map_take,←List.map_drop]
theorem so {rows:List (List TC)} (h: ∀r∈rows,∀c∈r,∃v,c= .sc v):bR rows=true:=by
 unfold bR
 rw[List.all_eq_true]
 intro r hr
 rw[List.all_eq_true]
 intro c hc
 obtain⟨v,rfl⟩:=h r hr c hc
 rfl
@[simp] theorem ER (s:ByteArray):(ByteArray.data s).1.length=s.size:=rfl
@[simp] theorem AK (l h n:Int):ew l h n=decide (0≤l∧l≤h∧h≤n):=by unfold ew;rfl
end Go.T
namespace Go.T
structure Key where
 b:Int
 a:Int
 k:Int
 c:Int
 g:Int
 deriving DecidableEq
structure Age where
 id:Int
 fr:Int
 deriving DecidableEq
structure Cell where
 g:Int
 u:Bool
 n:Int
 deriving DecidableEq
structure Vol where
 name:ByteArray
 age:Int
 size:Int
 fx:Bool
structure Mp where
 name:ByteArray
 fx:Bool
 l:List Int
structure Tree where
 lows:List Int
 nodes:List (List (List Key))
structure Pool where
 t:Tree
 ages:List Age
 cells:List Cell
 vols:List Vol
 next:Int
structure Uu where
 kind:Int
 name:ByteArray
 to:ByteArray
 a:Int
 b:Int
abbrev iI (n:Int):TC:= .sc (.int .i64 n)
abbrev iB (b:Bool):TC:= .sc (.bool b)
abbrev iS (s:ByteArray):TC:= .sc (.string s)
abbrev cI (n:Int):CE:= .sc (.int .i64 n)
abbrev cB (b:Bool):CE:= .sc (.bool b)
abbrev cS (s:ByteArray):CE:= .sc (.string s)
abbrev av (a b:Int):Int:=PY .i64 a b
abbrev dm (a b:Int):Int:=I1 .i64 a b
abbrev VS (a b:Int):Int:=PZ .i64 a b
theorem aB {a b:Int} (h: -9223372036854775808≤a+b∧a+b≤9223372036854775807):av a b=a+b:=VM h
theorem dN {a b:Int} (h: -9223372036854775808≤a-b∧a-b≤9223372036854775807):dm a b=a-b:=VN h
theorem VT {a b:Int} (h: -9223372036854775808≤a*b∧a*b≤9223372036854775807):VS a b=a*b:=VO h
abbrev RR:=List (List TC)
abbrev QV:=TV→List TV→Prop
abbrev QX:=TX→TS→Prop
abbrev sI:Sh:= .int .i64
abbrev sB:Sh:= .bool
abbrev sS:Sh:= .str
abbrev hz:Hint:= .z
abbrev hb:Hint→Hint→Hint:= .br
abbrev hr:List Sh→Hint→Hint:= .row
abbrev hc:AJ→List AJ→Hint→Hint:= .call
abbrev Yt:ByteArray:=⟨#[]⟩
def bG (n:Int):List TC:=[.sc (.int .i64 n)]
def AL (n:Int):List TC:=[.sc (.int .u8 n)]
def Gu (n:Bool):List TC:=[.sc (.bool n)]
def bD (x:Key):List TC:=[.sc (.int .i64 x.b),.sc (.int .i64 x.a),.sc (.int .i64 x.k),.sc (.int .i64 x.c),.sc (.int .i64 x.g)]
def di (x:Age):List TC:=[.sc (.int .i64 x.id),.sc (.int .i64 x.fr)]
def bJ (x:Cell):List TC:=[.sc (.int .i64 x.g),.sc (.bool x.u),.sc (.int .i64 x.n)]
def dJ (x:Vol):List TC:=[.sc (.string x.name),.sc (.int .i64 x.age),.sc (.int .i64 x.size),.sc (.bool x.fx)]
def NN (x:Uu):List TC:=[.sc (.int .i64 x.kind),.sc (.string x.name),.sc (.string x.to),.sc (.int .i64 x.a),.sc (.int .i64 x.b)]
def ES (x:Mp):List TC:=[.sc (.string x.name),.sc (.bool x.fx),.sub 1 (x.l.map bG)]
def Uv (x:List Int):List TC:=[.sub 1 (x.map AL)]
def bS (x:List Key):List TC:=[.sub 5 (x.map bD)]
def aI (x:List (List Key)):List TC:=[.sub 1 (x.map bS)]
abbrev RN (t:Tree):List TC:=[.sub 1 (t.lows.map bG),.sub 1 (t.nodes.map aI)]
abbrev WG (p:Pool):List TC:=[.sub 1 (p.t.lows.map bG),.sub 1 (p.t.nodes.map aI),.sub 2 (p.ages.map di),.sub 3 (p.cells.map bJ),.sub 4 (p.vols.map dJ),.sc (.int .i64 p.next)]
abbrev vI (n:Int):TV:= .c (.sc (.int .i64 n))
abbrev vB (b:Bool):TV:= .c (.sc (.bool b))
abbrev vS (s:ByteArray):TV:= .c (.sc (.string s))
abbrev p7 (l:List Int):TV:= .c (.sub 1 (l.map bG))
abbrev cJ (l:List Key):TV:= .c (.sub 5 (l.map bD))
abbrev Dv (l:List (List Key)):TV:= .c (.sub 1 (l.map bS))
abbrev sq (l:List (List (List Key))):TV:= .c (.sub 1 (l.map aI))
abbrev jP (l:List Age):TV:= .c (.sub 2 (l.map di))
abbrev e9 (l:List Cell):TV:= .c (.sub 3 (l.map bJ))
abbrev AM (l:List Vol):TV:= .c (.sub 4 (l.map dJ))
abbrev Ah (k:Key):TV:= .ag [.sc (.int .i64 k.b),.sc (.int .i64 k.a),.sc (.int .i64 k.k),.sc (.int .i64 k.c),.sc (.int .i64 k.g)]
abbrev fY (n:List (List Key)):TV:= .ag [.sub 1 (n.map bS)]
abbrev dG (t:Tree):TV:= .ag (RN t)
abbrev fZ (p:Pool):TV:= .ag (WG p)
section
variable {i : Int}
@[simp] theorem vv {l:List Int} {K:Int→Prop}:(∃n,rowAt (l.map bG) i=some [.sc (.int .i64 n)]∧K n)↔ ∃a,fE l i=some a∧K a:=by
  rw[bF]
  constructor
  ·rintro⟨n,h,hK⟩
   obtain⟨a,ha,h⟩:=Option.map_eq_some_iff.1 h
   unfold bG at h;cases h;exact⟨_,ha,hK⟩
  ·rintro⟨a,ha,hK⟩
   exact⟨_,by rw[ha];rfl,hK⟩
@[simp] theorem YO {l:List Int} {K:Int→Prop}:(∃n,rowAt (l.map AL) i=some [.sc (.int .u8 n)]∧K n)↔ ∃a,fE l i=some a∧K a:=by
  rw[bF]
  constructor
  ·rintro⟨n,h,hK⟩
   obtain⟨a,ha,h⟩:=Option.map_eq_some_iff.1 h
   unfold AL at h;cases h;exact⟨_,ha,hK⟩
  ·rintro⟨a,ha,hK⟩
   exact⟨_,by rw[ha];rfl,hK⟩
@[simp] theorem VU {l:List Bool} {K:Bool→Prop}:(∃n,rowAt (l.map Gu) i=some [.sc (.bool n)]∧K n)↔ ∃a,fE l i=some a∧K a:=by
  rw[bF]
  constructor
  ·rintro⟨n,h,hK⟩
   obtain⟨a,ha,h⟩:=Option.map_eq_some_iff.1 h
   unfold Gu at h;cases h;exact⟨_,ha,hK⟩
  ·rintro⟨a,ha,hK⟩
   exact⟨_,by rw[ha];rfl,hK⟩
@[simp] theorem mF {l:List Key} {K:Int→Int→Int→Int→Int→Prop}:(∃b a k c g,rowAt (l.map bD) i=some [.sc (.int .i64 b),.sc (.int .i64 a),.sc (.int .i64 k),.sc (.int .i64 c),.sc (.int .i64 g)]∧K b a k c g)↔ ∃x,fE l i=some x∧K x.b x.a x.k x.c x.g:=by
  rw[bF]
  constructor
  ·rintro⟨_,_,_,_,_,h,hK⟩
   obtain⟨a,ha,h⟩:=Option.map_eq_some_iff.1 h
   unfold bD at h;cases h;exact⟨_,ha,hK⟩
  ·rintro⟨a,ha,hK⟩
   exact⟨_,_,_,_,_,by rw[ha];rfl,hK⟩
@[simp] theorem vw {l:List Age} {K:Int→Int→Prop}:(∃b a,rowAt (l.map di) i=some [.sc (.int .i64 b),.sc (.int .i64 a)]∧K b a)↔ ∃x,fE l i=some x∧K x.id x.fr:=by
  rw[bF]
  constructor
  ·rintro⟨_,_,h,hK⟩
   obtain⟨a,ha,h⟩:=Option.map_eq_some_iff.1 h
   unfold di at h;cases h;exact⟨_,ha,hK⟩
  ·rintro⟨a,ha,hK⟩
   exact⟨_,_,by rw[ha];rfl,hK⟩
@[simp] theorem kH {l:List Cell} {K:Int→Bool→Int→Prop}:(∃g u n,rowAt (l.map bJ) i=some [.sc (.int .i64 g),.sc (.bool u),.sc (.int .i64 n)]∧K g u n)↔ ∃x,fE l i=some x∧K x.g x.u x.n:=by
  rw[bF]
  constructor
  ·rintro⟨_,_,_,h,hK⟩
   obtain⟨a,ha,h⟩:=Option.map_eq_some_iff.1 h
   unfold bJ at h;cases h;exact⟨_,ha,hK⟩
  ·rintro⟨a,ha,hK⟩
   exact⟨_,_,_,by rw[ha];rfl,hK⟩
@[simp] theorem ET {l:List Vol} {K:ByteArray→Int→Int→Bool→Prop}:(∃s a z f,rowAt (l.map dJ) i=some [.sc (.string s),.sc (.int .i64 a),.sc (.int .i64 z),.sc (.bool f)]∧K s a z f)↔ ∃x,fE l i=some x∧K x.name x.age x.size x.fx:=by
  rw[bF]
  constructor
  ·rintro⟨_,_,_,_,h,hK⟩
   obtain⟨a,ha,h⟩:=Option.map_eq_some_iff.1 h
   unfold dJ at h;cases h;exact⟨_,ha,hK⟩
  ·rintro⟨a,ha,hK⟩
   exact⟨_,_,_,_,by rw[ha];rfl,hK⟩
@[simp] theorem Zo {l:List Uu} {K:Int→ByteArray→ByteArray→Int→Int→Prop}:(∃k s t a b,rowAt (l.map NN) i=some [.sc (.int .i64 k),.sc (.string s),.sc (.string t),.sc (.int .i64 a),.sc (.int .i64 b)]∧K k s t a b)↔ ∃x,fE l i=some x∧K x.kind x.name x.to x.a x.b:=by
  rw[bF]
  constructor
  ·rintro⟨_,_,_,_,_,h,hK⟩
   obtain⟨a,ha,h⟩:=Option.map_eq_some_iff.1 h
   unfold NN at h;cases h;exact⟨_,ha,hK⟩
  ·rintro⟨a,ha,hK⟩
   exact⟨_,_,_,_,_,by rw[ha];rfl,hK⟩
@[simp] theorem Y8 {l:List Mp} {K:ByteArray→Bool→List (List TC)→Prop}:(∃s f r,rowAt (l.map ES) i=some [.sc (.string s),.sc (.bool f),.sub 1 r]∧K s f r)↔ ∃x,fE l i=some x∧K x.name x.fx (x.l.map bG):=by
  rw[bF]
  constructor
  ·rintro⟨_,_,_,h,hK⟩
   obtain⟨a,ha,h⟩:=Option.map_eq_some_iff.1 h
   unfold ES at h;cases h;exact⟨_,ha,hK⟩
  ·rintro⟨a,ha,hK⟩
   exact⟨_,_,_,by rw[ha];rfl,hK⟩
@[simp] theorem sr {l:List (List Key)} {K:List (List TC)→Prop}:(∃r,rowAt (l.map bS) i=some [.sub 5 r]∧K r)↔ ∃x,fE l i=some x∧K (x.map bD):=by
  rw[bF]
  constructor
  ·rintro⟨_,h,hK⟩
   obtain⟨a,ha,h⟩:=Option.map_eq_some_iff.1 h
   unfold bS at h;cases h;exact⟨_,ha,hK⟩
  ·rintro⟨a,ha,hK⟩
   exact⟨_,by rw[ha];rfl,hK⟩
@[simp] theorem rK {l:List (List (List Key))} {K:List (List TC)→Prop}:(∃r,rowAt (l.map aI) i=some [.sub 1 r]∧K r)↔ ∃x,fE l i=some x∧K (x.map bS):=by
  rw[bF]
  constructor
  ·rintro⟨_,h,hK⟩
   obtain⟨a,ha,h⟩:=Option.map_eq_some_iff.1 h
   unfold aI at h;cases h;exact⟨_,ha,hK⟩
  ·rintro⟨a,ha,hK⟩
   exact⟨_,by rw[ha];rfl,hK⟩
@[simp] theorem Yu {l:List (List Int)} {K:List (List TC)→Prop}:(∃r,rowAt (l.map Uv) i=some [.sub 1 r]∧K r)↔ ∃x,fE l i=some x∧K (x.map AL):=by
  rw[bF]
  constructor
  ·rintro⟨_,h,hK⟩
   obtain⟨a,ha,h⟩:=Option.map_eq_some_iff.1 h
   unfold Uv at h;cases h;exact⟨_,ha,hK⟩
  ·rintro⟨a,ha,hK⟩
   exact⟨_,by rw[ha];rfl,hK⟩
end
theorem fF (n:Nat):Int.ofNat n=(n:Int):=rfl
@[simp] theorem natAdd (a b:Nat):Nat.add a b=a+b:=rfl
@[simp] theorem RO {α:Type} (a b:List α):List.append a b=a++b:=rfl
theorem jE (l:List Int):bR (l.map bG)=true:=so fun r hr c hc=>by
 obtain⟨a,_,rfl⟩:=List.mem_map.1 hr;unfold bG at hc;simp only[List.mem_singleton] at hc;exact⟨_,hc⟩
theorem QI (l:List Int):bR (l.map AL)=true:=so fun r hr c hc=>by
 obtain⟨a,_,rfl⟩:=List.mem_map.1 hr;unfold AL at hc;simp only[List.mem_singleton] at hc;exact⟨_,hc⟩
theorem jF (l:List Key):bR (l.map bD)=true:=so fun r hr c hc=>by
 obtain⟨a,_,rfl⟩:=List.mem_map.1 hr;unfold bD at hc;simp only[List.mem_cons,List.not_mem_nil,or_false] at hc
 rcases hc with h|h|h|h|h<;>exact⟨_,h⟩
theorem BJ (l:List Age):bR (l.map di)=true:=so fun r hr c hc=>by
 obtain⟨a,_,rfl⟩:=List.mem_map.1 hr;unfold di at hc;simp only[List.mem_cons,List.not_mem_nil,or_false] at hc
 rcases hc with h|h<;>exact⟨_,h⟩
theorem Cq (l:List Cell):bR (l.map bJ)=true:=so fun r hr c hc=>by
 obtain⟨a,_,rfl⟩:=List.mem_map.1 hr;unfold bJ at hc;simp only[List.mem_cons,List.not_mem_nil,or_false] at hc
 rcases hc with h|h|h<;>exact⟨_,h⟩
theorem BK (l:List Vol):bR (l.map dJ)=true:=so fun r hr c hc=>by
 obtain⟨a,_,rfl⟩:=List.mem_map.1 hr;unfold dJ at hc;simp only[List.mem_cons,List.not_mem_nil,or_false] at hc
 rcases hc with h|h|h|h<;>exact⟨_,h⟩
@[simp] theorem Uw (v:Value):bR [[.sc v]]=true:=so fun r hr c hc=>by
  simp only[List.mem_singleton] at hr;subst hr;simp only[List.mem_singleton] at hc;exact⟨_,hc⟩
attribute [simp] jE QI jF BJ Cq BK
end Go.T
namespace Go.T
theorem EU {α:Type} (g:α→α): ∀(l:List α) (i:Nat) (a:α),l[i]?=some a→l.modify i g=l.set i (g a)
 |[],i,a,h=>by simp at h
 |x::r,0,a,h=>by simp only[List.getElem?_cons_zero,Option.some.injEq] at h;subst h;rfl
 |x::r,i+1,a,h=>by
  simp only[List.getElem?_cons_succ] at h
  rw[List.modify_succ_cons,List.set_cons_succ,EU g r i a h]
theorem bN {α:Type} {e:α→List TC} {l:List α} {i:Int} {f:Nat} {cs:List TC} {g:α→α} (he: ∀a,(e a).take f++cs++(e a).drop (f+cs.length)=e (g a)):setRow (l.map e) i f cs=(l.modify i.toNat g).map e:=by
 unfold setRow
 rw[List.getElem?_map]
 cases h:l[i.toNat]? with
 |none=>
  have:l.length≤i.toNat:=List.getElem?_eq_none_iff.1 h
  simp only[Option.map_none]
  rw[List.modify_eq_self this]
 |some a=>
  simp only[Option.map_some]
  rw[he,EU g l _ a h,List.map_set]
theorem lP {α:Type} {l:List α} {i:Int} {g:α→α}:fE (l.modify i.toNat g) i=(fE l i).map g:=by
 unfold fE
 split
 ·simp
 ·rfl
theorem mod_mod {α:Type} {l:List α} {i:Nat} {f g:α→α}:(l.modify i f).modify i g=l.modify i (fun x=>g (f x)):=by
 rw[List.modify_modify_eq];rfl
theorem gy {α β:Type} {o:Option α} {f:α→β} {K:β→Prop}:(∃x,o.map f=some x∧K x)↔ ∃x,o=some x∧K (f x):=by
 cases o with
 |none=>simp
 |some a=>simp
theorem jQ {α:Type} {d r:List α} {a:α}:fE (d++a::r) (d.length:Int)=some a:=by
 rw[aC];simp
theorem xW {α:Type} {d r:List α} {a:α} {f:α→α}:(d++a::r).modify ((d.length:Int).toNat) f=d++f a::r:=by
 rw[Int.toNat_natCast,EU f _ _ a (by simp)]
 simp
@[simp] theorem Ux {l:List Key} {i:Int} {v:Int}:setRow (l.map bD) i 0 [.sc (.int .i64 v)]=(l.modify i.toNat fun x=>{x with b:=v}).map bD:=bN fun a=>rfl
@[simp] theorem Uy {l:List Key} {i:Int} {v:Int}:setRow (l.map bD) i 1 [.sc (.int .i64 v)]=(l.modify i.toNat fun x=>{x with a:=v}).map bD:=bN fun a=>rfl
@[simp] theorem Uz {l:List Key} {i:Int} {v:Int}:setRow (l.map bD) i 2 [.sc (.int .i64 v)]=(l.modify i.toNat fun x=>{x with k:=v}).map bD:=bN fun a=>rfl
@[simp] theorem UA {l:List Key} {i:Int} {v:Int}:setRow (l.map bD) i 3 [.sc (.int .i64 v)]=(l.modify i.toNat fun x=>{x with c:=v}).map bD:=bN fun a=>rfl
@[simp] theorem UB {l:List Key} {i:Int} {v:Int}:setRow (l.map bD) i 4 [.sc (.int .i64 v)]=(l.modify i.toNat fun x=>{x with g:=v}).map bD:=bN fun a=>rfl
@[simp] theorem Xn {l:List Key} {i:Int} {v0:Int} {v1:Int} {v2:Int} {v3:Int} {v4:Int}:setRow (l.map bD) i 0 [.sc (.int .i64 v0),.sc (.int .i64 v1),.sc (.int .i64 v2),.sc (.int .i64 v3),.sc (.int .i64 v4)]=(l.modify i.toNat fun _=>⟨v0,v1,v2,v3,v4⟩).map bD:=bN fun a=>rfl
@[simp] theorem Sq {l:List Age} {i:Int} {v:Int}:setRow (l.map di) i 0 [.sc (.int .i64 v)]=(l.modify i.toNat fun x=>{x with id:=v}).map di:=bN fun a=>rfl
@[simp] theorem Ss {l:List Age} {i:Int} {v:Int}:setRow (l.map di) i 1 [.sc (.int .i64 v)]=(l.modify i.toNat fun x=>{x with fr:=v}).map di:=bN fun a=>rfl
@[simp] theorem Xo {l:List Age} {i:Int} {v0:Int} {v1:Int}:setRow (l.map di) i 0 [.sc (.int .i64 v0),.sc (.int .i64 v1)]=(l.modify i.toNat fun _=>⟨v0,v1⟩).map di:=bN fun a=>rfl
@[simp] theorem St {l:List Cell} {i:Int} {v:Int}:setRow (l.map bJ) i 0 [.sc (.int .i64 v)]=(l.modify i.toNat fun x=>{x with g:=v}).map bJ:=bN fun a=>rfl
@[simp] theorem EV {l:List Cell} {i:Int} {v:Bool}:setRow (l.map bJ) i 1 [.sc (.bool v)]=(l.modify i.toNat fun x=>{x with u:=v}).map bJ:=bN fun a=>rfl
@[simp] theorem EW {l:List Cell} {i:Int} {v:Int}:setRow (l.map bJ) i 2 [.sc (.int .i64 v)]=(l.modify i.toNat fun x=>{x with n:=v}).map bJ:=bN fun a=>rfl
@[simp] theorem NO {l:List Cell} {i:Int} {v0:Int} {v1:Bool} {v2:Int}:setRow (l.map bJ) i 0 [.sc (.int .i64 v0),.sc (.bool v1),.sc (.int .i64 v2)]=(l.modify i.toNat fun _=>⟨v0,v1,v2⟩).map bJ:=bN fun a=>rfl
@[simp] theorem Ph {l:List Vol} {i:Int} {v:ByteArray}:setRow (l.map dJ) i 0 [.sc (.string v)]=(l.modify i.toNat fun x=>{x with name:=v}).map dJ:=bN fun a=>rfl
@[simp] theorem QJ {l:List Vol} {i:Int} {v:Int}:setRow (l.map dJ) i 1 [.sc (.int .i64 v)]=(l.modify i.toNat fun x=>{x with age:=v}).map dJ:=bN fun a=>rfl
@[simp] theorem Pj {l:List Vol} {i:Int} {v:Int}:setRow (l.map dJ) i 2 [.sc (.int .i64 v)]=(l.modify i.toNat fun x=>{x with size:=v}).map dJ:=bN fun a=>rfl
@[simp] theorem Su {l:List Vol} {i:Int} {v:Bool}:setRow (l.map dJ) i 3 [.sc (.bool v)]=(l.modify i.toNat fun x=>{x with fx:=v}).map dJ:=bN fun a=>rfl
@[simp] theorem Xp {l:List Vol} {i:Int} {v0:ByteArray} {v1:Int} {v2:Int} {v3:Bool}:setRow (l.map dJ) i 0 [.sc (.string v0),.sc (.int .i64 v1),.sc (.int .i64 v2),.sc (.bool v3)]=(l.modify i.toNat fun _=>⟨v0,v1,v2,v3⟩).map dJ:=bN fun a=>rfl
@[simp] theorem Xq {l:List Uu} {i:Int} {v:Int}:setRow (l.map NN) i 0 [.sc (.int .i64 v)]=(l.modify i.toNat fun x=>{x with kind:=v}).map NN:=bN fun a=>rfl
@[simp] theorem Xt {l:List Uu} {i:Int} {v:ByteArray}:setRow (l.map NN) i 1 [.sc (.string v)]=(l.modify i.toNat fun x=>{x with name:=v}).map NN:=bN fun a=>rfl
@[simp] theorem Yv {l:List Uu} {i:Int} {v:ByteArray}:setRow (l.map NN) i 2 [.sc (.string v)]=(l.modify i.toNat fun x=>{x with to:=v}).map NN:=bN fun a=>rfl
@[simp] theorem YP {l:List Uu} {i:Int} {v:Int}:setRow (l.map NN) i 3 [.sc (.int .i64 v)]=(l.modify i.toNat fun x=>{x with a:=v}).map NN:=bN fun a=>rfl
@[simp] theorem YQ {l:List Uu} {i:Int} {v:Int}:setRow (l.map NN) i 4 [.sc (.int .i64 v)]=(l.modify i.toNat fun x=>{x with b:=v}).map NN:=bN fun a=>rfl
@[simp] theorem Zq {l:List Uu} {i:Int} {v0:Int} {v1:ByteArray} {v2:ByteArray} {v3:Int} {v4:Int}:setRow (l.map NN) i 0 [.sc (.int .i64 v0),.sc (.string v1),.sc (.string v2),.sc (.int .i64 v3),.sc (.int .i64 v4)]=(l.modify i.toNat fun _=>⟨v0,v1,v2,v3,v4⟩).map NN:=bN fun a=>rfl
@[simp] theorem WH {l:List Mp} {i:Int} {v:ByteArray}:setRow (l.map ES) i 0 [.sc (.string v)]=(l.modify i.toNat fun x=>{x with name:=v}).map ES:=bN fun a=>rfl
@[simp] theorem X9 {l:List Mp} {i:Int} {v:Bool}:setRow (l.map ES) i 1 [.sc (.bool v)]=(l.modify i.toNat fun x=>{x with fx:=v}).map ES:=bN fun a=>rfl
@[simp] theorem Yw {l:List Mp} {i:Int} {v:List Int}:setRow (l.map ES) i 2 [.sub 1 (v.map bG)]=(l.modify i.toNat fun x=>{x with l:=v}).map ES:=bN fun a=>rfl
@[simp] theorem Y9 {l:List Mp} {i:Int} {v0:ByteArray} {v1:Bool} {v2:List Int}:setRow (l.map ES) i 0 [.sc (.string v0),.sc (.bool v1),.sub 1 (v2.map bG)]=(l.modify i.toNat fun _=>⟨v0,v1,v2⟩).map ES:=bN fun a=>rfl
@[simp] theorem Xu {l:List (Int)} {i:Int} {v:Int}:setRow (l.map bG) i 0 [.sc (.int .i64 v)]=(l.modify i.toNat fun _=>v).map bG:=bN fun a=>rfl
@[simp] theorem YR {l:List (Int)} {i:Int} {v:Int}:setRow (l.map AL) i 0 [.sc (.int .u8 v)]=(l.modify i.toNat fun _=>v).map AL:=bN fun a=>rfl
@[simp] theorem VV {l:List (Bool)} {i:Int} {v:Bool}:setRow (l.map Gu) i 0 [.sc (.bool v)]=(l.modify i.toNat fun _=>v).map Gu:=bN fun a=>rfl
@[simp] theorem Xv {l:List (List Key)} {i:Int} {v:List Key}:setRow (l.map bS) i 0 [.sub 5 (v.map bD)]=(l.modify i.toNat fun _=>v).map bS:=bN fun a=>rfl
@[simp] theorem VW {l:List (List (List Key))} {i:Int} {v:List (List Key)}:setRow (l.map aI) i 0 [.sub 1 (v.map bS)]=(l.modify i.toNat fun _=>v).map aI:=bN fun a=>rfl
end Go.T
namespace Go.T
theorem bk {α:Type} (l:List α) (P:Nat→Prop) (fin:P l.length) (step: ∀i a,i<l.length→l[i]?=some a→l.drop i=a::l.drop (i+1)→l.take (i+1)=l.take i++[a]→P (i+1)→P i):P 0:=by
 have: ∀k i,i+k=l.length→P i:=by
  intro k
  induction k with
  |zero=>intro i h;have:i=l.length:=by omega
         subst this;exact fin
  |succ k ih=>
   intro i h
   have hi:i<l.length:=by omega
   refine step i l[i] hi (List.getElem?_eq_getElem hi) (List.drop_eq_getElem_cons hi) ?_ (ih (i+1) (by omega))
   rw[List.take_add_one,List.getElem?_eq_getElem hi];rfl
 exact this l.length 0 (by omega)
theorem xX {α:Type} {e:α→List TC} {z:List TC} (l:List α) (P:Int→RR→Prop) (hz: ∀a,(e a).length=z.length) (fin:P l.length (l.map e))
 (step: ∀(i:Nat) rows a,i<l.length→l[i]?=some a→rowAt rows i=some z→P ((i:Int)+1) (setRow rows i 0 (e a))→P i rows):P 0 (List.replicate l.length z):=by
 have: ∀i:Nat,i≤l.length→P (i:Int) ((l.take i).map e++List.replicate (l.length-i) z)→P 0 (List.replicate l.length z):=by
  intro i
  induction i with
  |zero=>intro _ h;simpa using h
  |succ i ih=>
   intro hi h
   refine ih (by omega) ?_
   have hlt:i<l.length:=by omega
   have ha:=List.getElem?_eq_getElem hlt
   have hk:l.length-i=(l.length-(i+1))+1:=by omega
   rw[hk]
   refine step i _ l[i] hlt ha (Ur (by omega)) ?_
   rw[Pb (e:=e) ha rfl (hz _).symm]
   exact h
 refine this l.length (Nat.le_refl _) ?_
 simpa using fin
def tot {α:Type} (w:α→Nat):List α→Nat
 |[]=>0
 |a::r=>w a+tot w r
def fD {α:Type} (mk:α→Int→α) (w:α→Nat):List α→Int→List α
 |[],_=>[]
 |a::r,k=>mk a k::fD mk w r (k+w a)
theorem rU {α:Type} {e:α→List TC} (mk:α→Int→α) (w:α→Nat) (P:Int→Int→RR→Prop) (B:Int)
 (step: ∀(d:List α) a r (k:Int),0≤k→k+w a≤B→d.length<1099511627776→P (k+w a) ((d.length:Int)+1) ((d++mk a k::r).map e)→P k d.length ((d++a::r).map e)):
 ∀(r d:List α) (k:Int),0≤k→k+tot w r≤B→d.length+r.length≤1099511627776→P (k+tot w r) ((d.length+r.length:Nat):Int) ((d++fD mk w r k).map e)→P k d.length ((d++r).map e)
 |[],d,k,_,_,_,h=>by simpa [fD,tot] using h
 |a::r,d,k,h0,h1,h2,h=>by
  simp only[tot,List.length_cons] at h1 h2 h
  refine step d a r k h0 (by omega) (by omega) ?_
  have:=rU mk w P B step r (d++[mk a k]) (k+w a) (by omega) (by omega) (by simp;omega) (by
   simp only[List.append_assoc,List.singleton_append,List.length_append,List.length_singleton]
   rw[show k+(w a:Int)+(tot w r:Int)=k+((w a+tot w r:Nat):Int) by omega,show d.length+1+r.length=d.length+(r.length+1) by omega]
   exact h)
  simpa using this
theorem rV {α:Type} {e:α→List TC} (mk:α→Int→α) (w:α→Nat) (P:Int→Int→RR→Prop) (B:Int)
 (step: ∀(d:List α) a r (k:Int),0≤k→k+w a≤B→d.length<1099511627776→P (k+w a) ((d.length:Int)+1) ((d++mk a k::r).map e)→P k d.length ((d++mk a k::r).map e)):
 ∀(r d:List α) (k:Int),0≤k→k+tot w r≤B→d.length+r.length≤1099511627776→P (k+tot w r) ((d.length+r.length:Nat):Int) ((d++fD mk w r k).map e)→P k d.length ((d++fD mk w r k).map e)
 |[],d,k,_,_,_,h=>by simpa [fD,tot] using h
 |a::r,d,k,h0,h1,h2,h=>by
  simp only[tot,List.length_cons,fD] at h1 h2 h ⊢
  refine step d a _ k h0 (by omega) (by omega) ?_
  have:=rV mk w P B step r (d++[mk a k]) (k+w a) (by omega) (by omega) (by simp;omega) (by
   simp only[List.append_assoc,List.singleton_append,List.length_append,List.length_singleton]
   rw[show k+(w a:Int)+(tot w r:Int)=k+((w a+tot w r:Nat):Int) by omega,show d.length+1+r.length=d.length+(r.length+1) by omega]
   exact h)
  simpa using this
theorem rW {α:Type} (n:Nat): ∀l:List α,tot (fun _=>n) l=n*l.length
 |[]=>rfl
 |a::r=>by simp only[tot,rW n r,List.length_cons,Nat.mul_add];omega
theorem kO {α:Type} (mk:α→Int→α) (w:α→Nat): ∀(l:List α) (k:Int),(fD mk w l k).length=l.length
 |[],_=>rfl
 |a::r,k=>by simp[fD,kO mk w r]
theorem qw {α:Type} {w:α→Nat}: ∀{l:List α} {a:α},a∈l→w a≤tot w l
 |[],_,h=>by cases h
 |b::r,a,h=>by
  simp only[tot]
  rcases List.mem_cons.1 h with rfl|h
  ·omega
  ·have:=qw (w:=w) h;omega
theorem jR {α:Type} {w:α→Nat} {l:List α} {i:Nat} {a:α} (h:l[i]?=some a):w a≤tot w l:=qw (List.mem_of_getElem? h)
def bB (s:List Key):Nat:=s.length
def aH (n:List (List Key)):Nat:=n.length+tot bB n
def pN (n:List (List (List Key))):Nat:=n.length+tot aH n
def dO (t:Tree):Nat:=t.lows.length+pN t.nodes
def pk (v:Vol):Nat:=v.name.size
def EX (l:List Vol):Nat:=l.length+tot pk l
def cY (p:Pool):Nat:=dO p.t+p.ages.length+p.cells.length+EX p.vols
def lC (left:Int) (n:Nat):Int:=if left<n then-1 else left-n
end Go.T
namespace Go.T
section
variable {C : kK} {f : FuncId} {vs : List TV}
theorem rL {x b:Bool} (h:aa C f vs (vB x) []):aa C f vs (vB b) []↔b=x:=⟨fun h'=>by have:=(h.Yq h').1;simpa using this,fun e=>e▸h⟩
theorem UC {x b:Int} (h:aa C f vs (vI x) []):aa C f vs (vI b) []↔b=x:=⟨fun h'=>by have:=(h.Yq h').1;simpa using this,fun e=>e▸h⟩
theorem Zc {x b:ByteArray} (h:aa C f vs (vS x) []):aa C f vs (vS b) []↔b=x:=⟨fun h'=>by have:=(h.Yq h').1;simpa using this,fun e=>e▸h⟩
theorem Pk {z:Nat} {x b:RR} (h:aa C f vs (.c (.sub z x)) []):aa C f vs (.c (.sub z b)) []↔b=x:=⟨fun h'=>by have:=(h.Yq h').1;simpa using this,fun e=>e▸h⟩
theorem WI {x b:Int} {y c:Bool} (h:aa C f vs (.tu [(0,[iI x]),(0,[iB y])]) []):aa C f vs (.tu [(0,[iI b]),(0,[iB c])]) []↔b=x∧c=y:=⟨fun h'=>by have:=(h.Yq h').1;simpa using this,fun⟨e,e'⟩=>e▸e'▸h⟩
end
theorem MU {s:ByteArray} {i:Nat} (h:i<s.size): ∃n:Int,p8 s i=some n∧0≤n∧n≤255:=by
 unfold p8
 rw[if_pos (Int.natCast_nonneg i),Int.toNat_natCast]
 have:s[i]?=some s[i]:=getElem?_pos s i h
 rw[this]
 have:=(s[i]).toNat_lt
 refine⟨_,rfl,?_,?_⟩<;>show _≤_<;>simp only[]<;>omega
theorem Pm {n:Int} (h: -9223372036854775808≤n∧n≤9223372036854775807):q7 .i64 n=n:=by unfold q7;exact IntWalk.i64_in _ h
def iQ (a lo hi:Int):Bool:=decide (lo≤a∧a≤hi)
def mH (a:Int):Bool:=iQ a 0 65535
def ga (x:Key):Bool:=iQ x.b 0 15&&iQ x.a 1 60&&iQ x.k 0 2&&(if x.k=1 then iQ x.c 0 23&&iQ x.g 0 999 else decide (x.c=0)&&decide (x.g=0))
def dj (x y:Key):Bool:=decide (x.b<y.b∨(x.b=y.b∧x.a<y.a))
def kP (x y:Key):Bool:=decide (x.b=y.b∧x.a=y.a)
def cv (n:Nat) (f:Nat→Bool):Bool:=(List.range' 0 n).all f
theorem jo {i n:Nat} (h:i<n):List.range' i (n-i)=i::List.range' (i+1) (n-(i+1)):=by
 obtain⟨k,hk⟩: ∃k,n-i=k+1:=⟨n-i-1,by omega⟩
 rw[hk,show n-(i+1)=k by omega]
 rfl
theorem nj (n:Nat) (P:Nat→Prop) (fin:P n) (step: ∀i,i<n→P (i+1)→P i):P 0:=by
 have: ∀k i,i+k=n→P i:=by
  intro k
  induction k with
  |zero=>intro i h;have:i=n:=by omega
         subst this;exact fin
  |succ k ih=>intro i h;exact step i (by omega) (ih (i+1) (by omega))
 exact this n 0 (by omega)
theorem RP {α:Type} (f g:α→Bool): ∀l:List α,l.all (fun x=>f x&&g x)=(l.all f&&l.all g)
 |[]=>rfl
 |a::r=>by simp only[List.all_cons,RP f g r];cases f a<;>cases g a<;>simp
theorem UD (n:Nat) (f g:Nat→Bool):cv n (fun i=>f i&&g i)=(cv n f&&cv n g):=RP f g _
theorem v8 {n:Nat} {f:Nat→Bool}:cv n f=true↔ ∀i,i<n→f i=true:=by
 unfold cv
 rw[List.all_eq_true]
 constructor
 ·intro h i hi;exact h i (by simp[List.mem_range'];exact hi)
 ·intro h i hi
  simp[List.mem_range'] at hi
  exact h i hi
def S3 {α:Type} (l:List α) (f:α→Bool) (i:Nat):Bool:=match l[i]? with|some a=>f a|none=>true
def gz {α:Type} (l:List α) (f:α→α→Bool):Nat→Bool
 |0=>true
 |k+1=>match l[k]?,l[k+1]? with|some x,some y=>f x y|_,_=>true
theorem VX {α:Type} (l:List α) (f:α→Bool):cv l.length (S3 l f)=l.all f:=by
 rw[Bool.eq_iff_iff,v8,List.all_eq_true]
 constructor
 ·intro h a ha
  obtain⟨i,hi,rfl⟩:=List.getElem_of_mem ha
  have:=h i hi
  simpa [S3,hi] using this
 ·intro h i hi
  simp only[S3,List.getElem?_eq_getElem hi]
  exact h _ (List.getElem_mem hi)
def kJ (l:List Key) (i:Nat):Bool:=S3 l ga i&&gz l dj i
def AN (l:List Key):Bool:=cv l.length (kJ l)&&decide (l.length≤60)
theorem JN (l:List Key):AN l=(l.all ga&&(cv l.length (gz l dj)&&decide (l.length≤60))):=by
 rw[←Bool.and_assoc,←VX,←UD];rfl
def gf:Key:=⟨0,0,0,0,0⟩
def setAt (l:List Key) (b a:Int):Option Key:=l.find? fun x=>decide (x.b=b∧x.a=a)
def eM (k:Key):Bool→List Key→List Key
 |put,[]=>if put then [] else [k]
 |put,x::r=>(if !put&& !dj x k then [k] else [])++(if kP x k then [] else [x])++eM k (put|| !dj x k) r
def eO (l:List Key) (k:Key):List Key:=eM k false l
theorem Gv (k:Key): ∀(l:List Key) (put:Bool),(eM k put l).length≤l.length+(if put then 0 else 1)
 |[],put=>by simp only[eM];split<;>simp
 |x::r,put=>by
  have:=Gv k r (put|| !dj x k)
  simp only[eM,List.length_append,List.length_cons]
  have h1:(if kP x k then([]:List Key) else [x]).length≤1:=by split<;>simp
  revert h1
  generalize (if kP x k then([]:List Key) else [x])=m
  intro h1
  cases put<;>cases hk:dj x k<;>simp[hk] at this ⊢ <;>omega
theorem nq (l:List Key) (k:Key):(eO l k).length≤l.length+1:=by have:=Gv k l false;simpa [eO] using this
def cr (old new:List Key):List Key:=new.foldl eO old
theorem qx: ∀(new old:List Key),(cr old new).length≤old.length+new.length
 |[],old=>by simp[cr]
 |x::r,old=>by
  have:=qx r (eO old x)
  have h2:=nq old x
  simp only[cr,List.foldl_cons,List.length_cons] at this ⊢
  omega
def mI (l:List Key):List Key:=l.filter fun k=> !decide (k.k=0)
def rX (n:List (List Key)):List Key:=n.foldl cr []
def aF (n:List (List Key)):List Key:=mI (rX n)
theorem yo: ∀(n:List (List Key)) (a:List Key),(n.foldl cr a).length≤a.length+tot bB n
 |[],a=>by simp[tot]
 |s::r,a=>by
  have:=yo r (cr a s)
  have h2:=qx s a
  simp only[List.foldl_cons,tot,bB] at this ⊢
  omega
theorem cE (n:List (List Key)):(aF n).length≤tot bB n:=by
 have h1:=yo n []
 have h2:=List.length_filter_le (fun k:Key=> !decide (k.k=0)) (rX n)
 simp only[List.length_nil,Nat.zero_add] at h1
 exact Nat.le_trans h2 h1
def bW (n:List (List Key)):Nat:=tot bB n
def eP (n:List (List Key)):Bool:=n.all (fun s=>AN s&& !decide (s.length=0))&&decide (n.length≤3)&&decide (bW n≤8)
def cn (l:List Key):List (List Key):=if l.length=0 then [] else [l]
def aK (t:Tree):List Key:=t.nodes.flatMap aF
theorem Dw: ∀(l:List (List (List Key))),(l.flatMap aF).length≤tot aH l
 |[]=>by simp[tot]
 |n::r=>by
  have:=Dw r
  have h2:=cE n
  simp only[List.flatMap_cons,List.length_append,tot,aH]
  omega
theorem lD (t:Tree):(aK t).length≤dO t:=by
 have:=Dw t.nodes
 unfold aK dO pN
 omega
def Xw (t:Tree) (b:Int):List Key:=(aK t).filter fun k=>decide (k.b=b)
def gh (b a:Int):Int:=av (VS 64 b) a
def jC {α:Type} (p:α→Bool):List α→Int→Int
 |[],_=> -1
 |a::r,i=>if p a then i else jC p r (i+1)
theorem Pn {α:Type} (p:α→Bool): ∀(l:List α) (i:Int),0≤i→decide (0≤jC p l i)=l.any p
 |[],i,_=>by simp[jC]
 |a::r,i,h=>by
  by_cases hp:p a=true
  ·simp[jC,hp,h]
  ·have:=Pn p r (i+1) (by omega)
   simp only[jC,if_neg hp,List.any_cons]
   rw[this]
   simp[hp]
theorem EY {α:Type} (p:α→Bool): ∀(l:List α) (i:Int),0≤i→(jC p l i= -1∧ ∀a∈l,p a=false)∨ ∃(j:Nat) (a:α),jC p l i=i+j∧l[j]?=some a∧p a=true∧j<l.length∧ ∀k,k<j→ ∀b,l[k]?=some b→p b=false
 |[],i,_=> .inl ⟨rfl,fun a h=>by cases h⟩
 |a::r,i,h=>by
  simp only[jC]
  cases hp:p a with
  |true=>exact .inr ⟨0,a,by simp,rfl,hp,by simp,fun k hk=>by omega⟩
  |false=>
   rcases EY p r (i+1) (by omega) with⟨h1,h2⟩|⟨j,b,h1,h2,h3,h4,h5⟩
   ·refine .inl ⟨by simpa using h1,fun b hb=> ?_⟩
    rcases List.mem_cons.1 hb with rfl|hb
    ·exact hp
    ·exact h2 b hb
   ·refine .inr ⟨j+1,b,by simp[h1];omega,h2,h3,by simp;omega,fun k hk c hc=> ?_⟩
    cases k with
    |zero=>simp at hc;rw[←hc];exact hp
    |succ k=>exact h5 k (by omega) c hc
theorem VY {α:Type} (p:α→Bool) (l:List α): -1≤jC p l 0∧jC p l 0<l.length:=by
 rcases EY p l 0 (by omega) with⟨h,_⟩|⟨j,a,h,_,_,h4,_⟩<;>omega
theorem UE {α:Type} (p:α→Bool) (l:List α) (h: ¬jC p l 0<0): ∃a,fE l (jC p l 0)=some a∧p a=true:=by
 rcases EY p l 0 (by omega) with⟨h1,_⟩|⟨j,a,h1,h2,h3,_⟩
 ·omega
 ·refine⟨a,?_,h3⟩
  rw[h1,Int.zero_add,aC];exact h2
def jd (l:List Age) (id:Int):Int:=jC (fun a=>decide (a.id=id)) l 0
def WJ (l:List Age):Nat→Int→List Int
 |0,_=>[]
 |n+1,id=>if jd l id<0 then [] else id::(match fE l (jd l id) with|some a=>WJ l n a.fr|none=>[])
def pathOf (l:List Age) (id:Int):List Int:=WJ l (l.length+1) id
def Zd (l:List Int) (n:Int):Bool:=l.any fun a=>decide (a=n)
def Yx (path:List Int):Key×Bool→Key→Key×Bool:=fun p k=>if Zd path k.a&&(!p.2||decide (p.1.a<k.a)) then(k,true) else p
def near (keys:List Key) (path:List Int):Key×Bool:=keys.foldl (Yx path) (gf,false)
def RQ (t:Tree) (l:List Age) (b id:Int):Key×Bool:=near (Xw t b) (pathOf l id)
def iT (l:List Age) (id:Int):List Int:=if id=0 then [] else(l.filter fun a=>decide (a.fr=id)).map (·.id)
theorem JO (l:List Age) (id:Int):(iT l id).length≤l.length:=by
 unfold iT
 split
 ·simp
 ·rw[List.length_map];exact List.length_filter_le _ _
abbrev Ya (p:Key×Bool):TV:= .tu [(1,[iI p.1.b,iI p.1.a,iI p.1.k,iI p.1.c,iI p.1.g]),(0,[iB p.2])]
def UF (n:Int):Bool:=iQ n 97 122||iQ n 48 57
def dz (s:ByteArray) (i:Nat):Bool:=match p8 s i with|some n=>UF n|none=>true
def AO (s:ByteArray):Bool:=cv s.size (dz s)&&iQ s.size 1 6
def dP (l:List Age) (i:Nat):Bool:=S3 l (fun a=>iQ a.id 1 60) i&&(gz l (fun x y=>decide (x.id<y.id)) i&&S3 l (fun a=>decide (a.fr=0)|| !decide (jd (l.take i) a.fr<0)) i)
def lE (l:List Age):Bool:=cv l.length (dP l)&&decide (l.length≤16)
def cellAt (l:List Cell) (i gen:Int):Int×Bool:=match fE l i with
 |none=>(0,false)
 |some c=>if c.u=true∧c.g=gen then(c.n,true) else(0,false)
def bq (l:List Cell):Nat:=(l.filter (·.u)).length
def gH (c:Cell):Bool:=iQ c.g 0 999&&(mH c.n&&(c.u||decide (c.n=0)))
def cK (l:List Cell):Bool:=l.all gH&&decide (l.length=24)
abbrev Zr (p:Int×Bool):TV:= .tu [(0,[iI p.1]),(0,[iB p.2])]
@[simp] theorem BL {l:List Key} {b a k c g:Int}:List.append (l.map bD) [[iI b,iI a,iI k,iI c,iI g]]=(l++[(⟨b,a,k,c,g⟩:Key)]).map bD:=by simp[bD]
@[simp] theorem RS {l:List Int} {b:Int}:List.append (l.map bG) [[iI b]]=(l++[b]).map bG:=by simp[bG]
@[simp] theorem Yy {l:List Int} {b:Int}:List.append (l.map AL) [[.sc (.int .u8 b)]]=(l++[b]).map AL:=by simp[AL]
@[simp] theorem YS {l:List Age} {b a:Int}:List.append (l.map di) [[iI b,iI a]]=(l++[(⟨b,a⟩:Age)]).map di:=by simp[di]
@[simp] theorem YT {l:List Vol} {s:ByteArray} {b a:Int} {q:Bool}:List.append (l.map dJ) [[iS s,iI b,iI a,iB q]]=(l++[(⟨s,b,a,q⟩:Vol)]).map dJ:=by simp[dJ]
@[simp] theorem YU {l:List (List Key)} {s:List Key}:List.append (l.map bS) [[.sub 5 (s.map bD)]]=(l++[s]).map bS:=by simp[bS]
@[simp] theorem Dx {l:List (List (List Key))} {s:List (List Key)}:List.append (l.map aI) [[.sub 1 (s.map bS)]]=(l++[s]).map aI:=by simp[aI]
@[simp] theorem YV {l:List Mp} {s:ByteArray} {f:Bool} {r:List Int}:List.append (l.map ES) [[iS s,iB f,.sub 1 (r.map bG)]]=(l++[(⟨s,f,r⟩:Mp)]).map ES:=by simp[ES]
@[simp] theorem jq {α:Type} {e:α→List TC} {l m:List α}:List.append (l.map e) (m.map e)=(l++m).map e:=by simp
@[simp] theorem Yz:([]:RR)=([]:List Key).map bD↔True:=by simp
@[simp] theorem dn {α:Type} (l:List α):Nat.succ (List.length l)=l.length+1:=rfl
theorem oZ (b a k c g:Int):bR [[iI b,iI a,iI k,iI c,iI g]]=true:=jF [⟨b,a,k,c,g⟩]
theorem QL (b a:Int):bR [[iI b,iI a]]=true:=BJ [⟨b,a⟩]
theorem QM (s:ByteArray) (b a:Int) (q:Bool):bR [[iS s,iI b,iI a,iB q]]=true:=BK [⟨s,b,a,q⟩]
attribute [simp] oZ QL QM
@[simp] theorem dV (k:Key):(⟨k.b,k.a,k.k,k.c,k.g⟩:Key)=k:=rfl
@[simp] theorem fR (k:Age):(⟨k.id,k.fr⟩:Age)=k:=rfl
@[simp] theorem ek (k:Cell):(⟨k.g,k.u,k.n⟩:Cell)=k:=rfl
@[simp] theorem fT (k:Vol):(⟨k.name,k.age,k.size,k.fx⟩:Vol)=k:=rfl
@[simp] theorem fU (k:Mp):(⟨k.name,k.fx,k.l⟩:Mp)=k:=rfl
@[simp] theorem iU (k:Uu):(⟨k.kind,k.name,k.to,k.a,k.b⟩:Uu)=k:=rfl
theorem cW {n b:Nat} (h:n*b≤140737488355328∧n≤140737488355328):fits n b=true:=by rw[VL];exact decide_eq_true h
end Go.T
namespace Go.T
def cH (s:List Key):Bool:=AN s&& !decide (s.length=0)
theorem MV (n:List (List Key)):eP n=(n.all cH&&(decide (n.length≤3)&&decide (bW n≤8))):=by
 unfold eP;rw[Bool.and_assoc];rfl
def QN (lows:List Int) (i:Nat) (x:Int):Bool:=match lows[i]? with
 |some lo=> !decide (x<lo)&&(match lows[i+1]? with|some hi=>decide (x<hi)|none=>true)
 |none=>true
def fK (lows:List Int) (i:Nat) (k:Key):Bool:=QN lows i (gh k.b k.a)
def bM (lows:List Int) (i:Nat) (s:List Key):Bool:=s.all (fK lows i)
def cC (t:Tree) (i:Nat):Bool:=gz t.lows (fun x y=>decide (x<y)) i&&(match t.nodes[i]? with
 |some n=>eP n&&((decide (i=0)|| !decide ((aF n).length=0))&&n.all (bM t.lows i))
 |none=>true)
def dQ (t:Tree):Bool:=iQ t.nodes.length 1 20&&(decide (t.lows.length=t.nodes.length)&&((match t.lows[0]? with|some x=>decide (x=0)|none=>true)&&(cv t.nodes.length (cC t)&&decide ((aK t).length≤60))))
def bQ (p:Pool) (i:Nat):Bool:=match p.vols[i]? with
 |some v=>AO v.name&&(iQ v.size 1 12&&(!decide (jd p.ages v.age<0)&&(decide ((iT p.ages v.age).length=0)&&(gz p.vols (fun x y=>KV x.name y.name) i&& !(p.vols.take i).any fun u=>decide (u.age=v.age)))))
 |none=>true
def gM (p:Pool):Bool:=cv p.vols.length (bQ p)&&decide (p.vols.length≤6)
def bY (p:Pool) (l:List Key) (i:Nat):Bool:=match l[i]? with
 |some k=> !decide (jd p.ages k.a<0)&&(!decide (k.k=1)||((cellAt p.cells k.c k.g).2&& !(l.take i).any fun x=>decide (x.k=1)&&decide (x.c=k.c)))
 |none=>true
def bT (l:List Key):Nat:=(l.filter fun k=>decide (k.k=1)).length
def en (p:Pool):Bool:=cv (aK p.t).length (bY p (aK p.t))&&decide ((bq p.cells:Int)=bT (aK p.t))
def ig (p:Pool):Bool:=p.ages.all (fun a=>decide (a.id<p.next))&&(dQ p.t&&(lE p.ages&&(cK p.cells&&(iQ p.next 1 61&&(gM p&&en p)))))
def VZ (p:Pool) (i b:Int):Int:=match fE p.vols i with
 |none=>0
 |some v=>if 0≤b∧b<v.size then(if(RQ p.t p.ages b v.age).2=true∧(RQ p.t p.ages b v.age).1.k=1 then(cellAt p.cells (RQ p.t p.ages b v.age).1.c (RQ p.t p.ages b v.age).1.g).1 else 0) else 0
def nE (l:List Key):List Bool:=(List.range 24).map fun m:Nat=>l.any fun x=>decide (x.k=1)&&decide (x.c=(m:Int))
theorem Po:nE []=List.replicate 24 false:=by decide
theorem Pp (l:List Key) {c:Int} (h:0≤c∧c<24):fE (nE l) c=some (l.any fun x=>decide (x.k=1)&&decide (x.c=c)):=by
 obtain⟨n,rfl⟩: ∃n:Nat,c=n:=⟨c.toNat,by omega⟩
 rw[aC]
 unfold nE
 rw[List.getElem?_map,List.getElem?_range (by omega)]
 rfl
theorem Pq (l:List Key) (k:Key) (hk:k.k=1) (h:0≤k.c∧k.c<24):(nE l).modify k.c.toNat (fun _=>true)=nE (l++[k]):=by
 apply List.ext_getElem?
 intro m
 rw[List.getElem?_modify]
 unfold nE
 rw[List.getElem?_map,List.getElem?_map]
 by_cases hm:m<24
 ·rw[List.getElem?_range hm]
  simp only[Option.map_some,List.any_append,List.any_cons,List.any_nil,Bool.or_false,hk,decide_true,Bool.true_and]
  by_cases e:k.c.toNat=m
  ·have:k.c=(m:Int):=by omega
   simp[e,this]
  ·have: ¬k.c=(m:Int):=by omega
   simp[e,this]
 ·rw[List.getElem?_eq_none (by simp;omega)];rfl
theorem NP (l:List Key) (k:Key) (hk: ¬k.k=1):nE (l++[k])=nE l:=by
 unfold nE
 simp[hk]
theorem BX (k:Key) (l:List Key):bT (k::l)=(if k.k=1 then 1 else 0)+bT l:=by
 unfold bT
 by_cases h:k.k=1<;>simp[h]
 omega
theorem Sv {l:List Cell} {i g:Int} (h:(cellAt l i g).2=true):0≤i∧i<l.length:=by
 unfold cellAt at h
 apply Classical.byContradiction
 intro hn
 rw[nD hn] at h
 cases h
theorem jS {p:Pool} (h:cY p≤4194304):dO p.t≤4194304∧p.ages.length≤4194304∧p.cells.length≤4194304∧p.vols.length≤4194304∧tot pk p.vols≤4194304:=by
 unfold cY EX at h
 omega
end Go.T
namespace Go.T
def blocks (p:Pool) (i:Nat) (k:Nat):List Int:=(List.range k).map fun b:Nat=>VZ p i b
def jr (l:List Cell) (i:Int):List Cell:=match fE l i with
 |none=>l
 |some c=>if cK l=true∧c.u=true then l.modify i.toNat (fun _=>⟨vl (av c.g 1) 1000,false,0⟩) else l
theorem BY {l:List Cell} {i:Int} (h:fE l i=none):jr l i=l:=by unfold jr;rw[h]
theorem Dy {l:List Cell} {i:Int} (h:cK l=false):jr l i=l:=by
 unfold jr
 cases fE l i with
 |none=>rfl
 |some c=>exact if_neg (fun hh=>by rw[h] at hh;cases hh.1)
theorem Gw {l:List Cell} {i:Int} {c:Cell} (hc:fE l i=some c) (h:c.u=false):jr l i=l:=by
 unfold jr;rw[hc];exact if_neg (fun hh=>by rw[h] at hh;cases hh.2)
theorem Dz {l:List Cell} {i:Int} {c:Cell} (hc:fE l i=some c) (h:cK l=true) (hu:c.u=true):jr l i=l.modify i.toNat (fun _=>⟨vl (av c.g 1) 1000,false,0⟩):=by
 unfold jr;rw[hc];exact if_pos ⟨h,hu⟩
theorem DA (l:List Cell) (i:Int):(jr l i).length=l.length:=by
 unfold jr
 cases fE l i with
 |none=>rfl
 |some c=>simp only[];split<;>simp
def su (c:Cell):Bool:= !c.u
def cX (l:List Cell):Int:=jC su l 0
def nr (l:List Cell) (n:Int):List Cell×Int×Bool:=
 if cK l=true∧mH n=true∧0≤cX l then(l.modify (cX l).toNat (fun c=>⟨c.g,true,n⟩),cX l,true) else(l,0,false)
theorem lq {l:List Cell} {n:Int} (h: ¬(cK l=true∧mH n=true∧0≤cX l)):nr l n=(l,0,false):=if_neg h
theorem pO {l:List Cell} {n:Int} (h:cK l=true∧mH n=true∧0≤cX l):nr l n=(l.modify (cX l).toNat (fun c=>⟨c.g,true,n⟩),cX l,true):=if_pos h
abbrev V0 (x:List Cell×Int×Bool):TV:= .tu [(0,[.sub 3 (x.1.map bJ)]),(0,[iI x.2.1]),(0,[iB x.2.2])]
theorem Pt {p:Pool} (h:ig p=true):gM p=true:=by
 simp only[ig,Bool.and_eq_true] at h
 exact h.2.2.2.2.2.1
theorem Pu {p:Pool} (h:ig p=true):lE p.ages=true:=by
 simp only[ig,Bool.and_eq_true] at h
 exact h.2.2.1
def EZ (l:List Key) (b a:Int):Key×Bool:=match setAt l b a with|some k=>(k,true)|none=>(gf,false)
def pP (f:Int→Bool) (l:List Int):Nat→Int
 |0=> -1
 |k+1=>match l[k]? with
  |some x=>if f x=true then(k:Int) else pP f l k
  |none=> -1
def pQ (t:Tree) (b a:Int):Int:=pP (fun x=>decide (x≤gh b a)) t.lows t.lows.length
abbrev YA (x:Pool×Bool):TV:= .tu [(1,[.sub 1 (x.1.t.lows.map bG),.sub 1 (x.1.t.nodes.map aI),.sub 2 (x.1.ages.map di),.sub 3 (x.1.cells.map bJ),.sub 4 (x.1.vols.map dJ),iI x.1.next]),(0,[iB x.2])]
end Go.T
namespace Go.T
end Go.T
namespace Go.T
end Go.T
namespace Go.T
def WK (v u:Vol):Bool:=KV u.name v.name||Ol u.name v.name
theorem Pv: ∀(x y z:List UInt8),Op.bytesLess x y=true→Op.bytesLess y z=true→Op.bytesLess x z=true
 |x,y,[],_,h=>by cases y<;>simp[Op.bytesLess] at h
 |x,[],c::z,h,_=>by cases x<;>simp[Op.bytesLess] at h
 |[],_::_,_::_,_,_=>by simp[Op.bytesLess]
 |a::x,b::y,c::z,h1,h2=>by
  simp only[Op.bytesLess,Bool.or_eq_true,Bool.and_eq_true,decide_eq_true_eq,beq_iff_eq] at h1 h2 ⊢
  rcases h1 with h1|⟨rfl,h1⟩
  ·rcases h2 with h2|⟨rfl,h2⟩
   ·exact .inl (UInt8.lt_trans h1 h2)
   ·exact .inl h1
  ·rcases h2 with h2|⟨rfl,h2⟩
   ·exact .inl h2
   ·exact .inr ⟨rfl,Pv x y z h1 h2⟩
theorem Sw {a b c:ByteArray} (h1:KV a b=true) (h2:KV b c=true):KV a c=true:=by
 unfold KV at*
 exact Pv _ _ _ h1 h2
def DB:List Vol→Prop
 |[]=>True
 |[_]=>True
 |a::b::r=>KV a.name b.name=true∧DB (b::r)
theorem UG {v a b:Vol} (h:KV a.name b.name=true) (hb:WK v b=true):WK v a=true:=by
 unfold WK at*
 rw[Bool.or_eq_true] at*
 rcases hb with hb|hb
 ·exact .inl (Sw h hb)
 ·have:b.name.toList=v.name.toList:=by
   unfold Ol at hb;exact eq_of_beq hb
  unfold KV at h ⊢
  rw[←this];exact .inl h
theorem DB.tail {a:Vol} {l:List Vol} (h:DB (a::l)):DB l:=by
 cases l with
 |nil=>trivial
 |cons b r=>exact h.2
theorem DB.cut {v:Vol}: ∀{l:List Vol} {k:Nat},DB l→k≤l.length→(∀u∈l.drop k,WK v u=false)→(∀u,0<k→l[k-1]?=some u→WK v u=true)→(l.takeWhile (WK v)).length=k
 |[],k,_,hk,_,_=>by simp at hk;simp[hk]
 |a::l,0,_,_,h1,_=>by
  have:=h1 a (.head _)
  simp[this]
 |a::l,k+1,hr,hk,h1,h2=>by
  have ih:=DB.cut (v:=v) (l:=l) (k:=k) hr.tail (by simpa using hk) (fun u hu=>h1 u (by simpa using hu)) fun u h0 hu=>by
   obtain⟨j,rfl⟩: ∃j,k=j+1:=⟨k-1,by omega⟩
   exact h2 u (by omega) (by simpa using hu)
  have ha:WK v a=true:=by
   cases k with
   |zero=>exact h2 a (by omega) rfl
   |succ k=>
    cases l with
    |nil=>simp at hk
    |cons b r=>
     refine UG hr.1 ?_
     rw[List.takeWhile_cons] at ih
     cases hb:WK v b with
     |true=>rfl
     |false=>rw[hb] at ih;simp at ih
  rw[List.takeWhile_cons,if_pos ha,List.length_cons,ih]
theorem DB.modify {f:Vol→Vol} (hf: ∀u,(f u).name=u.name): ∀{l:List Vol} (i:Nat),DB l→DB (l.modify i f)
 |[],i,h=>by cases i<;>exact h
 |[a],0,_=>trivial
 |[a],i+1,_=>by cases i<;>trivial
 |a::b::r,0,h=>by
  show DB (f a::b::r)
  exact⟨by rw[hf];exact h.1,h.2⟩
 |a::b::r,1,h=>by
  show DB (a::f b::r)
  refine⟨by rw[hf];exact h.1,?_⟩
  exact DB.modify hf (l:=b::r) 0 h.2
 |a::b::r,i+2,h=>⟨h.1,DB.modify hf (l:=b::r) (i+1) h.2⟩
end Go.T
namespace Go.T
def Zu (m u:Mp):Bool:= !(KV u.name m.name||Ol u.name m.name)
def V2 (l:List Mp) (m:Mp):Nat→Nat
 |0=>0
 |k+1=>match l[k]? with
  |some u=>if Zu m u=true then V2 l m k else k+1
  |none=>k+1
theorem RT (l:List Mp) (m:Mp): ∀k,V2 l m k≤k
 |0=>Nat.le_refl _
 |k+1=>by
  unfold V2
  split
  ·split
   ·exact Nat.le_succ_of_le (RT l m k)
   ·exact Nat.le_refl _
  ·exact Nat.le_refl _
def UH {α:Type} (l:List α) (k:Nat) (x:α):List α:=l.take k++x::l.drop k
def UI (l:List Mp) (m:Mp):List Mp:=UH l (V2 l m l.length) m
theorem UJ (l:List Mp) (m:Mp):(UI l m).length=l.length+1:=by
 have:=RT l m l.length
 unfold UI UH
 rw[List.length_append,List.length_cons,List.length_take,List.length_drop];omega
theorem UK {l:List Mp} {m x:Mp} (h:x∈UI l m):x∈l∨x=m:=by
 unfold UI UH at h
 rcases List.mem_append.1 h with h|h
 ·exact .inl (List.mem_of_mem_take h)
 ·rcases List.mem_cons.1 h with h|h
  ·exact .inr h
  ·exact .inl (List.mem_of_mem_drop h)
def NQ (l l':List Mp):Prop:=l'.length≤l.length+1∧ ∀B:Nat,12≤B→(∀x∈l,x.l.length≤B)→ ∀x∈l',x.l.length≤B
theorem NQ.refl (l:List Mp):NQ l l:=⟨Nat.le_succ _,fun _ _ h=>h⟩
theorem NQ.put {l:List Mp} {m:Mp} (h: ∀B:Nat,12≤B→(∀x∈l,x.l.length≤B)→m.l.length≤B):NQ l (UI l m):=
 ⟨Nat.le_of_eq (UJ l m),fun B hB hl x hx=>(UK hx).elim (hl x) fun e=>by rw[e];exact h B hB hl⟩
end Go.T
namespace Go.T
abbrev Sx (x:List (List Key)×Bool):TV:= .tu [(1,[.sub 1 (x.1.map bS)]),(0,[iB x.2])]
def Cr (s:List Key) (k:Key):Bool:=(EZ s k.b k.a).2||decide (s.length<4)
def iV (n:List (List Key)) (k:Key):List (List Key):=match n[n.length-1]? with
 |none=>n++[[k]]
 |some s=>if Cr s k=true then n.set (n.length-1) (eO s k) else n++[[k]]
def bX (n:List (List Key)) (k:Key):List Key:=mI (eO (aF n) k)
def bU (n:List (List Key)) (k:Key):List (List Key)×Bool:=
 if eP (iV n k)=true then(iV n k,true) else if 8<(bX n k).length then(n,false) else if eP (cn (bX n k))=true then(cn (bX n k),true) else(n,false)
theorem nF (n:List (List Key)) (k:Key):(bX n k).length≤tot bB n+1:=by
 have h1:=cE n
 have h2:=nq (aF n) k
 have h3:(bX n k).length≤(eO (aF n) k).length:=List.length_filter_le _ _
 omega
theorem Pw {α:Type} (w:α→Nat) (l:List α) (a:α):tot w (l++[a])=tot w l+w a:=by
 induction l with
 |nil=>simp[tot]
 |cons b r ih=>simp only[List.cons_append,tot,ih];omega
theorem Px {α:Type} (w:α→Nat) (c:Nat): ∀(l:List α) (i:Nat) (a a':α),l[i]?=some a→w a'≤w a+c→tot w (l.set i a')≤tot w l+c
 |[],i,a,a',h,_=>by simp at h
 |b::r,0,a,a',h,hw=>by
  simp only[List.getElem?_cons_zero,Option.some.injEq] at h
  subst h
  simp only[List.set_cons_zero,tot];omega
 |b::r,i+1,a,a',h,hw=>by
  have:=Px w c r i a a' (by simpa using h) hw
  simp only[List.set_cons_succ,tot];omega
theorem Cs (n:List (List Key)) (k:Key):(iV n k).length≤n.length+1:=by
 unfold iV
 split
 ·rw[List.length_append];simp
 ·split
  ·rw[List.length_set];omega
  ·rw[List.length_append];simp
theorem Ct (n:List (List Key)) (k:Key):tot bB (iV n k)≤tot bB n+1:=by
 unfold iV
 split
 ·rw[Pw];exact Nat.le_refl _
 ·rename_i s hs
  split
  ·exact Px bB 1 _ _ s _ hs (by have:=nq s k;unfold bB;omega)
  ·rw[Pw];exact Nat.le_refl _
theorem tO (l:List Key):(cn l).length≤1:=by
 unfold cn
 split<;>simp
theorem tP (l:List Key):tot bB (cn l)≤l.length:=by
 unfold cn
 split
 ·simp[tot]
 ·simp[tot,bB]
theorem AP (n:List (List Key)) (k:Key):(bU n k).1.length≤n.length+1:=by
 have h1:=Cs n k
 have h2:=tO (bX n k)
 unfold bU
 repeat' split
 all_goals simp only[];omega
theorem AQ (n:List (List Key)) (k:Key):tot bB (bU n k).1≤tot bB n+1:=by
 have h1:=Ct n k
 have h2:=tP (bX n k)
 have h3:=nF n k
 unfold bU
 repeat' split
 all_goals simp only[];omega
end Go.T
namespace Go.T
def Gx (x y:Key):Prop:=x.b<y.b∨(x.b=y.b∧x.a<y.a)
theorem Gx.trans {x y z:Key} (h1:Gx x y) (h2:Gx y z):Gx x z:=by unfold Gx at*;omega
theorem AR {x y:Key}:dj x y=true↔Gx x y:=by unfold dj Gx;simp
theorem DC {x y:Key}:kP x y=true↔x.b=y.b∧x.a=y.a:=by unfold kP;simp
theorem DD {k y:Key}: ∀{l:List Key},y∈eM k true l→y∈l
 |[],h=>by simp[eM] at h
 |x::r,h=>by
  simp only[eM,Bool.not_true,Bool.false_and,Bool.false_eq_true,if_false,List.nil_append,Bool.true_or] at h
  rcases List.mem_append.1 h with h|h
  ·split at h
   ·cases h
   ·rw[List.mem_singleton.1 h];exact .head _
  ·exact .tail _ (DD h)
theorem JP {k y:Key}: ∀{l:List Key} {put:Bool},y∈eM k put l→y∈l∨y=k
 |[],put,h=>by
  simp only[eM] at h
  split at h
  ·cases h
  ·exact .inr (List.mem_singleton.1 h)
 |x::r,put,h=>by
  simp only[eM] at h
  rcases List.mem_append.1 h with h|h
  ·rcases List.mem_append.1 h with h|h
   ·split at h
    ·exact .inr (List.mem_singleton.1 h)
    ·cases h
   ·split at h
    ·cases h
    ·exact .inl (by rw[List.mem_singleton.1 h];exact .head _)
  ·exact(JP h).imp (.tail _) id
theorem BM {k:Key}: ∀{l:List Key},l.Pairwise Gx→(eM k true l).Pairwise Gx
 |[],_=>by simp[eM]
 |x::r,h=>by
  obtain⟨h1,h2⟩:=List.pairwise_cons.1 h
  simp only[eM,Bool.not_true,Bool.false_and,Bool.false_eq_true,if_false,List.nil_append,Bool.true_or]
  split
  ·exact BM h2
  ·exact List.pairwise_cons.2 ⟨fun y hy=>h1 y (DD hy),BM h2⟩
theorem MW {k:Key}: ∀{l:List Key},l.Pairwise Gx→(eM k false l).Pairwise Gx
 |[],_=>by simp[eM]
 |x::r,h=>by
  obtain⟨h1,h2⟩:=List.pairwise_cons.1 h
  cases hk:dj x k with
  |true=>
   have hlt:=AR.1 hk
   have hns:kP x k=false:=by
    cases hs:kP x k with
    |false=>rfl
    |true=>have:=DC.1 hs;unfold Gx at hlt;omega
   simp only[eM,hk,hns,Bool.not_false,Bool.not_true,Bool.true_and,Bool.and_false,Bool.false_eq_true,if_false,List.nil_append,Bool.or_false,Bool.false_or]
   refine List.pairwise_cons.2 ⟨fun y hy=> ?_,MW h2⟩
   rcases JP hy with hy|rfl
   ·exact h1 y hy
   ·exact hlt
  |false=>
   have hge: ¬Gx x k:=fun h=>by rw[AR.2 h] at hk;cases hk
   simp only[eM,hk,Bool.not_false,Bool.true_and,if_true,Bool.or_true]
   have hr: ∀y∈eM k true r,Gx k y:=fun y hy=>by
    have:=h1 y (DD hy)
    unfold Gx at*;omega
   split
   ·exact List.pairwise_cons.2 ⟨hr,BM h2⟩
   ·rename_i hns
    refine List.pairwise_cons.2 ⟨fun y hy=> ?_,List.pairwise_cons.2 ⟨fun y hy=>h1 y (DD hy),BM h2⟩⟩
    rcases List.mem_cons.1 hy with rfl|hy
    ·have: ¬(y.b=k.b∧y.a=k.a):=fun h=>hns (DC.2 h)
     unfold Gx at*;omega
    ·exact hr y hy
theorem Gy {l:List Key} {k:Key} (h:l.Pairwise Gx):(eO l k).Pairwise Gx:=MW h
theorem JQ {l:List Key} {k y:Key} (h:y∈eO l k):y∈l∨y=k:=JP h
theorem JR: ∀(new:List Key) {old:List Key},old.Pairwise Gx→(cr old new).Pairwise Gx
 |[],_,h=>h
 |x::r,_,h=>JR r (Gy h)
theorem MX {y:Key}: ∀{new old:List Key},y∈cr old new→y∈old∨y∈new
 |[],_,h=> .inl h
 |x::r,old,h=>by
  have h:y∈cr (eO old x) r:=h
  rcases MX h with h|h
  ·exact(JQ h).imp id fun e=>by rw[e];exact .head _
  ·exact .inr (.tail _ h)
theorem JS: ∀(n:List (List Key)) {acc:List Key},acc.Pairwise Gx→(n.foldl cr acc).Pairwise Gx
 |[],_,h=>h
 |s::r,_,h=>JS r (JR s h)
theorem MY {y:Key}: ∀{n:List (List Key)} {acc:List Key},y∈n.foldl cr acc→y∈acc∨ ∃s∈n,y∈s
 |[],_,h=> .inl h
 |s::r,acc,h=>by
  rcases MY (n:=r) h with h|⟨s',h1,h2⟩
  ·exact(MX h).imp id fun h=>⟨s,.head _,h⟩
  ·exact .inr ⟨s',.tail _ h1,h2⟩
theorem K4 (n:List (List Key)):(aF n).Pairwise Gx:=(JS n .nil).sublist List.filter_sublist
theorem NR {n:List (List Key)} {y:Key} (h:y∈aF n): ∃s∈n,y∈s:=by
 rcases MY (List.mem_filter.1 h).1 with h|h
 ·cases h
 ·exact h
theorem K5 (n:List (List Key)) (k:Key):(bX n k).Pairwise Gx:=(Gy (K4 n)).sublist List.filter_sublist
theorem NS {n:List (List Key)} {k y:Key} (h:y∈bX n k):y=k∨ ∃s∈n,y∈s:=
 (JQ (List.mem_filter.1 h).1).elim (fun h=> .inr (NR h)) .inl
theorem UL {l:List Key} (h1:l.Pairwise Gx) (h2: ∀y∈l,ga y=true) (h3:l.length≤60):AN l=true:=by
 rw[JN]
 simp only[Bool.and_eq_true,decide_eq_true_eq]
 refine⟨List.all_eq_true.2 h2,v8.2 fun i hi=> ?_,h3⟩
 cases i with
 |zero=>rfl
 |succ k=>
  simp only[gz]
  rw[List.getElem?_eq_getElem (by omega:k<l.length),List.getElem?_eq_getElem hi]
  exact AR.2 (List.pairwise_iff_getElem.1 h1 k (k+1) (by omega) hi (by omega))
theorem Py {n:List (List Key)} (h:eP n=true) {s:List Key} (hs:s∈n) {y:Key} (hy:y∈s):ga y=true:=by
 unfold eP at h
 simp only[Bool.and_eq_true] at h
 have:=List.all_eq_true.1 h.1.1 s hs
 simp only[Bool.and_eq_true] at this
 have h2:=this.1
 rw[JN] at h2
 simp only[Bool.and_eq_true] at h2
 exact List.all_eq_true.1 h2.1 y hy
theorem QO {l:List Key} (h1:l.Pairwise Gx) (h2: ∀y∈l,ga y=true) (h3:l.length≤8):eP (cn l)=true:=by
 unfold cn
 split
 ·decide
 ·rename_i h0
  unfold eP
  have:=UL h1 h2 (by omega)
  have h00:l≠[]:=fun e=>h0 (by rw[e];rfl)
  simp[this,h00,bW,tot,bB,h3]
theorem Pz {n:List (List Key)} {k:Key} (h:eP n=true) (hk:ga k=true): ∀y∈bX n k,ga y=true:=fun y hy=>by
 rcases NS hy with rfl|⟨s,h1,h2⟩
 ·exact hk
 ·exact Py h h1 h2
theorem JT {n:List (List Key)} {k:Key} (h:eP n=true) (hk:ga k=true) (hp:(bU n k).2=false):8<(bX n k).length∧bU n k=(n,false):=by
 have hn:=QO (K5 n k) (Pz h hk)
 unfold bU at hp ⊢
 split at hp
 ·cases hp
 ·rename_i h1
  split at hp
  ·rename_i h2
   exact⟨h2,by rw[if_neg h1,if_pos h2]⟩
  ·rename_i h2
   rw[if_pos (hn (by omega))] at hp
   cases hp
end Go.T
namespace Go.T
def gw (x y:Int):Int:=P0 .or .i64 (WN .i64 (q7 .i64 x) 8) (q7 .i64 y)
end Go.T
namespace Go.T
abbrev xy (x:Tree×Bool):TV:= .tu [(1,RN x.1),(0,[iB x.2])]
def jT (t:Tree) (i c:Nat) (lows:List Int) (nodes:List (List (List Key))):Tree:=⟨t.lows.take i++lows++t.lows.drop (i+c),t.nodes.take i++nodes++t.nodes.drop (i+c)⟩
def ij (t:Tree) (i:Nat):List Key:=aF (t.nodes.getD i [])
def qG (t:Tree):Nat→Nat→Option Nat
 |0,_=>none
 |d+1,i=>if i+1<t.nodes.length then(if(ij t i).length+(ij t (i+1)).length≤6 then some i else qG t d (i+1)) else none
def nZ (t:Tree):Option Nat:=qG t t.nodes.length 0
def cu (t:Tree) (i:Nat):Tree:=jT t i 2 [t.lows.getD i 0] [cn (ij t i++ij t (i+1))]
def jU:Nat→Tree→Tree
 |0,t=>t
 |n+1,t=>match nZ t with
  |none=>t
  |some i=>jU n (cu t i)
theorem Gz {t:Tree}: ∀{d i j:Nat},qG t d i=some j→i≤j∧j+1<t.nodes.length∧(ij t j).length+(ij t (j+1)).length≤6
 |0,i,j,h=>by cases h
 |d+1,i,j,h=>by
  unfold qG at h
  split at h
  ·split at h
   ·cases h;exact⟨Nat.le_refl _,by assumption,by assumption⟩
   ·have:=Gz h;exact⟨by omega,this.2⟩
  ·cases h
theorem qn {t:Tree} {j:Nat} (h:nZ t=some j):j+1<t.nodes.length∧(ij t j).length+(ij t (j+1)).length≤6:=(Gz h).2
theorem AS (t:Tree) (i c:Nat) (lows:List Int) (nodes:List (List (List Key))) (h:i+c≤t.nodes.length):(jT t i c lows nodes).nodes.length+c=t.nodes.length+nodes.length:=by
 unfold jT
 simp only[List.length_append,List.length_take,List.length_drop];omega
theorem xY (t:Tree) (i c:Nat) (lows:List Int) (nodes:List (List (List Key))) (h:i+c≤t.lows.length):(jT t i c lows nodes).lows.length+c=t.lows.length+lows.length:=by
 unfold jT
 simp only[List.length_append,List.length_take,List.length_drop];omega
theorem rM {t:Tree} {i:Nat} (h:i+1<t.nodes.length):(cu t i).nodes.length+1=t.nodes.length:=by
 have:=AS t i 2 [t.lows.getD i 0] [cn (ij t i++ij t (i+1))] (by omega)
 unfold cu
 simp only[List.length_singleton] at this
 omega
def jD (t:Tree) (i:Nat) (k:Key):Tree:=
 if(bU (t.nodes.getD i []) k).2=true then
  (if 0<i∧(aF (bU (t.nodes.getD i []) k).1).length=0 then jT t i 1 [] [] else jT t i 1 [t.lows.getD i 0] [(bU (t.nodes.getD i []) k).1])
 else jT t i 1 [t.lows.getD i 0,gh ((bX (t.nodes.getD i []) k).getD (((bX (t.nodes.getD i []) k).length+1)/2) gf).b ((bX (t.nodes.getD i []) k).getD (((bX (t.nodes.getD i []) k).length+1)/2) gf).a]
  [cn ((bX (t.nodes.getD i []) k).take (((bX (t.nodes.getD i []) k).length+1)/2)),cn ((bX (t.nodes.getD i []) k).drop (((bX (t.nodes.getD i []) k).length+1)/2))]
def bh (t:Tree) (k:Key):Tree×Bool:=
 if dQ t=true∧ga k=true then(if dQ (jU (jD t (pQ t k.b k.a).toNat k).nodes.length (jD t (pQ t k.b k.a).toNat k))=true then(jU (jD t (pQ t k.b k.a).toNat k).nodes.length (jD t (pQ t k.b k.a).toNat k),true) else(t,false)) else(t,false)
end Go.T
namespace Go.T
theorem QS {α:Type} (w:α→Nat) (c:Nat): ∀l:List α,(∀a∈l,w a≤c)→tot w l≤c*l.length
 |[],_=>by simp[tot]
 |a::r,h=>by
  have h1:=h a (.head _)
  have h2:=QS w c r fun b hb=>h b (.tail _ hb)
  simp only[tot,List.length_cons,Nat.mul_add];omega
theorem BN {n:List (List Key)} (h:eP n=true):n.length≤3∧tot bB n≤8:=by
 unfold eP bW at h
 simp only[Bool.and_eq_true,decide_eq_true_eq] at h
 exact⟨h.1.2,h.2⟩
theorem Sy {t:Tree} (h:dQ t=true) {i:Nat} (hi:i<t.nodes.length):cC t i=true:=by
 unfold dQ at h
 simp only[Bool.and_eq_true] at h
 exact v8.1 h.2.2.2.1 i hi
theorem tQ {t:Tree} (h:dQ t=true) {n:List (List Key)} (hn:n∈t.nodes):eP n=true:=by
 obtain⟨i,hi,rfl⟩:=List.getElem_of_mem hn
 have:=Sy h hi
 unfold cC at this
 rw[List.getElem?_eq_getElem hi] at this
 simp only[Bool.and_eq_true] at this
 exact this.2.1
theorem o5 {t:Tree} (h:dQ t=true):1≤t.nodes.length∧t.nodes.length≤20∧t.lows.length=t.nodes.length:=by
 unfold dQ iQ at h
 simp only[Bool.and_eq_true,decide_eq_true_eq] at h
 omega
theorem QT {t:Tree} (h:dQ t=true):t.lows[0]?=some 0:=by
 have hl:=o5 h
 unfold dQ at h
 simp only[Bool.and_eq_true] at h
 have h0:0<t.lows.length:=by omega
 have:=h.2.2.1
 rw[List.getElem?_eq_getElem h0] at this ⊢
 simp only[decide_eq_true_eq] at this
 rw[this]
theorem JU {t:Tree} (h:dQ t=true):tot aH t.nodes≤220:=by
 have h1:=QS aH 11 t.nodes fun n hn=>by
  have:=BN (tQ h hn)
  unfold aH;omega
 have h2:=o5 h
 omega
theorem MZ {t:Tree} (h:dQ t=true):dO t≤260:=by
 have h1:=JU h
 have h2:=o5 h
 unfold dO pN;omega
theorem QU {t:Tree} {k:Key} (h:(bh t k).2=true):dQ (bh t k).1=true:=by
 unfold bh at h ⊢
 split
 ·split
  ·assumption
  ·rename_i h1 h2;rw[if_pos h1,if_neg h2] at h;cases h
 ·rename_i h1;rw[if_neg h1] at h;cases h
theorem QW {t:Tree} {k:Key} (h:(bh t k).2=false):(bh t k).1=t:=by
 unfold bh at h ⊢
 split
 ·split
  ·rename_i h1 h2;rw[if_pos h1,if_pos h2] at h;cases h
  ·rfl
 ·rfl
theorem JV (t:Tree) (k:Key):dO (bh t k).1≤max (dO t) 260:=by
 cases h:(bh t k).2 with
 |true=>have:=MZ (QU h);omega
 |false=>rw[QW h];omega
theorem PA {p:Pool} (h:ig p=true):dQ p.t=true:=by
 simp only[ig,Bool.and_eq_true] at h;exact h.2.1
theorem pR {p:Pool} (h:ig p=true):cK p.cells=true:=by
 simp only[ig,Bool.and_eq_true] at h;exact h.2.2.2.1
theorem QY {p:Pool} (h:ig p=true):en p=true:=by
 simp only[ig,Bool.and_eq_true] at h;exact h.2.2.2.2.2.2
theorem Sz {s:ByteArray} (h:AO s=true):1≤s.size∧s.size≤6:=by
 simp only[AO,Bool.and_eq_true,iQ,decide_eq_true_eq] at h
 omega
theorem SA {p:Pool} (h:gM p=true) {v:Vol} (hv:v∈p.vols):AO v.name=true∧1≤v.size∧v.size≤12∧0≤jd p.ages v.age:=by
 obtain⟨i,hi,rfl⟩:=List.getElem_of_mem hv
 simp only[gM,Bool.and_eq_true,v8] at h
 have:=h.1 i hi
 unfold bQ at this
 rw[List.getElem?_eq_getElem hi] at this
 simp only[Bool.and_eq_true,iQ,decide_eq_true_eq,Bool.not_eq_true',decide_eq_false_iff_not] at this
 exact⟨this.1,this.2.1.1,this.2.1.2,by omega⟩
theorem SB {p:Pool} (h:ig p=true):cY p≤500:=by
 have h1:=MZ (PA h)
 have h2:p.ages.length≤16:=by
  have:=Pu h
  simp only[lE,Bool.and_eq_true,decide_eq_true_eq] at this
  exact this.2
 have h3:p.cells.length=24:=by
  have:=pR h
  simp only[cK,Bool.and_eq_true,decide_eq_true_eq] at this
  exact this.2
 have hv:=Pt h
 have h4:p.vols.length≤6:=by
  simp only[gM,Bool.and_eq_true,decide_eq_true_eq] at hv
  exact hv.2
 have h5:=QS pk 6 p.vols fun v hm=>(Sz (SA hv hm).1).2
 unfold cY EX;omega
def UM (l:List Cell) (i:Int):Int:=match fE l i with|some c=>c.g|none=>0
def ku (i:Int) (k:Key):Bool:=decide (k.k=1)&&decide (k.c=i)
def fW (p:Pool) (i:Int):Key:=match(aK p.t).find? (ku i) with|some k=>k|none=>gf
def mJ (p:Pool) (i n:Int):Key:=⟨(fW p i).b,(fW p i).a,(fW p i).k,(nr p.cells n).2.1,UM (nr p.cells n).1 (nr p.cells n).2.1⟩
def yp (p:Pool) (i n:Int):Pool×Bool:=(⟨(bh p.t (mJ p i n)).1,p.ages,jr (nr p.cells n).1 i,p.vols,p.next⟩,(bh p.t (mJ p i n)).2)
def BZ (p:Pool) (x:Pool×Bool):Pool×Bool:=if x.2=true∧ig x.1=true then(x.1,true) else(p,false)
theorem UN (p:Pool) (x:Pool×Bool):cY (BZ p x).1≤max (cY p) 500:=by
 unfold BZ
 split
 ·rename_i h;have:=SB h.2;simp only[];omega
 ·simp only[];omega
def gi (p:Pool) (i:Int):Pool×Bool:=
 if ig p=true then(match fE p.cells i with
  |none=>(p,false)
  |some c=>if c.u=true∧0≤cX p.cells∧cX p.cells≤i then BZ p (yp p i c.n) else(p,false)) else(p,false)
def eR (l:List Cell):Nat→Int
 |0=> -1
 |k+1=>match l[k]? with
  |some c=>if c.u=true then(k:Int) else eR l k
  |none=> -1
def ry:Nat→Pool→Pool
 |0,p=>p
 |n+1,p=>if(gi p (eR p.cells p.cells.length)).2=true then ry n (gi p (eR p.cells p.cells.length)).1 else p
def xZ (p:Pool):Pool:=ry 24 p
theorem tT (p:Pool) (i:Int):cY (gi p i).1≤max (cY p) 500:=by
 unfold gi
 split
 ·split
  ·simp only[];omega
  ·split
   ·exact UN _ _
   ·simp only[];omega
 ·simp only[];omega
theorem PB: ∀(n:Nat) (p:Pool),cY (ry n p)≤max (cY p) 500
 |0,p=>by unfold ry;omega
 |n+1,p=>by
  unfold ry
  split
  ·have h1:=PB n (gi p (eR p.cells p.cells.length)).1
   have h2:=tT p (eR p.cells p.cells.length)
   omega
  ·omega
end Go.T
namespace Go.T
theorem BO {α:Type} (w:α→Nat): ∀l m:List α,tot w (l++m)=tot w l+tot w m
 |[],m=>by simp[tot]
 |a::l,m=>by simp only[List.cons_append,tot,BO w l m];omega
theorem Xx {α:Type} {l:List α} {i:Nat} {a b:α} (ha:l[i]?=some a) (hb:l[i+1]?=some b):l=l.take i++a::b::l.drop (i+2):=by
 obtain⟨h1,e1⟩:=List.getElem?_eq_some_iff.1 ha
 obtain⟨h2,e2⟩:=List.getElem?_eq_some_iff.1 hb
 conv=>lhs;rw[←List.take_append_drop i l]
 rw[List.drop_eq_getElem_cons h1,List.drop_eq_getElem_cons h2,e1,e2]
theorem Cu (l:List Key):aH (cn l)≤l.length+1:=by
 have h1:=tO l
 have h2:=tP l
 unfold aH;omega
theorem gv {t:Tree} {i:Nat} {a:List (List Key)} (h:t.nodes[i]?=some a):ij t i=aF a:=by unfold ij;rw[List.getD_eq_getElem?_getD,h];rfl
theorem qo (n:Nat) (t:Tree):jU (n+1) t=match nZ t with|none=>t|some i=>jU n (cu t i):=rfl
theorem tU {t:Tree} {i:Nat} (h:i+1<t.nodes.length):tot aH (cu t i).nodes+(cu t i).nodes.length≤tot aH t.nodes+t.nodes.length:=by
 obtain⟨a,ha⟩: ∃a,t.nodes[i]?=some a:=⟨_,List.getElem?_eq_getElem (by omega)⟩
 obtain⟨b,hb⟩: ∃b,t.nodes[i+1]?=some b:=⟨_,List.getElem?_eq_getElem h⟩
 have hl:=rM h
 have hs:=congrArg (tot aH) (Xx ha hb)
 rw[BO] at hs
 simp only[tot] at hs
 have la:=cE a
 have lb:=cE b
 have hn:=Cu (ij t i++ij t (i+1))
 rw[List.length_append,gv ha,gv hb] at hn
 have e:tot aH (cu t i).nodes=tot aH (t.nodes.take i)+aH (cn (aF a++aF b))+tot aH (t.nodes.drop (i+2)):=by
  unfold cu jT
  simp only[]
  rw[BO,BO,gv ha,gv hb]
  simp[tot]
 have sa:aH a=a.length+tot bB a:=rfl
 have sb:aH b=b.length+tot bB b:=rfl
 omega
theorem QZ {n:Nat} {t:Tree} (h:nZ t=none):jU n t=t:=by
 cases n with
 |zero=>rfl
 |succ n=>rw[qo,h]
theorem B0 {t:Tree} {i:Nat} (h:i+1<t.nodes.length) (hl:t.lows.length=t.nodes.length):(cu t i).lows.length=(cu t i).nodes.length:=by
 have h1:=xY t i 2 [t.lows.getD i 0] [cn (ij t i++ij t (i+1))] (by omega)
 have h2:=AS t i 2 [t.lows.getD i 0] [cn (ij t i++ij t (i+1))] (by omega)
 simp only[List.length_singleton] at h1 h2
 unfold cu
 omega
theorem PC: ∀(n:Nat) (t:Tree),t.lows.length=t.nodes.length→tot aH (jU n t).nodes+(jU n t).nodes.length≤tot aH t.nodes+t.nodes.length∧(jU n t).lows.length=(jU n t).nodes.length
 |0,t,h=>⟨Nat.le_refl _,h⟩
 |n+1,t,h=>by
  rw[qo]
  cases hp:nZ t with
  |none=>exact⟨Nat.le_refl _,h⟩
  |some i=>
   have hlt:=(qn hp).1
   have h1:=tU hlt
   have h2:=PC n (cu t i) (B0 hlt h)
   exact⟨by simp only[];omega,h2.2⟩
theorem PD {k:Key} (h:ga k=true):0≤k.b∧k.b≤15∧1≤k.a∧k.a≤60∧0≤k.k∧k.k≤2:=by
 simp only[ga,iQ,Bool.and_eq_true,decide_eq_true_eq] at h
 omega
theorem V3 {b a:Int} (h: -1000≤b∧b≤1000∧ -1000≤a∧a≤1000):gh b a=64*b+a:=by
 unfold gh
 rw[VT (by omega),aB (by omega)]
theorem Q0 {k:Key} (h:ga k=true):gh k.b k.a=64*k.b+k.a:=by
 have:=PD h
 exact V3 (by omega)
theorem JW {f:Int→Bool} {l:List Int} {x:Int} (h0:l[0]?=some x) (hx:f x=true): ∀n:Nat,0<n→n≤l.length→ ∃j:Nat,pP f l n=j∧j<n
 |0,h,_=>by omega
 |n+1,_,hn=>by
  unfold pP
  rw[List.getElem?_eq_getElem (by omega)]
  simp only[]
  split
  ·exact⟨n,rfl,by omega⟩
  ·rename_i hf
   cases n with
   |zero=>
    rw[List.getElem?_eq_getElem (by omega)] at h0
    cases h0;exact absurd hx hf
   |succ n=>
    obtain⟨j,h1,h2⟩:=JW h0 hx (n+1) (by omega) (by omega)
    exact⟨j,h1,by omega⟩
theorem JX {t:Tree} {k:Key} (h:dQ t=true) (hk:ga k=true): ∃j:Nat,pQ t k.b k.a=j∧j<t.nodes.length:=by
 have h1:=o5 h
 have h2:=PD hk
 have h3:=Q0 hk
 unfold pQ
 have:=JW (f:=fun x=>decide (x≤gh k.b k.a)) (QT h) (by simp only[decide_eq_true_eq];omega) t.lows.length (by omega) (Nat.le_refl _)
 rw[h1.2.2] at this ⊢
 exact this
theorem PE (n:List (List Key)) (k:Key):aH (bU n k).1≤aH n+2:=by
 have h1:=AP n k
 have h2:=AQ n k
 unfold aH;omega
theorem SC (t:Tree) (i c:Nat) (lows:List Int) (nodes:List (List (List Key))):tot aH (jT t i c lows nodes).nodes≤tot aH t.nodes+tot aH nodes:=by
 have h:tot aH (t.nodes.take i++t.nodes.drop i)=tot aH t.nodes:=by rw[List.take_append_drop]
 have h2:tot aH (t.nodes.drop (i+c))≤tot aH (t.nodes.drop i):=by
  rw[←List.drop_drop]
  have h3:tot aH ((t.nodes.drop i).take c++(t.nodes.drop i).drop c)=tot aH (t.nodes.drop i):=by rw[List.take_append_drop]
  rw[BO] at h3;omega
 unfold jT
 simp only[BO] at h ⊢
 omega
theorem V4 {t:Tree} {i:Nat} {k:Key} (hl:t.lows.length=t.nodes.length) (hi:i<t.nodes.length) (ht: ∀n∈t.nodes,tot bB n≤8∧n.length≤3):
 tot aH (jD t i k).nodes≤tot aH t.nodes+40∧(jD t i k).nodes.length≤t.nodes.length+1∧(jD t i k).lows.length=(jD t i k).nodes.length:=by
 have hn:=ht t.nodes[i] (List.getElem_mem hi)
 have hg:t.nodes.getD i []=t.nodes[i]:=by rw[List.getD_eq_getElem?_getD,List.getElem?_eq_getElem hi];rfl
 have hp:=PE t.nodes[i] k
 have hk:=nF t.nodes[i] k
 have hz:aH t.nodes[i]=t.nodes[i].length+tot bB t.nodes[i]:=rfl
 unfold jD
 rw[hg]
 generalize bX t.nodes[i] k=l at*
 have e1:=Cu (l.take ((l.length+1)/2))
 have e2:=Cu (l.drop ((l.length+1)/2))
 rw[List.length_take] at e1
 rw[List.length_drop] at e2
 have key: ∀(lows:List Int) (nodes:List (List (List Key))),lows.length=nodes.length→nodes.length≤2→tot aH nodes≤40→tot aH (jT t i 1 lows nodes).nodes≤tot aH t.nodes+40∧(jT t i 1 lows nodes).nodes.length≤t.nodes.length+1∧(jT t i 1 lows nodes).lows.length=(jT t i 1 lows nodes).nodes.length:=by
  intro lows nodes h1 h2 h3
  have h4:=SC t i 1 lows nodes
  have h5:=AS t i 1 lows nodes (by omega)
  have h6:=xY t i 1 lows nodes (by omega)
  omega
 split
 ·split
  ·exact key _ _ rfl (by simp) (by simp[tot])
  ·exact key _ _ rfl (by simp) (by simp only[tot];omega)
 ·exact key _ _ rfl (by simp) (by simp only[tot];omega)
theorem NT {t:Tree} (h:dQ t=true): ∀n∈t.nodes,tot bB n≤8∧n.length≤3:=fun n hn=>by
 have:=BN (tQ h hn);omega
theorem PF {t:Tree} {i:Nat} {k:Key} (h:dQ t=true) (hi:i<t.nodes.length):
 tot aH (jD t i k).nodes+(jD t i k).nodes.length≤300∧(jD t i k).lows.length=(jD t i k).nodes.length∧dO (jU (jD t i k).nodes.length (jD t i k))≤600:=by
 have h1:=o5 h
 have h2:=JU h
 have h3:=V4 (k:=k) h1.2.2 hi (NT h)
 have h4:=PC (jD t i k).nodes.length (jD t i k) h3.2.2
 refine⟨by omega,h3.2.2,?_⟩
 unfold dO pN
 omega
theorem RU {n:Nat} (h:8<n):(n+1)/2<n:=by omega
end Go.T
namespace Go.T
def tV:List Cell→Int→List Int
 |[],_=>[]
 |c::r,s=>if c.u=true then s::tV r (s+1) else tV r (s+1)
theorem AT: ∀(l:List Cell) (s:Int),(tV l s).length=bq l
 |[],s=>rfl
 |c::r,s=>by
  have:=AT r (s+1)
  unfold bq at this ⊢
  unfold tV
  cases h:c.u<;>simp[h,this]
theorem AU: ∀{l:List Cell} {s:Int} {j:Nat} {c:Cell},l[j]?=some c→c.u=true→s+j∈tV l s
 |[],s,j,c,h,_=>by simp at h
 |d::r,s,0,c,h,hu=>by
  simp only[List.getElem?_cons_zero,Option.some.injEq] at h
  subst h
  unfold tV
  rw[if_pos hu];simp
 |d::r,s,j+1,c,h,hu=>by
  have:=AU (l:=r) (s:=s+1) (j:=j) (by simpa using h) hu
  have e:s+((j+1:Nat):Int)=s+1+(j:Int):=by omega
  rw[e]
  unfold tV
  split
  ·exact .tail _ this
  ·exact this
theorem RV {α:Type} [DecidableEq α]: ∀(l m:List α),l.Nodup→(∀x∈l,x∈m)→l.length≤m.length
 |[],m,_,_=>Nat.zero_le _
 |a::l,m,hn,hs=>by
  obtain⟨h1,h2⟩:=List.nodup_cons.1 hn
  have hm:=hs a (.head _)
  have:=RV l (m.erase a) h2 fun x hx=>(List.mem_erase_of_ne (fun e=>by subst e;exact h1 hx)).2 (hs x (.tail _ hx))
  rw[List.length_erase_of_mem hm] at this
  have:=List.length_pos_of_mem hm
  simp only[List.length_cons];omega
theorem PG {l:List Cell} {i g:Int} (h:(cellAt l i g).2=true): ∃c,fE l i=some c∧c.u=true:=by
 unfold cellAt at h
 cases hc:fE l i with
 |none=>rw[hc] at h;cases h
 |some c=>
  rw[hc] at h
  simp only at h
  split at h
  ·rename_i h1;exact⟨c,rfl,h1.1⟩
  ·cases h
theorem RW {p:Pool} (h:en p=true) {i j:Nat} {x y:Key} (hi:(aK p.t)[i]?=some x) (hj:(aK p.t)[j]?=some y) (hx:x.k=1) (hy:y.k=1) (hc:x.c=y.c):i=j:=by
 unfold en at h
 simp only[Bool.and_eq_true,v8] at h
 have key: ∀{i j:Nat} {x y:Key},(aK p.t)[i]?=some x→(aK p.t)[j]?=some y→x.k=1→y.k=1→x.c=y.c→ ¬i<j:=by
  intro i j x y hi hj hx hy hc hlt
  obtain⟨hjl,_⟩:=List.getElem?_eq_some_iff.1 hj
  have:=h.1 j hjl
  unfold bY at this
  rw[hj] at this
  simp only[Bool.and_eq_true,hy,decide_true,Bool.not_true,Bool.false_or,Bool.not_eq_true',List.any_eq_false] at this
  have hm:x∈(aK p.t).take j:=List.mem_of_getElem? (i:=i) (by rw[List.getElem?_take];simp[hlt,hi])
  have:=this.2.2 x hm
  simp[hx,hc] at this
 have h1:=key hi hj hx hy hc
 have h2:=key hj hi hy hx hc.symm
 omega
theorem UO {p:Pool} (h:en p=true) {x:Key} (hx:x∈aK p.t) (hk:x.k=1): ∃c,fE p.cells x.c=some c∧c.u=true:=by
 unfold en at h
 simp only[Bool.and_eq_true,v8] at h
 obtain⟨i,hi,rfl⟩:=List.getElem_of_mem hx
 have:=h.1 i hi
 unfold bY at this
 rw[List.getElem?_eq_getElem hi] at this
 simp only[Bool.and_eq_true,hk,decide_true,Bool.not_true,Bool.false_or] at this
 exact PG this.2.1
theorem JY: ∀(l:List Key),(∀(i j:Nat) (x y:Key),l[i]?=some x→l[j]?=some y→x.k=1→y.k=1→x.c=y.c→i=j)→((l.filter fun k=>decide (k.k=1)).map (·.c)).Nodup
 |[],_=> .nil
 |a::l,h=>by
  have ih:=JY l fun i j x y h1 h2 h3 h4 h5=>by have:=h (i+1) (j+1) x y (by simpa using h1) (by simpa using h2) h3 h4 h5;omega
  by_cases ha:a.k=1
  ·rw[List.filter_cons_of_pos (by simpa using ha),List.map_cons]
   refine List.nodup_cons.2 ⟨fun hm=> ?_,ih⟩
   obtain⟨b,hb,e⟩:=List.mem_map.1 hm
   obtain⟨hb1,hb2⟩:=List.mem_filter.1 hb
   obtain⟨j,hj⟩:=List.mem_iff_getElem?.1 hb1
   have:=h 0 (j+1) a b rfl (by simpa using hj) ha (by simpa using hb2) e.symm
   omega
  ·rw[List.filter_cons_of_neg (by simpa using ha)];exact ih
theorem UP {p:Pool} (h:en p=true) {i:Int} {c:Cell} (hc:fE p.cells i=some c) (hu:c.u=true): ∃x∈aK p.t,ku i x=true:=by
 have hi:0≤i∧i<p.cells.length:=Classical.byContradiction fun hn=>by rw[nD hn] at hc;cases hc
 obtain⟨n,rfl⟩: ∃n:Nat,i=n:=⟨i.toNat,by omega⟩
 rw[aC] at hc
 apply Classical.byContradiction
 intro hno
 have hn:=JY (aK p.t) fun i j x y h1 h2 h3 h4 h5=>RW h h1 h2 h3 h4 h5
 have hsub: ∀y∈((aK p.t).filter fun k=>decide (k.k=1)).map (·.c),y∈(tV p.cells 0).erase (n:Int):=by
  intro y hy
  obtain⟨x,hx,rfl⟩:=List.mem_map.1 hy
  obtain⟨hx1,hx2⟩:=List.mem_filter.1 hx
  have hx2:x.k=1:=by simpa using hx2
  obtain⟨d,hd,hdu⟩:=UO h hx1 hx2
  have hxi:0≤x.c∧x.c<p.cells.length:=Classical.byContradiction fun hn=>by rw[nD hn] at hd;cases hd
  obtain⟨m,hm⟩: ∃m:Nat,x.c=m:=⟨x.c.toNat,by omega⟩
  rw[hm,aC] at hd
  have:=AU (s:=0) hd hdu
  refine(List.mem_erase_of_ne fun e=>hno ⟨x,hx1,by unfold ku;simp[hx2,e]⟩).2 ?_
  rw[hm];simpa using this
 have hlen:=RV _ _ hn hsub
 have hm0:=AU (s:=0) hc hu
 rw[List.length_erase_of_mem (by simpa using hm0),AT,List.length_map] at hlen
 have hpos:=List.length_pos_of_mem hm0
 rw[AT] at hpos
 unfold en bT at h
 simp only[Bool.and_eq_true,decide_eq_true_eq] at h
 have:=h.2
 omega
theorem Q1 {p:Pool} (h:en p=true) {i:Int} {c:Cell} (hc:fE p.cells i=some c) (hu:c.u=true):
 ∃m:Nat,(aK p.t)[m]?=some (fW p i)∧ku i (fW p i)=true∧(∀j x,(aK p.t)[j]?=some x→ku i x=true→j=m):=by
 obtain⟨x,hx,ho⟩:=UP h hc hu
 unfold fW
 cases hf:(aK p.t).find? (ku i) with
 |none=>exact absurd ho (by simpa using List.find?_eq_none.1 hf x hx)
 |some k=>
  have h1:=List.find?_some hf
  obtain⟨m,hm⟩:=List.mem_iff_getElem?.1 (List.mem_of_find?_eq_some hf)
  refine⟨m,hm,h1,fun j y hj hy=> ?_⟩
  unfold ku at h1 hy
  simp only[Bool.and_eq_true,decide_eq_true_eq] at h1 hy
  exact RW h hj hm hy.1 h1.1 (by rw[hy.2,h1.2])
end Go.T
