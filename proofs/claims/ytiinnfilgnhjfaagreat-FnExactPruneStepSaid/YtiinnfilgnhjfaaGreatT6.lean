/- A run has one result; the formulas, simplified. The program's data as rows; what the formulas say of them. Rows that are written, as data. Loops over lists: how a run of them is told. What the program's functions come to, in plain Lean. What the program's functions come to: nodes, trees, pools. What the program's functions come to: maps, equality, steps. What the program's functions come to: volumes taken away. Draws: a cursor over bytes. Ages and volumes put in: what the functions come to. Maps put in, taken out, resized: what the functions come to. A key put into a node: what it comes to. Sets of keys stay in order; a node that takes no key has more than it may. An operation out of bytes. A key put into a tree: what it comes to. Sizes of what is right; keys put into pools; what is done to pools. A key put into a tree: sizes, and where it goes. Each cell that is used is of one key. -/
import Derived.Test.YtiinnfilgnhjfaaGreatT5
set_option linter.unusedVariables false
set_option linter.unusedSimpArgs false
namespace Go.T
def aac (cf:Cf):Prop:= ∀f vs r fs r' fs',cf f vs r fs→cf f vs r' fs'→r=r'∧fs=fs'
def abG (lp:Lp):Prop:= ∀f i c st (Q Q':TX→TS→Prop),lp f i c st Q→lp f i c st Q'→ ∃x s,Q x s∧Q' x s
theorem o5 {R:Type} {cf:Cf} {lp:Lp} (hc:aac cf) (hl:abG lp) {Q Q':R→Prop}: ∀(e:Ev R),e.holds cf lp Q→e.holds cf lp Q'→ ∃r,Q r∧Q' r
 | .fail,h,_=>h.elim
 | .ret r,h,h'=>⟨r,h,h'⟩
 | .test b k,h,h'=>o5 hc hl (k b) h h'
 | .row rows i k,⟨c,h1,h2⟩,⟨c',h1',h2'⟩=>by
   rw[h1] at h1';cases h1'
   exact o5 hc hl (k c) h2 h2'
 | .byte rows i k,⟨c,h1,h2⟩,⟨c',h1',h2'⟩=>by
   rw[h1] at h1';cases h1'
   exact o5 hc hl (k c) h2 h2'
 | .bytes rows k,⟨c,h1,h2⟩,⟨c',h1',h2'⟩=>by
   rw[h1] at h1';cases h1'
   exact o5 hc hl (k c) h2 h2'
 | .call f vs k,⟨r,fs,h1,h2⟩,⟨r',fs',h1',h2'⟩=>by
   obtain⟨rfl,rfl⟩:=hc _ _ _ _ _ _ h1 h1'
   exact o5 hc hl (k r fs) h2 h2'
 | .loop f i c st k,h,h'=>by
   obtain⟨x,s,h1,h2⟩:=hl _ _ _ _ _ _ h h'
   exact o5 hc hl (k x s) h1 h2
 | .both a b,⟨r,h1,h2,h3⟩,⟨r',h1',h2',h3'⟩=>by
   obtain⟨r0,e1,e2⟩:=o5 hc hl a h1 h1'
   subst e1 e2
   exact⟨_,h3,h3'⟩
section
variable {C : mq}
theorem TF {cf:Cf} {lp:Lp} (hc:aac cf) (hl:abG lp) {fx:List Nat} {f i:Nat} {c:Code} {Q Q':TX→TS→Prop}: ∀(n:Nat) (st:TS),iter C cf lp fx f i c Q n st→iter C cf lp fx f i c Q' n st→ ∃x s,Q x s∧Q' x s
 |0,_,h,_=>h.elim
 |n+1,st,h,h'=>by
  obtain⟨⟨x,s⟩,h1,h2⟩:=o5 hc hl _ h h'
  cases x with
  |norm=>
   simp only at h1 h2
   rw[rU] at h1 h2
   exact TF hc hl n _ h1 h2
  |ex id=>exact⟨_,_,h1,h2⟩
  |ret=>exact⟨_,_,h1,h2⟩
theorem V6 {cf:Cf} (hc:aac cf) (k:Nat) (fx:List Nat): ∀n,abG (UA C cf k fx n)
 |0=>fun _ _ _ _ _ _ h _=>h.elim
 |n+1=>fun f i c st Q Q' h h'=>TF hc (V6 hc k fx n) k st h h'
theorem HZ: ∀k,aac (je C k)
 |0=>fun _ _ _ _ _ _ h _=>h.elim
 |k+1=>fun f vs r fs r' fs' h h'=>by
  unfold je at h h'
  cases hx:C.ext f with
  |some p=>rw[hx] at h h';have h:p vs=some (r,fs):=h;have h':p vs=some (r',fs'):=h';rw[h] at h';cases h';exact⟨rfl,rfl⟩
  |none=>
  rw[hx] at h h'
  simp only at h h'
  obtain⟨p,h1,h2⟩:=o5 (HZ k) (V6 (HZ k) k _ 4) _ h h'
  rw[h1] at h2
  cases h2
  exact⟨rfl,rfl⟩
theorem aa.det {f:FuncId} {vs:List TV} {r r':TV} {fs fs':List TV} (h:aa C f vs r fs) (h':aa C f vs r' fs'):r'=r∧fs'=fs:=by
 obtain⟨k,h⟩:=h
 obtain⟨k',h'⟩:=h'
 obtain⟨h1,h2⟩:=HZ (max k k') _ _ _ _ _ _ (mU (Nat.le_max_left _ _) h) (mU (Nat.le_max_right _ _) h')
 exact⟨h1.symm,h2.symm⟩
end
def fP {α:Type} (l:List α) (i:Int):Option α:=if 0≤i then l[i.toNat]? else none
theorem aE {α:Type} (l:List α) (i:Nat):fP l (i:Int)=l[i]?:=by
 unfold fP;rw[if_pos (Int.natCast_nonneg i),Int.toNat_natCast]
theorem o6 {α:Type} {l:List α} {i:Int} (h0:0≤i) (h1:i<l.length): ∃a,fP l i=some a:=by
 unfold fP;rw[if_pos h0];exact⟨_,List.getElem?_eq_getElem (by omega)⟩
theorem o7 {α:Type} {l:List α} {i:Int} (h: ¬(0≤i∧i<l.length)):fP l i=none:=by
 unfold fP
 split
 ·exact List.getElem?_eq_none (by omega)
 ·rfl
theorem bB {α:Type} (e:α→List TC) (l:List α) (i:Int):rowAt (l.map e) i=(fP l i).map e:=by
 unfold rowAt fP
 split
 ·rw[List.getElem?_map]
 ·rfl
theorem Nh {α:Type} {l:List α} {i:Int} {a:α} (h:fP l i=some a):a∈l:=by
 unfold fP at h
 split at h
 ·exact List.mem_of_getElem? h
 ·cases h
def acK {α:Type} (l:List α) (i:Int) (a:α):List α:=l.set i.toNat a
theorem TG {α:Type} {e:α→List TC} {l:List α} {i:Int} {a a':α} {f:Nat} {cs:List TC} (h:fP l i=some a) (he:(e a).take f++cs++(e a).drop (f+cs.length)=e a'):setRow (l.map e) i f cs=(acK l i a').map e:=by
 unfold fP at h
 split at h
 ·unfold setRow acK
  rw[List.getElem?_map,h]
  simp only[Option.map_some,he,List.map_set]
 ·cases h
@[simp] theorem cu {α:Type} (e:α→List TC) (l:List α) (a b:Int):aA (l.map e) a b=((l.take b.toNat).drop a.toNat).map e:=by
  unfold aA;rw[←List.map_take,←List.map_drop]
theorem uH {rows:List (List TC)} (h: ∀r∈rows,∀c∈r,∃v,c= .sc v):bR rows=true:=by
 unfold bR
 rw[List.all_eq_true]
 intro r hr
 rw[List.all_eq_true]
 intro c hc
 obtain⟨v,rfl⟩:=h r hr c hc
 rfl
@[simp] theorem H6 (s:ByteArray):(ByteArray.data s).1.length=s.size:=rfl
@[simp] theorem C3 (l h n:Int):eT l h n=decide (0≤l∧l≤h∧h≤n):=by unfold eT;rfl
end Go.T
namespace Go.T
structure Key where
 b:Int
 a:Int
 k:Int
 c:Int
 g:Int
 deriving DecidableEq
structure Age where
 id:Int
 fr:Int
 deriving DecidableEq
structure Cell where
 g:Int
 u:Bool
 n:Int
 deriving DecidableEq
structure Vol where
 name:ByteArray
 age:Int
 size:Int
 fx:Bool
structure Mp where
 name:ByteArray
 fx:Bool
 l:List Int
structure Tree where
 lows:List Int
 nodes:List (List (List Key))
structure Pool where
 t:Tree
 ages:List Age
 cells:List Cell
 vols:List Vol
 next:Int
structure YH where
 kind:Int
 name:ByteArray
 to:ByteArray
 a:Int
 b:Int
abbrev iI (n:Int):TC:= .sc (.int .i64 n)
abbrev iB (b:Bool):TC:= .sc (.bool b)
abbrev iS (s:ByteArray):TC:= .sc (.string s)
abbrev cI (n:Int):CE:= .sc (.int .i64 n)
abbrev cB (b:Bool):CE:= .sc (.bool b)
abbrev cS (s:ByteArray):CE:= .sc (.string s)
abbrev ay (a b:Int):Int:=Ur .i64 a b
abbrev dZ (a b:Int):Int:=Mv .i64 a b
abbrev aad (a b:Int):Int:=Us .i64 a b
theorem aC {a b:Int} (h: -9223372036854775808≤a+b∧a+b≤9223372036854775807):ay a b=a+b:=Z7 h
theorem eB {a b:Int} (h: -9223372036854775808≤a-b∧a-b≤9223372036854775807):dZ a b=a-b:=Z8 h
theorem aae {a b:Int} (h: -9223372036854775808≤a*b∧a*b≤9223372036854775807):aad a b=a*b:=Z9 h
abbrev RR:=List (List TC)
abbrev QV:=TV→List TV→Prop
abbrev QX:=TX→TS→Prop
abbrev sI:Sh:= .int .i64
abbrev sB:Sh:= .bool
abbrev sS:Sh:= .str
abbrev hz:Hint:= .z
abbrev hb:Hint→Hint→Hint:= .br
abbrev hr:List Sh→Hint→Hint:= .row
abbrev hc:xU→List xU→Hint→Hint:= .call
abbrev bs0:ByteArray:=⟨#[]⟩
def bC (n:Int):List TC:=[.sc (.int .i64 n)]
def C4 (n:Int):List TC:=[.sc (.int .u8 n)]
def JQ (n:Bool):List TC:=[.sc (.bool n)]
def bu (x:Key):List TC:=[.sc (.int .i64 x.b),.sc (.int .i64 x.a),.sc (.int .i64 x.k),.sc (.int .i64 x.c),.sc (.int .i64 x.g)]
def bV (x:Age):List TC:=[.sc (.int .i64 x.id),.sc (.int .i64 x.fr)]
def bU (x:Cell):List TC:=[.sc (.int .i64 x.g),.sc (.bool x.u),.sc (.int .i64 x.n)]
def dD (x:Vol):List TC:=[.sc (.string x.name),.sc (.int .i64 x.age),.sc (.int .i64 x.size),.sc (.bool x.fx)]
def R2 (x:YH):List TC:=[.sc (.int .i64 x.kind),.sc (.string x.name),.sc (.string x.to),.sc (.int .i64 x.a),.sc (.int .i64 x.b)]
def H7 (x:Mp):List TC:=[.sc (.string x.name),.sc (.bool x.fx),.sub 1 (x.l.map bC)]
def YI (x:List Int):List TC:=[.sub 1 (x.map C4)]
def bX (x:List Key):List TC:=[.sub 5 (x.map bu)]
def aI (x:List (List Key)):List TC:=[.sub 1 (x.map bX)]
abbrev V7 (t:Tree):List TC:=[.sub 1 (t.lows.map bC),.sub 1 (t.nodes.map aI)]
abbrev jT (p:Pool):List TC:=[.sub 1 (p.t.lows.map bC),.sub 1 (p.t.nodes.map aI),.sub 2 (p.ages.map bV),.sub 3 (p.cells.map bU),.sub 4 (p.vols.map dD),.sc (.int .i64 p.next)]
abbrev vI (n:Int):TV:= .c (.sc (.int .i64 n))
abbrev vB (b:Bool):TV:= .c (.sc (.bool b))
abbrev vS (s:ByteArray):TV:= .c (.sc (.string s))
abbrev lg (l:List Int):TV:= .c (.sub 1 (l.map bC))
abbrev cH (l:List Key):TV:= .c (.sub 5 (l.map bu))
abbrev Gv (l:List (List Key)):TV:= .c (.sub 1 (l.map bX))
abbrev uI (l:List (List (List Key))):TV:= .c (.sub 1 (l.map aI))
abbrev fE (l:List Age):TV:= .c (.sub 2 (l.map bV))
abbrev iz (l:List Cell):TV:= .c (.sub 3 (l.map bU))
abbrev yw (l:List Vol):TV:= .c (.sub 4 (l.map dD))
abbrev q7 (k:Key):TV:= .ag [.sc (.int .i64 k.b),.sc (.int .i64 k.a),.sc (.int .i64 k.k),.sc (.int .i64 k.c),.sc (.int .i64 k.g)]
abbrev gx (n:List (List Key)):TV:= .ag [.sub 1 (n.map bX)]
abbrev c6 (t:Tree):TV:= .ag (V7 t)
abbrev gW (p:Pool):TV:= .ag (jT p)
section
variable {i : Int}
@[simp] theorem rz {l:List Int} {K:Int→Prop}:(∃n,rowAt (l.map bC) i=some [.sc (.int .i64 n)]∧K n)↔ ∃a,fP l i=some a∧K a:=by
  rw[bB]
  constructor
  ·rintro⟨n,h,hK⟩
   obtain⟨a,ha,h⟩:=Option.map_eq_some_iff.1 h
   unfold bC at h;cases h;exact⟨_,ha,hK⟩
  ·rintro⟨a,ha,hK⟩
   exact⟨_,by rw[ha];rfl,hK⟩
@[simp] theorem ac5 {l:List Int} {K:Int→Prop}:(∃n,rowAt (l.map C4) i=some [.sc (.int .u8 n)]∧K n)↔ ∃a,fP l i=some a∧K a:=by
  rw[bB]
  constructor
  ·rintro⟨n,h,hK⟩
   obtain⟨a,ha,h⟩:=Option.map_eq_some_iff.1 h
   unfold C4 at h;cases h;exact⟨_,ha,hK⟩
  ·rintro⟨a,ha,hK⟩
   exact⟨_,by rw[ha];rfl,hK⟩
@[simp] theorem aaf {l:List Bool} {K:Bool→Prop}:(∃n,rowAt (l.map JQ) i=some [.sc (.bool n)]∧K n)↔ ∃a,fP l i=some a∧K a:=by
  rw[bB]
  constructor
  ·rintro⟨n,h,hK⟩
   obtain⟨a,ha,h⟩:=Option.map_eq_some_iff.1 h
   unfold JQ at h;cases h;exact⟨_,ha,hK⟩
  ·rintro⟨a,ha,hK⟩
   exact⟨_,by rw[ha];rfl,hK⟩
@[simp] theorem jg {l:List Key} {K:Int→Int→Int→Int→Int→Prop}:(∃b a k c g,rowAt (l.map bu) i=some [.sc (.int .i64 b),.sc (.int .i64 a),.sc (.int .i64 k),.sc (.int .i64 c),.sc (.int .i64 g)]∧K b a k c g)↔ ∃x,fP l i=some x∧K x.b x.a x.k x.c x.g:=by
  rw[bB]
  constructor
  ·rintro⟨_,_,_,_,_,h,hK⟩
   obtain⟨a,ha,h⟩:=Option.map_eq_some_iff.1 h
   unfold bu at h;cases h;exact⟨_,ha,hK⟩
  ·rintro⟨a,ha,hK⟩
   exact⟨_,_,_,_,_,by rw[ha];rfl,hK⟩
@[simp] theorem rA {l:List Age} {K:Int→Int→Prop}:(∃b a,rowAt (l.map bV) i=some [.sc (.int .i64 b),.sc (.int .i64 a)]∧K b a)↔ ∃x,fP l i=some x∧K x.id x.fr:=by
  rw[bB]
  constructor
  ·rintro⟨_,_,h,hK⟩
   obtain⟨a,ha,h⟩:=Option.map_eq_some_iff.1 h
   unfold bV at h;cases h;exact⟨_,ha,hK⟩
  ·rintro⟨a,ha,hK⟩
   exact⟨_,_,by rw[ha];rfl,hK⟩
@[simp] theorem qh {l:List Cell} {K:Int→Bool→Int→Prop}:(∃g u n,rowAt (l.map bU) i=some [.sc (.int .i64 g),.sc (.bool u),.sc (.int .i64 n)]∧K g u n)↔ ∃x,fP l i=some x∧K x.g x.u x.n:=by
  rw[bB]
  constructor
  ·rintro⟨_,_,_,h,hK⟩
   obtain⟨a,ha,h⟩:=Option.map_eq_some_iff.1 h
   unfold bU at h;cases h;exact⟨_,ha,hK⟩
  ·rintro⟨a,ha,hK⟩
   exact⟨_,_,_,by rw[ha];rfl,hK⟩
@[simp] theorem xV {l:List Vol} {K:ByteArray→Int→Int→Bool→Prop}:(∃s a z f,rowAt (l.map dD) i=some [.sc (.string s),.sc (.int .i64 a),.sc (.int .i64 z),.sc (.bool f)]∧K s a z f)↔ ∃x,fP l i=some x∧K x.name x.age x.size x.fx:=by
  rw[bB]
  constructor
  ·rintro⟨_,_,_,_,h,hK⟩
   obtain⟨a,ha,h⟩:=Option.map_eq_some_iff.1 h
   unfold dD at h;cases h;exact⟨_,ha,hK⟩
  ·rintro⟨a,ha,hK⟩
   exact⟨_,_,_,_,by rw[ha];rfl,hK⟩
@[simp] theorem adH {l:List YH} {K:Int→ByteArray→ByteArray→Int→Int→Prop}:(∃k s t a b,rowAt (l.map R2) i=some [.sc (.int .i64 k),.sc (.string s),.sc (.string t),.sc (.int .i64 a),.sc (.int .i64 b)]∧K k s t a b)↔ ∃x,fP l i=some x∧K x.kind x.name x.to x.a x.b:=by
  rw[bB]
  constructor
  ·rintro⟨_,_,_,_,_,h,hK⟩
   obtain⟨a,ha,h⟩:=Option.map_eq_some_iff.1 h
   unfold R2 at h;cases h;exact⟨_,ha,hK⟩
  ·rintro⟨a,ha,hK⟩
   exact⟨_,_,_,_,_,by rw[ha];rfl,hK⟩
@[simp] theorem adq {l:List Mp} {K:ByteArray→Bool→List (List TC)→Prop}:(∃s f r,rowAt (l.map H7) i=some [.sc (.string s),.sc (.bool f),.sub 1 r]∧K s f r)↔ ∃x,fP l i=some x∧K x.name x.fx (x.l.map bC):=by
  rw[bB]
  constructor
  ·rintro⟨_,_,_,h,hK⟩
   obtain⟨a,ha,h⟩:=Option.map_eq_some_iff.1 h
   unfold H7 at h;cases h;exact⟨_,ha,hK⟩
  ·rintro⟨a,ha,hK⟩
   exact⟨_,_,_,by rw[ha];rfl,hK⟩
@[simp] theorem sg {l:List (List Key)} {K:List (List TC)→Prop}:(∃r,rowAt (l.map bX) i=some [.sub 5 r]∧K r)↔ ∃x,fP l i=some x∧K (x.map bu):=by
  rw[bB]
  constructor
  ·rintro⟨_,h,hK⟩
   obtain⟨a,ha,h⟩:=Option.map_eq_some_iff.1 h
   unfold bX at h;cases h;exact⟨_,ha,hK⟩
  ·rintro⟨a,ha,hK⟩
   exact⟨_,by rw[ha];rfl,hK⟩
@[simp] theorem rB {l:List (List (List Key))} {K:List (List TC)→Prop}:(∃r,rowAt (l.map aI) i=some [.sub 1 r]∧K r)↔ ∃x,fP l i=some x∧K (x.map bX):=by
  rw[bB]
  constructor
  ·rintro⟨_,h,hK⟩
   obtain⟨a,ha,h⟩:=Option.map_eq_some_iff.1 h
   unfold aI at h;cases h;exact⟨_,ha,hK⟩
  ·rintro⟨a,ha,hK⟩
   exact⟨_,by rw[ha];rfl,hK⟩
@[simp] theorem acM {l:List (List Int)} {K:List (List TC)→Prop}:(∃r,rowAt (l.map YI) i=some [.sub 1 r]∧K r)↔ ∃x,fP l i=some x∧K (x.map C4):=by
  rw[bB]
  constructor
  ·rintro⟨_,h,hK⟩
   obtain⟨a,ha,h⟩:=Option.map_eq_some_iff.1 h
   unfold YI at h;cases h;exact⟨_,ha,hK⟩
  ·rintro⟨a,ha,hK⟩
   exact⟨_,by rw[ha];rfl,hK⟩
end
theorem gC (n:Nat):Int.ofNat n=(n:Int):=rfl
@[simp] theorem natAdd (a b:Nat):Nat.add a b=a+b:=rfl
@[simp] theorem V8 {α:Type} (a b:List α):List.append a b=a++b:=rfl
theorem kJ (l:List Int):bR (l.map bC)=true:=uH fun r hr c hc=>by
 obtain⟨a,_,rfl⟩:=List.mem_map.1 hr;unfold bC at hc;simp only[List.mem_singleton] at hc;exact⟨_,hc⟩
theorem U9 (l:List Int):bR (l.map C4)=true:=uH fun r hr c hc=>by
 obtain⟨a,_,rfl⟩:=List.mem_map.1 hr;unfold C4 at hc;simp only[List.mem_singleton] at hc;exact⟨_,hc⟩
theorem kK (l:List Key):bR (l.map bu)=true:=uH fun r hr c hc=>by
 obtain⟨a,_,rfl⟩:=List.mem_map.1 hr;unfold bu at hc;simp only[List.mem_cons,List.not_mem_nil,or_false] at hc
 rcases hc with h|h|h|h|h<;>exact⟨_,h⟩
theorem yx (l:List Age):bR (l.map bV)=true:=uH fun r hr c hc=>by
 obtain⟨a,_,rfl⟩:=List.mem_map.1 hr;unfold bV at hc;simp only[List.mem_cons,List.not_mem_nil,or_false] at hc
 rcases hc with h|h<;>exact⟨_,h⟩
theorem E9 (l:List Cell):bR (l.map bU)=true:=uH fun r hr c hc=>by
 obtain⟨a,_,rfl⟩:=List.mem_map.1 hr;unfold bU at hc;simp only[List.mem_cons,List.not_mem_nil,or_false] at hc
 rcases hc with h|h|h<;>exact⟨_,h⟩
theorem Ed (l:List Vol):bR (l.map dD)=true:=uH fun r hr c hc=>by
 obtain⟨a,_,rfl⟩:=List.mem_map.1 hr;unfold dD at hc;simp only[List.mem_cons,List.not_mem_nil,or_false] at hc
 rcases hc with h|h|h|h<;>exact⟨_,h⟩
@[simp] theorem R4 (v:Value):bR [[.sc v]]=true:=uH fun r hr c hc=>by
  simp only[List.mem_singleton] at hr;subst hr;simp only[List.mem_singleton] at hc;exact⟨_,hc⟩
attribute [simp] kJ U9 kK yx E9 Ed
end Go.T
namespace Go.T
theorem H8 {α:Type} (g:α→α): ∀(l:List α) (i:Nat) (a:α),l[i]?=some a→l.modify i g=l.set i (g a)
 |[],i,a,h=>by simp at h
 |x::r,0,a,h=>by simp only[List.getElem?_cons_zero,Option.some.injEq] at h;subst h;rfl
 |x::r,i+1,a,h=>by
  simp only[List.getElem?_cons_succ] at h
  rw[List.modify_succ_cons,List.set_cons_succ,H8 g r i a h]
theorem bT {α:Type} {e:α→List TC} {l:List α} {i:Int} {f:Nat} {cs:List TC} {g:α→α} (he: ∀a,(e a).take f++cs++(e a).drop (f+cs.length)=e (g a)):setRow (l.map e) i f cs=(l.modify i.toNat g).map e:=by
 unfold setRow
 rw[List.getElem?_map]
 cases h:l[i.toNat]? with
 |none=>
  have:l.length≤i.toNat:=List.getElem?_eq_none_iff.1 h
  simp only[Option.map_none]
  rw[List.modify_eq_self this]
 |some a=>
  simp only[Option.map_some]
  rw[he,H8 g l _ a h,List.map_set]
theorem p8 {α:Type} {l:List α} {i:Int} {g:α→α}:fP (l.modify i.toNat g) i=(fP l i).map g:=by
 unfold fP
 split
 ·simp
 ·rfl
theorem mod_mod {α:Type} {l:List α} {i:Nat} {f g:α→α}:(l.modify i f).modify i g=l.modify i (fun x=>g (f x)):=by
 rw[List.modify_modify_eq];rfl
theorem jU {α β:Type} {o:Option α} {f:α→β} {K:β→Prop}:(∃x,o.map f=some x∧K x)↔ ∃x,o=some x∧K (f x):=by
 cases o with
 |none=>simp
 |some a=>simp
theorem lq {α:Type} {d r:List α} {a:α}:fP (d++a::r) (d.length:Int)=some a:=by
 rw[aE];simp
theorem Ac {α:Type} {d r:List α} {a:α} {f:α→α}:(d++a::r).modify ((d.length:Int).toNat) f=d++f a::r:=by
 rw[Int.toNat_natCast,H8 f _ _ a (by simp)]
 simp
@[simp] theorem YJ {l:List Key} {i:Int} {v:Int}:setRow (l.map bu) i 0 [.sc (.int .i64 v)]=(l.modify i.toNat fun x=>{x with b:=v}).map bu:=bT fun a=>rfl
@[simp] theorem YK {l:List Key} {i:Int} {v:Int}:setRow (l.map bu) i 1 [.sc (.int .i64 v)]=(l.modify i.toNat fun x=>{x with a:=v}).map bu:=bT fun a=>rfl
@[simp] theorem YL {l:List Key} {i:Int} {v:Int}:setRow (l.map bu) i 2 [.sc (.int .i64 v)]=(l.modify i.toNat fun x=>{x with k:=v}).map bu:=bT fun a=>rfl
@[simp] theorem YM {l:List Key} {i:Int} {v:Int}:setRow (l.map bu) i 3 [.sc (.int .i64 v)]=(l.modify i.toNat fun x=>{x with c:=v}).map bu:=bT fun a=>rfl
@[simp] theorem YO {l:List Key} {i:Int} {v:Int}:setRow (l.map bu) i 4 [.sc (.int .i64 v)]=(l.modify i.toNat fun x=>{x with g:=v}).map bu:=bT fun a=>rfl
@[simp] theorem abH {l:List Key} {i:Int} {v0:Int} {v1:Int} {v2:Int} {v3:Int} {v4:Int}:setRow (l.map bu) i 0 [.sc (.int .i64 v0),.sc (.int .i64 v1),.sc (.int .i64 v2),.sc (.int .i64 v3),.sc (.int .i64 v4)]=(l.modify i.toNat fun _=>⟨v0,v1,v2,v3,v4⟩).map bu:=bT fun a=>rfl
@[simp] theorem WH {l:List Age} {i:Int} {v:Int}:setRow (l.map bV) i 0 [.sc (.int .i64 v)]=(l.modify i.toNat fun x=>{x with id:=v}).map bV:=bT fun a=>rfl
@[simp] theorem Q8 {l:List Age} {i:Int} {v:Int}:setRow (l.map bV) i 1 [.sc (.int .i64 v)]=(l.modify i.toNat fun x=>{x with fr:=v}).map bV:=bT fun a=>rfl
@[simp] theorem abI {l:List Age} {i:Int} {v0:Int} {v1:Int}:setRow (l.map bV) i 0 [.sc (.int .i64 v0),.sc (.int .i64 v1)]=(l.modify i.toNat fun _=>⟨v0,v1⟩).map bV:=bT fun a=>rfl
@[simp] theorem WI {l:List Cell} {i:Int} {v:Int}:setRow (l.map bU) i 0 [.sc (.int .i64 v)]=(l.modify i.toNat fun x=>{x with g:=v}).map bU:=bT fun a=>rfl
@[simp] theorem WJ {l:List Cell} {i:Int} {v:Bool}:setRow (l.map bU) i 1 [.sc (.bool v)]=(l.modify i.toNat fun x=>{x with u:=v}).map bU:=bT fun a=>rfl
@[simp] theorem WK {l:List Cell} {i:Int} {v:Int}:setRow (l.map bU) i 2 [.sc (.int .i64 v)]=(l.modify i.toNat fun x=>{x with n:=v}).map bU:=bT fun a=>rfl
@[simp] theorem R5 {l:List Cell} {i:Int} {v0:Int} {v1:Bool} {v2:Int}:setRow (l.map bU) i 0 [.sc (.int .i64 v0),.sc (.bool v1),.sc (.int .i64 v2)]=(l.modify i.toNat fun _=>⟨v0,v1,v2⟩).map bU:=bT fun a=>rfl
@[simp] theorem TH {l:List Vol} {i:Int} {v:ByteArray}:setRow (l.map dD) i 0 [.sc (.string v)]=(l.modify i.toNat fun x=>{x with name:=v}).map dD:=bT fun a=>rfl
@[simp] theorem Va {l:List Vol} {i:Int} {v:Int}:setRow (l.map dD) i 1 [.sc (.int .i64 v)]=(l.modify i.toNat fun x=>{x with age:=v}).map dD:=bT fun a=>rfl
@[simp] theorem TJ {l:List Vol} {i:Int} {v:Int}:setRow (l.map dD) i 2 [.sc (.int .i64 v)]=(l.modify i.toNat fun x=>{x with size:=v}).map dD:=bT fun a=>rfl
@[simp] theorem WL {l:List Vol} {i:Int} {v:Bool}:setRow (l.map dD) i 3 [.sc (.bool v)]=(l.modify i.toNat fun x=>{x with fx:=v}).map dD:=bT fun a=>rfl
@[simp] theorem abJ {l:List Vol} {i:Int} {v0:ByteArray} {v1:Int} {v2:Int} {v3:Bool}:setRow (l.map dD) i 0 [.sc (.string v0),.sc (.int .i64 v1),.sc (.int .i64 v2),.sc (.bool v3)]=(l.modify i.toNat fun _=>⟨v0,v1,v2,v3⟩).map dD:=bT fun a=>rfl
@[simp] theorem abK {l:List YH} {i:Int} {v:Int}:setRow (l.map R2) i 0 [.sc (.int .i64 v)]=(l.modify i.toNat fun x=>{x with kind:=v}).map R2:=bT fun a=>rfl
@[simp] theorem abL {l:List YH} {i:Int} {v:ByteArray}:setRow (l.map R2) i 1 [.sc (.string v)]=(l.modify i.toNat fun x=>{x with name:=v}).map R2:=bT fun a=>rfl
@[simp] theorem acN {l:List YH} {i:Int} {v:ByteArray}:setRow (l.map R2) i 2 [.sc (.string v)]=(l.modify i.toNat fun x=>{x with to:=v}).map R2:=bT fun a=>rfl
@[simp] theorem ac6 {l:List YH} {i:Int} {v:Int}:setRow (l.map R2) i 3 [.sc (.int .i64 v)]=(l.modify i.toNat fun x=>{x with a:=v}).map R2:=bT fun a=>rfl
@[simp] theorem ac7 {l:List YH} {i:Int} {v:Int}:setRow (l.map R2) i 4 [.sc (.int .i64 v)]=(l.modify i.toNat fun x=>{x with b:=v}).map R2:=bT fun a=>rfl
@[simp] theorem adI {l:List YH} {i:Int} {v0:Int} {v1:ByteArray} {v2:ByteArray} {v3:Int} {v4:Int}:setRow (l.map R2) i 0 [.sc (.int .i64 v0),.sc (.string v1),.sc (.string v2),.sc (.int .i64 v3),.sc (.int .i64 v4)]=(l.modify i.toNat fun _=>⟨v0,v1,v2,v3,v4⟩).map R2:=bT fun a=>rfl
@[simp] theorem aa4 {l:List Mp} {i:Int} {v:ByteArray}:setRow (l.map H7) i 0 [.sc (.string v)]=(l.modify i.toNat fun x=>{x with name:=v}).map H7:=bT fun a=>rfl
@[simp] theorem acs {l:List Mp} {i:Int} {v:Bool}:setRow (l.map H7) i 1 [.sc (.bool v)]=(l.modify i.toNat fun x=>{x with fx:=v}).map H7:=bT fun a=>rfl
@[simp] theorem acO {l:List Mp} {i:Int} {v:List Int}:setRow (l.map H7) i 2 [.sub 1 (v.map bC)]=(l.modify i.toNat fun x=>{x with l:=v}).map H7:=bT fun a=>rfl
@[simp] theorem adr {l:List Mp} {i:Int} {v0:ByteArray} {v1:Bool} {v2:List Int}:setRow (l.map H7) i 0 [.sc (.string v0),.sc (.bool v1),.sub 1 (v2.map bC)]=(l.modify i.toNat fun _=>⟨v0,v1,v2⟩).map H7:=bT fun a=>rfl
@[simp] theorem abM {l:List (Int)} {i:Int} {v:Int}:setRow (l.map bC) i 0 [.sc (.int .i64 v)]=(l.modify i.toNat fun _=>v).map bC:=bT fun a=>rfl
@[simp] theorem ac8 {l:List (Int)} {i:Int} {v:Int}:setRow (l.map C4) i 0 [.sc (.int .u8 v)]=(l.modify i.toNat fun _=>v).map C4:=bT fun a=>rfl
@[simp] theorem aag {l:List (Bool)} {i:Int} {v:Bool}:setRow (l.map JQ) i 0 [.sc (.bool v)]=(l.modify i.toNat fun _=>v).map JQ:=bT fun a=>rfl
@[simp] theorem abN {l:List (List Key)} {i:Int} {v:List Key}:setRow (l.map bX) i 0 [.sub 5 (v.map bu)]=(l.modify i.toNat fun _=>v).map bX:=bT fun a=>rfl
@[simp] theorem aah {l:List (List (List Key))} {i:Int} {v:List (List Key)}:setRow (l.map aI) i 0 [.sub 1 (v.map bX)]=(l.modify i.toNat fun _=>v).map aI:=bT fun a=>rfl
end Go.T
namespace Go.T
theorem aV {α:Type} (l:List α) (P:Nat→Prop) (fin:P l.length) (step: ∀i a,i<l.length→l[i]?=some a→l.drop i=a::l.drop (i+1)→l.take (i+1)=l.take i++[a]→P (i+1)→P i):P 0:=by
 have: ∀k i,i+k=l.length→P i:=by
  intro k
  induction k with
  |zero=>intro i h;have:i=l.length:=by omega
         subst this;exact fin
  |succ k ih=>
   intro i h
   have hi:i<l.length:=by omega
   refine step i l[i] hi (List.getElem?_eq_getElem hi) (List.drop_eq_getElem_cons hi) ?_ (ih (i+1) (by omega))
   rw[List.take_add_one,List.getElem?_eq_getElem hi];rfl
 exact this l.length 0 (by omega)
theorem Ae {α:Type} {e:α→List TC} {z:List TC} (l:List α) (P:Int→RR→Prop) (hz: ∀a,(e a).length=z.length) (fin:P l.length (l.map e))
 (step: ∀(i:Nat) rows a,i<l.length→l[i]?=some a→rowAt rows i=some z→P ((i:Int)+1) (setRow rows i 0 (e a))→P i rows):P 0 (List.replicate l.length z):=by
 have: ∀i:Nat,i≤l.length→P (i:Int) ((l.take i).map e++List.replicate (l.length-i) z)→P 0 (List.replicate l.length z):=by
  intro i
  induction i with
  |zero=>intro _ h;simpa using h
  |succ i ih=>
   intro hi h
   refine ih (by omega) ?_
   have hlt:i<l.length:=by omega
   have ha:=List.getElem?_eq_getElem hlt
   have hk:l.length-i=(l.length-(i+1))+1:=by omega
   rw[hk]
   refine step i _ l[i] hlt ha (YF (by omega)) ?_
   rw[TA (e:=e) ha rfl (hz _).symm]
   exact h
 refine this l.length (Nat.le_refl _) ?_
 simpa using fin
def tot {α:Type} (w:α→Nat):List α→Nat
 |[]=>0
 |a::r=>w a+tot w r
def gy {α:Type} (mk:α→Int→α) (w:α→Nat):List α→Int→List α
 |[],_=>[]
 |a::r,k=>mk a k::gy mk w r (k+w a)
theorem uq {α:Type} {e:α→List TC} (mk:α→Int→α) (w:α→Nat) (P:Int→Int→RR→Prop) (B:Int)
 (step: ∀(d:List α) a r (k:Int),0≤k→k+w a≤B→d.length<1099511627776→P (k+w a) ((d.length:Int)+1) ((d++mk a k::r).map e)→P k d.length ((d++a::r).map e)):
 ∀(r d:List α) (k:Int),0≤k→k+tot w r≤B→d.length+r.length≤1099511627776→P (k+tot w r) ((d.length+r.length:Nat):Int) ((d++gy mk w r k).map e)→P k d.length ((d++r).map e)
 |[],d,k,_,_,_,h=>by simpa [gy,tot] using h
 |a::r,d,k,h0,h1,h2,h=>by
  simp only[tot,List.length_cons] at h1 h2 h
  refine step d a r k h0 (by omega) (by omega) ?_
  have:=uq mk w P B step r (d++[mk a k]) (k+w a) (by omega) (by omega) (by simp;omega) (by
   simp only[List.append_assoc,List.singleton_append,List.length_append,List.length_singleton]
   rw[show k+(w a:Int)+(tot w r:Int)=k+((w a+tot w r:Nat):Int) by omega,show d.length+1+r.length=d.length+(r.length+1) by omega]
   exact h)
  simpa using this
theorem ur {α:Type} {e:α→List TC} (mk:α→Int→α) (w:α→Nat) (P:Int→Int→RR→Prop) (B:Int)
 (step: ∀(d:List α) a r (k:Int),0≤k→k+w a≤B→d.length<1099511627776→P (k+w a) ((d.length:Int)+1) ((d++mk a k::r).map e)→P k d.length ((d++mk a k::r).map e)):
 ∀(r d:List α) (k:Int),0≤k→k+tot w r≤B→d.length+r.length≤1099511627776→P (k+tot w r) ((d.length+r.length:Nat):Int) ((d++gy mk w r k).map e)→P k d.length ((d++gy mk w r k).map e)
 |[],d,k,_,_,_,h=>by simpa [gy,tot] using h
 |a::r,d,k,h0,h1,h2,h=>by
  simp only[tot,List.length_cons,gy] at h1 h2 h ⊢
  refine step d a _ k h0 (by omega) (by omega) ?_
  have:=ur mk w P B step r (d++[mk a k]) (k+w a) (by omega) (by omega) (by simp;omega) (by
   simp only[List.append_assoc,List.singleton_append,List.length_append,List.length_singleton]
   rw[show k+(w a:Int)+(tot w r:Int)=k+((w a+tot w r:Nat):Int) by omega,show d.length+1+r.length=d.length+(r.length+1) by omega]
   exact h)
  simpa using this
theorem uu {α:Type} (n:Nat): ∀l:List α,tot (fun _=>n) l=n*l.length
 |[]=>rfl
 |a::r=>by simp only[tot,uu n r,List.length_cons,Nat.mul_add];omega
theorem mG {α:Type} (mk:α→Int→α) (w:α→Nat): ∀(l:List α) (k:Int),(gy mk w l k).length=l.length
 |[],_=>rfl
 |a::r,k=>by simp[gy,mG mk w r]
theorem nY {α:Type} {w:α→Nat}: ∀{l:List α} {a:α},a∈l→w a≤tot w l
 |[],_,h=>by cases h
 |b::r,a,h=>by
  simp only[tot]
  rcases List.mem_cons.1 h with rfl|h
  ·omega
  ·have:=nY (w:=w) h;omega
theorem lu {α:Type} {w:α→Nat} {l:List α} {i:Nat} {a:α} (h:l[i]?=some a):w a≤tot w l:=nY (List.mem_of_getElem? h)
def bH (s:List Key):Nat:=s.length
def aH (n:List (List Key)):Nat:=n.length+tot bH n
def rC (n:List (List (List Key))):Nat:=n.length+tot aH n
def cw (t:Tree):Nat:=t.lows.length+rC t.nodes
def qU (v:Vol):Nat:=v.name.size
def H9 (l:List Vol):Nat:=l.length+tot qU l
def cY (p:Pool):Nat:=cw p.t+p.ages.length+p.cells.length+H9 p.vols
def mY (left:Int) (n:Nat):Int:=if left<n then-1 else left-n
end Go.T
namespace Go.T
section
variable {C : mq} {f : FuncId} {vs : List TV}
theorem rD {x b:Bool} (h:aa C f vs (vB x) []):aa C f vs (vB b) []↔b=x:=⟨fun h'=>by have:=(h.det h').1;simpa using this,fun e=>e▸h⟩
theorem YP {x b:Int} (h:aa C f vs (vI x) []):aa C f vs (vI b) []↔b=x:=⟨fun h'=>by have:=(h.det h').1;simpa using this,fun e=>e▸h⟩
theorem adt {x b:ByteArray} (h:aa C f vs (vS x) []):aa C f vs (vS b) []↔b=x:=⟨fun h'=>by have:=(h.det h').1;simpa using this,fun e=>e▸h⟩
theorem TK {z:Nat} {x b:RR} (h:aa C f vs (.c (.sub z x)) []):aa C f vs (.c (.sub z b)) []↔b=x:=⟨fun h'=>by have:=(h.det h').1;simpa using this,fun e=>e▸h⟩
theorem aa5 {x b:Int} {y c:Bool} (h:aa C f vs (.tu [(0,[iI x]),(0,[iB y])]) []):aa C f vs (.tu [(0,[iI b]),(0,[iB c])]) []↔b=x∧c=y:=⟨fun h'=>by have:=(h.det h').1;simpa using this,fun⟨e,e'⟩=>e▸e'▸h⟩
end
theorem Q9 {s:ByteArray} {i:Nat} (h:i<s.size): ∃n:Int,rS s i=some n∧0≤n∧n≤255:=by
 unfold rS
 rw[if_pos (Int.natCast_nonneg i),Int.toNat_natCast]
 have:s[i]?=some s[i]:=getElem?_pos s i h
 rw[this]
 have:=(s[i]).toNat_lt
 refine⟨_,rfl,?_,?_⟩<;>show _≤_<;>simp only[]<;>omega
theorem TL {n:Int} (h: -9223372036854775808≤n∧n≤9223372036854775807):tJ .i64 n=n:=by unfold tJ;exact IntWalk.i64_in _ h
def jV (a lo hi:Int):Bool:=decide (lo≤a∧a≤hi)
def Gw (a:Int):Bool:=jV a 0 65535
def gX (x:Key):Bool:=jV x.b 0 15&&jV x.a 1 60&&jV x.k 0 2&&(if x.k=1 then jV x.c 0 23&&jV x.g 0 999 else decide (x.c=0)&&decide (x.g=0))
def dR (x y:Key):Bool:=decide (x.b<y.b∨(x.b=y.b∧x.a<y.a))
def mH (x y:Key):Bool:=decide (x.b=y.b∧x.a=y.a)
def cM (n:Nat) (f:Nat→Bool):Bool:=(List.range' 0 n).all f
theorem ki {i n:Nat} (h:i<n):List.range' i (n-i)=i::List.range' (i+1) (n-(i+1)):=by
 obtain⟨k,hk⟩: ∃k,n-i=k+1:=⟨n-i-1,by omega⟩
 rw[hk,show n-(i+1)=k by omega]
 rfl
theorem oR (n:Nat) (P:Nat→Prop) (fin:P n) (step: ∀i,i<n→P (i+1)→P i):P 0:=by
 have: ∀k i,i+k=n→P i:=by
  intro k
  induction k with
  |zero=>intro i h;have:i=n:=by omega
         subst this;exact fin
  |succ k ih=>intro i h;exact step i (by omega) (ih (i+1) (by omega))
 exact this n 0 (by omega)
theorem V9 {α:Type} (f g:α→Bool): ∀l:List α,l.all (fun x=>f x&&g x)=(l.all f&&l.all g)
 |[]=>rfl
 |a::r=>by simp only[List.all_cons,V9 f g r];cases f a<;>cases g a<;>simp
theorem YQ (n:Nat) (f g:Nat→Bool):cM n (fun i=>f i&&g i)=(cM n f&&cM n g):=V9 f g _
theorem C5 {n:Nat} {f:Nat→Bool}:cM n f=true↔ ∀i,i<n→f i=true:=by
 unfold cM
 rw[List.all_eq_true]
 constructor
 ·intro h i hi;exact h i (by simp[List.mem_range'];exact hi)
 ·intro h i hi
  simp[List.mem_range'] at hi
  exact h i hi
def WM {α:Type} (l:List α) (f:α→Bool) (i:Nat):Bool:=match l[i]? with|some a=>f a|none=>true
def hJ {α:Type} (l:List α) (f:α→α→Bool):Nat→Bool
 |0=>true
 |k+1=>match l[k]?,l[k+1]? with|some x,some y=>f x y|_,_=>true
theorem aai {α:Type} (l:List α) (f:α→Bool):cM l.length (WM l f)=l.all f:=by
 rw[Bool.eq_iff_iff,C5,List.all_eq_true]
 constructor
 ·intro h a ha
  obtain⟨i,hi,rfl⟩:=List.getElem_of_mem ha
  have:=h i hi
  simpa [WM,hi] using this
 ·intro h i hi
  simp only[WM,List.getElem?_eq_getElem hi]
  exact h _ (List.getElem_mem hi)
def mw (l:List Key) (i:Nat):Bool:=WM l gX i&&hJ l dR i
def C6 (l:List Key):Bool:=cM l.length (mw l)&&decide (l.length≤60)
theorem Ni (l:List Key):C6 l=(l.all gX&&(cM l.length (hJ l dR)&&decide (l.length≤60))):=by
 rw[←Bool.and_assoc,←aai,←YQ];rfl
def eg:Key:=⟨0,0,0,0,0⟩
def setAt (l:List Key) (b a:Int):Option Key:=l.find? fun x=>decide (x.b=b∧x.a=a)
def fG (k:Key):Bool→List Key→List Key
 |put,[]=>if put then [] else [k]
 |put,x::r=>(if !put&& !dR x k then [k] else [])++(if mH x k then [] else [x])++fG k (put|| !dR x k) r
def fH (l:List Key) (k:Key):List Key:=fG k false l
theorem JR (k:Key): ∀(l:List Key) (put:Bool),(fG k put l).length≤l.length+(if put then 0 else 1)
 |[],put=>by simp only[fG];split<;>simp
 |x::r,put=>by
  have:=JR k r (put|| !dR x k)
  simp only[fG,List.length_append,List.length_cons]
  have h1:(if mH x k then([]:List Key) else [x]).length≤1:=by split<;>simp
  revert h1
  generalize (if mH x k then([]:List Key) else [x])=m
  intro h1
  cases put<;>cases hk:dR x k<;>simp[hk] at this ⊢ <;>omega
theorem oS (l:List Key) (k:Key):(fH l k).length≤l.length+1:=by have:=JR k l false;simpa [fH] using this
def cF (old new:List Key):List Key:=new.foldl fH old
theorem sw: ∀(new old:List Key),(cF old new).length≤old.length+new.length
 |[],old=>by simp[cF]
 |x::r,old=>by
  have:=sw r (fH old x)
  have h2:=oS old x
  simp only[cF,List.foldl_cons,List.length_cons] at this ⊢
  omega
def nZ (l:List Key):List Key:=l.filter fun k=> !decide (k.k=0)
def uv (n:List (List Key)):List Key:=n.foldl cF []
def aJ (n:List (List Key)):List Key:=nZ (uv n)
theorem Az: ∀(n:List (List Key)) (a:List Key),(n.foldl cF a).length≤a.length+tot bH n
 |[],a=>by simp[tot]
 |s::r,a=>by
  have:=Az r (cF a s)
  have h2:=sw s a
  simp only[List.foldl_cons,tot,bH] at this ⊢
  omega
theorem cU (n:List (List Key)):(aJ n).length≤tot bH n:=by
 have h1:=Az n []
 have h2:=List.length_filter_le (fun k:Key=> !decide (k.k=0)) (uv n)
 simp only[List.length_nil,Nat.zero_add] at h1
 exact Nat.le_trans h2 h1
def cn (n:List (List Key)):Nat:=tot bH n
def fI (n:List (List Key)):Bool:=n.all (fun s=>C6 s&& !decide (s.length=0))&&decide (n.length≤3)&&decide (cn n≤8)
def cC (l:List Key):List (List Key):=if l.length=0 then [] else [l]
def aB (t:Tree):List Key:=t.nodes.flatMap aJ
theorem Gx: ∀(l:List (List (List Key))),(l.flatMap aJ).length≤tot aH l
 |[]=>by simp[tot]
 |n::r=>by
  have:=Gx r
  have h2:=cU n
  simp only[List.flatMap_cons,List.length_append,tot,aH]
  omega
theorem eI (t:Tree):(aB t).length≤cw t:=by
 have:=Gx t.nodes
 unfold aB cw rC
 omega
def fQ (t:Tree) (b:Int):List Key:=(aB t).filter fun k=>decide (k.b=b)
theorem Nj (t:Tree) (b:Int):(fQ t b).length≤(aB t).length:=List.length_filter_le _ _
def gY (b a:Int):Int:=ay (aad 64 b) a
def ff {α:Type} (p:α→Bool):List α→Int→Int
 |[],_=> -1
 |a::r,i=>if p a then i else ff p r (i+1)
theorem Gy {α:Type} (p:α→Bool): ∀(l:List α) (i:Int),0≤i→decide (0≤ff p l i)=l.any p
 |[],i,_=>by simp[ff]
 |a::r,i,h=>by
  by_cases hp:p a=true
  ·simp[ff,hp,h]
  ·have:=Gy p r (i+1) (by omega)
   simp only[ff,if_neg hp,List.any_cons]
   rw[this]
   simp[hp]
theorem Ia {α:Type} (p:α→Bool): ∀(l:List α) (i:Int),0≤i→(ff p l i= -1∧ ∀a∈l,p a=false)∨ ∃(j:Nat) (a:α),ff p l i=i+j∧l[j]?=some a∧p a=true∧j<l.length∧ ∀k,k<j→ ∀b,l[k]?=some b→p b=false
 |[],i,_=> .inl ⟨rfl,fun a h=>by cases h⟩
 |a::r,i,h=>by
  simp only[ff]
  cases hp:p a with
  |true=>exact .inr ⟨0,a,by simp,rfl,hp,by simp,fun k hk=>by omega⟩
  |false=>
   rcases Ia p r (i+1) (by omega) with⟨h1,h2⟩|⟨j,b,h1,h2,h3,h4,h5⟩
   ·refine .inl ⟨by simpa using h1,fun b hb=> ?_⟩
    rcases List.mem_cons.1 hb with rfl|hb
    ·exact hp
    ·exact h2 b hb
   ·refine .inr ⟨j+1,b,by simp[h1];omega,h2,h3,by simp;omega,fun k hk c hc=> ?_⟩
    cases k with
    |zero=>simp at hc;rw[←hc];exact hp
    |succ k=>exact h5 k (by omega) c hc
theorem aaj {α:Type} (p:α→Bool) (l:List α): -1≤ff p l 0∧ff p l 0<l.length:=by
 rcases Ia p l 0 (by omega) with⟨h,_⟩|⟨j,a,h,_,_,h4,_⟩<;>omega
theorem C7 {α:Type} (p:α→Bool) (l:List α) (h: ¬ff p l 0<0): ∃a,fP l (ff p l 0)=some a∧p a=true:=by
 rcases Ia p l 0 (by omega) with⟨h1,_⟩|⟨j,a,h1,h2,h3,_⟩
 ·omega
 ·refine⟨a,?_,h3⟩
  rw[h1,Int.zero_add,aE];exact h2
def ee (l:List Age) (id:Int):Int:=ff (fun a=>decide (a.id=id)) l 0
theorem TM (l:List Age) (id:Int): -1≤ee l id∧ee l id<l.length:=aaj _ _
theorem Ee (l:List Age) (id:Int) (h: ¬ee l id<0): ∃a,fP l (ee l id)=some a∧a.id=id:=by
 obtain⟨a,h1,h2⟩:=C7 _ l h
 exact⟨a,h1,of_decide_eq_true h2⟩
def C8 (l:List Age):Nat→Int→List Int
 |0,_=>[]
 |n+1,id=>if ee l id<0 then [] else id::(match fP l (ee l id) with|some a=>C8 l n a.fr|none=>[])
def pathOf (l:List Age) (id:Int):List Int:=C8 l (l.length+1) id
theorem Ra (l:List Age): ∀(n:Nat) (id:Int),(C8 l n id).length≤n
 |0,_=>by simp[C8]
 |n+1,id=>by
  simp only[C8]
  split
  ·simp
  ·split
   ·have:=Ra l n
    simp only[List.length_cons]
    rename_i a _
    have:=this a.fr
    omega
   ·simp
theorem Af (l:List Age) (id:Int):(pathOf l id).length≤l.length+1:=Ra l _ id
def En (l:List Int) (n:Int):Bool:=l.any fun a=>decide (a=n)
def Gz (path:List Int):Key×Bool→Key→Key×Bool:=fun p k=>if En path k.a&&(!p.2||decide (p.1.a<k.a)) then(k,true) else p
def near (keys:List Key) (path:List Int):Key×Bool:=keys.foldl (Gz path) (eg,false)
def ED (t:Tree) (l:List Age) (b id:Int):Key×Bool:=near (fQ t b) (pathOf l id)
def yy (t:Tree) (l:List Age) (b id:Int):Key×Bool:=near (fQ t b) ((pathOf l id).drop 1)
theorem YR (keys:List Key):near keys []=(eg,false):=by
 unfold near
 suffices ∀(l:List Key),l.foldl (Gz []) (eg,false)=(eg,false) from this keys
 intro l
 induction l with
 |nil=>rfl
 |cons a r ih=>simpa [Gz,En] using ih
def kj (t:Tree) (l:List Age) (k:Key) (id:Int):Bool:=(ED t l k.b id).2&&decide ((ED t l k.b id).1.a=k.a)
def Ib (p:Pool) (k:Key):Bool:=p.vols.any fun v=>decide (k.b<v.size)&&kj p.t p.ages k v.age
def cZ (l:List Age) (id:Int):List Int:=if id=0 then [] else(l.filter fun a=>decide (a.fr=id)).map (·.id)
theorem Nk (l:List Age) (id:Int):(cZ l id).length≤l.length:=by
 unfold cZ
 split
 ·simp
 ·rw[List.length_map];exact List.length_filter_le _ _
abbrev Ox (p:Key×Bool):TV:= .tu [(1,[iI p.1.b,iI p.1.a,iI p.1.k,iI p.1.c,iI p.1.g]),(0,[iB p.2])]
def YS (n:Int):Bool:=jV n 97 122||jV n 48 57
def eu (s:ByteArray) (i:Nat):Bool:=match rS s i with|some n=>YS n|none=>true
def C9 (s:ByteArray):Bool:=cM s.size (eu s)&&jV s.size 1 6
def eC (l:List Age) (i:Nat):Bool:=WM l (fun a=>jV a.id 1 60) i&&(hJ l (fun x y=>decide (x.id<y.id)) i&&WM l (fun a=>decide (a.fr=0)|| !decide (ee (l.take i) a.fr<0)) i)
def gV (l:List Age):Bool:=cM l.length (eC l)&&decide (l.length≤16)
def ng (l:List Vol) (id:Int):Bool:= !l.any fun v=>decide (v.age=id)
def cellAt (l:List Cell) (i gen:Int):Int×Bool:=match fP l i with
 |none=>(0,false)
 |some c=>if c.u=true∧c.g=gen then(c.n,true) else(0,false)
def bQ (l:List Cell):Nat:=(l.filter (·.u)).length
def iE (c:Cell):Bool:=jV c.g 0 999&&(Gw c.n&&(c.u||decide (c.n=0)))
def e9 (l:List Cell):Bool:=l.all iE&&decide (l.length=24)
abbrev tIB (p:Int×Bool):TV:= .tu [(0,[iI p.1]),(0,[iB p.2])]
@[simp] theorem vW {l:List Key} {b a k c g:Int}:List.append (l.map bu) [[iI b,iI a,iI k,iI c,iI g]]=(l++[(⟨b,a,k,c,g⟩:Key)]).map bu:=by simp[bu]
@[simp] theorem Mo {l:List Int} {b:Int}:List.append (l.map bC) [[iI b]]=(l++[b]).map bC:=by simp[bC]
@[simp] theorem acP {l:List Int} {b:Int}:List.append (l.map C4) [[.sc (.int .u8 b)]]=(l++[b]).map C4:=by simp[C4]
@[simp] theorem Wa {l:List Age} {b a:Int}:List.append (l.map bV) [[iI b,iI a]]=(l++[(⟨b,a⟩:Age)]).map bV:=by simp[bV]
@[simp] theorem ac9 {l:List Vol} {s:ByteArray} {b a:Int} {q:Bool}:List.append (l.map dD) [[iS s,iI b,iI a,iB q]]=(l++[(⟨s,b,a,q⟩:Vol)]).map dD:=by simp[dD]
@[simp] theorem ada {l:List (List Key)} {s:List Key}:List.append (l.map bX) [[.sub 5 (s.map bu)]]=(l++[s]).map bX:=by simp[bX]
@[simp] theorem GA {l:List (List (List Key))} {s:List (List Key)}:List.append (l.map aI) [[.sub 1 (s.map bX)]]=(l++[s]).map aI:=by simp[aI]
@[simp] theorem adb {l:List Mp} {s:ByteArray} {f:Bool} {r:List Int}:List.append (l.map H7) [[iS s,iB f,.sub 1 (r.map bC)]]=(l++[(⟨s,f,r⟩:Mp)]).map H7:=by simp[H7]
@[simp] theorem kk {α:Type} {e:α→List TC} {l m:List α}:List.append (l.map e) (m.map e)=(l++m).map e:=by simp
@[simp] theorem acQ:([]:RR)=([]:List Key).map bu↔True:=by simp
@[simp] theorem cj {α:Type} (l:List α):Nat.succ (List.length l)=l.length+1:=rfl
theorem mZ (b a k c g:Int):bR [[iI b,iI a,iI k,iI c,iI g]]=true:=kK [⟨b,a,k,c,g⟩]
theorem Nl (b a:Int):bR [[iI b,iI a]]=true:=yx [⟨b,a⟩]
theorem Vb (s:ByteArray) (b a:Int) (q:Bool):bR [[iS s,iI b,iI a,iB q]]=true:=Ed [⟨s,b,a,q⟩]
attribute [simp] mZ Nl Vb
@[simp] theorem c8 (k:Key):(⟨k.b,k.a,k.k,k.c,k.g⟩:Key)=k:=rfl
@[simp] theorem dS (k:Age):(⟨k.id,k.fr⟩:Age)=k:=rfl
@[simp] theorem cV (k:Cell):(⟨k.g,k.u,k.n⟩:Cell)=k:=rfl
@[simp] theorem dU (k:Vol):(⟨k.name,k.age,k.size,k.fx⟩:Vol)=k:=rfl
@[simp] theorem dV (k:Mp):(⟨k.name,k.fx,k.l⟩:Mp)=k:=rfl
@[simp] theorem fJ (k:YH):(⟨k.kind,k.name,k.to,k.a,k.b⟩:YH)=k:=rfl
theorem cW {n b:Nat} (h:n*b≤140737488355328∧n≤140737488355328):fits n b=true:=by rw[Z5];exact decide_eq_true h
end Go.T
namespace Go.T
def dh (s:List Key):Bool:=C6 s&& !decide (s.length=0)
theorem Rb (n:List (List Key)):fI n=(n.all dh&&(decide (n.length≤3)&&decide (cn n≤8))):=by
 unfold fI;rw[Bool.and_assoc];rfl
def Vc (lows:List Int) (i:Nat) (x:Int):Bool:=match lows[i]? with
 |some lo=> !decide (x<lo)&&(match lows[i+1]? with|some hi=>decide (x<hi)|none=>true)
 |none=>true
def gL (lows:List Int) (i:Nat) (k:Key):Bool:=Vc lows i (gY k.b k.a)
def bS (lows:List Int) (i:Nat) (s:List Key):Bool:=s.all (gL lows i)
def cP (t:Tree) (i:Nat):Bool:=hJ t.lows (fun x y=>decide (x<y)) i&&(match t.nodes[i]? with
 |some n=>fI n&&((decide (i=0)|| !decide ((aJ n).length=0))&&n.all (bS t.lows i))
 |none=>true)
def eJ (t:Tree):Bool:=jV t.nodes.length 1 20&&(decide (t.lows.length=t.nodes.length)&&((match t.lows[0]? with|some x=>decide (x=0)|none=>true)&&(cM t.nodes.length (cP t)&&decide ((aB t).length≤60))))
def bZ (p:Pool) (i:Nat):Bool:=match p.vols[i]? with
 |some v=>C9 v.name&&(jV v.size 1 12&&(!decide (ee p.ages v.age<0)&&(decide ((cZ p.ages v.age).length=0)&&(hJ p.vols (fun x y=>Oy x.name y.name) i&& !(p.vols.take i).any fun u=>decide (u.age=v.age)))))
 |none=>true
def iF (p:Pool):Bool:=cM p.vols.length (bZ p)&&decide (p.vols.length≤6)
def cJ (p:Pool) (l:List Key) (i:Nat):Bool:=match l[i]? with
 |some k=> !decide (ee p.ages k.a<0)&&(!decide (k.k=1)||((cellAt p.cells k.c k.g).2&& !(l.take i).any fun x=>decide (x.k=1)&&decide (x.c=k.c)))
 |none=>true
def cc (l:List Key):Nat:=(l.filter fun k=>decide (k.k=1)).length
def iT (p:Pool):Bool:=cM (aB p.t).length (cJ p (aB p.t))&&decide ((bQ p.cells:Int)=cc (aB p.t))
def jh (p:Pool):Bool:=p.ages.all (fun a=>decide (a.id<p.next))&&(eJ p.t&&(gV p.ages&&(e9 p.cells&&(jV p.next 1 61&&(iF p&&iT p)))))
def aak (p:Pool) (i b:Int):Int:=match fP p.vols i with
 |none=>0
 |some v=>if 0≤b∧b<v.size then(if(ED p.t p.ages b v.age).2=true∧(ED p.t p.ages b v.age).1.k=1 then(cellAt p.cells (ED p.t p.ages b v.age).1.c (ED p.t p.ages b v.age).1.g).1 else 0) else 0
def o8 (l:List Key):List Bool:=(List.range 24).map fun m:Nat=>l.any fun x=>decide (x.k=1)&&decide (x.c=(m:Int))
theorem TN:o8 []=List.replicate 24 false:=by decide
theorem TO (l:List Key) {c:Int} (h:0≤c∧c<24):fP (o8 l) c=some (l.any fun x=>decide (x.k=1)&&decide (x.c=c)):=by
 obtain⟨n,rfl⟩: ∃n:Nat,c=n:=⟨c.toNat,by omega⟩
 rw[aE]
 unfold o8
 rw[List.getElem?_map,List.getElem?_range (by omega)]
 rfl
theorem TP (l:List Key) (k:Key) (hk:k.k=1) (h:0≤k.c∧k.c<24):(o8 l).modify k.c.toNat (fun _=>true)=o8 (l++[k]):=by
 apply List.ext_getElem?
 intro m
 rw[List.getElem?_modify]
 unfold o8
 rw[List.getElem?_map,List.getElem?_map]
 by_cases hm:m<24
 ·rw[List.getElem?_range hm]
  simp only[Option.map_some,List.any_append,List.any_cons,List.any_nil,Bool.or_false,hk,decide_true,Bool.true_and]
  by_cases e:k.c.toNat=m
  ·have:k.c=(m:Int):=by omega
   simp[e,this]
  ·have: ¬k.c=(m:Int):=by omega
   simp[e,this]
 ·rw[List.getElem?_eq_none (by simp;omega)];rfl
theorem R6 (l:List Key) (k:Key) (hk: ¬k.k=1):o8 (l++[k])=o8 l:=by
 unfold o8
 simp[hk]
theorem EE (k:Key) (l:List Key):cc (k::l)=(if k.k=1 then 1 else 0)+cc l:=by
 unfold cc
 by_cases h:k.k=1<;>simp[h]
 omega
theorem WN {l:List Cell} {i g:Int} (h:(cellAt l i g).2=true):0≤i∧i<l.length:=by
 unfold cellAt at h
 apply Classical.byContradiction
 intro hn
 rw[o7 hn] at h
 cases h
theorem fo {p:Pool} (h:cY p≤4194304):cw p.t≤4194304∧p.ages.length≤4194304∧p.cells.length≤4194304∧p.vols.length≤4194304∧tot qU p.vols≤4194304:=by
 unfold cY H9 at h
 omega
end Go.T
namespace Go.T
def blocks (p:Pool) (i:Nat) (k:Nat):List Int:=(List.range k).map fun b:Nat=>aak p i b
def gM (l:List Cell) (i:Int):List Cell:=match fP l i with
 |none=>l
 |some c=>if e9 l=true∧c.u=true then l.modify i.toNat (fun _=>⟨xL (ay c.g 1) 1000,false,0⟩) else l
theorem EF {l:List Cell} {i:Int} (h:fP l i=none):gM l i=l:=by unfold gM;rw[h]
theorem GB {l:List Cell} {i:Int} (h:e9 l=false):gM l i=l:=by
 unfold gM
 cases fP l i with
 |none=>rfl
 |some c=>exact if_neg (fun hh=>by rw[h] at hh;cases hh.1)
theorem JS {l:List Cell} {i:Int} {c:Cell} (hc:fP l i=some c) (h:c.u=false):gM l i=l:=by
 unfold gM;rw[hc];exact if_neg (fun hh=>by rw[h] at hh;cases hh.2)
theorem GC {l:List Cell} {i:Int} {c:Cell} (hc:fP l i=some c) (h:e9 l=true) (hu:c.u=true):gM l i=l.modify i.toNat (fun _=>⟨xL (ay c.g 1) 1000,false,0⟩):=by
 unfold gM;rw[hc];exact if_pos ⟨h,hu⟩
theorem R7 (l:List Cell) (i:Int):(gM l i).length=l.length:=by
 unfold gM
 cases fP l i with
 |none=>rfl
 |some c=>simp only[];split<;>simp
abbrev Uq (x:Int×Int):TV:= .tu [(0,[iI x.1]),(0,[iI x.2])]
theorem TQ {p:Pool} (h:jh p=true):iF p=true:=by
 simp only[jh,Bool.and_eq_true] at h
 exact h.2.2.2.2.2.1
theorem JT {p:Pool} (h:jh p=true):gV p.ages=true:=by
 simp only[jh,Bool.and_eq_true] at h
 exact h.2.2.1
theorem YT {l:List Age} (h:gV l=true): ∀a∈l,1≤a.id:=by
 intro a ha
 simp only[gV,Bool.and_eq_true,C5] at h
 obtain⟨i,hi,rfl⟩:=List.getElem_of_mem ha
 have h1:=h.1 i hi
 simp only[eC,Bool.and_eq_true] at h1
 have h2:=h1.1
 simp only[WM,List.getElem?_eq_getElem hi] at h2
 simp[jV] at h2
 omega
theorem YU {l:List Age} {id:Int} (h:gV l=true): ∀x∈cZ l id,1≤x:=by
 intro x hx
 unfold cZ at hx
 split at hx
 ·cases hx
 ·obtain⟨a,ha,rfl⟩:=List.mem_map.1 hx
  exact YT h a (List.mem_filter.1 ha).1
def yz (l:List Key) (b a:Int):Key×Bool:=match setAt l b a with|some k=>(k,true)|none=>(eg,false)
def nh (n:List (List Key)) (b a:Int):Nat→Key×Bool
 |0=>(eg,false)
 |k+1=>match n[k]? with
  |some s=>if(yz s b a).2=true then(if(yz s b a).1.k=0 then(eg,false) else yz s b a) else nh n b a k
  |none=>(eg,false)
def rE (f:Int→Bool) (l:List Int):Nat→Int
 |0=> -1
 |k+1=>match l[k]? with
  |some x=>if f x=true then(k:Int) else rE f l k
  |none=> -1
def mz (t:Tree) (b a:Int):Int:=rE (fun x=>decide (x≤gY b a)) t.lows t.lows.length
def uJ (t:Tree) (b a:Int):Key×Bool:=match fP t.nodes (mz t b a) with
 |some n=>nh n b a n.length
 |none=>(eg,false)
def yA (p:Pool) (id:Int):Int:=if ng p.vols id=true∧(cZ p.ages id).length=1 then(match fP (cZ p.ages id) 0 with|some x=>x|none=>0) else 0
def Rc (p:Pool) (k:Key):Bool:=if yA p k.a=0 then false else !(uJ p.t k.b (yA p k.a)).2
def oc (p:Pool) (step:Int) (k:Key):Bool:=if step=1 then !Ib p k else if step=2 then decide (k.k=2)&& !(yy p.t p.ages k.b k.a).2 else Rc p k
def hasB (id:Int) (k:Key):Bool:=decide (k.a=id)
def Da (id:Int) (k:Key):Bool:= !hasB id k
theorem YV (id:Int) (l:List Key):l.all (Da id)= !(l.any (hasB id)):=by
 induction l with
 |nil=>rfl
 |cons k r ih=>simp[List.all_cons,List.any_cons,ih,Da]
def qi (p:Pool) (a:Age):Bool:=(aB p.t).all (Da a.id)&&(ng p.vols a.id&&decide ((cZ p.ages a.id).length≤1))
def jK (p:Pool) (j:Int):Int:=ff (oc p j) (aB p.t) 0
def Fa (p:Pool):Int:=ff (qi p) p.ages 0
def ck (p:Pool):Int×Int:=
 if jh p=true then(if 0≤jK p 1 then(1,jK p 1) else if 0≤jK p 2 then(2,jK p 2) else if 0≤jK p 3 then(3,jK p 3) else if 0≤Fa p then(4,Fa p) else(0,0)) else(0,0)
abbrev tPB (x:Pool×Bool):TV:= .tu [(1,[.sub 1 (x.1.t.lows.map bC),.sub 1 (x.1.t.nodes.map aI),.sub 2 (x.1.ages.map bV),.sub 3 (x.1.cells.map bU),.sub 4 (x.1.vols.map dD),iI x.1.next]),(0,[iB x.2])]
end Go.T
namespace Go.T
end Go.T
namespace Go.T
end Go.T
namespace Go.T
def leV (v u:Vol):Bool:=Oy u.name v.name||SL u.name v.name
theorem TR: ∀(x y z:List UInt8),Op.bytesLess x y=true→Op.bytesLess y z=true→Op.bytesLess x z=true
 |x,y,[],_,h=>by cases y<;>simp[Op.bytesLess] at h
 |x,[],c::z,h,_=>by cases x<;>simp[Op.bytesLess] at h
 |[],_::_,_::_,_,_=>by simp[Op.bytesLess]
 |a::x,b::y,c::z,h1,h2=>by
  simp only[Op.bytesLess,Bool.or_eq_true,Bool.and_eq_true,decide_eq_true_eq,beq_iff_eq] at h1 h2 ⊢
  rcases h1 with h1|⟨rfl,h1⟩
  ·rcases h2 with h2|⟨rfl,h2⟩
   ·exact .inl (UInt8.lt_trans h1 h2)
   ·exact .inl h1
  ·rcases h2 with h2|⟨rfl,h2⟩
   ·exact .inl h2
   ·exact .inr ⟨rfl,TR x y z h1 h2⟩
theorem WO {a b c:ByteArray} (h1:Oy a b=true) (h2:Oy b c=true):Oy a c=true:=by
 unfold Oy at*
 exact TR _ _ _ h1 h2
def GD:List Vol→Prop
 |[]=>True
 |[_]=>True
 |a::b::r=>Oy a.name b.name=true∧GD (b::r)
theorem YW {v a b:Vol} (h:Oy a.name b.name=true) (hb:leV v b=true):leV v a=true:=by
 unfold leV at*
 rw[Bool.or_eq_true] at*
 rcases hb with hb|hb
 ·exact .inl (WO h hb)
 ·have:b.name.toList=v.name.toList:=by
   unfold SL at hb;exact eq_of_beq hb
  unfold Oy at h ⊢
  rw[←this];exact .inl h
theorem GD.tail {a:Vol} {l:List Vol} (h:GD (a::l)):GD l:=by
 cases l with
 |nil=>trivial
 |cons b r=>exact h.2
theorem GD.cut {v:Vol}: ∀{l:List Vol} {k:Nat},GD l→k≤l.length→(∀u∈l.drop k,leV v u=false)→(∀u,0<k→l[k-1]?=some u→leV v u=true)→(l.takeWhile (leV v)).length=k
 |[],k,_,hk,_,_=>by simp at hk;simp[hk]
 |a::l,0,_,_,h1,_=>by
  have:=h1 a (.head _)
  simp[this]
 |a::l,k+1,hr,hk,h1,h2=>by
  have ih:=GD.cut (v:=v) (l:=l) (k:=k) hr.tail (by simpa using hk) (fun u hu=>h1 u (by simpa using hu)) fun u h0 hu=>by
   obtain⟨j,rfl⟩: ∃j,k=j+1:=⟨k-1,by omega⟩
   exact h2 u (by omega) (by simpa using hu)
  have ha:leV v a=true:=by
   cases k with
   |zero=>exact h2 a (by omega) rfl
   |succ k=>
    cases l with
    |nil=>simp at hk
    |cons b r=>
     refine YW hr.1 ?_
     rw[List.takeWhile_cons] at ih
     cases hb:leV v b with
     |true=>rfl
     |false=>rw[hb] at ih;simp at ih
  rw[List.takeWhile_cons,if_pos ha,List.length_cons,ih]
theorem GD.modify {f:Vol→Vol} (hf: ∀u,(f u).name=u.name): ∀{l:List Vol} (i:Nat),GD l→GD (l.modify i f)
 |[],i,h=>by cases i<;>exact h
 |[a],0,_=>trivial
 |[a],i+1,_=>by cases i<;>trivial
 |a::b::r,0,h=>by
  show GD (f a::b::r)
  exact⟨by rw[hf];exact h.1,h.2⟩
 |a::b::r,1,h=>by
  show GD (a::f b::r)
  refine⟨by rw[hf];exact h.1,?_⟩
  exact GD.modify hf (l:=b::r) 0 h.2
 |a::b::r,i+2,h=>⟨h.1,GD.modify hf (l:=b::r) (i+1) h.2⟩
end Go.T
namespace Go.T
def gtM (m u:Mp):Bool:= !(Oy u.name m.name||SL u.name m.name)
def aal (l:List Mp) (m:Mp):Nat→Nat
 |0=>0
 |k+1=>match l[k]? with
  |some u=>if gtM m u=true then aal l m k else k+1
  |none=>k+1
theorem Wb (l:List Mp) (m:Mp): ∀k,aal l m k≤k
 |0=>Nat.le_refl _
 |k+1=>by
  unfold aal
  split
  ·split
   ·exact Nat.le_succ_of_le (Wb l m k)
   ·exact Nat.le_refl _
  ·exact Nat.le_refl _
def YX {α:Type} (l:List α) (k:Nat) (x:α):List α:=l.take k++x::l.drop k
def YY (l:List Mp) (m:Mp):List Mp:=YX l (aal l m l.length) m
theorem YZ (l:List Mp) (m:Mp):(YY l m).length=l.length+1:=by
 have:=Wb l m l.length
 unfold YY YX
 rw[List.length_append,List.length_cons,List.length_take,List.length_drop];omega
theorem Y0 {l:List Mp} {m x:Mp} (h:x∈YY l m):x∈l∨x=m:=by
 unfold YY YX at h
 rcases List.mem_append.1 h with h|h
 ·exact .inl (List.mem_of_mem_take h)
 ·rcases List.mem_cons.1 h with h|h
  ·exact .inr h
  ·exact .inl (List.mem_of_mem_drop h)
def R8 (l l':List Mp):Prop:=l'.length≤l.length+1∧ ∀B:Nat,12≤B→(∀x∈l,x.l.length≤B)→ ∀x∈l',x.l.length≤B
theorem R8.refl (l:List Mp):R8 l l:=⟨Nat.le_succ _,fun _ _ h=>h⟩
theorem R8.put {l:List Mp} {m:Mp} (h: ∀B:Nat,12≤B→(∀x∈l,x.l.length≤B)→m.l.length≤B):R8 l (YY l m):=
 ⟨Nat.le_of_eq (YZ l m),fun B hB hl x hx=>(Y0 hx).elim (hl x) fun e=>by rw[e];exact h B hB hl⟩
end Go.T
namespace Go.T
abbrev WQ (x:List (List Key)×Bool):TV:= .tu [(1,[.sub 1 (x.1.map bX)]),(0,[iB x.2])]
def Fb (s:List Key) (k:Key):Bool:=(yz s k.b k.a).2||decide (s.length<4)
def jL (n:List (List Key)) (k:Key):List (List Key):=match n[n.length-1]? with
 |none=>n++[[k]]
 |some s=>if Fb s k=true then n.set (n.length-1) (fH s k) else n++[[k]]
def cq (n:List (List Key)) (k:Key):List Key:=nZ (fH (aJ n) k)
def cg (n:List (List Key)) (k:Key):List (List Key)×Bool:=
 if fI (jL n k)=true then(jL n k,true) else if 8<(cq n k).length then(n,false) else if fI (cC (cq n k))=true then(cC (cq n k),true) else(n,false)
theorem o9 (n:List (List Key)) (k:Key):(cq n k).length≤tot bH n+1:=by
 have h1:=cU n
 have h2:=oS (aJ n) k
 have h3:(cq n k).length≤(fH (aJ n) k).length:=List.length_filter_le _ _
 omega
theorem TT {α:Type} (w:α→Nat) (l:List α) (a:α):tot w (l++[a])=tot w l+w a:=by
 induction l with
 |nil=>simp[tot]
 |cons b r ih=>simp only[List.cons_append,tot,ih];omega
theorem TU {α:Type} (w:α→Nat) (c:Nat): ∀(l:List α) (i:Nat) (a a':α),l[i]?=some a→w a'≤w a+c→tot w (l.set i a')≤tot w l+c
 |[],i,a,a',h,_=>by simp at h
 |b::r,0,a,a',h,hw=>by
  simp only[List.getElem?_cons_zero,Option.some.injEq] at h
  subst h
  simp only[List.set_cons_zero,tot];omega
 |b::r,i+1,a,a',h,hw=>by
  have:=TU w c r i a a' (by simpa using h) hw
  simp only[List.set_cons_succ,tot];omega
theorem Fc (n:List (List Key)) (k:Key):(jL n k).length≤n.length+1:=by
 unfold jL
 split
 ·rw[List.length_append];simp
 ·split
  ·rw[List.length_set];omega
  ·rw[List.length_append];simp
theorem Fe (n:List (List Key)) (k:Key):tot bH (jL n k)≤tot bH n+1:=by
 unfold jL
 split
 ·rw[TT];exact Nat.le_refl _
 ·rename_i s hs
  split
  ·exact TU bH 1 _ _ s _ hs (by have:=oS s k;unfold bH;omega)
  ·rw[TT];exact Nat.le_refl _
theorem vY (l:List Key):(cC l).length≤1:=by
 unfold cC
 split<;>simp
theorem vZ (l:List Key):tot bH (cC l)≤l.length:=by
 unfold cC
 split
 ·simp[tot]
 ·simp[tot,bH]
theorem Db (n:List (List Key)) (k:Key):(cg n k).1.length≤n.length+1:=by
 have h1:=Fc n k
 have h2:=vY (cq n k)
 unfold cg
 repeat' split
 all_goals simp only[];omega
theorem Dc (n:List (List Key)) (k:Key):tot bH (cg n k).1≤tot bH n+1:=by
 have h1:=Fe n k
 have h2:=vZ (cq n k)
 have h3:=o9 n k
 unfold cg
 repeat' split
 all_goals simp only[];omega
end Go.T
namespace Go.T
def JU (x y:Key):Prop:=x.b<y.b∨(x.b=y.b∧x.a<y.a)
theorem JU.trans {x y z:Key} (h1:JU x y) (h2:JU y z):JU x z:=by unfold JU at*;omega
theorem Dd {x y:Key}:dR x y=true↔JU x y:=by unfold dR JU;simp
theorem GF {x y:Key}:mH x y=true↔x.b=y.b∧x.a=y.a:=by unfold mH;simp
theorem GG {k y:Key}: ∀{l:List Key},y∈fG k true l→y∈l
 |[],h=>by simp[fG] at h
 |x::r,h=>by
  simp only[fG,Bool.not_true,Bool.false_and,Bool.false_eq_true,if_false,List.nil_append,Bool.true_or] at h
  rcases List.mem_append.1 h with h|h
  ·split at h
   ·cases h
   ·rw[List.mem_singleton.1 h];exact .head _
  ·exact .tail _ (GG h)
theorem Nm {k y:Key}: ∀{l:List Key} {put:Bool},y∈fG k put l→y∈l∨y=k
 |[],put,h=>by
  simp only[fG] at h
  split at h
  ·cases h
  ·exact .inr (List.mem_singleton.1 h)
 |x::r,put,h=>by
  simp only[fG] at h
  rcases List.mem_append.1 h with h|h
  ·rcases List.mem_append.1 h with h|h
   ·split at h
    ·exact .inr (List.mem_singleton.1 h)
    ·cases h
   ·split at h
    ·cases h
    ·exact .inl (by rw[List.mem_singleton.1 h];exact .head _)
  ·exact(Nm h).imp (.tail _) id
theorem Ef {k:Key}: ∀{l:List Key},l.Pairwise JU→(fG k true l).Pairwise JU
 |[],_=>by simp[fG]
 |x::r,h=>by
  obtain⟨h1,h2⟩:=List.pairwise_cons.1 h
  simp only[fG,Bool.not_true,Bool.false_and,Bool.false_eq_true,if_false,List.nil_append,Bool.true_or]
  split
  ·exact Ef h2
  ·exact List.pairwise_cons.2 ⟨fun y hy=>h1 y (GG hy),Ef h2⟩
theorem Re {k:Key}: ∀{l:List Key},l.Pairwise JU→(fG k false l).Pairwise JU
 |[],_=>by simp[fG]
 |x::r,h=>by
  obtain⟨h1,h2⟩:=List.pairwise_cons.1 h
  cases hk:dR x k with
  |true=>
   have hlt:=Dd.1 hk
   have hns:mH x k=false:=by
    cases hs:mH x k with
    |false=>rfl
    |true=>have:=GF.1 hs;unfold JU at hlt;omega
   simp only[fG,hk,hns,Bool.not_false,Bool.not_true,Bool.true_and,Bool.and_false,Bool.false_eq_true,if_false,List.nil_append,Bool.or_false,Bool.false_or]
   refine List.pairwise_cons.2 ⟨fun y hy=> ?_,Re h2⟩
   rcases Nm hy with hy|rfl
   ·exact h1 y hy
   ·exact hlt
  |false=>
   have hge: ¬JU x k:=fun h=>by rw[Dd.2 h] at hk;cases hk
   simp only[fG,hk,Bool.not_false,Bool.true_and,if_true,Bool.or_true]
   have hr: ∀y∈fG k true r,JU k y:=fun y hy=>by
    have:=h1 y (GG hy)
    unfold JU at*;omega
   split
   ·exact List.pairwise_cons.2 ⟨hr,Ef h2⟩
   ·rename_i hns
    refine List.pairwise_cons.2 ⟨fun y hy=> ?_,List.pairwise_cons.2 ⟨fun y hy=>h1 y (GG hy),Ef h2⟩⟩
    rcases List.mem_cons.1 hy with rfl|hy
    ·have: ¬(y.b=k.b∧y.a=k.a):=fun h=>hns (GF.2 h)
     unfold JU at*;omega
    ·exact hr y hy
theorem JV {l:List Key} {k:Key} (h:l.Pairwise JU):(fH l k).Pairwise JU:=Re h
theorem Nn {l:List Key} {k y:Key} (h:y∈fH l k):y∈l∨y=k:=Nm h
theorem No: ∀(new:List Key) {old:List Key},old.Pairwise JU→(cF old new).Pairwise JU
 |[],_,h=>h
 |x::r,_,h=>No r (JV h)
theorem Rf {y:Key}: ∀{new old:List Key},y∈cF old new→y∈old∨y∈new
 |[],_,h=> .inl h
 |x::r,old,h=>by
  have h:y∈cF (fH old x) r:=h
  rcases Rf h with h|h
  ·exact(Nn h).imp id fun e=>by rw[e];exact .head _
  ·exact .inr (.tail _ h)
theorem Np: ∀(n:List (List Key)) {acc:List Key},acc.Pairwise JU→(n.foldl cF acc).Pairwise JU
 |[],_,h=>h
 |s::r,_,h=>Np r (No s h)
theorem Rh {y:Key}: ∀{n:List (List Key)} {acc:List Key},y∈n.foldl cF acc→y∈acc∨ ∃s∈n,y∈s
 |[],_,h=> .inl h
 |s::r,acc,h=>by
  rcases Rh (n:=r) h with h|⟨s',h1,h2⟩
  ·exact(Rf h).imp id fun h=>⟨s,.head _,h⟩
  ·exact .inr ⟨s',.tail _ h1,h2⟩
theorem OH (n:List (List Key)):(aJ n).Pairwise JU:=(Np n .nil).sublist List.filter_sublist
theorem R9 {n:List (List Key)} {y:Key} (h:y∈aJ n): ∃s∈n,y∈s:=by
 rcases Rh (List.mem_filter.1 h).1 with h|h
 ·cases h
 ·exact h
theorem OI (n:List (List Key)) (k:Key):(cq n k).Pairwise JU:=(JV (OH n)).sublist List.filter_sublist
theorem Sa {n:List (List Key)} {k y:Key} (h:y∈cq n k):y=k∨ ∃s∈n,y∈s:=
 (Nn (List.mem_filter.1 h).1).elim (fun h=> .inr (R9 h)) .inl
theorem Y1 {l:List Key} (h1:l.Pairwise JU) (h2: ∀y∈l,gX y=true) (h3:l.length≤60):C6 l=true:=by
 rw[Ni]
 simp only[Bool.and_eq_true,decide_eq_true_eq]
 refine⟨List.all_eq_true.2 h2,C5.2 fun i hi=> ?_,h3⟩
 cases i with
 |zero=>rfl
 |succ k=>
  simp only[hJ]
  rw[List.getElem?_eq_getElem (by omega:k<l.length),List.getElem?_eq_getElem hi]
  exact Dd.2 (List.pairwise_iff_getElem.1 h1 k (k+1) (by omega) hi (by omega))
theorem TW {n:List (List Key)} (h:fI n=true) {s:List Key} (hs:s∈n) {y:Key} (hy:y∈s):gX y=true:=by
 unfold fI at h
 simp only[Bool.and_eq_true] at h
 have:=List.all_eq_true.1 h.1.1 s hs
 simp only[Bool.and_eq_true] at this
 have h2:=this.1
 rw[Ni] at h2
 simp only[Bool.and_eq_true] at h2
 exact List.all_eq_true.1 h2.1 y hy
theorem Vd {l:List Key} (h1:l.Pairwise JU) (h2: ∀y∈l,gX y=true) (h3:l.length≤8):fI (cC l)=true:=by
 unfold cC
 split
 ·decide
 ·rename_i h0
  unfold fI
  have:=Y1 h1 h2 (by omega)
  have h00:l≠[]:=fun e=>h0 (by rw[e];rfl)
  simp[this,h00,cn,tot,bH,h3]
theorem TY {n:List (List Key)} {k:Key} (h:fI n=true) (hk:gX k=true): ∀y∈cq n k,gX y=true:=fun y hy=>by
 rcases Sa hy with rfl|⟨s,h1,h2⟩
 ·exact hk
 ·exact TW h h1 h2
theorem Nq {n:List (List Key)} {k:Key} (h:fI n=true) (hk:gX k=true) (hp:(cg n k).2=false):8<(cq n k).length∧cg n k=(n,false):=by
 have hn:=Vd (OI n k) (TY h hk)
 unfold cg at hp ⊢
 split at hp
 ·cases hp
 ·rename_i h1
  split at hp
  ·rename_i h2
   exact⟨h2,by rw[if_neg h1,if_pos h2]⟩
  ·rename_i h2
   rw[if_pos (hn (by omega))] at hp
   cases hp
end Go.T
namespace Go.T
def gw (x y:Int):Int:=Ut .or .i64 (aa9 .i64 (tJ .i64 x) 8) (tJ .i64 y)
end Go.T
namespace Go.T
abbrev zH (x:Tree×Bool):TV:= .tu [(1,V7 x.1),(0,[iB x.2])]
def lz (t:Tree) (i c:Nat) (lows:List Int) (nodes:List (List (List Key))):Tree:=⟨t.lows.take i++lows++t.lows.drop (i+c),t.nodes.take i++nodes++t.nodes.drop (i+c)⟩
def ji (t:Tree) (i:Nat):List Key:=aJ (t.nodes.getD i [])
def sJ (t:Tree):Nat→Nat→Option Nat
 |0,_=>none
 |d+1,i=>if i+1<t.nodes.length then(if(ji t i).length+(ji t (i+1)).length≤6 then some i else sJ t d (i+1)) else none
def pV (t:Tree):Option Nat:=sJ t t.nodes.length 0
def cK (t:Tree) (i:Nat):Tree:=lz t i 2 [t.lows.getD i 0] [cC (ji t i++ji t (i+1))]
def lA:Nat→Tree→Tree
 |0,t=>t
 |n+1,t=>match pV t with
  |none=>t
  |some i=>lA n (cK t i)
theorem JW {t:Tree}: ∀{d i j:Nat},sJ t d i=some j→i≤j∧j+1<t.nodes.length∧(ji t j).length+(ji t (j+1)).length≤6
 |0,i,j,h=>by cases h
 |d+1,i,j,h=>by
  unfold sJ at h
  split at h
  ·split at h
   ·cases h;exact⟨Nat.le_refl _,by assumption,by assumption⟩
   ·have:=JW h;exact⟨by omega,this.2⟩
  ·cases h
theorem si {t:Tree} {j:Nat} (h:pV t=some j):j+1<t.nodes.length∧(ji t j).length+(ji t (j+1)).length≤6:=(JW h).2
theorem De (t:Tree) (i c:Nat) (lows:List Int) (nodes:List (List (List Key))) (h:i+c≤t.nodes.length):(lz t i c lows nodes).nodes.length+c=t.nodes.length+nodes.length:=by
 unfold lz
 simp only[List.length_append,List.length_take,List.length_drop];omega
theorem Ag (t:Tree) (i c:Nat) (lows:List Int) (nodes:List (List (List Key))) (h:i+c≤t.lows.length):(lz t i c lows nodes).lows.length+c=t.lows.length+lows.length:=by
 unfold lz
 simp only[List.length_append,List.length_take,List.length_drop];omega
theorem uc {t:Tree} {i:Nat} (h:i+1<t.nodes.length):(cK t i).nodes.length+1=t.nodes.length:=by
 have:=De t i 2 [t.lows.getD i 0] [cC (ji t i++ji t (i+1))] (by omega)
 unfold cK
 simp only[List.length_singleton] at this
 omega
def kH (t:Tree) (i:Nat) (k:Key):Tree:=
 if(cg (t.nodes.getD i []) k).2=true then
  (if 0<i∧(aJ (cg (t.nodes.getD i []) k).1).length=0 then lz t i 1 [] [] else lz t i 1 [t.lows.getD i 0] [(cg (t.nodes.getD i []) k).1])
 else lz t i 1 [t.lows.getD i 0,gY ((cq (t.nodes.getD i []) k).getD (((cq (t.nodes.getD i []) k).length+1)/2) eg).b ((cq (t.nodes.getD i []) k).getD (((cq (t.nodes.getD i []) k).length+1)/2) eg).a]
  [cC ((cq (t.nodes.getD i []) k).take (((cq (t.nodes.getD i []) k).length+1)/2)),cC ((cq (t.nodes.getD i []) k).drop (((cq (t.nodes.getD i []) k).length+1)/2))]
def aZ (t:Tree) (k:Key):Tree×Bool:=
 if eJ t=true∧gX k=true then(if eJ (lA (kH t (mz t k.b k.a).toNat k).nodes.length (kH t (mz t k.b k.a).toNat k))=true then(lA (kH t (mz t k.b k.a).toNat k).nodes.length (kH t (mz t k.b k.a).toNat k),true) else(t,false)) else(t,false)
end Go.T
namespace Go.T
theorem Ve {α:Type} (w:α→Nat) (c:Nat): ∀l:List α,(∀a∈l,w a≤c)→tot w l≤c*l.length
 |[],_=>by simp[tot]
 |a::r,h=>by
  have h1:=h a (.head _)
  have h2:=Ve w c r fun b hb=>h b (.tail _ hb)
  simp only[tot,List.length_cons,Nat.mul_add];omega
theorem Eg {n:List (List Key)} (h:fI n=true):n.length≤3∧tot bH n≤8:=by
 unfold fI cn at h
 simp only[Bool.and_eq_true,decide_eq_true_eq] at h
 exact⟨h.1.2,h.2⟩
theorem WR {t:Tree} (h:eJ t=true) {i:Nat} (hi:i<t.nodes.length):cP t i=true:=by
 unfold eJ at h
 simp only[Bool.and_eq_true] at h
 exact C5.1 h.2.2.2.1 i hi
theorem v7 {t:Tree} (h:eJ t=true) {n:List (List Key)} (hn:n∈t.nodes):fI n=true:=by
 obtain⟨i,hi,rfl⟩:=List.getElem_of_mem hn
 have:=WR h hi
 unfold cP at this
 rw[List.getElem?_eq_getElem hi] at this
 simp only[Bool.and_eq_true] at this
 exact this.2.1
theorem qM {t:Tree} (h:eJ t=true):1≤t.nodes.length∧t.nodes.length≤20∧t.lows.length=t.nodes.length:=by
 unfold eJ jV at h
 simp only[Bool.and_eq_true,decide_eq_true_eq] at h
 omega
theorem Vf {t:Tree} (h:eJ t=true):t.lows[0]?=some 0:=by
 have hl:=qM h
 unfold eJ at h
 simp only[Bool.and_eq_true] at h
 have h0:0<t.lows.length:=by omega
 have:=h.2.2.1
 rw[List.getElem?_eq_getElem h0] at this ⊢
 simp only[decide_eq_true_eq] at this
 rw[this]
theorem Nr {t:Tree} (h:eJ t=true):tot aH t.nodes≤220:=by
 have h1:=Ve aH 11 t.nodes fun n hn=>by
  have:=Eg (v7 h hn)
  unfold aH;omega
 have h2:=qM h
 omega
theorem Ri {t:Tree} (h:eJ t=true):cw t≤260:=by
 have h1:=Nr h
 have h2:=qM h
 unfold cw rC;omega
theorem Vg {t:Tree} {k:Key} (h:(aZ t k).2=true):eJ (aZ t k).1=true:=by
 unfold aZ at h ⊢
 split
 ·split
  ·assumption
  ·rename_i h1 h2;rw[if_pos h1,if_neg h2] at h;cases h
 ·rename_i h1;rw[if_neg h1] at h;cases h
theorem Ff {t:Tree} {k:Key} (h:(aZ t k).2=false):(aZ t k).1=t:=by
 unfold aZ at h ⊢
 split
 ·split
  ·rename_i h1 h2;rw[if_pos h1,if_pos h2] at h;cases h
  ·rfl
 ·rfl
theorem uK (t:Tree) (k:Key):cw (aZ t k).1≤max (cw t) 260:=by
 cases h:(aZ t k).2 with
 |true=>have:=Ri (Vg h);omega
 |false=>rw[Ff h];omega
theorem TZ {p:Pool} (h:jh p=true):eJ p.t=true:=by
 simp only[jh,Bool.and_eq_true] at h;exact h.2.1
theorem Sb {p:Pool} (h:jh p=true):e9 p.cells=true:=by
 simp only[jh,Bool.and_eq_true] at h;exact h.2.2.2.1
theorem WS {s:ByteArray} (h:C9 s=true):1≤s.size∧s.size≤6:=by
 simp only[C9,Bool.and_eq_true,jV,decide_eq_true_eq] at h
 omega
theorem WT {p:Pool} (h:iF p=true) {v:Vol} (hv:v∈p.vols):C9 v.name=true∧1≤v.size∧v.size≤12∧0≤ee p.ages v.age:=by
 obtain⟨i,hi,rfl⟩:=List.getElem_of_mem hv
 simp only[iF,Bool.and_eq_true,C5] at h
 have:=h.1 i hi
 unfold bZ at this
 rw[List.getElem?_eq_getElem hi] at this
 simp only[Bool.and_eq_true,jV,decide_eq_true_eq,Bool.not_eq_true',decide_eq_false_iff_not] at this
 exact⟨this.1,this.2.1.1,this.2.1.2,by omega⟩
theorem WU {p:Pool} (h:jh p=true):cY p≤500:=by
 have h1:=Ri (TZ h)
 have h2:p.ages.length≤16:=by
  have:=JT h
  simp only[gV,Bool.and_eq_true,decide_eq_true_eq] at this
  exact this.2
 have h3:p.cells.length=24:=by
  have:=Sb h
  simp only[e9,Bool.and_eq_true,decide_eq_true_eq] at this
  exact this.2
 have hv:=TQ h
 have h4:p.vols.length≤6:=by
  simp only[iF,Bool.and_eq_true,decide_eq_true_eq] at hv
  exact hv.2
 have h5:=Ve qU 6 p.vols fun v hm=>(WS (WT hv hm).1).2
 unfold cY H9;omega
def Df (p:Pool) (k:Key):List Cell:=if(uJ p.t k.b k.a).2=true∧(uJ p.t k.b k.a).1.k=1 then gM p.cells (uJ p.t k.b k.a).1.c else p.cells
def iU (p:Pool) (k:Key):Pool×Bool:=if(aZ p.t k).2=true then(⟨(aZ p.t k).1,p.ages,Df p k,p.vols,p.next⟩,true) else(p,false)
theorem Sc (p:Pool) (k:Key):(Df p k).length=p.cells.length:=by
 unfold Df;split
 ·exact R7 _ _
 ·rfl
theorem Ah (p:Pool) (k:Key):cY (iU p k).1≤cY p+260:=by
 have h1:=uK p.t k
 have h2:=Sc p k
 unfold iU
 split
 ·unfold cY;simp only[];omega
 ·simp only[];omega
def EG (p:Pool) (x:Pool×Bool):Pool×Bool:=if x.2=true∧jh x.1=true then(x.1,true) else(p,false)
theorem Y2 (p:Pool) (x:Pool×Bool):cY (EG p x).1≤max (cY p) 500:=by
 unfold EG
 split
 ·rename_i h;have:=WU h.2;simp only[];omega
 ·simp only[];omega
def mg (l:List Age) (id fr:Int):List Age:=l.map fun a=>if a.fr=id then {a with fr:=fr} else a
def qN (l:List Age) (id:Int):List Age×Bool:=
 if gV l=true then(match fP l (ee l id) with
  |none=>(l,false)
  |some a=>((mg l id a.fr).take (ee l id).toNat++(mg l id a.fr).drop ((ee l id).toNat+1),true)) else(l,false)
theorem Ai (l:List Age) (id fr:Int):(mg l id fr).length=l.length:=by unfold mg;simp
theorem Vh (l:List Age) (id:Int):(qN l id).1.length≤l.length:=by
 unfold qN
 repeat' split
 all_goals simp only[List.length_append,List.length_take,List.length_drop,Ai];omega
def Mq (p:Pool) (i:Int):Key:=match fP (aB p.t) i with|some k=>k|none=>eg
def dW (k:Key):Key:=⟨k.b,k.a,0,0,0⟩
def Aj (p:Pool) (k:Key):Key:=⟨k.b,yA p k.a,k.k,k.c,k.g⟩
def v8 (p:Pool) (k:Key):Pool×Bool:=
 (⟨(aZ (aZ p.t (dW k)).1 (Aj p k)).1,p.ages,p.cells,p.vols,p.next⟩,(aZ p.t (dW k)).2&&(aZ (aZ p.t (dW k)).1 (Aj p k)).2)
def OJ (p:Pool) (id:Int):Pool×Bool:=(⟨p.t,(qN p.ages id).1,p.cells,p.vols,p.next⟩,(qN p.ages id).2)
def JX (p:Pool) (j i:Int):Pool×Bool:=
 if j=4 then(match fP p.ages i with|some a=>OJ p a.id|none=>(p,false)) else if j=3 then v8 p (Mq p i) else iU p (dW (Mq p i))
def jY (p:Pool):Pool×Bool:=if(ck p).1=0 then(p,false) else EG p (JX p (ck p).1 (ck p).2)
theorem Sd (p:Pool):cY (jY p).1≤max (cY p) 500:=by
 unfold jY
 split
 ·simp only[];omega
 ·exact Y2 _ _
end Go.T
namespace Go.T
theorem Eh {α:Type} (w:α→Nat): ∀l m:List α,tot w (l++m)=tot w l+tot w m
 |[],m=>by simp[tot]
 |a::l,m=>by simp only[List.cons_append,tot,Eh w l m];omega
theorem abO {α:Type} {l:List α} {i:Nat} {a b:α} (ha:l[i]?=some a) (hb:l[i+1]?=some b):l=l.take i++a::b::l.drop (i+2):=by
 obtain⟨h1,e1⟩:=List.getElem?_eq_some_iff.1 ha
 obtain⟨h2,e2⟩:=List.getElem?_eq_some_iff.1 hb
 conv=>lhs;rw[←List.take_append_drop i l]
 rw[List.drop_eq_getElem_cons h1,List.drop_eq_getElem_cons h2,e1,e2]
theorem Fg (l:List Key):aH (cC l)≤l.length+1:=by
 have h1:=vY l
 have h2:=vZ l
 unfold aH;omega
theorem g9 {t:Tree} {i:Nat} {a:List (List Key)} (h:t.nodes[i]?=some a):ji t i=aJ a:=by unfold ji;rw[List.getD_eq_getElem?_getD,h];rfl
theorem sj (n:Nat) (t:Tree):lA (n+1) t=match pV t with|none=>t|some i=>lA n (cK t i):=rfl
theorem we {t:Tree} {i:Nat} (h:i+1<t.nodes.length):tot aH (cK t i).nodes+(cK t i).nodes.length≤tot aH t.nodes+t.nodes.length:=by
 obtain⟨a,ha⟩: ∃a,t.nodes[i]?=some a:=⟨_,List.getElem?_eq_getElem (by omega)⟩
 obtain⟨b,hb⟩: ∃b,t.nodes[i+1]?=some b:=⟨_,List.getElem?_eq_getElem h⟩
 have hl:=uc h
 have hs:=congrArg (tot aH) (abO ha hb)
 rw[Eh] at hs
 simp only[tot] at hs
 have la:=cU a
 have lb:=cU b
 have hn:=Fg (ji t i++ji t (i+1))
 rw[List.length_append,g9 ha,g9 hb] at hn
 have e:tot aH (cK t i).nodes=tot aH (t.nodes.take i)+aH (cC (aJ a++aJ b))+tot aH (t.nodes.drop (i+2)):=by
  unfold cK lz
  simp only[]
  rw[Eh,Eh,g9 ha,g9 hb]
  simp[tot]
 have sa:aH a=a.length+tot bH a:=rfl
 have sb:aH b=b.length+tot bH b:=rfl
 omega
theorem Vi {n:Nat} {t:Tree} (h:pV t=none):lA n t=t:=by
 cases n with
 |zero=>rfl
 |succ n=>rw[sj,h]
theorem EH {t:Tree} {i:Nat} (h:i+1<t.nodes.length) (hl:t.lows.length=t.nodes.length):(cK t i).lows.length=(cK t i).nodes.length:=by
 have h1:=Ag t i 2 [t.lows.getD i 0] [cC (ji t i++ji t (i+1))] (by omega)
 have h2:=De t i 2 [t.lows.getD i 0] [cC (ji t i++ji t (i+1))] (by omega)
 simp only[List.length_singleton] at h1 h2
 unfold cK
 omega
theorem T2: ∀(n:Nat) (t:Tree),t.lows.length=t.nodes.length→tot aH (lA n t).nodes+(lA n t).nodes.length≤tot aH t.nodes+t.nodes.length∧(lA n t).lows.length=(lA n t).nodes.length
 |0,t,h=>⟨Nat.le_refl _,h⟩
 |n+1,t,h=>by
  rw[sj]
  cases hp:pV t with
  |none=>exact⟨Nat.le_refl _,h⟩
  |some i=>
   have hlt:=(si hp).1
   have h1:=we hlt
   have h2:=T2 n (cK t i) (EH hlt h)
   exact⟨by simp only[];omega,h2.2⟩
theorem T3 {k:Key} (h:gX k=true):0≤k.b∧k.b≤15∧1≤k.a∧k.a≤60∧0≤k.k∧k.k≤2:=by
 simp only[gX,jV,Bool.and_eq_true,decide_eq_true_eq] at h
 omega
theorem aam {b a:Int} (h: -1000≤b∧b≤1000∧ -1000≤a∧a≤1000):gY b a=64*b+a:=by
 unfold gY
 rw[aae (by omega),aC (by omega)]
theorem Vj {k:Key} (h:gX k=true):gY k.b k.a=64*k.b+k.a:=by
 have:=T3 h
 exact aam (by omega)
theorem Ns {f:Int→Bool} {l:List Int} {x:Int} (h0:l[0]?=some x) (hx:f x=true): ∀n:Nat,0<n→n≤l.length→ ∃j:Nat,rE f l n=j∧j<n
 |0,h,_=>by omega
 |n+1,_,hn=>by
  unfold rE
  rw[List.getElem?_eq_getElem (by omega)]
  simp only[]
  split
  ·exact⟨n,rfl,by omega⟩
  ·rename_i hf
   cases n with
   |zero=>
    rw[List.getElem?_eq_getElem (by omega)] at h0
    cases h0;exact absurd hx hf
   |succ n=>
    obtain⟨j,h1,h2⟩:=Ns h0 hx (n+1) (by omega) (by omega)
    exact⟨j,h1,by omega⟩
theorem Nt {t:Tree} {k:Key} (h:eJ t=true) (hk:gX k=true): ∃j:Nat,mz t k.b k.a=j∧j<t.nodes.length:=by
 have h1:=qM h
 have h2:=T3 hk
 have h3:=Vj hk
 unfold mz
 have:=Ns (f:=fun x=>decide (x≤gY k.b k.a)) (Vf h) (by simp only[decide_eq_true_eq];omega) t.lows.length (by omega) (Nat.le_refl _)
 rw[h1.2.2] at this ⊢
 exact this
theorem T4 (n:List (List Key)) (k:Key):aH (cg n k).1≤aH n+2:=by
 have h1:=Db n k
 have h2:=Dc n k
 unfold aH;omega
theorem WV (t:Tree) (i c:Nat) (lows:List Int) (nodes:List (List (List Key))):tot aH (lz t i c lows nodes).nodes≤tot aH t.nodes+tot aH nodes:=by
 have h:tot aH (t.nodes.take i++t.nodes.drop i)=tot aH t.nodes:=by rw[List.take_append_drop]
 have h2:tot aH (t.nodes.drop (i+c))≤tot aH (t.nodes.drop i):=by
  rw[←List.drop_drop]
  have h3:tot aH ((t.nodes.drop i).take c++(t.nodes.drop i).drop c)=tot aH (t.nodes.drop i):=by rw[List.take_append_drop]
  rw[Eh] at h3;omega
 unfold lz
 simp only[Eh] at h ⊢
 omega
theorem aan {t:Tree} {i:Nat} {k:Key} (hl:t.lows.length=t.nodes.length) (hi:i<t.nodes.length) (ht: ∀n∈t.nodes,tot bH n≤8∧n.length≤3):
 tot aH (kH t i k).nodes≤tot aH t.nodes+40∧(kH t i k).nodes.length≤t.nodes.length+1∧(kH t i k).lows.length=(kH t i k).nodes.length:=by
 have hn:=ht t.nodes[i] (List.getElem_mem hi)
 have hg:t.nodes.getD i []=t.nodes[i]:=by rw[List.getD_eq_getElem?_getD,List.getElem?_eq_getElem hi];rfl
 have hp:=T4 t.nodes[i] k
 have hk:=o9 t.nodes[i] k
 have hz:aH t.nodes[i]=t.nodes[i].length+tot bH t.nodes[i]:=rfl
 unfold kH
 rw[hg]
 generalize cq t.nodes[i] k=l at*
 have e1:=Fg (l.take ((l.length+1)/2))
 have e2:=Fg (l.drop ((l.length+1)/2))
 rw[List.length_take] at e1
 rw[List.length_drop] at e2
 have key: ∀(lows:List Int) (nodes:List (List (List Key))),lows.length=nodes.length→nodes.length≤2→tot aH nodes≤40→tot aH (lz t i 1 lows nodes).nodes≤tot aH t.nodes+40∧(lz t i 1 lows nodes).nodes.length≤t.nodes.length+1∧(lz t i 1 lows nodes).lows.length=(lz t i 1 lows nodes).nodes.length:=by
  intro lows nodes h1 h2 h3
  have h4:=WV t i 1 lows nodes
  have h5:=De t i 1 lows nodes (by omega)
  have h6:=Ag t i 1 lows nodes (by omega)
  omega
 split
 ·split
  ·exact key _ _ rfl (by simp) (by simp[tot])
  ·exact key _ _ rfl (by simp) (by simp only[tot];omega)
 ·exact key _ _ rfl (by simp) (by simp only[tot];omega)
theorem Se {t:Tree} (h:eJ t=true): ∀n∈t.nodes,tot bH n≤8∧n.length≤3:=fun n hn=>by
 have:=Eg (v7 h hn);omega
theorem T6 {t:Tree} {i:Nat} {k:Key} (h:eJ t=true) (hi:i<t.nodes.length):
 tot aH (kH t i k).nodes+(kH t i k).nodes.length≤300∧(kH t i k).lows.length=(kH t i k).nodes.length∧cw (lA (kH t i k).nodes.length (kH t i k))≤600:=by
 have h1:=qM h
 have h2:=Nr h
 have h3:=aan (k:=k) h1.2.2 hi (Se h)
 have h4:=T2 (kH t i k).nodes.length (kH t i k) h3.2.2
 refine⟨by omega,h3.2.2,?_⟩
 unfold cw rC
 omega
theorem Wc {n:Nat} (h:8<n):(n+1)/2<n:=by omega
end Go.T
namespace Go.T
end Go.T
