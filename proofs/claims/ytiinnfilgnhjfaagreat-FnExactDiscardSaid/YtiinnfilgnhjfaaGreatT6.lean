/- A run has one result; the formulas, simplified. The program's data as rows; what the formulas say of them. Rows that are written, as data. Loops over lists: how a run of them is told. What the program's functions come to, in plain Lean. What the program's functions come to: nodes, trees, pools. What the program's functions come to: maps, equality, steps. What the program's functions come to: volumes taken away. Draws: a cursor over bytes. Ages and volumes put in: what the functions come to. Maps put in, taken out, resized: what the functions come to. A key put into a node: what it comes to. Sets of keys stay in order; a node that takes no key has more than it may. An operation out of bytes. A key put into a tree: what it comes to. Sizes of what is right; keys put into pools; what is done to pools. A key put into a tree: sizes, and where it goes. Each cell that is used is of one key. -/
import Derived.Test.YtiinnfilgnhjfaaGreatT5
set_option linter.unusedVariables false
set_option linter.unusedSimpArgs false
namespace Go.T
def WE (cf:Cf):Prop:= ∀f vs r fs r' fs',cf f vs r fs→cf f vs r' fs'→r=r'∧fs=fs'
def XX (lp:Lp):Prop:= ∀f i c st (Q Q':TX→TS→Prop),lp f i c st Q→lp f i c st Q'→ ∃x s,Q x s∧Q' x s
theorem nS {R:Type} {cf:Cf} {lp:Lp} (hc:WE cf) (hl:XX lp) {Q Q':R→Prop}: ∀(e:Ev R),e.holds cf lp Q→e.holds cf lp Q'→ ∃r,Q r∧Q' r
 | .fail,h,_=>h.elim
 | .ret r,h,h'=>⟨r,h,h'⟩
 | .test b k,h,h'=>nS hc hl (k b) h h'
 | .row rows i k,⟨c,h1,h2⟩,⟨c',h1',h2'⟩=>by
   rw[h1] at h1';cases h1'
   exact nS hc hl (k c) h2 h2'
 | .byte rows i k,⟨c,h1,h2⟩,⟨c',h1',h2'⟩=>by
   rw[h1] at h1';cases h1'
   exact nS hc hl (k c) h2 h2'
 | .bytes rows k,⟨c,h1,h2⟩,⟨c',h1',h2'⟩=>by
   rw[h1] at h1';cases h1'
   exact nS hc hl (k c) h2 h2'
 | .call f vs k,⟨r,fs,h1,h2⟩,⟨r',fs',h1',h2'⟩=>by
   obtain⟨rfl,rfl⟩:=hc _ _ _ _ _ _ h1 h1'
   exact nS hc hl (k r fs) h2 h2'
 | .loop f i c st k,h,h'=>by
   obtain⟨x,s,h1,h2⟩:=hl _ _ _ _ _ _ h h'
   exact nS hc hl (k x s) h1 h2
 | .both a b,⟨r,h1,h2,h3⟩,⟨r',h1',h2',h3'⟩=>by
   obtain⟨r0,e1,e2⟩:=nS hc hl a h1 h1'
   subst e1 e2
   exact⟨_,h3,h3'⟩
section
variable {C : kX}
theorem Qq {cf:Cf} {lp:Lp} (hc:WE cf) (hl:XX lp) {fx:List Nat} {f i:Nat} {c:Code} {Q Q':TX→TS→Prop}: ∀(n:Nat) (st:TS),iter C cf lp fx f i c Q n st→iter C cf lp fx f i c Q' n st→ ∃x s,Q x s∧Q' x s
 |0,_,h,_=>h.elim
 |n+1,st,h,h'=>by
  obtain⟨⟨x,s⟩,h1,h2⟩:=nS hc hl _ h h'
  cases x with
  |norm=>
   simp only at h1 h2
   rw[qF] at h1 h2
   exact Qq hc hl n _ h1 h2
  |ex id=>exact⟨_,_,h1,h2⟩
  |ret=>exact⟨_,_,h1,h2⟩
theorem SV {cf:Cf} (hc:WE cf) (k:Nat) (fx:List Nat): ∀n,XX (Rk C cf k fx n)
 |0=>fun _ _ _ _ _ _ h _=>h.elim
 |n+1=>fun f i c st Q Q' h h'=>Qq hc (SV hc k fx n) k st h h'
theorem Fz: ∀k,WE (iA C k)
 |0=>fun _ _ _ _ _ _ h _=>h.elim
 |k+1=>fun f vs r fs r' fs' h h'=>by
  unfold iA at h h'
  cases hx:C.ext f with
  |some p=>rw[hx] at h h';have h:p vs=some (r,fs):=h;have h':p vs=some (r',fs'):=h';rw[h] at h';cases h';exact⟨rfl,rfl⟩
  |none=>
  rw[hx] at h h'
  simp only at h h'
  obtain⟨p,h1,h2⟩:=nS (Fz k) (SV (Fz k) k _ 4) _ h h'
  rw[h1] at h2
  cases h2
  exact⟨rfl,rfl⟩
theorem aa.YT {f:FuncId} {vs:List TV} {r r':TV} {fs fs':List TV} (h:aa C f vs r fs) (h':aa C f vs r' fs'):r'=r∧fs'=fs:=by
 obtain⟨k,h⟩:=h
 obtain⟨k',h'⟩:=h'
 obtain⟨h1,h2⟩:=Fz (max k k') _ _ _ _ _ _ (lN (Nat.le_max_left _ _) h) (lN (Nat.le_max_right _ _) h')
 exact⟨h1.symm,h2.symm⟩
end
def gP {α:Type} (l:List α) (i:Int):Option α:=if 0≤i then l[i.toNat]? else none
theorem aL {α:Type} (l:List α) (i:Nat):gP l (i:Int)=l[i]?:=by
 unfold gP;rw[if_pos (Int.natCast_nonneg i),Int.toNat_natCast]
theorem sP {α:Type} {l:List α} {i:Int} (h0:0≤i) (h1:i<l.length): ∃a,gP l i=some a:=by
 unfold gP;rw[if_pos h0];exact⟨_,List.getElem?_eq_getElem (by omega)⟩
theorem nT {α:Type} {l:List α} {i:Int} (h: ¬(0≤i∧i<l.length)):gP l i=none:=by
 unfold gP
 split
 ·exact List.getElem?_eq_none (by omega)
 ·rfl
theorem bV {α:Type} (e:α→List TC) (l:List α) (i:Int):rowAt (l.map e) i=(gP l i).map e:=by
 unfold rowAt gP
 split
 ·rw[List.getElem?_map]
 ·rfl
theorem Qs {α:Type} {l:List α} {i:Int} {a:α} (h:gP l i=some a):a∈l:=by
 unfold gP at h
 split at h
 ·exact List.mem_of_getElem? h
 ·cases h
def YU {α:Type} (l:List α) (i:Int) (a:α):List α:=l.set i.toNat a
theorem Qu {α:Type} {e:α→List TC} {l:List α} {i:Int} {a a':α} {f:Nat} {cs:List TC} (h:gP l i=some a) (he:(e a).take f++cs++(e a).drop (f+cs.length)=e a'):setRow (l.map e) i f cs=(YU l i a').map e:=by
 unfold gP at h
 split at h
 ·unfold setRow YU
  rw[List.getElem?_map,h]
  simp only[Option.map_some,he,List.map_set]
 ·cases h
@[simp] theorem cz {α:Type} (e:α→List TC) (l:List α) (a b:Int):ax (l.map e) a b=((l.take b.toNat).drop a.toNat).map e:=by
  unfold ax;rw[←List.map_take,←List.map_drop]
theorem tC {rows:List (List TC)} (h: ∀r∈rows,∀c∈r,∃v,c= .sc v):bR rows=true:=by
 unfold bR
 rw[List.all_eq_true]
 intro r hr
 rw[List.all_eq_true]
 intro c hc
 obtain⟨v,rfl⟩:=h r hr c hc
 rfl
@[simp] theorem FA (s:ByteArray):(ByteArray.data s).1.length=s.size:=rfl
@[simp] theorem Eg (l h n:Int):cE l h n=decide (0≤l∧l≤h∧h≤n):=by unfold cE;rfl
end Go.T
namespace Go.T
structure Key where
 b:Int
 a:Int
 k:Int
 c:Int
 g:Int
 deriving DecidableEq
structure Age where
 id:Int
 fr:Int
 deriving DecidableEq
structure Cell where
 g:Int
 u:Bool
 n:Int
 deriving DecidableEq
structure Vol where
 name:ByteArray
 age:Int
 size:Int
 fx:Bool
structure Mp where
 name:ByteArray
 fx:Bool
 l:List Int
structure Tree where
 lows:List Int
 nodes:List (List (List Key))
structure Pool where
 t:Tree
 ages:List Age
 cells:List Cell
 vols:List Vol
 next:Int
structure V0 where
 kind:Int
 name:ByteArray
 to:ByteArray
 a:Int
 b:Int
abbrev iI (n:Int):TC:= .sc (.int .i64 n)
abbrev iB (b:Bool):TC:= .sc (.bool b)
abbrev iS (s:ByteArray):TC:= .sc (.string s)
abbrev cI (n:Int):CE:= .sc (.int .i64 n)
abbrev cB (b:Bool):CE:= .sc (.bool b)
abbrev cS (s:ByteArray):CE:= .sc (.string s)
abbrev aA (a b:Int):Int:=Q9 .i64 a b
abbrev cV (a b:Int):Int:=JM .i64 a b
abbrev WG (a b:Int):Int:=Ra .i64 a b
theorem aJ {a b:Int} (h: -9223372036854775808≤a+b∧a+b≤9223372036854775807):aA a b=a+b:=WA h
theorem dH {a b:Int} (h: -9223372036854775808≤a-b∧a-b≤9223372036854775807):cV a b=a-b:=WB h
theorem WH {a b:Int} (h: -9223372036854775808≤a*b∧a*b≤9223372036854775807):WG a b=a*b:=WC h
abbrev RR:=List (List TC)
abbrev QV:=TV→List TV→Prop
abbrev QX:=TX→TS→Prop
abbrev sI:Sh:= .int .i64
abbrev sB:Sh:= .bool
abbrev sS:Sh:= .str
abbrev hz:Hint:= .z
abbrev hb:Hint→Hint→Hint:= .br
abbrev hr:List Sh→Hint→Hint:= .row
abbrev hc:av→List av→Hint→Hint:= .call
abbrev YV:ByteArray:=⟨#[]⟩
def bP (n:Int):List TC:=[.sc (.int .i64 n)]
def Bd (n:Int):List TC:=[.sc (.int .u8 n)]
def G2 (n:Bool):List TC:=[.sc (.bool n)]
def bM (x:Key):List TC:=[.sc (.int .i64 x.b),.sc (.int .i64 x.a),.sc (.int .i64 x.k),.sc (.int .i64 x.c),.sc (.int .i64 x.g)]
def ek (x:Age):List TC:=[.sc (.int .i64 x.id),.sc (.int .i64 x.fr)]
def cY (x:Cell):List TC:=[.sc (.int .i64 x.g),.sc (.bool x.u),.sc (.int .i64 x.n)]
def eA (x:Vol):List TC:=[.sc (.string x.name),.sc (.int .i64 x.age),.sc (.int .i64 x.size),.sc (.bool x.fx)]
def SW (x:V0):List TC:=[.sc (.int .i64 x.kind),.sc (.string x.name),.sc (.string x.to),.sc (.int .i64 x.a),.sc (.int .i64 x.b)]
def FB (x:Mp):List TC:=[.sc (.string x.name),.sc (.bool x.fx),.sub 1 (x.l.map bP)]
def Vl (x:List Int):List TC:=[.sub 1 (x.map Bd)]
def cc (x:List Key):List TC:=[.sub 5 (x.map bM)]
def aX (x:List (List Key)):List TC:=[.sub 1 (x.map cc)]
abbrev SX (t:Tree):List TC:=[.sub 1 (t.lows.map bP),.sub 1 (t.nodes.map aX)]
abbrev ff (p:Pool):List TC:=[.sub 1 (p.t.lows.map bP),.sub 1 (p.t.nodes.map aX),.sub 2 (p.ages.map ek),.sub 3 (p.cells.map cY),.sub 4 (p.vols.map eA),.sc (.int .i64 p.next)]
abbrev vI (n:Int):TV:= .c (.sc (.int .i64 n))
abbrev vB (b:Bool):TV:= .c (.sc (.bool b))
abbrev vS (s:ByteArray):TV:= .c (.sc (.string s))
abbrev j6 (l:List Int):TV:= .c (.sub 1 (l.map bP))
abbrev cJ (l:List Key):TV:= .c (.sub 5 (l.map bM))
abbrev Eh (l:List (List Key)):TV:= .c (.sub 1 (l.map cc))
abbrev tD (l:List (List (List Key))):TV:= .c (.sub 1 (l.map aX))
abbrev ji (l:List Age):TV:= .c (.sub 2 (l.map ek))
abbrev gQ (l:List Cell):TV:= .c (.sub 3 (l.map cY))
abbrev yC (l:List Vol):TV:= .c (.sub 4 (l.map eA))
abbrev AJ (k:Key):TV:= .ag [.sc (.int .i64 k.b),.sc (.int .i64 k.a),.sc (.int .i64 k.k),.sc (.int .i64 k.c),.sc (.int .i64 k.g)]
abbrev fK (n:List (List Key)):TV:= .ag [.sub 1 (n.map cc)]
abbrev dj (t:Tree):TV:= .ag (SX t)
abbrev fW (p:Pool):TV:= .ag (ff p)
section
variable {i : Int}
@[simp] theorem rO {l:List Int} {K:Int→Prop}:(∃n,rowAt (l.map bP) i=some [.sc (.int .i64 n)]∧K n)↔ ∃a,gP l i=some a∧K a:=by
  rw[bV]
  constructor
  ·rintro⟨n,h,hK⟩
   obtain⟨a,ha,h⟩:=Option.map_eq_some_iff.1 h
   unfold bP at h;cases h;exact⟨_,ha,hK⟩
  ·rintro⟨a,ha,hK⟩
   exact⟨_,by rw[ha];rfl,hK⟩
@[simp] theorem Ze {l:List Int} {K:Int→Prop}:(∃n,rowAt (l.map Bd) i=some [.sc (.int .u8 n)]∧K n)↔ ∃a,gP l i=some a∧K a:=by
  rw[bV]
  constructor
  ·rintro⟨n,h,hK⟩
   obtain⟨a,ha,h⟩:=Option.map_eq_some_iff.1 h
   unfold Bd at h;cases h;exact⟨_,ha,hK⟩
  ·rintro⟨a,ha,hK⟩
   exact⟨_,by rw[ha];rfl,hK⟩
@[simp] theorem WI {l:List Bool} {K:Bool→Prop}:(∃n,rowAt (l.map G2) i=some [.sc (.bool n)]∧K n)↔ ∃a,gP l i=some a∧K a:=by
  rw[bV]
  constructor
  ·rintro⟨n,h,hK⟩
   obtain⟨a,ha,h⟩:=Option.map_eq_some_iff.1 h
   unfold G2 at h;cases h;exact⟨_,ha,hK⟩
  ·rintro⟨a,ha,hK⟩
   exact⟨_,by rw[ha];rfl,hK⟩
@[simp] theorem jN {l:List Key} {K:Int→Int→Int→Int→Int→Prop}:(∃b a k c g,rowAt (l.map bM) i=some [.sc (.int .i64 b),.sc (.int .i64 a),.sc (.int .i64 k),.sc (.int .i64 c),.sc (.int .i64 g)]∧K b a k c g)↔ ∃x,gP l i=some x∧K x.b x.a x.k x.c x.g:=by
  rw[bV]
  constructor
  ·rintro⟨_,_,_,_,_,h,hK⟩
   obtain⟨a,ha,h⟩:=Option.map_eq_some_iff.1 h
   unfold bM at h;cases h;exact⟨_,ha,hK⟩
  ·rintro⟨a,ha,hK⟩
   exact⟨_,_,_,_,_,by rw[ha];rfl,hK⟩
@[simp] theorem rP {l:List Age} {K:Int→Int→Prop}:(∃b a,rowAt (l.map ek) i=some [.sc (.int .i64 b),.sc (.int .i64 a)]∧K b a)↔ ∃x,gP l i=some x∧K x.id x.fr:=by
  rw[bV]
  constructor
  ·rintro⟨_,_,h,hK⟩
   obtain⟨a,ha,h⟩:=Option.map_eq_some_iff.1 h
   unfold ek at h;cases h;exact⟨_,ha,hK⟩
  ·rintro⟨a,ha,hK⟩
   exact⟨_,_,by rw[ha];rfl,hK⟩
@[simp] theorem oZ {l:List Cell} {K:Int→Bool→Int→Prop}:(∃g u n,rowAt (l.map cY) i=some [.sc (.int .i64 g),.sc (.bool u),.sc (.int .i64 n)]∧K g u n)↔ ∃x,gP l i=some x∧K x.g x.u x.n:=by
  rw[bV]
  constructor
  ·rintro⟨_,_,_,h,hK⟩
   obtain⟨a,ha,h⟩:=Option.map_eq_some_iff.1 h
   unfold cY at h;cases h;exact⟨_,ha,hK⟩
  ·rintro⟨a,ha,hK⟩
   exact⟨_,_,_,by rw[ha];rfl,hK⟩
@[simp] theorem Be {l:List Vol} {K:ByteArray→Int→Int→Bool→Prop}:(∃s a z f,rowAt (l.map eA) i=some [.sc (.string s),.sc (.int .i64 a),.sc (.int .i64 z),.sc (.bool f)]∧K s a z f)↔ ∃x,gP l i=some x∧K x.name x.age x.size x.fx:=by
  rw[bV]
  constructor
  ·rintro⟨_,_,_,_,h,hK⟩
   obtain⟨a,ha,h⟩:=Option.map_eq_some_iff.1 h
   unfold eA at h;cases h;exact⟨_,ha,hK⟩
  ·rintro⟨a,ha,hK⟩
   exact⟨_,_,_,_,by rw[ha];rfl,hK⟩
@[simp] theorem ZI {l:List V0} {K:Int→ByteArray→ByteArray→Int→Int→Prop}:(∃k s t a b,rowAt (l.map SW) i=some [.sc (.int .i64 k),.sc (.string s),.sc (.string t),.sc (.int .i64 a),.sc (.int .i64 b)]∧K k s t a b)↔ ∃x,gP l i=some x∧K x.kind x.name x.to x.a x.b:=by
  rw[bV]
  constructor
  ·rintro⟨_,_,_,_,_,h,hK⟩
   obtain⟨a,ha,h⟩:=Option.map_eq_some_iff.1 h
   unfold SW at h;cases h;exact⟨_,ha,hK⟩
  ·rintro⟨a,ha,hK⟩
   exact⟨_,_,_,_,_,by rw[ha];rfl,hK⟩
@[simp] theorem Zz {l:List Mp} {K:ByteArray→Bool→List (List TC)→Prop}:(∃s f r,rowAt (l.map FB) i=some [.sc (.string s),.sc (.bool f),.sub 1 r]∧K s f r)↔ ∃x,gP l i=some x∧K x.name x.fx (x.l.map bP):=by
  rw[bV]
  constructor
  ·rintro⟨_,_,_,h,hK⟩
   obtain⟨a,ha,h⟩:=Option.map_eq_some_iff.1 h
   unfold FB at h;cases h;exact⟨_,ha,hK⟩
  ·rintro⟨a,ha,hK⟩
   exact⟨_,_,_,by rw[ha];rfl,hK⟩
@[simp] theorem qR {l:List (List Key)} {K:List (List TC)→Prop}:(∃r,rowAt (l.map cc) i=some [.sub 5 r]∧K r)↔ ∃x,gP l i=some x∧K (x.map bM):=by
  rw[bV]
  constructor
  ·rintro⟨_,h,hK⟩
   obtain⟨a,ha,h⟩:=Option.map_eq_some_iff.1 h
   unfold cc at h;cases h;exact⟨_,ha,hK⟩
  ·rintro⟨a,ha,hK⟩
   exact⟨_,by rw[ha];rfl,hK⟩
@[simp] theorem qj {l:List (List (List Key))} {K:List (List TC)→Prop}:(∃r,rowAt (l.map aX) i=some [.sub 1 r]∧K r)↔ ∃x,gP l i=some x∧K (x.map cc):=by
  rw[bV]
  constructor
  ·rintro⟨_,h,hK⟩
   obtain⟨a,ha,h⟩:=Option.map_eq_some_iff.1 h
   unfold aX at h;cases h;exact⟨_,ha,hK⟩
  ·rintro⟨a,ha,hK⟩
   exact⟨_,by rw[ha];rfl,hK⟩
@[simp] theorem YW {l:List (List Int)} {K:List (List TC)→Prop}:(∃r,rowAt (l.map Vl) i=some [.sub 1 r]∧K r)↔ ∃x,gP l i=some x∧K (x.map Bd):=by
  rw[bV]
  constructor
  ·rintro⟨_,h,hK⟩
   obtain⟨a,ha,h⟩:=Option.map_eq_some_iff.1 h
   unfold Vl at h;cases h;exact⟨_,ha,hK⟩
  ·rintro⟨a,ha,hK⟩
   exact⟨_,by rw[ha];rfl,hK⟩
end
theorem fO (n:Nat):Int.ofNat n=(n:Int):=rfl
@[simp] theorem natAdd (a b:Nat):Nat.add a b=a+b:=rfl
@[simp] theorem SY {α:Type} (a b:List α):List.append a b=a++b:=rfl
theorem jP (l:List Int):bR (l.map bP)=true:=tC fun r hr c hc=>by
 obtain⟨a,_,rfl⟩:=List.mem_map.1 hr;unfold bP at hc;simp only[List.mem_singleton] at hc;exact⟨_,hc⟩
theorem RU (l:List Int):bR (l.map Bd)=true:=tC fun r hr c hc=>by
 obtain⟨a,_,rfl⟩:=List.mem_map.1 hr;unfold Bd at hc;simp only[List.mem_singleton] at hc;exact⟨_,hc⟩
theorem jQ (l:List Key):bR (l.map bM)=true:=tC fun r hr c hc=>by
 obtain⟨a,_,rfl⟩:=List.mem_map.1 hr;unfold bM at hc;simp only[List.mem_cons,List.not_mem_nil,or_false] at hc
 rcases hc with h|h|h|h|h<;>exact⟨_,h⟩
theorem Cq (l:List Age):bR (l.map ek)=true:=tC fun r hr c hc=>by
 obtain⟨a,_,rfl⟩:=List.mem_map.1 hr;unfold ek at hc;simp only[List.mem_cons,List.not_mem_nil,or_false] at hc
 rcases hc with h|h<;>exact⟨_,h⟩
theorem C7 (l:List Cell):bR (l.map cY)=true:=tC fun r hr c hc=>by
 obtain⟨a,_,rfl⟩:=List.mem_map.1 hr;unfold cY at hc;simp only[List.mem_cons,List.not_mem_nil,or_false] at hc
 rcases hc with h|h|h<;>exact⟨_,h⟩
theorem Cr (l:List Vol):bR (l.map eA)=true:=tC fun r hr c hc=>by
 obtain⟨a,_,rfl⟩:=List.mem_map.1 hr;unfold eA at hc;simp only[List.mem_cons,List.not_mem_nil,or_false] at hc
 rcases hc with h|h|h|h<;>exact⟨_,h⟩
@[simp] theorem OQ (v:Value):bR [[.sc v]]=true:=tC fun r hr c hc=>by
  simp only[List.mem_singleton] at hr;subst hr;simp only[List.mem_singleton] at hc;exact⟨_,hc⟩
attribute [simp] jP RU jQ Cq C7 Cr
end Go.T
namespace Go.T
theorem FC {α:Type} (g:α→α): ∀(l:List α) (i:Nat) (a:α),l[i]?=some a→l.modify i g=l.set i (g a)
 |[],i,a,h=>by simp at h
 |x::r,0,a,h=>by simp only[List.getElem?_cons_zero,Option.some.injEq] at h;subst h;rfl
 |x::r,i+1,a,h=>by
  simp only[List.getElem?_cons_succ] at h
  rw[List.modify_succ_cons,List.set_cons_succ,FC g r i a h]
theorem bW {α:Type} {e:α→List TC} {l:List α} {i:Int} {f:Nat} {cs:List TC} {g:α→α} (he: ∀a,(e a).take f++cs++(e a).drop (f+cs.length)=e (g a)):setRow (l.map e) i f cs=(l.modify i.toNat g).map e:=by
 unfold setRow
 rw[List.getElem?_map]
 cases h:l[i.toNat]? with
 |none=>
  have:l.length≤i.toNat:=List.getElem?_eq_none_iff.1 h
  simp only[Option.map_none]
  rw[List.modify_eq_self this]
 |some a=>
  simp only[Option.map_some]
  rw[he,FC g l _ a h,List.map_set]
theorem oQ {α:Type} {l:List α} {i:Int} {g:α→α}:gP (l.modify i.toNat g) i=(gP l i).map g:=by
 unfold gP
 split
 ·simp
 ·rfl
theorem mod_mod {α:Type} {l:List α} {i:Nat} {f g:α→α}:(l.modify i f).modify i g=l.modify i (fun x=>g (f x)):=by
 rw[List.modify_modify_eq];rfl
theorem ju {α β:Type} {o:Option α} {f:α→β} {K:β→Prop}:(∃x,o.map f=some x∧K x)↔ ∃x,o=some x∧K (f x):=by
 cases o with
 |none=>simp
 |some a=>simp
theorem j7 {α:Type} {d r:List α} {a:α}:gP (d++a::r) (d.length:Int)=some a:=by
 rw[aL];simp
theorem yj {α:Type} {d r:List α} {a:α} {f:α→α}:(d++a::r).modify ((d.length:Int).toNat) f=d++f a::r:=by
 rw[Int.toNat_natCast,FC f _ _ a (by simp)]
 simp
@[simp] theorem Vm {l:List Key} {i:Int} {v:Int}:setRow (l.map bM) i 0 [.sc (.int .i64 v)]=(l.modify i.toNat fun x=>{x with b:=v}).map bM:=bW fun a=>rfl
@[simp] theorem Vn {l:List Key} {i:Int} {v:Int}:setRow (l.map bM) i 1 [.sc (.int .i64 v)]=(l.modify i.toNat fun x=>{x with a:=v}).map bM:=bW fun a=>rfl
@[simp] theorem Vo {l:List Key} {i:Int} {v:Int}:setRow (l.map bM) i 2 [.sc (.int .i64 v)]=(l.modify i.toNat fun x=>{x with k:=v}).map bM:=bW fun a=>rfl
@[simp] theorem Vp {l:List Key} {i:Int} {v:Int}:setRow (l.map bM) i 3 [.sc (.int .i64 v)]=(l.modify i.toNat fun x=>{x with c:=v}).map bM:=bW fun a=>rfl
@[simp] theorem Vq {l:List Key} {i:Int} {v:Int}:setRow (l.map bM) i 4 [.sc (.int .i64 v)]=(l.modify i.toNat fun x=>{x with g:=v}).map bM:=bW fun a=>rfl
@[simp] theorem XY {l:List Key} {i:Int} {v0:Int} {v1:Int} {v2:Int} {v3:Int} {v4:Int}:setRow (l.map bM) i 0 [.sc (.int .i64 v0),.sc (.int .i64 v1),.sc (.int .i64 v2),.sc (.int .i64 v3),.sc (.int .i64 v4)]=(l.modify i.toNat fun _=>⟨v0,v1,v2,v3,v4⟩).map bM:=bW fun a=>rfl
@[simp] theorem Tt {l:List Age} {i:Int} {v:Int}:setRow (l.map ek) i 0 [.sc (.int .i64 v)]=(l.modify i.toNat fun x=>{x with id:=v}).map ek:=bW fun a=>rfl
@[simp] theorem Tu {l:List Age} {i:Int} {v:Int}:setRow (l.map ek) i 1 [.sc (.int .i64 v)]=(l.modify i.toNat fun x=>{x with fr:=v}).map ek:=bW fun a=>rfl
@[simp] theorem XZ {l:List Age} {i:Int} {v0:Int} {v1:Int}:setRow (l.map ek) i 0 [.sc (.int .i64 v0),.sc (.int .i64 v1)]=(l.modify i.toNat fun _=>⟨v0,v1⟩).map ek:=bW fun a=>rfl
@[simp] theorem Tv {l:List Cell} {i:Int} {v:Int}:setRow (l.map cY) i 0 [.sc (.int .i64 v)]=(l.modify i.toNat fun x=>{x with g:=v}).map cY:=bW fun a=>rfl
@[simp] theorem Tw {l:List Cell} {i:Int} {v:Bool}:setRow (l.map cY) i 1 [.sc (.bool v)]=(l.modify i.toNat fun x=>{x with u:=v}).map cY:=bW fun a=>rfl
@[simp] theorem Tx {l:List Cell} {i:Int} {v:Int}:setRow (l.map cY) i 2 [.sc (.int .i64 v)]=(l.modify i.toNat fun x=>{x with n:=v}).map cY:=bW fun a=>rfl
@[simp] theorem OR {l:List Cell} {i:Int} {v0:Int} {v1:Bool} {v2:Int}:setRow (l.map cY) i 0 [.sc (.int .i64 v0),.sc (.bool v1),.sc (.int .i64 v2)]=(l.modify i.toNat fun _=>⟨v0,v1,v2⟩).map cY:=bW fun a=>rfl
@[simp] theorem Qv {l:List Vol} {i:Int} {v:ByteArray}:setRow (l.map eA) i 0 [.sc (.string v)]=(l.modify i.toNat fun x=>{x with name:=v}).map eA:=bW fun a=>rfl
@[simp] theorem RV {l:List Vol} {i:Int} {v:Int}:setRow (l.map eA) i 1 [.sc (.int .i64 v)]=(l.modify i.toNat fun x=>{x with age:=v}).map eA:=bW fun a=>rfl
@[simp] theorem Qw {l:List Vol} {i:Int} {v:Int}:setRow (l.map eA) i 2 [.sc (.int .i64 v)]=(l.modify i.toNat fun x=>{x with size:=v}).map eA:=bW fun a=>rfl
@[simp] theorem Ty {l:List Vol} {i:Int} {v:Bool}:setRow (l.map eA) i 3 [.sc (.bool v)]=(l.modify i.toNat fun x=>{x with fx:=v}).map eA:=bW fun a=>rfl
@[simp] theorem X0 {l:List Vol} {i:Int} {v0:ByteArray} {v1:Int} {v2:Int} {v3:Bool}:setRow (l.map eA) i 0 [.sc (.string v0),.sc (.int .i64 v1),.sc (.int .i64 v2),.sc (.bool v3)]=(l.modify i.toNat fun _=>⟨v0,v1,v2,v3⟩).map eA:=bW fun a=>rfl
@[simp] theorem X3 {l:List V0} {i:Int} {v:Int}:setRow (l.map SW) i 0 [.sc (.int .i64 v)]=(l.modify i.toNat fun x=>{x with kind:=v}).map SW:=bW fun a=>rfl
@[simp] theorem X4 {l:List V0} {i:Int} {v:ByteArray}:setRow (l.map SW) i 1 [.sc (.string v)]=(l.modify i.toNat fun x=>{x with name:=v}).map SW:=bW fun a=>rfl
@[simp] theorem YX {l:List V0} {i:Int} {v:ByteArray}:setRow (l.map SW) i 2 [.sc (.string v)]=(l.modify i.toNat fun x=>{x with to:=v}).map SW:=bW fun a=>rfl
@[simp] theorem Zf {l:List V0} {i:Int} {v:Int}:setRow (l.map SW) i 3 [.sc (.int .i64 v)]=(l.modify i.toNat fun x=>{x with a:=v}).map SW:=bW fun a=>rfl
@[simp] theorem Zg {l:List V0} {i:Int} {v:Int}:setRow (l.map SW) i 4 [.sc (.int .i64 v)]=(l.modify i.toNat fun x=>{x with b:=v}).map SW:=bW fun a=>rfl
@[simp] theorem ZJ {l:List V0} {i:Int} {v0:Int} {v1:ByteArray} {v2:ByteArray} {v3:Int} {v4:Int}:setRow (l.map SW) i 0 [.sc (.int .i64 v0),.sc (.string v1),.sc (.string v2),.sc (.int .i64 v3),.sc (.int .i64 v4)]=(l.modify i.toNat fun _=>⟨v0,v1,v2,v3,v4⟩).map SW:=bW fun a=>rfl
@[simp] theorem Xj {l:List Mp} {i:Int} {v:ByteArray}:setRow (l.map FB) i 0 [.sc (.string v)]=(l.modify i.toNat fun x=>{x with name:=v}).map FB:=bW fun a=>rfl
@[simp] theorem YC {l:List Mp} {i:Int} {v:Bool}:setRow (l.map FB) i 1 [.sc (.bool v)]=(l.modify i.toNat fun x=>{x with fx:=v}).map FB:=bW fun a=>rfl
@[simp] theorem YY {l:List Mp} {i:Int} {v:List Int}:setRow (l.map FB) i 2 [.sub 1 (v.map bP)]=(l.modify i.toNat fun x=>{x with l:=v}).map FB:=bW fun a=>rfl
@[simp] theorem ZA {l:List Mp} {i:Int} {v0:ByteArray} {v1:Bool} {v2:List Int}:setRow (l.map FB) i 0 [.sc (.string v0),.sc (.bool v1),.sub 1 (v2.map bP)]=(l.modify i.toNat fun _=>⟨v0,v1,v2⟩).map FB:=bW fun a=>rfl
@[simp] theorem X5 {l:List (Int)} {i:Int} {v:Int}:setRow (l.map bP) i 0 [.sc (.int .i64 v)]=(l.modify i.toNat fun _=>v).map bP:=bW fun a=>rfl
@[simp] theorem Zh {l:List (Int)} {i:Int} {v:Int}:setRow (l.map Bd) i 0 [.sc (.int .u8 v)]=(l.modify i.toNat fun _=>v).map Bd:=bW fun a=>rfl
@[simp] theorem WJ {l:List (Bool)} {i:Int} {v:Bool}:setRow (l.map G2) i 0 [.sc (.bool v)]=(l.modify i.toNat fun _=>v).map G2:=bW fun a=>rfl
@[simp] theorem X6 {l:List (List Key)} {i:Int} {v:List Key}:setRow (l.map cc) i 0 [.sub 5 (v.map bM)]=(l.modify i.toNat fun _=>v).map cc:=bW fun a=>rfl
@[simp] theorem WK {l:List (List (List Key))} {i:Int} {v:List (List Key)}:setRow (l.map aX) i 0 [.sub 1 (v.map cc)]=(l.modify i.toNat fun _=>v).map aX:=bW fun a=>rfl
end Go.T
namespace Go.T
theorem bD {α:Type} (l:List α) (P:Nat→Prop) (fin:P l.length) (step: ∀i a,i<l.length→l[i]?=some a→l.drop i=a::l.drop (i+1)→l.take (i+1)=l.take i++[a]→P (i+1)→P i):P 0:=by
 have: ∀k i,i+k=l.length→P i:=by
  intro k
  induction k with
  |zero=>intro i h;have:i=l.length:=by omega
         subst this;exact fin
  |succ k ih=>
   intro i h
   have hi:i<l.length:=by omega
   refine step i l[i] hi (List.getElem?_eq_getElem hi) (List.drop_eq_getElem_cons hi) ?_ (ih (i+1) (by omega))
   rw[List.take_add_one,List.getElem?_eq_getElem hi];rfl
 exact this l.length 0 (by omega)
theorem yl {α:Type} {e:α→List TC} {z:List TC} (l:List α) (P:Int→RR→Prop) (hz: ∀a,(e a).length=z.length) (fin:P l.length (l.map e))
 (step: ∀(i:Nat) rows a,i<l.length→l[i]?=some a→rowAt rows i=some z→P ((i:Int)+1) (setRow rows i 0 (e a))→P i rows):P 0 (List.replicate l.length z):=by
 have: ∀i:Nat,i≤l.length→P (i:Int) ((l.take i).map e++List.replicate (l.length-i) z)→P 0 (List.replicate l.length z):=by
  intro i
  induction i with
  |zero=>intro _ h;simpa using h
  |succ i ih=>
   intro hi h
   refine ih (by omega) ?_
   have hlt:i<l.length:=by omega
   have ha:=List.getElem?_eq_getElem hlt
   have hk:l.length-i=(l.length-(i+1))+1:=by omega
   rw[hk]
   refine step i _ l[i] hlt ha (Vj (by omega)) ?_
   rw[Qn (e:=e) ha rfl (hz _).symm]
   exact h
 refine this l.length (Nat.le_refl _) ?_
 simpa using fin
def tot {α:Type} (w:α→Nat):List α→Nat
 |[]=>0
 |a::r=>w a+tot w r
def fM {α:Type} (mk:α→Int→α) (w:α→Nat):List α→Int→List α
 |[],_=>[]
 |a::r,k=>mk a k::fM mk w r (k+w a)
theorem sQ {α:Type} {e:α→List TC} (mk:α→Int→α) (w:α→Nat) (P:Int→Int→RR→Prop) (B:Int)
 (step: ∀(d:List α) a r (k:Int),0≤k→k+w a≤B→d.length<1099511627776→P (k+w a) ((d.length:Int)+1) ((d++mk a k::r).map e)→P k d.length ((d++a::r).map e)):
 ∀(r d:List α) (k:Int),0≤k→k+tot w r≤B→d.length+r.length≤1099511627776→P (k+tot w r) ((d.length+r.length:Nat):Int) ((d++fM mk w r k).map e)→P k d.length ((d++r).map e)
 |[],d,k,_,_,_,h=>by simpa [fM,tot] using h
 |a::r,d,k,h0,h1,h2,h=>by
  simp only[tot,List.length_cons] at h1 h2 h
  refine step d a r k h0 (by omega) (by omega) ?_
  have:=sQ mk w P B step r (d++[mk a k]) (k+w a) (by omega) (by omega) (by simp;omega) (by
   simp only[List.append_assoc,List.singleton_append,List.length_append,List.length_singleton]
   rw[show k+(w a:Int)+(tot w r:Int)=k+((w a+tot w r:Nat):Int) by omega,show d.length+1+r.length=d.length+(r.length+1) by omega]
   exact h)
  simpa using this
theorem sR {α:Type} {e:α→List TC} (mk:α→Int→α) (w:α→Nat) (P:Int→Int→RR→Prop) (B:Int)
 (step: ∀(d:List α) a r (k:Int),0≤k→k+w a≤B→d.length<1099511627776→P (k+w a) ((d.length:Int)+1) ((d++mk a k::r).map e)→P k d.length ((d++mk a k::r).map e)):
 ∀(r d:List α) (k:Int),0≤k→k+tot w r≤B→d.length+r.length≤1099511627776→P (k+tot w r) ((d.length+r.length:Nat):Int) ((d++fM mk w r k).map e)→P k d.length ((d++fM mk w r k).map e)
 |[],d,k,_,_,_,h=>by simpa [fM,tot] using h
 |a::r,d,k,h0,h1,h2,h=>by
  simp only[tot,List.length_cons,fM] at h1 h2 h ⊢
  refine step d a _ k h0 (by omega) (by omega) ?_
  have:=sR mk w P B step r (d++[mk a k]) (k+w a) (by omega) (by omega) (by simp;omega) (by
   simp only[List.append_assoc,List.singleton_append,List.length_append,List.length_singleton]
   rw[show k+(w a:Int)+(tot w r:Int)=k+((w a+tot w r:Nat):Int) by omega,show d.length+1+r.length=d.length+(r.length+1) by omega]
   exact h)
  simpa using this
theorem sU {α:Type} (n:Nat): ∀l:List α,tot (fun _=>n) l=n*l.length
 |[]=>rfl
 |a::r=>by simp only[tot,sU n r,List.length_cons,Nat.mul_add];omega
theorem lg {α:Type} (mk:α→Int→α) (w:α→Nat): ∀(l:List α) (k:Int),(fM mk w l k).length=l.length
 |[],_=>rfl
 |a::r,k=>by simp[fM,lg mk w r]
theorem mW {α:Type} {w:α→Nat}: ∀{l:List α} {a:α},a∈l→w a≤tot w l
 |[],_,h=>by cases h
 |b::r,a,h=>by
  simp only[tot]
  rcases List.mem_cons.1 h with rfl|h
  ·omega
  ·have:=mW (w:=w) h;omega
theorem j8 {α:Type} {w:α→Nat} {l:List α} {i:Nat} {a:α} (h:l[i]?=some a):w a≤tot w l:=mW (List.mem_of_getElem? h)
def bH (s:List Key):Nat:=s.length
def aQ (n:List (List Key)):Nat:=n.length+tot bH n
def qk (n:List (List (List Key))):Nat:=n.length+tot aQ n
def cZ (t:Tree):Nat:=t.lows.length+qk t.nodes
def p8 (v:Vol):Nat:=v.name.size
def FD (l:List Vol):Nat:=l.length+tot p8 l
def cO (p:Pool):Nat:=cZ p.t+p.ages.length+p.cells.length+FD p.vols
def lQ (left:Int) (n:Nat):Int:=if left<n then-1 else left-n
end Go.T
namespace Go.T
section
variable {C : kX} {f : FuncId} {vs : List TV}
theorem qS {x b:Bool} (h:aa C f vs (vB x) []):aa C f vs (vB b) []↔b=x:=⟨fun h'=>by have:=(h.YT h').1;simpa using this,fun e=>e▸h⟩
theorem Vr {x b:Int} (h:aa C f vs (vI x) []):aa C f vs (vI b) []↔b=x:=⟨fun h'=>by have:=(h.YT h').1;simpa using this,fun e=>e▸h⟩
theorem ZB {x b:ByteArray} (h:aa C f vs (vS x) []):aa C f vs (vS b) []↔b=x:=⟨fun h'=>by have:=(h.YT h').1;simpa using this,fun e=>e▸h⟩
theorem Qx {z:Nat} {x b:RR} (h:aa C f vs (.c (.sub z x)) []):aa C f vs (.c (.sub z b)) []↔b=x:=⟨fun h'=>by have:=(h.YT h').1;simpa using this,fun e=>e▸h⟩
theorem Xk {x b:Int} {y c:Bool} (h:aa C f vs (.tu [(0,[iI x]),(0,[iB y])]) []):aa C f vs (.tu [(0,[iI b]),(0,[iB c])]) []↔b=x∧c=y:=⟨fun h'=>by have:=(h.YT h').1;simpa using this,fun⟨e,e'⟩=>e▸e'▸h⟩
end
theorem NV {s:ByteArray} {i:Nat} (h:i<s.size): ∃n:Int,qD s i=some n∧0≤n∧n≤255:=by
 unfold qD
 rw[if_pos (Int.natCast_nonneg i),Int.toNat_natCast]
 have:s[i]?=some s[i]:=getElem?_pos s i h
 rw[this]
 have:=(s[i]).toNat_lt
 refine⟨_,rfl,?_,?_⟩<;>show _≤_<;>simp only[]<;>omega
theorem Qy {n:Int} (h: -9223372036854775808≤n∧n≤9223372036854775807):r7 .i64 n=n:=by unfold r7;exact IntWalk.i64_in _ h
def jh (a lo hi:Int):Bool:=decide (lo≤a∧a≤hi)
def Ei (a:Int):Bool:=jh a 0 65535
def gl (x:Key):Bool:=jh x.b 0 15&&jh x.a 1 60&&jh x.k 0 2&&(if x.k=1 then jh x.c 0 23&&jh x.g 0 999 else decide (x.c=0)&&decide (x.g=0))
def dI (x y:Key):Bool:=decide (x.b<y.b∨(x.b=y.b∧x.a<y.a))
def lq (x y:Key):Bool:=decide (x.b=y.b∧x.a=y.a)
def cH (n:Nat) (f:Nat→Bool):Bool:=(List.range' 0 n).all f
theorem jC {i n:Nat} (h:i<n):List.range' i (n-i)=i::List.range' (i+1) (n-(i+1)):=by
 obtain⟨k,hk⟩: ∃k,n-i=k+1:=⟨n-i-1,by omega⟩
 rw[hk,show n-(i+1)=k by omega]
 rfl
theorem nH (n:Nat) (P:Nat→Prop) (fin:P n) (step: ∀i,i<n→P (i+1)→P i):P 0:=by
 have: ∀k i,i+k=n→P i:=by
  intro k
  induction k with
  |zero=>intro i h;have:i=n:=by omega
         subst this;exact fin
  |succ k ih=>intro i h;exact step i (by omega) (ih (i+1) (by omega))
 exact this n 0 (by omega)
theorem SZ {α:Type} (f g:α→Bool): ∀l:List α,l.all (fun x=>f x&&g x)=(l.all f&&l.all g)
 |[]=>rfl
 |a::r=>by simp only[List.all_cons,SZ f g r];cases f a<;>cases g a<;>simp
theorem Vs (n:Nat) (f g:Nat→Bool):cH n (fun i=>f i&&g i)=(cH n f&&cH n g):=SZ f g _
theorem Bf {n:Nat} {f:Nat→Bool}:cH n f=true↔ ∀i,i<n→f i=true:=by
 unfold cH
 rw[List.all_eq_true]
 constructor
 ·intro h i hi;exact h i (by simp[List.mem_range'];exact hi)
 ·intro h i hi
  simp[List.mem_range'] at hi
  exact h i hi
def T8 {α:Type} (l:List α) (f:α→Bool) (i:Nat):Bool:=match l[i]? with|some a=>f a|none=>true
def gC {α:Type} (l:List α) (f:α→α→Bool):Nat→Bool
 |0=>true
 |k+1=>match l[k]?,l[k+1]? with|some x,some y=>f x y|_,_=>true
theorem WL {α:Type} (l:List α) (f:α→Bool):cH l.length (T8 l f)=l.all f:=by
 rw[Bool.eq_iff_iff,Bf,List.all_eq_true]
 constructor
 ·intro h a ha
  obtain⟨i,hi,rfl⟩:=List.getElem_of_mem ha
  have:=h i hi
  simpa [T8,hi] using this
 ·intro h i hi
  simp only[T8,List.getElem?_eq_getElem hi]
  exact h _ (List.getElem_mem hi)
def kU (l:List Key) (i:Nat):Bool:=T8 l gl i&&gC l dI i
def Bg (l:List Key):Bool:=cH l.length (kU l)&&decide (l.length≤60)
theorem Kx (l:List Key):Bg l=(l.all gl&&(cH l.length (gC l dI)&&decide (l.length≤60))):=by
 rw[←Bool.and_assoc,←WL,←Vs];rfl
def dV:Key:=⟨0,0,0,0,0⟩
def setAt (l:List Key) (b a:Int):Option Key:=l.find? fun x=>decide (x.b=b∧x.a=a)
def eW (k:Key):Bool→List Key→List Key
 |put,[]=>if put then [] else [k]
 |put,x::r=>(if !put&& !dI x k then [k] else [])++(if lq x k then [] else [x])++eW k (put|| !dI x k) r
def eX (l:List Key) (k:Key):List Key:=eW k false l
theorem G3 (k:Key): ∀(l:List Key) (put:Bool),(eW k put l).length≤l.length+(if put then 0 else 1)
 |[],put=>by simp only[eW];split<;>simp
 |x::r,put=>by
  have:=G3 k r (put|| !dI x k)
  simp only[eW,List.length_append,List.length_cons]
  have h1:(if lq x k then([]:List Key) else [x]).length≤1:=by split<;>simp
  revert h1
  generalize (if lq x k then([]:List Key) else [x])=m
  intro h1
  cases put<;>cases hk:dI x k<;>simp[hk] at this ⊢ <;>omega
theorem nI (l:List Key) (k:Key):(eX l k).length≤l.length+1:=by have:=G3 k l false;simpa [eX] using this
def cD (old new:List Key):List Key:=new.foldl eX old
theorem q8: ∀(new old:List Key),(cD old new).length≤old.length+new.length
 |[],old=>by simp[cD]
 |x::r,old=>by
  have:=q8 r (eX old x)
  have h2:=nI old x
  simp only[cD,List.foldl_cons,List.length_cons] at this ⊢
  omega
def mX (l:List Key):List Key:=l.filter fun k=> !decide (k.k=0)
def sV (n:List (List Key)):List Key:=n.foldl cD []
def aR (n:List (List Key)):List Key:=mX (sV n)
theorem yD: ∀(n:List (List Key)) (a:List Key),(n.foldl cD a).length≤a.length+tot bH n
 |[],a=>by simp[tot]
 |s::r,a=>by
  have:=yD r (cD a s)
  have h2:=q8 s a
  simp only[List.foldl_cons,tot,bH] at this ⊢
  omega
theorem cP (n:List (List Key)):(aR n).length≤tot bH n:=by
 have h1:=yD n []
 have h2:=List.length_filter_le (fun k:Key=> !decide (k.k=0)) (sV n)
 simp only[List.length_nil,Nat.zero_add] at h1
 exact Nat.le_trans h2 h1
def cm (n:List (List Key)):Nat:=tot bH n
def eY (n:List (List Key)):Bool:=n.all (fun s=>Bg s&& !decide (s.length=0))&&decide (n.length≤3)&&decide (cm n≤8)
def cA (l:List Key):List (List Key):=if l.length=0 then [] else [l]
def bu (t:Tree):List Key:=t.nodes.flatMap aR
theorem Ej: ∀(l:List (List (List Key))),(l.flatMap aR).length≤tot aQ l
 |[]=>by simp[tot]
 |n::r=>by
  have:=Ej r
  have h2:=cP n
  simp only[List.flatMap_cons,List.length_append,tot,aQ]
  omega
theorem j9 (t:Tree):(bu t).length≤cZ t:=by
 have:=Ej t.nodes
 unfold bu cZ qk
 omega
def fe (t:Tree) (b:Int):List Key:=(bu t).filter fun k=>decide (k.b=b)
theorem Ky (t:Tree) (b:Int):(fe t b).length≤(bu t).length:=List.length_filter_le _ _
def gm (b a:Int):Int:=aA (WG 64 b) a
def gy {α:Type} (p:α→Bool):List α→Int→Int
 |[],_=> -1
 |a::r,i=>if p a then i else gy p r (i+1)
theorem Kz {α:Type} (p:α→Bool): ∀(l:List α) (i:Int),0≤i→decide (0≤gy p l i)=l.any p
 |[],i,_=>by simp[gy]
 |a::r,i,h=>by
  by_cases hp:p a=true
  ·simp[gy,hp,h]
  ·have:=Kz p r (i+1) (by omega)
   simp only[gy,if_neg hp,List.any_cons]
   rw[this]
   simp[hp]
theorem NW {α:Type} (p:α→Bool): ∀(l:List α) (i:Int),0≤i→(gy p l i= -1∧ ∀a∈l,p a=false)∨ ∃(j:Nat) (a:α),gy p l i=i+j∧l[j]?=some a∧p a=true∧j<l.length∧ ∀k,k<j→ ∀b,l[k]?=some b→p b=false
 |[],i,_=> .inl ⟨rfl,fun a h=>by cases h⟩
 |a::r,i,h=>by
  simp only[gy]
  cases hp:p a with
  |true=>exact .inr ⟨0,a,by simp,rfl,hp,by simp,fun k hk=>by omega⟩
  |false=>
   rcases NW p r (i+1) (by omega) with⟨h1,h2⟩|⟨j,b,h1,h2,h3,h4,h5⟩
   ·refine .inl ⟨by simpa using h1,fun b hb=> ?_⟩
    rcases List.mem_cons.1 hb with rfl|hb
    ·exact hp
    ·exact h2 b hb
   ·refine .inr ⟨j+1,b,by simp[h1];omega,h2,h3,by simp;omega,fun k hk c hc=> ?_⟩
    cases k with
    |zero=>simp at hc;rw[←hc];exact hp
    |succ k=>exact h5 k (by omega) c hc
theorem Qz {α:Type} (p:α→Bool) (l:List α) (h: ¬gy p l 0<0): ∃a,gP l (gy p l 0)=some a∧p a=true:=by
 rcases NW p l 0 (by omega) with⟨h1,_⟩|⟨j,a,h1,h2,h3,_⟩
 ·omega
 ·refine⟨a,?_,h3⟩
  rw[h1,Int.zero_add,aL];exact h2
def gT (l:List Age) (id:Int):Int:=gy (fun a=>decide (a.id=id)) l 0
theorem NX (l:List Age) (id:Int) (h: ¬gT l id<0): ∃a,gP l (gT l id)=some a∧a.id=id:=by
 obtain⟨a,h1,h2⟩:=Qz _ l h
 exact⟨a,h1,of_decide_eq_true h2⟩
def Bh (l:List Age):Nat→Int→List Int
 |0,_=>[]
 |n+1,id=>if gT l id<0 then [] else id::(match gP l (gT l id) with|some a=>Bh l n a.fr|none=>[])
def pathOf (l:List Age) (id:Int):List Int:=Bh l (l.length+1) id
theorem NY (l:List Age): ∀(n:Nat) (id:Int),(Bh l n id).length≤n
 |0,_=>by simp[Bh]
 |n+1,id=>by
  simp only[Bh]
  split
  ·simp
  ·split
   ·have:=NY l n
    simp only[List.length_cons]
    rename_i a _
    have:=this a.fr
    omega
   ·simp
theorem KA (l:List Age) (id:Int):(pathOf l id).length≤l.length+1:=NY l _ id
def Ek (l:List Int) (n:Int):Bool:=l.any fun a=>decide (a=n)
def El (path:List Int):Key×Bool→Key→Key×Bool:=fun p k=>if Ek path k.a&&(!p.2||decide (p.1.a<k.a)) then(k,true) else p
def near (keys:List Key) (path:List Int):Key×Bool:=keys.foldl (El path) (dV,false)
def S0 (t:Tree) (l:List Age) (b id:Int):Key×Bool:=near (fe t b) (pathOf l id)
def p9 (t:Tree) (l:List Age) (b id:Int):Key×Bool:=near (fe t b) ((pathOf l id).drop 1)
theorem Vt (keys:List Key):near keys []=(dV,false):=by
 unfold near
 suffices ∀(l:List Key),l.foldl (El []) (dV,false)=(dV,false) from this keys
 intro l
 induction l with
 |nil=>rfl
 |cons a r ih=>simpa [El,Ek] using ih
def jj (l:List Age) (id:Int):List Int:=if id=0 then [] else(l.filter fun a=>decide (a.fr=id)).map (·.id)
theorem KB (l:List Age) (id:Int):(jj l id).length≤l.length:=by
 unfold jj
 split
 ·simp
 ·rw[List.length_map];exact List.length_filter_le _ _
abbrev NZ (p:Key×Bool):TV:= .tu [(1,[iI p.1.b,iI p.1.a,iI p.1.k,iI p.1.c,iI p.1.g]),(0,[iB p.2])]
def Vu (n:Int):Bool:=jh n 97 122||jh n 48 57
def dO (s:ByteArray) (i:Nat):Bool:=match qD s i with|some n=>Vu n|none=>true
def qT (s:ByteArray):Bool:=cH s.size (dO s)&&jh s.size 1 6
def ef (l:List Age) (i:Nat):Bool:=T8 l (fun a=>jh a.id 1 60) i&&(gC l (fun x y=>decide (x.id<y.id)) i&&T8 l (fun a=>decide (a.fr=0)|| !decide (gT (l.take i) a.fr<0)) i)
def lR (l:List Age):Bool:=cH l.length (ef l)&&decide (l.length≤16)
def nJ (l:List Vol) (s:ByteArray):Int:=gy (fun v=>decide (v.name=s)) l 0
def Xl (l:List Vol) (id:Int):Bool:= !l.any fun v=>decide (v.age=id)
def cellAt (l:List Cell) (i gen:Int):Int×Bool:=match gP l i with
 |none=>(0,false)
 |some c=>if c.u=true∧c.g=gen then(c.n,true) else(0,false)
def bQ (l:List Cell):Nat:=(l.filter (·.u)).length
def gY (c:Cell):Bool:=jh c.g 0 999&&(Ei c.n&&(c.u||decide (c.n=0)))
def eE (l:List Cell):Bool:=l.all gY&&decide (l.length=24)
abbrev ZK (p:Int×Bool):TV:= .tu [(0,[iI p.1]),(0,[iB p.2])]
@[simp] theorem uJ {l:List Key} {b a k c g:Int}:List.append (l.map bM) [[iI b,iI a,iI k,iI c,iI g]]=(l++[(⟨b,a,k,c,g⟩:Key)]).map bM:=by simp[bM]
@[simp] theorem JI {l:List Int} {b:Int}:List.append (l.map bP) [[iI b]]=(l++[b]).map bP:=by simp[bP]
@[simp] theorem YZ {l:List Int} {b:Int}:List.append (l.map Bd) [[.sc (.int .u8 b)]]=(l++[b]).map Bd:=by simp[Bd]
@[simp] theorem Zi {l:List Age} {b a:Int}:List.append (l.map ek) [[iI b,iI a]]=(l++[(⟨b,a⟩:Age)]).map ek:=by simp[ek]
@[simp] theorem Zj {l:List Vol} {s:ByteArray} {b a:Int} {q:Bool}:List.append (l.map eA) [[iS s,iI b,iI a,iB q]]=(l++[(⟨s,b,a,q⟩:Vol)]).map eA:=by simp[eA]
@[simp] theorem Zk {l:List (List Key)} {s:List Key}:List.append (l.map cc) [[.sub 5 (s.map bM)]]=(l++[s]).map cc:=by simp[cc]
@[simp] theorem Em {l:List (List (List Key))} {s:List (List Key)}:List.append (l.map aX) [[.sub 1 (s.map cc)]]=(l++[s]).map aX:=by simp[aX]
@[simp] theorem Zl {l:List Mp} {s:ByteArray} {f:Bool} {r:List Int}:List.append (l.map FB) [[iS s,iB f,.sub 1 (r.map bP)]]=(l++[(⟨s,f,r⟩:Mp)]).map FB:=by simp[FB]
@[simp] theorem jD {α:Type} {e:α→List TC} {l m:List α}:List.append (l.map e) (m.map e)=(l++m).map e:=by simp
@[simp] theorem Y0:([]:RR)=([]:List Key).map bM↔True:=by simp
@[simp] theorem cr {α:Type} (l:List α):Nat.succ (List.length l)=l.length+1:=rfl
theorem lS (b a k c g:Int):bR [[iI b,iI a,iI k,iI c,iI g]]=true:=jQ [⟨b,a,k,c,g⟩]
theorem RW (b a:Int):bR [[iI b,iI a]]=true:=Cq [⟨b,a⟩]
theorem RX (s:ByteArray) (b a:Int) (q:Bool):bR [[iS s,iI b,iI a,iB q]]=true:=Cr [⟨s,b,a,q⟩]
attribute [simp] lS RW RX
@[simp] theorem de (k:Key):(⟨k.b,k.a,k.k,k.c,k.g⟩:Key)=k:=rfl
@[simp] theorem dW (k:Age):(⟨k.id,k.fr⟩:Age)=k:=rfl
@[simp] theorem c7 (k:Cell):(⟨k.g,k.u,k.n⟩:Cell)=k:=rfl
@[simp] theorem dX (k:Vol):(⟨k.name,k.age,k.size,k.fx⟩:Vol)=k:=rfl
@[simp] theorem dY (k:Mp):(⟨k.name,k.fx,k.l⟩:Mp)=k:=rfl
@[simp] theorem fu (k:V0):(⟨k.kind,k.name,k.to,k.a,k.b⟩:V0)=k:=rfl
theorem cW {n b:Nat} (h:n*b≤140737488355328∧n≤140737488355328):fits n b=true:=by rw[Wy];exact decide_eq_true h
end Go.T
namespace Go.T
def cX (s:List Key):Bool:=Bg s&& !decide (s.length=0)
theorem N0 (n:List (List Key)):eY n=(n.all cX&&(decide (n.length≤3)&&decide (cm n≤8))):=by
 unfold eY;rw[Bool.and_assoc];rfl
def RY (lows:List Int) (i:Nat) (x:Int):Bool:=match lows[i]? with
 |some lo=> !decide (x<lo)&&(match lows[i+1]? with|some hi=>decide (x<hi)|none=>true)
 |none=>true
def fX (lows:List Int) (i:Nat) (k:Key):Bool:=RY lows i (gm k.b k.a)
def bT (lows:List Int) (i:Nat) (s:List Key):Bool:=s.all (fX lows i)
def cL (t:Tree) (i:Nat):Bool:=gC t.lows (fun x y=>decide (x<y)) i&&(match t.nodes[i]? with
 |some n=>eY n&&((decide (i=0)|| !decide ((aR n).length=0))&&n.all (bT t.lows i))
 |none=>true)
def eg (t:Tree):Bool:=jh t.nodes.length 1 20&&(decide (t.lows.length=t.nodes.length)&&((match t.lows[0]? with|some x=>decide (x=0)|none=>true)&&(cH t.nodes.length (cL t)&&decide ((bu t).length≤60))))
def bZ (p:Pool) (i:Nat):Bool:=match p.vols[i]? with
 |some v=>qT v.name&&(jh v.size 1 12&&(!decide (gT p.ages v.age<0)&&(decide ((jj p.ages v.age).length=0)&&(gC p.vols (fun x y=>LM x.name y.name) i&& !(p.vols.take i).any fun u=>decide (u.age=v.age)))))
 |none=>true
def gn (p:Pool):Bool:=cH p.vols.length (bZ p)&&decide (p.vols.length≤6)
def cF (p:Pool) (l:List Key) (i:Nat):Bool:=match l[i]? with
 |some k=> !decide (gT p.ages k.a<0)&&(!decide (k.k=1)||((cellAt p.cells k.c k.g).2&& !(l.take i).any fun x=>decide (x.k=1)&&decide (x.c=k.c)))
 |none=>true
def cg (l:List Key):Nat:=(l.filter fun k=>decide (k.k=1)).length
def ie (p:Pool):Bool:=cH (bu p.t).length (cF p (bu p.t))&&decide ((bQ p.cells:Int)=cg (bu p.t))
def mU (p:Pool):Bool:=p.ages.all (fun a=>decide (a.id<p.next))&&(eg p.t&&(lR p.ages&&(eE p.cells&&(jh p.next 1 61&&(gn p&&ie p)))))
def WM (p:Pool) (i b:Int):Int:=match gP p.vols i with
 |none=>0
 |some v=>if 0≤b∧b<v.size then(if(S0 p.t p.ages b v.age).2=true∧(S0 p.t p.ages b v.age).1.k=1 then(cellAt p.cells (S0 p.t p.ages b v.age).1.c (S0 p.t p.ages b v.age).1.g).1 else 0) else 0
def nU (l:List Key):List Bool:=(List.range 24).map fun m:Nat=>l.any fun x=>decide (x.k=1)&&decide (x.c=(m:Int))
theorem QA:nU []=List.replicate 24 false:=by decide
theorem QB (l:List Key) {c:Int} (h:0≤c∧c<24):gP (nU l) c=some (l.any fun x=>decide (x.k=1)&&decide (x.c=c)):=by
 obtain⟨n,rfl⟩: ∃n:Nat,c=n:=⟨c.toNat,by omega⟩
 rw[aL]
 unfold nU
 rw[List.getElem?_map,List.getElem?_range (by omega)]
 rfl
theorem QC (l:List Key) (k:Key) (hk:k.k=1) (h:0≤k.c∧k.c<24):(nU l).modify k.c.toNat (fun _=>true)=nU (l++[k]):=by
 apply List.ext_getElem?
 intro m
 rw[List.getElem?_modify]
 unfold nU
 rw[List.getElem?_map,List.getElem?_map]
 by_cases hm:m<24
 ·rw[List.getElem?_range hm]
  simp only[Option.map_some,List.any_append,List.any_cons,List.any_nil,Bool.or_false,hk,decide_true,Bool.true_and]
  by_cases e:k.c.toNat=m
  ·have:k.c=(m:Int):=by omega
   simp[e,this]
  ·have: ¬k.c=(m:Int):=by omega
   simp[e,this]
 ·rw[List.getElem?_eq_none (by simp;omega)];rfl
theorem OS (l:List Key) (k:Key) (hk: ¬k.k=1):nU (l++[k])=nU l:=by
 unfold nU
 simp[hk]
theorem CF (k:Key) (l:List Key):cg (k::l)=(if k.k=1 then 1 else 0)+cg l:=by
 unfold cg
 by_cases h:k.k=1<;>simp[h]
 omega
theorem Tz {l:List Cell} {i g:Int} (h:(cellAt l i g).2=true):0≤i∧i<l.length:=by
 unfold cellAt at h
 apply Classical.byContradiction
 intro hn
 rw[nT hn] at h
 cases h
theorem gU {p:Pool} (h:cO p≤4194304):cZ p.t≤4194304∧p.ages.length≤4194304∧p.cells.length≤4194304∧p.vols.length≤4194304∧tot p8 p.vols≤4194304:=by
 unfold cO FD at h
 omega
end Go.T
namespace Go.T
def blocks (p:Pool) (i:Nat) (k:Nat):List Int:=(List.range k).map fun b:Nat=>WM p i b
def fY (l:List Cell) (i:Int):List Cell:=match gP l i with
 |none=>l
 |some c=>if eE l=true∧c.u=true then l.modify i.toNat (fun _=>⟨vP (aA c.g 1) 1000,false,0⟩) else l
theorem CG {l:List Cell} {i:Int} (h:gP l i=none):fY l i=l:=by unfold fY;rw[h]
theorem En {l:List Cell} {i:Int} (h:eE l=false):fY l i=l:=by
 unfold fY
 cases gP l i with
 |none=>rfl
 |some c=>exact if_neg (fun hh=>by rw[h] at hh;cases hh.1)
theorem G4 {l:List Cell} {i:Int} {c:Cell} (hc:gP l i=some c) (h:c.u=false):fY l i=l:=by
 unfold fY;rw[hc];exact if_neg (fun hh=>by rw[h] at hh;cases hh.2)
theorem Eo {l:List Cell} {i:Int} {c:Cell} (hc:gP l i=some c) (h:eE l=true) (hu:c.u=true):fY l i=l.modify i.toNat (fun _=>⟨vP (aA c.g 1) 1000,false,0⟩):=by
 unfold fY;rw[hc];exact if_pos ⟨h,hu⟩
theorem OT (l:List Cell) (i:Int):(fY l i).length=l.length:=by
 unfold fY
 cases gP l i with
 |none=>rfl
 |some c=>simp only[];split<;>simp
abbrev ZL (x:Int×Int):TV:= .tu [(0,[iI x.1]),(0,[iI x.2])]
def Ep (p:Pool) (s:ByteArray):Bool:=mU p&&qT s
theorem Bi {p:Pool} (h:mU p=true):gn p=true:=by
 simp only[mU,Bool.and_eq_true] at h
 exact h.2.2.2.2.2.1
theorem QD {p:Pool} (h:mU p=true):lR p.ages=true:=by
 simp only[mU,Bool.and_eq_true] at h
 exact h.2.2.1
theorem G5 {p:Pool} {i:Int} {v:Vol} (h:gn p=true) (hv:gP p.vols i=some v):1≤v.size∧v.size≤12:=by
 obtain⟨n,rfl,hn⟩: ∃n:Nat,i=n∧n<p.vols.length:=by
  have:0≤i∧i<p.vols.length:=Classical.byContradiction fun hn=>by rw[nT hn] at hv;cases hv
  exact⟨i.toNat,by omega,by omega⟩
 simp only[gn,Bool.and_eq_true,Bf] at h
 have:=h.1 n hn
 rw[aL] at hv
 simp only[bZ,hv,Bool.and_eq_true] at this
 have:=this.2.1
 simp[jh] at this
 omega
def wK (l:List Key) (b a:Int):Key×Bool:=match setAt l b a with|some k=>(k,true)|none=>(dV,false)
def mg (n:List (List Key)) (b a:Int):Nat→Key×Bool
 |0=>(dV,false)
 |k+1=>match n[k]? with
  |some s=>if(wK s b a).2=true then(if(wK s b a).1.k=0 then(dV,false) else wK s b a) else mg n b a k
  |none=>(dV,false)
def ql (f:Int→Bool) (l:List Int):Nat→Int
 |0=> -1
 |k+1=>match l[k]? with
  |some x=>if f x=true then(k:Int) else ql f l k
  |none=> -1
def kV (t:Tree) (b a:Int):Int:=ql (fun x=>decide (x≤gm b a)) t.lows t.lows.length
def rQ (t:Tree) (b a:Int):Key×Bool:=match gP t.nodes (kV t b a) with
 |some n=>mg n b a n.length
 |none=>(dV,false)
end Go.T
namespace Go.T
def RZ (p x:Pool):Pool×Int:=if mU x=true then(x,0) else(p,6)
abbrev YD (x:Pool×Int):TV:= .tu [(1,[.sub 1 (x.1.t.lows.map bP),.sub 1 (x.1.t.nodes.map aX),.sub 2 (x.1.ages.map ek),.sub 3 (x.1.cells.map cY),.sub 4 (x.1.vols.map eA),iI x.1.next]),(0,[iI x.2])]
end Go.T
namespace Go.T
end Go.T
namespace Go.T
def Xm (v u:Vol):Bool:=LM u.name v.name||N9 u.name v.name
theorem QE: ∀(x y z:List UInt8),Op.bytesLess x y=true→Op.bytesLess y z=true→Op.bytesLess x z=true
 |x,y,[],_,h=>by cases y<;>simp[Op.bytesLess] at h
 |x,[],c::z,h,_=>by cases x<;>simp[Op.bytesLess] at h
 |[],_::_,_::_,_,_=>by simp[Op.bytesLess]
 |a::x,b::y,c::z,h1,h2=>by
  simp only[Op.bytesLess,Bool.or_eq_true,Bool.and_eq_true,decide_eq_true_eq,beq_iff_eq] at h1 h2 ⊢
  rcases h1 with h1|⟨rfl,h1⟩
  ·rcases h2 with h2|⟨rfl,h2⟩
   ·exact .inl (UInt8.lt_trans h1 h2)
   ·exact .inl h1
  ·rcases h2 with h2|⟨rfl,h2⟩
   ·exact .inl h2
   ·exact .inr ⟨rfl,QE x y z h1 h2⟩
theorem TA {a b c:ByteArray} (h1:LM a b=true) (h2:LM b c=true):LM a c=true:=by
 unfold LM at*
 exact QE _ _ _ h1 h2
def Er:List Vol→Prop
 |[]=>True
 |[_]=>True
 |a::b::r=>LM a.name b.name=true∧Er (b::r)
theorem Vv {v a b:Vol} (h:LM a.name b.name=true) (hb:Xm v b=true):Xm v a=true:=by
 unfold Xm at*
 rw[Bool.or_eq_true] at*
 rcases hb with hb|hb
 ·exact .inl (TA h hb)
 ·have:b.name.toList=v.name.toList:=by
   unfold N9 at hb;exact eq_of_beq hb
  unfold LM at h ⊢
  rw[←this];exact .inl h
theorem Er.tail {a:Vol} {l:List Vol} (h:Er (a::l)):Er l:=by
 cases l with
 |nil=>trivial
 |cons b r=>exact h.2
theorem Er.cut {v:Vol}: ∀{l:List Vol} {k:Nat},Er l→k≤l.length→(∀u∈l.drop k,Xm v u=false)→(∀u,0<k→l[k-1]?=some u→Xm v u=true)→(l.takeWhile (Xm v)).length=k
 |[],k,_,hk,_,_=>by simp at hk;simp[hk]
 |a::l,0,_,_,h1,_=>by
  have:=h1 a (.head _)
  simp[this]
 |a::l,k+1,hr,hk,h1,h2=>by
  have ih:=Er.cut (v:=v) (l:=l) (k:=k) hr.tail (by simpa using hk) (fun u hu=>h1 u (by simpa using hu)) fun u h0 hu=>by
   obtain⟨j,rfl⟩: ∃j,k=j+1:=⟨k-1,by omega⟩
   exact h2 u (by omega) (by simpa using hu)
  have ha:Xm v a=true:=by
   cases k with
   |zero=>exact h2 a (by omega) rfl
   |succ k=>
    cases l with
    |nil=>simp at hk
    |cons b r=>
     refine Vv hr.1 ?_
     rw[List.takeWhile_cons] at ih
     cases hb:Xm v b with
     |true=>rfl
     |false=>rw[hb] at ih;simp at ih
  rw[List.takeWhile_cons,if_pos ha,List.length_cons,ih]
theorem Er.modify {f:Vol→Vol} (hf: ∀u,(f u).name=u.name): ∀{l:List Vol} (i:Nat),Er l→Er (l.modify i f)
 |[],i,h=>by cases i<;>exact h
 |[a],0,_=>trivial
 |[a],i+1,_=>by cases i<;>trivial
 |a::b::r,0,h=>by
  show Er (f a::b::r)
  exact⟨by rw[hf];exact h.1,h.2⟩
 |a::b::r,1,h=>by
  show Er (a::f b::r)
  refine⟨by rw[hf];exact h.1,?_⟩
  exact Er.modify hf (l:=b::r) 0 h.2
 |a::b::r,i+2,h=>⟨h.1,Er.modify hf (l:=b::r) (i+1) h.2⟩
def R0 (p x:Pool) (ok:Bool):Pool×Int:=if ok=true then RZ p x else(p,6)
end Go.T
namespace Go.T
def ZM (m u:Mp):Bool:= !(LM u.name m.name||N9 u.name m.name)
def WN (l:List Mp) (m:Mp):Nat→Nat
 |0=>0
 |k+1=>match l[k]? with
  |some u=>if ZM m u=true then WN l m k else k+1
  |none=>k+1
theorem S1 (l:List Mp) (m:Mp): ∀k,WN l m k≤k
 |0=>Nat.le_refl _
 |k+1=>by
  unfold WN
  split
  ·split
   ·exact Nat.le_succ_of_le (S1 l m k)
   ·exact Nat.le_refl _
  ·exact Nat.le_refl _
def Vw {α:Type} (l:List α) (k:Nat) (x:α):List α:=l.take k++x::l.drop k
def Vx (l:List Mp) (m:Mp):List Mp:=Vw l (WN l m l.length) m
theorem Vy (l:List Mp) (m:Mp):(Vx l m).length=l.length+1:=by
 have:=S1 l m l.length
 unfold Vx Vw
 rw[List.length_append,List.length_cons,List.length_take,List.length_drop];omega
theorem Vz {l:List Mp} {m x:Mp} (h:x∈Vx l m):x∈l∨x=m:=by
 unfold Vx Vw at h
 rcases List.mem_append.1 h with h|h
 ·exact .inl (List.mem_of_mem_take h)
 ·rcases List.mem_cons.1 h with h|h
  ·exact .inr h
  ·exact .inl (List.mem_of_mem_drop h)
def OU (l l':List Mp):Prop:=l'.length≤l.length+1∧ ∀B:Nat,12≤B→(∀x∈l,x.l.length≤B)→ ∀x∈l',x.l.length≤B
theorem OU.refl (l:List Mp):OU l l:=⟨Nat.le_succ _,fun _ _ h=>h⟩
theorem OU.put {l:List Mp} {m:Mp} (h: ∀B:Nat,12≤B→(∀x∈l,x.l.length≤B)→m.l.length≤B):OU l (Vx l m):=
 ⟨Nat.le_of_eq (Vy l m),fun B hB hl x hx=>(Vz hx).elim (hl x) fun e=>by rw[e];exact h B hB hl⟩
end Go.T
namespace Go.T
abbrev TB (x:List (List Key)×Bool):TV:= .tu [(1,[.sub 1 (x.1.map cc)]),(0,[iB x.2])]
def C8 (s:List Key) (k:Key):Bool:=(wK s k.b k.a).2||decide (s.length<4)
def jk (n:List (List Key)) (k:Key):List (List Key):=match n[n.length-1]? with
 |none=>n++[[k]]
 |some s=>if C8 s k=true then n.set (n.length-1) (eX s k) else n++[[k]]
def cq (n:List (List Key)) (k:Key):List Key:=mX (eX (aR n) k)
def cj (n:List (List Key)) (k:Key):List (List Key)×Bool:=
 if eY (jk n k)=true then(jk n k,true) else if 8<(cq n k).length then(n,false) else if eY (cA (cq n k))=true then(cA (cq n k),true) else(n,false)
theorem nV (n:List (List Key)) (k:Key):(cq n k).length≤tot bH n+1:=by
 have h1:=cP n
 have h2:=nI (aR n) k
 have h3:(cq n k).length≤(eX (aR n) k).length:=List.length_filter_le _ _
 omega
theorem QF {α:Type} (w:α→Nat) (l:List α) (a:α):tot w (l++[a])=tot w l+w a:=by
 induction l with
 |nil=>simp[tot]
 |cons b r ih=>simp only[List.cons_append,tot,ih];omega
theorem QG {α:Type} (w:α→Nat) (c:Nat): ∀(l:List α) (i:Nat) (a a':α),l[i]?=some a→w a'≤w a+c→tot w (l.set i a')≤tot w l+c
 |[],i,a,a',h,_=>by simp at h
 |b::r,0,a,a',h,hw=>by
  simp only[List.getElem?_cons_zero,Option.some.injEq] at h
  subst h
  simp only[List.set_cons_zero,tot];omega
 |b::r,i+1,a,a',h,hw=>by
  have:=QG w c r i a a' (by simpa using h) hw
  simp only[List.set_cons_succ,tot];omega
theorem C9 (n:List (List Key)) (k:Key):(jk n k).length≤n.length+1:=by
 unfold jk
 split
 ·rw[List.length_append];simp
 ·split
  ·rw[List.length_set];omega
  ·rw[List.length_append];simp
theorem Da (n:List (List Key)) (k:Key):tot bH (jk n k)≤tot bH n+1:=by
 unfold jk
 split
 ·rw[QF];exact Nat.le_refl _
 ·rename_i s hs
  split
  ·exact QG bH 1 _ _ s _ hs (by have:=nI s k;unfold bH;omega)
  ·rw[QF];exact Nat.le_refl _
theorem uK (l:List Key):(cA l).length≤1:=by
 unfold cA
 split<;>simp
theorem uL (l:List Key):tot bH (cA l)≤l.length:=by
 unfold cA
 split
 ·simp[tot]
 ·simp[tot,bH]
theorem Bj (n:List (List Key)) (k:Key):(cj n k).1.length≤n.length+1:=by
 have h1:=C9 n k
 have h2:=uK (cq n k)
 unfold cj
 repeat' split
 all_goals simp only[];omega
theorem Bk (n:List (List Key)) (k:Key):tot bH (cj n k).1≤tot bH n+1:=by
 have h1:=Da n k
 have h2:=uL (cq n k)
 have h3:=nV n k
 unfold cj
 repeat' split
 all_goals simp only[];omega
end Go.T
namespace Go.T
def G6 (x y:Key):Prop:=x.b<y.b∨(x.b=y.b∧x.a<y.a)
theorem G6.trans {x y z:Key} (h1:G6 x y) (h2:G6 y z):G6 x z:=by unfold G6 at*;omega
theorem Bl {x y:Key}:dI x y=true↔G6 x y:=by unfold dI G6;simp
theorem Es {x y:Key}:lq x y=true↔x.b=y.b∧x.a=y.a:=by unfold lq;simp
theorem Et {k y:Key}: ∀{l:List Key},y∈eW k true l→y∈l
 |[],h=>by simp[eW] at h
 |x::r,h=>by
  simp only[eW,Bool.not_true,Bool.false_and,Bool.false_eq_true,if_false,List.nil_append,Bool.true_or] at h
  rcases List.mem_append.1 h with h|h
  ·split at h
   ·cases h
   ·rw[List.mem_singleton.1 h];exact .head _
  ·exact .tail _ (Et h)
theorem KC {k y:Key}: ∀{l:List Key} {put:Bool},y∈eW k put l→y∈l∨y=k
 |[],put,h=>by
  simp only[eW] at h
  split at h
  ·cases h
  ·exact .inr (List.mem_singleton.1 h)
 |x::r,put,h=>by
  simp only[eW] at h
  rcases List.mem_append.1 h with h|h
  ·rcases List.mem_append.1 h with h|h
   ·split at h
    ·exact .inr (List.mem_singleton.1 h)
    ·cases h
   ·split at h
    ·cases h
    ·exact .inl (by rw[List.mem_singleton.1 h];exact .head _)
  ·exact(KC h).imp (.tail _) id
theorem Cs {k:Key}: ∀{l:List Key},l.Pairwise G6→(eW k true l).Pairwise G6
 |[],_=>by simp[eW]
 |x::r,h=>by
  obtain⟨h1,h2⟩:=List.pairwise_cons.1 h
  simp only[eW,Bool.not_true,Bool.false_and,Bool.false_eq_true,if_false,List.nil_append,Bool.true_or]
  split
  ·exact Cs h2
  ·exact List.pairwise_cons.2 ⟨fun y hy=>h1 y (Et hy),Cs h2⟩
theorem N1 {k:Key}: ∀{l:List Key},l.Pairwise G6→(eW k false l).Pairwise G6
 |[],_=>by simp[eW]
 |x::r,h=>by
  obtain⟨h1,h2⟩:=List.pairwise_cons.1 h
  cases hk:dI x k with
  |true=>
   have hlt:=Bl.1 hk
   have hns:lq x k=false:=by
    cases hs:lq x k with
    |false=>rfl
    |true=>have:=Es.1 hs;unfold G6 at hlt;omega
   simp only[eW,hk,hns,Bool.not_false,Bool.not_true,Bool.true_and,Bool.and_false,Bool.false_eq_true,if_false,List.nil_append,Bool.or_false,Bool.false_or]
   refine List.pairwise_cons.2 ⟨fun y hy=> ?_,N1 h2⟩
   rcases KC hy with hy|rfl
   ·exact h1 y hy
   ·exact hlt
  |false=>
   have hge: ¬G6 x k:=fun h=>by rw[Bl.2 h] at hk;cases hk
   simp only[eW,hk,Bool.not_false,Bool.true_and,if_true,Bool.or_true]
   have hr: ∀y∈eW k true r,G6 k y:=fun y hy=>by
    have:=h1 y (Et hy)
    unfold G6 at*;omega
   split
   ·exact List.pairwise_cons.2 ⟨hr,Cs h2⟩
   ·rename_i hns
    refine List.pairwise_cons.2 ⟨fun y hy=> ?_,List.pairwise_cons.2 ⟨fun y hy=>h1 y (Et hy),Cs h2⟩⟩
    rcases List.mem_cons.1 hy with rfl|hy
    ·have: ¬(y.b=k.b∧y.a=k.a):=fun h=>hns (Es.2 h)
     unfold G6 at*;omega
    ·exact hr y hy
theorem G7 {l:List Key} {k:Key} (h:l.Pairwise G6):(eX l k).Pairwise G6:=N1 h
theorem KD {l:List Key} {k y:Key} (h:y∈eX l k):y∈l∨y=k:=KC h
theorem KE: ∀(new:List Key) {old:List Key},old.Pairwise G6→(cD old new).Pairwise G6
 |[],_,h=>h
 |x::r,_,h=>KE r (G7 h)
theorem N2 {y:Key}: ∀{new old:List Key},y∈cD old new→y∈old∨y∈new
 |[],_,h=> .inl h
 |x::r,old,h=>by
  have h:y∈cD (eX old x) r:=h
  rcases N2 h with h|h
  ·exact(KD h).imp id fun e=>by rw[e];exact .head _
  ·exact .inr (.tail _ h)
theorem KF: ∀(n:List (List Key)) {acc:List Key},acc.Pairwise G6→(n.foldl cD acc).Pairwise G6
 |[],_,h=>h
 |s::r,_,h=>KF r (KE s h)
theorem N3 {y:Key}: ∀{n:List (List Key)} {acc:List Key},y∈n.foldl cD acc→y∈acc∨ ∃s∈n,y∈s
 |[],_,h=> .inl h
 |s::r,acc,h=>by
  rcases N3 (n:=r) h with h|⟨s',h1,h2⟩
  ·exact(N2 h).imp id fun h=>⟨s,.head _,h⟩
  ·exact .inr ⟨s',.tail _ h1,h2⟩
theorem LW (n:List (List Key)):(aR n).Pairwise G6:=(KF n .nil).sublist List.filter_sublist
theorem OV {n:List (List Key)} {y:Key} (h:y∈aR n): ∃s∈n,y∈s:=by
 rcases N3 (List.mem_filter.1 h).1 with h|h
 ·cases h
 ·exact h
theorem LX (n:List (List Key)) (k:Key):(cq n k).Pairwise G6:=(G7 (LW n)).sublist List.filter_sublist
theorem OW {n:List (List Key)} {k y:Key} (h:y∈cq n k):y=k∨ ∃s∈n,y∈s:=
 (KD (List.mem_filter.1 h).1).elim (fun h=> .inr (OV h)) .inl
theorem VA {l:List Key} (h1:l.Pairwise G6) (h2: ∀y∈l,gl y=true) (h3:l.length≤60):Bg l=true:=by
 rw[Kx]
 simp only[Bool.and_eq_true,decide_eq_true_eq]
 refine⟨List.all_eq_true.2 h2,Bf.2 fun i hi=> ?_,h3⟩
 cases i with
 |zero=>rfl
 |succ k=>
  simp only[gC]
  rw[List.getElem?_eq_getElem (by omega:k<l.length),List.getElem?_eq_getElem hi]
  exact Bl.2 (List.pairwise_iff_getElem.1 h1 k (k+1) (by omega) hi (by omega))
theorem QH {n:List (List Key)} (h:eY n=true) {s:List Key} (hs:s∈n) {y:Key} (hy:y∈s):gl y=true:=by
 unfold eY at h
 simp only[Bool.and_eq_true] at h
 have:=List.all_eq_true.1 h.1.1 s hs
 simp only[Bool.and_eq_true] at this
 have h2:=this.1
 rw[Kx] at h2
 simp only[Bool.and_eq_true] at h2
 exact List.all_eq_true.1 h2.1 y hy
theorem R1 {l:List Key} (h1:l.Pairwise G6) (h2: ∀y∈l,gl y=true) (h3:l.length≤8):eY (cA l)=true:=by
 unfold cA
 split
 ·decide
 ·rename_i h0
  unfold eY
  have:=VA h1 h2 (by omega)
  have h00:l≠[]:=fun e=>h0 (by rw[e];rfl)
  simp[this,h00,cm,tot,bH,h3]
theorem QI {n:List (List Key)} {k:Key} (h:eY n=true) (hk:gl k=true): ∀y∈cq n k,gl y=true:=fun y hy=>by
 rcases OW hy with rfl|⟨s,h1,h2⟩
 ·exact hk
 ·exact QH h h1 h2
theorem KG {n:List (List Key)} {k:Key} (h:eY n=true) (hk:gl k=true) (hp:(cj n k).2=false):8<(cq n k).length∧cj n k=(n,false):=by
 have hn:=R1 (LX n k) (QI h hk)
 unfold cj at hp ⊢
 split at hp
 ·cases hp
 ·rename_i h1
  split at hp
  ·rename_i h2
   exact⟨h2,by rw[if_neg h1,if_pos h2]⟩
  ·rename_i h2
   rw[if_pos (hn (by omega))] at hp
   cases hp
end Go.T
namespace Go.T
def gw (x y:Int):Int:=Rb .or .i64 (Xo .i64 (r7 .i64 x) 8) (r7 .i64 y)
end Go.T
namespace Go.T
abbrev xL (x:Tree×Bool):TV:= .tu [(1,SX x.1),(0,[iB x.2])]
def ke (t:Tree) (i c:Nat) (lows:List Int) (nodes:List (List (List Key))):Tree:=⟨t.lows.take i++lows++t.lows.drop (i+c),t.nodes.take i++nodes++t.nodes.drop (i+c)⟩
def iD (t:Tree) (i:Nat):List Key:=aR (t.nodes.getD i [])
def rC (t:Tree):Nat→Nat→Option Nat
 |0,_=>none
 |d+1,i=>if i+1<t.nodes.length then(if(iD t i).length+(iD t (i+1)).length≤6 then some i else rC t d (i+1)) else none
def oI (t:Tree):Option Nat:=rC t t.nodes.length 0
def cG (t:Tree) (i:Nat):Tree:=ke t i 2 [t.lows.getD i 0] [cA (iD t i++iD t (i+1))]
def kf:Nat→Tree→Tree
 |0,t=>t
 |n+1,t=>match oI t with
  |none=>t
  |some i=>kf n (cG t i)
theorem G8 {t:Tree}: ∀{d i j:Nat},rC t d i=some j→i≤j∧j+1<t.nodes.length∧(iD t j).length+(iD t (j+1)).length≤6
 |0,i,j,h=>by cases h
 |d+1,i,j,h=>by
  unfold rC at h
  split at h
  ·split at h
   ·cases h;exact⟨Nat.le_refl _,by assumption,by assumption⟩
   ·have:=G8 h;exact⟨by omega,this.2⟩
  ·cases h
theorem qU {t:Tree} {j:Nat} (h:oI t=some j):j+1<t.nodes.length∧(iD t j).length+(iD t (j+1)).length≤6:=(G8 h).2
theorem Bm (t:Tree) (i c:Nat) (lows:List Int) (nodes:List (List (List Key))) (h:i+c≤t.nodes.length):(ke t i c lows nodes).nodes.length+c=t.nodes.length+nodes.length:=by
 unfold ke
 simp only[List.length_append,List.length_take,List.length_drop];omega
theorem ym (t:Tree) (i c:Nat) (lows:List Int) (nodes:List (List (List Key))) (h:i+c≤t.lows.length):(ke t i c lows nodes).lows.length+c=t.lows.length+lows.length:=by
 unfold ke
 simp only[List.length_append,List.length_take,List.length_drop];omega
theorem sC {t:Tree} {i:Nat} (h:i+1<t.nodes.length):(cG t i).nodes.length+1=t.nodes.length:=by
 have:=Bm t i 2 [t.lows.getD i 0] [cA (iD t i++iD t (i+1))] (by omega)
 unfold cG
 simp only[List.length_singleton] at this
 omega
def jO (t:Tree) (i:Nat) (k:Key):Tree:=
 if(cj (t.nodes.getD i []) k).2=true then
  (if 0<i∧(aR (cj (t.nodes.getD i []) k).1).length=0 then ke t i 1 [] [] else ke t i 1 [t.lows.getD i 0] [(cj (t.nodes.getD i []) k).1])
 else ke t i 1 [t.lows.getD i 0,gm ((cq (t.nodes.getD i []) k).getD (((cq (t.nodes.getD i []) k).length+1)/2) dV).b ((cq (t.nodes.getD i []) k).getD (((cq (t.nodes.getD i []) k).length+1)/2) dV).a]
  [cA ((cq (t.nodes.getD i []) k).take (((cq (t.nodes.getD i []) k).length+1)/2)),cA ((cq (t.nodes.getD i []) k).drop (((cq (t.nodes.getD i []) k).length+1)/2))]
def bO (t:Tree) (k:Key):Tree×Bool:=
 if eg t=true∧gl k=true then(if eg (kf (jO t (kV t k.b k.a).toNat k).nodes.length (jO t (kV t k.b k.a).toNat k))=true then(kf (jO t (kV t k.b k.a).toNat k).nodes.length (jO t (kV t k.b k.a).toNat k),true) else(t,false)) else(t,false)
end Go.T
namespace Go.T
theorem R2 {α:Type} (w:α→Nat) (c:Nat): ∀l:List α,(∀a∈l,w a≤c)→tot w l≤c*l.length
 |[],_=>by simp[tot]
 |a::r,h=>by
  have h1:=h a (.head _)
  have h2:=R2 w c r fun b hb=>h b (.tail _ hb)
  simp only[tot,List.length_cons,Nat.mul_add];omega
theorem Ct {n:List (List Key)} (h:eY n=true):n.length≤3∧tot bH n≤8:=by
 unfold eY cm at h
 simp only[Bool.and_eq_true,decide_eq_true_eq] at h
 exact⟨h.1.2,h.2⟩
theorem TD {t:Tree} (h:eg t=true) {i:Nat} (hi:i<t.nodes.length):cL t i=true:=by
 unfold eg at h
 simp only[Bool.and_eq_true] at h
 exact Bf.1 h.2.2.2.1 i hi
theorem uM {t:Tree} (h:eg t=true) {n:List (List Key)} (hn:n∈t.nodes):eY n=true:=by
 obtain⟨i,hi,rfl⟩:=List.getElem_of_mem hn
 have:=TD h hi
 unfold cL at this
 rw[List.getElem?_eq_getElem hi] at this
 simp only[Bool.and_eq_true] at this
 exact this.2.1
theorem pX {t:Tree} (h:eg t=true):1≤t.nodes.length∧t.nodes.length≤20∧t.lows.length=t.nodes.length:=by
 unfold eg jh at h
 simp only[Bool.and_eq_true,decide_eq_true_eq] at h
 omega
theorem R4 {t:Tree} (h:eg t=true):t.lows[0]?=some 0:=by
 have hl:=pX h
 unfold eg at h
 simp only[Bool.and_eq_true] at h
 have h0:0<t.lows.length:=by omega
 have:=h.2.2.1
 rw[List.getElem?_eq_getElem h0] at this ⊢
 simp only[decide_eq_true_eq] at this
 rw[this]
theorem KH {t:Tree} (h:eg t=true):tot aQ t.nodes≤220:=by
 have h1:=R2 aQ 11 t.nodes fun n hn=>by
  have:=Ct (uM h hn)
  unfold aQ;omega
 have h2:=pX h
 omega
theorem N4 {t:Tree} (h:eg t=true):cZ t≤260:=by
 have h1:=KH h
 have h2:=pX h
 unfold cZ qk;omega
theorem R5 {t:Tree} {k:Key} (h:(bO t k).2=true):eg (bO t k).1=true:=by
 unfold bO at h ⊢
 split
 ·split
  ·assumption
  ·rename_i h1 h2;rw[if_pos h1,if_neg h2] at h;cases h
 ·rename_i h1;rw[if_neg h1] at h;cases h
theorem Db {t:Tree} {k:Key} (h:(bO t k).2=false):(bO t k).1=t:=by
 unfold bO at h ⊢
 split
 ·split
  ·rename_i h1 h2;rw[if_pos h1,if_pos h2] at h;cases h
  ·rfl
 ·rfl
theorem R6 (t:Tree) (k:Key):cZ (bO t k).1≤max (cZ t) 260:=by
 cases h:(bO t k).2 with
 |true=>have:=N4 (R5 h);omega
 |false=>rw[Db h];omega
theorem QJ {p:Pool} (h:mU p=true):eg p.t=true:=by
 simp only[mU,Bool.and_eq_true] at h;exact h.2.1
theorem OX {p:Pool} (h:mU p=true):eE p.cells=true:=by
 simp only[mU,Bool.and_eq_true] at h;exact h.2.2.2.1
theorem TF {s:ByteArray} (h:qT s=true):1≤s.size∧s.size≤6:=by
 simp only[qT,Bool.and_eq_true,jh,decide_eq_true_eq] at h
 omega
theorem TG {p:Pool} (h:gn p=true) {v:Vol} (hv:v∈p.vols):qT v.name=true∧1≤v.size∧v.size≤12∧0≤gT p.ages v.age:=by
 obtain⟨i,hi,rfl⟩:=List.getElem_of_mem hv
 simp only[gn,Bool.and_eq_true,Bf] at h
 have:=h.1 i hi
 unfold bZ at this
 rw[List.getElem?_eq_getElem hi] at this
 simp only[Bool.and_eq_true,jh,decide_eq_true_eq,Bool.not_eq_true',decide_eq_false_iff_not] at this
 exact⟨this.1,this.2.1.1,this.2.1.2,by omega⟩
theorem TH {p:Pool} (h:mU p=true):cO p≤500:=by
 have h1:=N4 (QJ h)
 have h2:p.ages.length≤16:=by
  have:=QD h
  simp only[lR,Bool.and_eq_true,decide_eq_true_eq] at this
  exact this.2
 have h3:p.cells.length=24:=by
  have:=OX h
  simp only[eE,Bool.and_eq_true,decide_eq_true_eq] at this
  exact this.2
 have hv:=Bi h
 have h4:p.vols.length≤6:=by
  simp only[gn,Bool.and_eq_true,decide_eq_true_eq] at hv
  exact hv.2
 have h5:=R2 p8 6 p.vols fun v hm=>(TF (TG hv hm).1).2
 unfold cO FD;omega
theorem VB (p x:Pool):cO (RZ p x).1≤max (cO p) 500:=by
 unfold RZ
 split
 ·rename_i h;have:=TH h;simp only[];omega
 ·simp only[];omega
theorem VC (p x:Pool) (b:Bool):cO (R0 p x b).1≤max (cO p) 500:=by
 unfold R0
 split
 ·exact VB p x
 ·simp only[];omega
def Bn (p:Pool) (k:Key):List Cell:=if(rQ p.t k.b k.a).2=true∧(rQ p.t k.b k.a).1.k=1 then fY p.cells (rQ p.t k.b k.a).1.c else p.cells
def iM (p:Pool) (k:Key):Pool×Bool:=if(bO p.t k).2=true then(⟨(bO p.t k).1,p.ages,Bn p k,p.vols,p.next⟩,true) else(p,false)
theorem OY (p:Pool) (k:Key):(Bn p k).length=p.cells.length:=by
 unfold Bn;split
 ·exact OT _ _
 ·rfl
theorem KI (p:Pool) (k:Key):cO (iM p k).1≤cO p+260:=by
 have h1:=R6 p.t k
 have h2:=OY p k
 unfold iM
 split
 ·unfold cO;simp only[];omega
 ·simp only[];omega
def oJ (p:Pool) (s:ByteArray) (b:Int):Int:=
 if Ep p s=true then(match gP p.vols (nJ p.vols s) with
  |none=>2
  |some v=>if v.fx=true then 5 else if jh b 0 (v.size-1)=true then 0 else 4) else 1
theorem G9 {p:Pool} {s:ByteArray} {b:Int} (h:oJ p s b=0): ∃v,gP p.vols (nJ p.vols s)=some v∧Ep p s=true∧v.fx=false∧0≤b∧b≤v.size-1:=by
 unfold oJ at h
 split at h
 ·rename_i hf
  split at h
  ·cases h
  ·rename_i v hv
   split at h
   ·cases h
   ·split at h
    ·rename_i h1 h2
     refine⟨v,hv,hf,by simpa using h1,?_⟩
     simpa [jh] using h2
    ·cases h
 ·cases h
def fm (p:Pool) (age b:Int):Pool×Bool:=
 if(p9 p.t p.ages b age).2=true∧(p9 p.t p.ages b age).1.k=1 then iM p ⟨b,age,2,0,0⟩ else if(rQ p.t b age).2=true then iM p ⟨b,age,0,0,0⟩ else(p,true)
theorem Eu (p:Pool) (age b:Int):cO (fm p age b).1≤cO p+260:=by
 unfold fm
 split
 ·exact KI _ _
 ·split
  ·exact KI _ _
  ·simp only[];omega
def jE (p:Pool) (s:ByteArray) (b:Int):Pool×Int:=
 if oJ p s b=0 then(match gP p.vols (nJ p.vols s) with
  |none=>(p,2)
  |some v=>R0 p (fm p v.age b).1 (fm p v.age b).2) else(p,oJ p s b)
theorem QL (p:Pool) (s:ByteArray) (b:Int):cO (jE p s b).1≤max (cO p) 500:=by
 unfold jE
 repeat' split
 all_goals first|exact Nat.le_max_left _ _|exact VC _ _ _
end Go.T
namespace Go.T
theorem Cu {α:Type} (w:α→Nat): ∀l m:List α,tot w (l++m)=tot w l+tot w m
 |[],m=>by simp[tot]
 |a::l,m=>by simp only[List.cons_append,tot,Cu w l m];omega
theorem X7 {α:Type} {l:List α} {i:Nat} {a b:α} (ha:l[i]?=some a) (hb:l[i+1]?=some b):l=l.take i++a::b::l.drop (i+2):=by
 obtain⟨h1,e1⟩:=List.getElem?_eq_some_iff.1 ha
 obtain⟨h2,e2⟩:=List.getElem?_eq_some_iff.1 hb
 conv=>lhs;rw[←List.take_append_drop i l]
 rw[List.drop_eq_getElem_cons h1,List.drop_eq_getElem_cons h2,e1,e2]
theorem Dc (l:List Key):aQ (cA l)≤l.length+1:=by
 have h1:=uK l
 have h2:=uL l
 unfold aQ;omega
theorem gx {t:Tree} {i:Nat} {a:List (List Key)} (h:t.nodes[i]?=some a):iD t i=aR a:=by unfold iD;rw[List.getD_eq_getElem?_getD,h];rfl
theorem qV (n:Nat) (t:Tree):kf (n+1) t=match oI t with|none=>t|some i=>kf n (cG t i):=rfl
theorem uN {t:Tree} {i:Nat} (h:i+1<t.nodes.length):tot aQ (cG t i).nodes+(cG t i).nodes.length≤tot aQ t.nodes+t.nodes.length:=by
 obtain⟨a,ha⟩: ∃a,t.nodes[i]?=some a:=⟨_,List.getElem?_eq_getElem (by omega)⟩
 obtain⟨b,hb⟩: ∃b,t.nodes[i+1]?=some b:=⟨_,List.getElem?_eq_getElem h⟩
 have hl:=sC h
 have hs:=congrArg (tot aQ) (X7 ha hb)
 rw[Cu] at hs
 simp only[tot] at hs
 have la:=cP a
 have lb:=cP b
 have hn:=Dc (iD t i++iD t (i+1))
 rw[List.length_append,gx ha,gx hb] at hn
 have e:tot aQ (cG t i).nodes=tot aQ (t.nodes.take i)+aQ (cA (aR a++aR b))+tot aQ (t.nodes.drop (i+2)):=by
  unfold cG ke
  simp only[]
  rw[Cu,Cu,gx ha,gx hb]
  simp[tot]
 have sa:aQ a=a.length+tot bH a:=rfl
 have sb:aQ b=b.length+tot bH b:=rfl
 omega
theorem R7 {n:Nat} {t:Tree} (h:oI t=none):kf n t=t:=by
 cases n with
 |zero=>rfl
 |succ n=>rw[qV,h]
theorem CH {t:Tree} {i:Nat} (h:i+1<t.nodes.length) (hl:t.lows.length=t.nodes.length):(cG t i).lows.length=(cG t i).nodes.length:=by
 have h1:=ym t i 2 [t.lows.getD i 0] [cA (iD t i++iD t (i+1))] (by omega)
 have h2:=Bm t i 2 [t.lows.getD i 0] [cA (iD t i++iD t (i+1))] (by omega)
 simp only[List.length_singleton] at h1 h2
 unfold cG
 omega
theorem QM: ∀(n:Nat) (t:Tree),t.lows.length=t.nodes.length→tot aQ (kf n t).nodes+(kf n t).nodes.length≤tot aQ t.nodes+t.nodes.length∧(kf n t).lows.length=(kf n t).nodes.length
 |0,t,h=>⟨Nat.le_refl _,h⟩
 |n+1,t,h=>by
  rw[qV]
  cases hp:oI t with
  |none=>exact⟨Nat.le_refl _,h⟩
  |some i=>
   have hlt:=(qU hp).1
   have h1:=uN hlt
   have h2:=QM n (cG t i) (CH hlt h)
   exact⟨by simp only[];omega,h2.2⟩
theorem QN {k:Key} (h:gl k=true):0≤k.b∧k.b≤15∧1≤k.a∧k.a≤60∧0≤k.k∧k.k≤2:=by
 simp only[gl,jh,Bool.and_eq_true,decide_eq_true_eq] at h
 omega
theorem WO {b a:Int} (h: -1000≤b∧b≤1000∧ -1000≤a∧a≤1000):gm b a=64*b+a:=by
 unfold gm
 rw[WH (by omega),aJ (by omega)]
theorem R8 {k:Key} (h:gl k=true):gm k.b k.a=64*k.b+k.a:=by
 have:=QN h
 exact WO (by omega)
theorem KJ {f:Int→Bool} {l:List Int} {x:Int} (h0:l[0]?=some x) (hx:f x=true): ∀n:Nat,0<n→n≤l.length→ ∃j:Nat,ql f l n=j∧j<n
 |0,h,_=>by omega
 |n+1,_,hn=>by
  unfold ql
  rw[List.getElem?_eq_getElem (by omega)]
  simp only[]
  split
  ·exact⟨n,rfl,by omega⟩
  ·rename_i hf
   cases n with
   |zero=>
    rw[List.getElem?_eq_getElem (by omega)] at h0
    cases h0;exact absurd hx hf
   |succ n=>
    obtain⟨j,h1,h2⟩:=KJ h0 hx (n+1) (by omega) (by omega)
    exact⟨j,h1,by omega⟩
theorem KK {t:Tree} {k:Key} (h:eg t=true) (hk:gl k=true): ∃j:Nat,kV t k.b k.a=j∧j<t.nodes.length:=by
 have h1:=pX h
 have h2:=QN hk
 have h3:=R8 hk
 unfold kV
 have:=KJ (f:=fun x=>decide (x≤gm k.b k.a)) (R4 h) (by simp only[decide_eq_true_eq];omega) t.lows.length (by omega) (Nat.le_refl _)
 rw[h1.2.2] at this ⊢
 exact this
theorem QO (n:List (List Key)) (k:Key):aQ (cj n k).1≤aQ n+2:=by
 have h1:=Bj n k
 have h2:=Bk n k
 unfold aQ;omega
theorem TJ (t:Tree) (i c:Nat) (lows:List Int) (nodes:List (List (List Key))):tot aQ (ke t i c lows nodes).nodes≤tot aQ t.nodes+tot aQ nodes:=by
 have h:tot aQ (t.nodes.take i++t.nodes.drop i)=tot aQ t.nodes:=by rw[List.take_append_drop]
 have h2:tot aQ (t.nodes.drop (i+c))≤tot aQ (t.nodes.drop i):=by
  rw[←List.drop_drop]
  have h3:tot aQ ((t.nodes.drop i).take c++(t.nodes.drop i).drop c)=tot aQ (t.nodes.drop i):=by rw[List.take_append_drop]
  rw[Cu] at h3;omega
 unfold ke
 simp only[Cu] at h ⊢
 omega
theorem WQ {t:Tree} {i:Nat} {k:Key} (hl:t.lows.length=t.nodes.length) (hi:i<t.nodes.length) (ht: ∀n∈t.nodes,tot bH n≤8∧n.length≤3):
 tot aQ (jO t i k).nodes≤tot aQ t.nodes+40∧(jO t i k).nodes.length≤t.nodes.length+1∧(jO t i k).lows.length=(jO t i k).nodes.length:=by
 have hn:=ht t.nodes[i] (List.getElem_mem hi)
 have hg:t.nodes.getD i []=t.nodes[i]:=by rw[List.getD_eq_getElem?_getD,List.getElem?_eq_getElem hi];rfl
 have hp:=QO t.nodes[i] k
 have hk:=nV t.nodes[i] k
 have hz:aQ t.nodes[i]=t.nodes[i].length+tot bH t.nodes[i]:=rfl
 unfold jO
 rw[hg]
 generalize cq t.nodes[i] k=l at*
 have e1:=Dc (l.take ((l.length+1)/2))
 have e2:=Dc (l.drop ((l.length+1)/2))
 rw[List.length_take] at e1
 rw[List.length_drop] at e2
 have key: ∀(lows:List Int) (nodes:List (List (List Key))),lows.length=nodes.length→nodes.length≤2→tot aQ nodes≤40→tot aQ (ke t i 1 lows nodes).nodes≤tot aQ t.nodes+40∧(ke t i 1 lows nodes).nodes.length≤t.nodes.length+1∧(ke t i 1 lows nodes).lows.length=(ke t i 1 lows nodes).nodes.length:=by
  intro lows nodes h1 h2 h3
  have h4:=TJ t i 1 lows nodes
  have h5:=Bm t i 1 lows nodes (by omega)
  have h6:=ym t i 1 lows nodes (by omega)
  omega
 split
 ·split
  ·exact key _ _ rfl (by simp) (by simp[tot])
  ·exact key _ _ rfl (by simp) (by simp only[tot];omega)
 ·exact key _ _ rfl (by simp) (by simp only[tot];omega)
theorem OZ {t:Tree} (h:eg t=true): ∀n∈t.nodes,tot bH n≤8∧n.length≤3:=fun n hn=>by
 have:=Ct (uM h hn);omega
theorem QS {t:Tree} {i:Nat} {k:Key} (h:eg t=true) (hi:i<t.nodes.length):
 tot aQ (jO t i k).nodes+(jO t i k).nodes.length≤300∧(jO t i k).lows.length=(jO t i k).nodes.length∧cZ (kf (jO t i k).nodes.length (jO t i k))≤600:=by
 have h1:=pX h
 have h2:=KH h
 have h3:=WQ (k:=k) h1.2.2 hi (OZ h)
 have h4:=QM (jO t i k).nodes.length (jO t i k) h3.2.2
 refine⟨by omega,h3.2.2,?_⟩
 unfold cZ qk
 omega
theorem S2 {n:Nat} (h:8<n):(n+1)/2<n:=by omega
end Go.T
namespace Go.T
end Go.T
