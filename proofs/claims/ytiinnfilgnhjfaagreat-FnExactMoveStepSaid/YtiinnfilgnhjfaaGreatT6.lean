/- A run has one result; the formulas, simplified. The program's data as rows; what the formulas say of them. Rows that are written, as data. Loops over lists: how a run of them is told. What the program's functions come to, in plain Lean. What the program's functions come to: nodes, trees, pools. What the program's functions come to: maps, equality, steps. What the program's functions come to: volumes taken away. Draws: a cursor over bytes. Ages and volumes put in: what the functions come to. Maps put in, taken out, resized: what the functions come to. A key put into a node: what it comes to. Sets of keys stay in order; a node that takes no key has more than it may. An operation out of bytes. A key put into a tree: what it comes to. Sizes of what is right; keys put into pools; what is done to pools. A key put into a tree: sizes, and where it goes. Each cell that is used is of one key. -/
import Derived.Test.YtiinnfilgnhjfaaGreatT5
set_option linter.unusedVariables false
set_option linter.unusedSimpArgs false
namespace Go.T
def Uz (cf:Cf):Prop:= ∀f vs r fs r' fs',cf f vs r fs→cf f vs r' fs'→r=r'∧fs=fs'
def VO (lp:Lp):Prop:= ∀f i c st (Q Q':TX→TS→Prop),lp f i c st Q→lp f i c st Q'→ ∃x s,Q x s∧Q' x s
theorem ni {R:Type} {cf:Cf} {lp:Lp} (hc:Uz cf) (hl:VO lp) {Q Q':R→Prop}: ∀(e:Ev R),e.holds cf lp Q→e.holds cf lp Q'→ ∃r,Q r∧Q' r
 | .fail,h,_=>h.elim
 | .ret r,h,h'=>⟨r,h,h'⟩
 | .test b k,h,h'=>ni hc hl (k b) h h'
 | .row rows i k,⟨c,h1,h2⟩,⟨c',h1',h2'⟩=>by
   rw[h1] at h1';cases h1'
   exact ni hc hl (k c) h2 h2'
 | .byte rows i k,⟨c,h1,h2⟩,⟨c',h1',h2'⟩=>by
   rw[h1] at h1';cases h1'
   exact ni hc hl (k c) h2 h2'
 | .bytes rows k,⟨c,h1,h2⟩,⟨c',h1',h2'⟩=>by
   rw[h1] at h1';cases h1'
   exact ni hc hl (k c) h2 h2'
 | .call f vs k,⟨r,fs,h1,h2⟩,⟨r',fs',h1',h2'⟩=>by
   obtain⟨rfl,rfl⟩:=hc _ _ _ _ _ _ h1 h1'
   exact ni hc hl (k r fs) h2 h2'
 | .loop f i c st k,h,h'=>by
   obtain⟨x,s,h1,h2⟩:=hl _ _ _ _ _ _ h h'
   exact ni hc hl (k x s) h1 h2
 | .both a b,⟨r,h1,h2,h3⟩,⟨r',h1',h2',h3'⟩=>by
   obtain⟨r0,e1,e2⟩:=ni hc hl a h1 h1'
   subst e1 e2
   exact⟨_,h3,h3'⟩
section
variable {C : kr}
theorem N8 {cf:Cf} {lp:Lp} (hc:Uz cf) (hl:VO lp) {fx:List Nat} {f i:Nat} {c:Code} {Q Q':TX→TS→Prop}: ∀(n:Nat) (st:TS),iter C cf lp fx f i c Q n st→iter C cf lp fx f i c Q' n st→ ∃x s,Q x s∧Q' x s
 |0,_,h,_=>h.elim
 |n+1,st,h,h'=>by
  obtain⟨⟨x,s⟩,h1,h2⟩:=ni hc hl _ h h'
  cases x with
  |norm=>
   simp only at h1 h2
   rw[pU] at h1 h2
   exact N8 hc hl n _ h1 h2
  |ex id=>exact⟨_,_,h1,h2⟩
  |ret=>exact⟨_,_,h1,h2⟩
theorem QB {cf:Cf} (hc:Uz cf) (k:Nat) (fx:List Nat): ∀n,VO (OU C cf k fx n)
 |0=>fun _ _ _ _ _ _ h _=>h.elim
 |n+1=>fun f i c st Q Q' h h'=>N8 hc (QB hc k fx n) k st h h'
theorem D4: ∀k,Uz (gZ C k)
 |0=>fun _ _ _ _ _ _ h _=>h.elim
 |k+1=>fun f vs r fs r' fs' h h'=>by
  unfold gZ at h h'
  cases hx:C.ext f with
  |some p=>rw[hx] at h h';have h:p vs=some (r,fs):=h;have h':p vs=some (r',fs'):=h';rw[h] at h';cases h';exact⟨rfl,rfl⟩
  |none=>
  rw[hx] at h h'
  simp only at h h'
  obtain⟨p,h1,h2⟩:=ni (D4 k) (QB (D4 k) k _ 4) _ h h'
  rw[h1] at h2
  cases h2
  exact⟨rfl,rfl⟩
theorem aa.WJ {f:FuncId} {vs:List TV} {r r':TV} {fs fs':List TV} (h:aa C f vs r fs) (h':aa C f vs r' fs'):r'=r∧fs'=fs:=by
 obtain⟨k,h⟩:=h
 obtain⟨k',h'⟩:=h'
 obtain⟨h1,h2⟩:=D4 (max k k') _ _ _ _ _ _ (kU (Nat.le_max_left _ _) h) (kU (Nat.le_max_right _ _) h')
 exact⟨h1.symm,h2.symm⟩
end
def fu {α:Type} (l:List α) (i:Int):Option α:=if 0≤i then l[i.toNat]? else none
theorem aK {α:Type} (l:List α) (i:Nat):fu l (i:Int)=l[i]?:=by
 unfold fu;rw[if_pos (Int.natCast_nonneg i),Int.toNat_natCast]
theorem qa {α:Type} {l:List α} {i:Int} (h0:0≤i) (h1:i<l.length): ∃a,fu l i=some a:=by
 unfold fu;rw[if_pos h0];exact⟨_,List.getElem?_eq_getElem (by omega)⟩
theorem nj {α:Type} {l:List α} {i:Int} (h: ¬(0≤i∧i<l.length)):fu l i=none:=by
 unfold fu
 split
 ·exact List.getElem?_eq_none (by omega)
 ·rfl
theorem bN {α:Type} (e:α→List TC) (l:List α) (i:Int):rowAt (l.map e) i=(fu l i).map e:=by
 unfold rowAt fu
 split
 ·rw[List.getElem?_map]
 ·rfl
theorem S5 {α:Type} {l:List α} {i:Int} {a:α} (h:fu l i=some a):a∈l:=by
 unfold fu at h
 split at h
 ·exact List.mem_of_getElem? h
 ·cases h
def WK {α:Type} (l:List α) (i:Int) (a:α):List α:=l.set i.toNat a
theorem N9 {α:Type} {e:α→List TC} {l:List α} {i:Int} {a a':α} {f:Nat} {cs:List TC} (h:fu l i=some a) (he:(e a).take f++cs++(e a).drop (f+cs.length)=e a'):setRow (l.map e) i f cs=(WK l i a').map e:=by
 unfold fu at h
 split at h
 ·unfold setRow WK
  rw[List.getElem?_map,h]
  simp only[Option.map_some,he,List.map_set]
 ·cases h
@[simp] theorem cH {α:Type} (e:α→List TC) (l:List α) (a b:Int):au (l.map e) a b=((l.take b.toNat).drop a.toNat).map e:=by
  unfold au;rw[←List.map_take,←List.map_drop]
theorem rV {rows:List (List TC)} (h: ∀r∈rows,∀c∈r,∃v,c= .sc v):bR rows=true:=by
 unfold bR
 rw[List.all_eq_true]
 intro r hr
 rw[List.all_eq_true]
 intro c hc
 obtain⟨v,rfl⟩:=h r hr c hc
 rfl
@[simp] theorem D5 (s:ByteArray):(ByteArray.data s).1.length=s.size:=rfl
@[simp] theorem zZ (l h n:Int):cF l h n=decide (0≤l∧l≤h∧h≤n):=by unfold cF;rfl
end Go.T
namespace Go.T
structure Key where
 b:Int
 a:Int
 k:Int
 c:Int
 g:Int
 deriving DecidableEq
structure Age where
 id:Int
 fr:Int
 deriving DecidableEq
structure Cell where
 g:Int
 u:Bool
 n:Int
 deriving DecidableEq
structure Vol where
 name:ByteArray
 age:Int
 size:Int
 fx:Bool
structure Mp where
 name:ByteArray
 fx:Bool
 l:List Int
structure Tree where
 lows:List Int
 nodes:List (List (List Key))
structure Pool where
 t:Tree
 ages:List Age
 cells:List Cell
 vols:List Vol
 next:Int
structure S6 where
 kind:Int
 name:ByteArray
 to:ByteArray
 a:Int
 b:Int
abbrev iI (n:Int):TC:= .sc (.int .i64 n)
abbrev iB (b:Bool):TC:= .sc (.bool b)
abbrev iS (s:ByteArray):TC:= .sc (.string s)
abbrev cI (n:Int):CE:= .sc (.int .i64 n)
abbrev cB (b:Bool):CE:= .sc (.bool b)
abbrev cS (s:ByteArray):CE:= .sc (.string s)
abbrev az (a b:Int):Int:=OL .i64 a b
abbrev c7 (a b:Int):Int:=HU .i64 a b
abbrev UA (a b:Int):Int:=OM .i64 a b
theorem aJ {a b:Int} (h: -9223372036854775808≤a+b∧a+b≤9223372036854775807):az a b=a+b:=Uu h
theorem eE {a b:Int} (h: -9223372036854775808≤a-b∧a-b≤9223372036854775807):c7 a b=a-b:=Uv h
theorem UB {a b:Int} (h: -9223372036854775808≤a*b∧a*b≤9223372036854775807):UA a b=a*b:=Uw h
abbrev RR:=List (List TC)
abbrev QV:=TV→List TV→Prop
abbrev QX:=TX→TS→Prop
abbrev sI:Sh:= .int .i64
abbrev sB:Sh:= .bool
abbrev sS:Sh:= .str
abbrev hz:Hint:= .z
abbrev hb:Hint→Hint→Hint:= .br
abbrev hr:List Sh→Hint→Hint:= .row
abbrev hc:aA→List aA→Hint→Hint:= .call
abbrev WL:ByteArray:=⟨#[]⟩
def bM (n:Int):List TC:=[.sc (.int .i64 n)]
def z5 (n:Int):List TC:=[.sc (.int .u8 n)]
def FB (n:Bool):List TC:=[.sc (.bool n)]
def bK (x:Key):List TC:=[.sc (.int .i64 x.b),.sc (.int .i64 x.a),.sc (.int .i64 x.k),.sc (.int .i64 x.c),.sc (.int .i64 x.g)]
def dK (x:Age):List TC:=[.sc (.int .i64 x.id),.sc (.int .i64 x.fr)]
def bX (x:Cell):List TC:=[.sc (.int .i64 x.g),.sc (.bool x.u),.sc (.int .i64 x.n)]
def ek (x:Vol):List TC:=[.sc (.string x.name),.sc (.int .i64 x.age),.sc (.int .i64 x.size),.sc (.bool x.fx)]
def MH (x:S6):List TC:=[.sc (.int .i64 x.kind),.sc (.string x.name),.sc (.string x.to),.sc (.int .i64 x.a),.sc (.int .i64 x.b)]
def D6 (x:Mp):List TC:=[.sc (.string x.name),.sc (.bool x.fx),.sub 1 (x.l.map bM)]
def S7 (x:List Int):List TC:=[.sub 1 (x.map z5)]
def bZ (x:List Key):List TC:=[.sub 5 (x.map bK)]
def aV (x:List (List Key)):List TC:=[.sub 1 (x.map bZ)]
abbrev QC (t:Tree):List TC:=[.sub 1 (t.lows.map bM),.sub 1 (t.nodes.map aV)]
abbrev Vd (p:Pool):List TC:=[.sub 1 (p.t.lows.map bM),.sub 1 (p.t.nodes.map aV),.sub 2 (p.ages.map dK),.sub 3 (p.cells.map bX),.sub 4 (p.vols.map ek),.sc (.int .i64 p.next)]
abbrev vI (n:Int):TV:= .c (.sc (.int .i64 n))
abbrev vB (b:Bool):TV:= .c (.sc (.bool b))
abbrev vS (s:ByteArray):TV:= .c (.sc (.string s))
abbrev pQ (l:List Int):TV:= .c (.sub 1 (l.map bM))
abbrev cO (l:List Key):TV:= .c (.sub 5 (l.map bK))
abbrev CP (l:List (List Key)):TV:= .c (.sub 1 (l.map bZ))
abbrev rW (l:List (List (List Key))):TV:= .c (.sub 1 (l.map aV))
abbrev jG (l:List Age):TV:= .c (.sub 2 (l.map dK))
abbrev fy (l:List Cell):TV:= .c (.sub 3 (l.map bX))
abbrev z6 (l:List Vol):TV:= .c (.sub 4 (l.map ek))
abbrev zB (k:Key):TV:= .ag [.sc (.int .i64 k.b),.sc (.int .i64 k.a),.sc (.int .i64 k.k),.sc (.int .i64 k.c),.sc (.int .i64 k.g)]
abbrev fP (n:List (List Key)):TV:= .ag [.sub 1 (n.map bZ)]
abbrev dH (t:Tree):TV:= .ag (QC t)
abbrev ki (p:Pool):TV:= .ag (Vd p)
section
variable {i : Int}
@[simp] theorem u7 {l:List Int} {K:Int→Prop}:(∃n,rowAt (l.map bM) i=some [.sc (.int .i64 n)]∧K n)↔ ∃a,fu l i=some a∧K a:=by
  rw[bN]
  constructor
  ·rintro⟨n,h,hK⟩
   obtain⟨a,ha,h⟩:=Option.map_eq_some_iff.1 h
   unfold bM at h;cases h;exact⟨_,ha,hK⟩
  ·rintro⟨a,ha,hK⟩
   exact⟨_,by rw[ha];rfl,hK⟩
@[simp] theorem W6 {l:List Int} {K:Int→Prop}:(∃n,rowAt (l.map z5) i=some [.sc (.int .u8 n)]∧K n)↔ ∃a,fu l i=some a∧K a:=by
  rw[bN]
  constructor
  ·rintro⟨n,h,hK⟩
   obtain⟨a,ha,h⟩:=Option.map_eq_some_iff.1 h
   unfold z5 at h;cases h;exact⟨_,ha,hK⟩
  ·rintro⟨a,ha,hK⟩
   exact⟨_,by rw[ha];rfl,hK⟩
@[simp] theorem UC {l:List Bool} {K:Bool→Prop}:(∃n,rowAt (l.map FB) i=some [.sc (.bool n)]∧K n)↔ ∃a,fu l i=some a∧K a:=by
  rw[bN]
  constructor
  ·rintro⟨n,h,hK⟩
   obtain⟨a,ha,h⟩:=Option.map_eq_some_iff.1 h
   unfold FB at h;cases h;exact⟨_,ha,hK⟩
  ·rintro⟨a,ha,hK⟩
   exact⟨_,by rw[ha];rfl,hK⟩
@[simp] theorem mo {l:List Key} {K:Int→Int→Int→Int→Int→Prop}:(∃b a k c g,rowAt (l.map bK) i=some [.sc (.int .i64 b),.sc (.int .i64 a),.sc (.int .i64 k),.sc (.int .i64 c),.sc (.int .i64 g)]∧K b a k c g)↔ ∃x,fu l i=some x∧K x.b x.a x.k x.c x.g:=by
  rw[bN]
  constructor
  ·rintro⟨_,_,_,_,_,h,hK⟩
   obtain⟨a,ha,h⟩:=Option.map_eq_some_iff.1 h
   unfold bK at h;cases h;exact⟨_,ha,hK⟩
  ·rintro⟨a,ha,hK⟩
   exact⟨_,_,_,_,_,by rw[ha];rfl,hK⟩
@[simp] theorem u9 {l:List Age} {K:Int→Int→Prop}:(∃b a,rowAt (l.map dK) i=some [.sc (.int .i64 b),.sc (.int .i64 a)]∧K b a)↔ ∃x,fu l i=some x∧K x.id x.fr:=by
  rw[bN]
  constructor
  ·rintro⟨_,_,h,hK⟩
   obtain⟨a,ha,h⟩:=Option.map_eq_some_iff.1 h
   unfold dK at h;cases h;exact⟨_,ha,hK⟩
  ·rintro⟨a,ha,hK⟩
   exact⟨_,_,by rw[ha];rfl,hK⟩
@[simp] theorem kk {l:List Cell} {K:Int→Bool→Int→Prop}:(∃g u n,rowAt (l.map bX) i=some [.sc (.int .i64 g),.sc (.bool u),.sc (.int .i64 n)]∧K g u n)↔ ∃x,fu l i=some x∧K x.g x.u x.n:=by
  rw[bN]
  constructor
  ·rintro⟨_,_,_,h,hK⟩
   obtain⟨a,ha,h⟩:=Option.map_eq_some_iff.1 h
   unfold bX at h;cases h;exact⟨_,ha,hK⟩
  ·rintro⟨a,ha,hK⟩
   exact⟨_,_,_,by rw[ha];rfl,hK⟩
@[simp] theorem D7 {l:List Vol} {K:ByteArray→Int→Int→Bool→Prop}:(∃s a z f,rowAt (l.map ek) i=some [.sc (.string s),.sc (.int .i64 a),.sc (.int .i64 z),.sc (.bool f)]∧K s a z f)↔ ∃x,fu l i=some x∧K x.name x.age x.size x.fx:=by
  rw[bN]
  constructor
  ·rintro⟨_,_,_,_,h,hK⟩
   obtain⟨a,ha,h⟩:=Option.map_eq_some_iff.1 h
   unfold ek at h;cases h;exact⟨_,ha,hK⟩
  ·rintro⟨a,ha,hK⟩
   exact⟨_,_,_,_,by rw[ha];rfl,hK⟩
@[simp] theorem XF {l:List S6} {K:Int→ByteArray→ByteArray→Int→Int→Prop}:(∃k s t a b,rowAt (l.map MH) i=some [.sc (.int .i64 k),.sc (.string s),.sc (.string t),.sc (.int .i64 a),.sc (.int .i64 b)]∧K k s t a b)↔ ∃x,fu l i=some x∧K x.kind x.name x.to x.a x.b:=by
  rw[bN]
  constructor
  ·rintro⟨_,_,_,_,_,h,hK⟩
   obtain⟨a,ha,h⟩:=Option.map_eq_some_iff.1 h
   unfold MH at h;cases h;exact⟨_,ha,hK⟩
  ·rintro⟨a,ha,hK⟩
   exact⟨_,_,_,_,_,by rw[ha];rfl,hK⟩
@[simp] theorem Xu {l:List Mp} {K:ByteArray→Bool→List (List TC)→Prop}:(∃s f r,rowAt (l.map D6) i=some [.sc (.string s),.sc (.bool f),.sub 1 r]∧K s f r)↔ ∃x,fu l i=some x∧K x.name x.fx (x.l.map bM):=by
  rw[bN]
  constructor
  ·rintro⟨_,_,_,h,hK⟩
   obtain⟨a,ha,h⟩:=Option.map_eq_some_iff.1 h
   unfold D6 at h;cases h;exact⟨_,ha,hK⟩
  ·rintro⟨a,ha,hK⟩
   exact⟨_,_,_,by rw[ha];rfl,hK⟩
@[simp] theorem rX {l:List (List Key)} {K:List (List TC)→Prop}:(∃r,rowAt (l.map bZ) i=some [.sub 5 r]∧K r)↔ ∃x,fu l i=some x∧K (x.map bK):=by
  rw[bN]
  constructor
  ·rintro⟨_,h,hK⟩
   obtain⟨a,ha,h⟩:=Option.map_eq_some_iff.1 h
   unfold bZ at h;cases h;exact⟨_,ha,hK⟩
  ·rintro⟨a,ha,hK⟩
   exact⟨_,by rw[ha];rfl,hK⟩
@[simp] theorem q9 {l:List (List (List Key))} {K:List (List TC)→Prop}:(∃r,rowAt (l.map aV) i=some [.sub 1 r]∧K r)↔ ∃x,fu l i=some x∧K (x.map bZ):=by
  rw[bN]
  constructor
  ·rintro⟨_,h,hK⟩
   obtain⟨a,ha,h⟩:=Option.map_eq_some_iff.1 h
   unfold aV at h;cases h;exact⟨_,ha,hK⟩
  ·rintro⟨a,ha,hK⟩
   exact⟨_,by rw[ha];rfl,hK⟩
@[simp] theorem WM {l:List (List Int)} {K:List (List TC)→Prop}:(∃r,rowAt (l.map S7) i=some [.sub 1 r]∧K r)↔ ∃x,fu l i=some x∧K (x.map z5):=by
  rw[bN]
  constructor
  ·rintro⟨_,h,hK⟩
   obtain⟨a,ha,h⟩:=Option.map_eq_some_iff.1 h
   unfold S7 at h;cases h;exact⟨_,ha,hK⟩
  ·rintro⟨a,ha,hK⟩
   exact⟨_,by rw[ha];rfl,hK⟩
end
theorem fz (n:Nat):Int.ofNat n=(n:Int):=rfl
@[simp] theorem natAdd (a b:Nat):Nat.add a b=a+b:=rfl
@[simp] theorem QD {α:Type} (a b:List α):List.append a b=a++b:=rfl
theorem jv (l:List Int):bR (l.map bM)=true:=rV fun r hr c hc=>by
 obtain⟨a,_,rfl⟩:=List.mem_map.1 hr;unfold bM at hc;simp only[List.mem_singleton] at hc;exact⟨_,hc⟩
theorem Py (l:List Int):bR (l.map z5)=true:=rV fun r hr c hc=>by
 obtain⟨a,_,rfl⟩:=List.mem_map.1 hr;unfold z5 at hc;simp only[List.mem_singleton] at hc;exact⟨_,hc⟩
theorem jw (l:List Key):bR (l.map bK)=true:=rV fun r hr c hc=>by
 obtain⟨a,_,rfl⟩:=List.mem_map.1 hr;unfold bK at hc;simp only[List.mem_cons,List.not_mem_nil,or_false] at hc
 rcases hc with h|h|h|h|h<;>exact⟨_,h⟩
theorem A5 (l:List Age):bR (l.map dK)=true:=rV fun r hr c hc=>by
 obtain⟨a,_,rfl⟩:=List.mem_map.1 hr;unfold dK at hc;simp only[List.mem_cons,List.not_mem_nil,or_false] at hc
 rcases hc with h|h<;>exact⟨_,h⟩
theorem BL (l:List Cell):bR (l.map bX)=true:=rV fun r hr c hc=>by
 obtain⟨a,_,rfl⟩:=List.mem_map.1 hr;unfold bX at hc;simp only[List.mem_cons,List.not_mem_nil,or_false] at hc
 rcases hc with h|h|h<;>exact⟨_,h⟩
theorem A6 (l:List Vol):bR (l.map ek)=true:=rV fun r hr c hc=>by
 obtain⟨a,_,rfl⟩:=List.mem_map.1 hr;unfold ek at hc;simp only[List.mem_cons,List.not_mem_nil,or_false] at hc
 rcases hc with h|h|h|h<;>exact⟨_,h⟩
@[simp] theorem S8 (v:Value):bR [[.sc v]]=true:=rV fun r hr c hc=>by
  simp only[List.mem_singleton] at hr;subst hr;simp only[List.mem_singleton] at hc;exact⟨_,hc⟩
attribute [simp] jv Py jw A5 BL A6
end Go.T
namespace Go.T
theorem D8 {α:Type} (g:α→α): ∀(l:List α) (i:Nat) (a:α),l[i]?=some a→l.modify i g=l.set i (g a)
 |[],i,a,h=>by simp at h
 |x::r,0,a,h=>by simp only[List.getElem?_cons_zero,Option.some.injEq] at h;subst h;rfl
 |x::r,i+1,a,h=>by
  simp only[List.getElem?_cons_succ] at h
  rw[List.modify_succ_cons,List.set_cons_succ,D8 g r i a h]
theorem bU {α:Type} {e:α→List TC} {l:List α} {i:Int} {f:Nat} {cs:List TC} {g:α→α} (he: ∀a,(e a).take f++cs++(e a).drop (f+cs.length)=e (g a)):setRow (l.map e) i f cs=(l.modify i.toNat g).map e:=by
 unfold setRow
 rw[List.getElem?_map]
 cases h:l[i.toNat]? with
 |none=>
  have:l.length≤i.toNat:=List.getElem?_eq_none_iff.1 h
  simp only[Option.map_none]
  rw[List.modify_eq_self this]
 |some a=>
  simp only[Option.map_some]
  rw[he,D8 g l _ a h,List.map_set]
theorem lD {α:Type} {l:List α} {i:Int} {g:α→α}:fu (l.modify i.toNat g) i=(fu l i).map g:=by
 unfold fu
 split
 ·simp
 ·rfl
theorem mod_mod {α:Type} {l:List α} {i:Nat} {f g:α→α}:(l.modify i f).modify i g=l.modify i (fun x=>g (f x)):=by
 rw[List.modify_modify_eq];rfl
theorem gj {α β:Type} {o:Option α} {f:α→β} {K:β→Prop}:(∃x,o.map f=some x∧K x)↔ ∃x,o=some x∧K (f x):=by
 cases o with
 |none=>simp
 |some a=>simp
theorem jH {α:Type} {d r:List α} {a:α}:fu (d++a::r) (d.length:Int)=some a:=by
 rw[aK];simp
theorem xm {α:Type} {d r:List α} {a:α} {f:α→α}:(d++a::r).modify ((d.length:Int).toNat) f=d++f a::r:=by
 rw[Int.toNat_natCast,D8 f _ _ a (by simp)]
 simp
@[simp] theorem S9 {l:List Key} {i:Int} {v:Int}:setRow (l.map bK) i 0 [.sc (.int .i64 v)]=(l.modify i.toNat fun x=>{x with b:=v}).map bK:=bU fun a=>rfl
@[simp] theorem Ta {l:List Key} {i:Int} {v:Int}:setRow (l.map bK) i 1 [.sc (.int .i64 v)]=(l.modify i.toNat fun x=>{x with a:=v}).map bK:=bU fun a=>rfl
@[simp] theorem Tb {l:List Key} {i:Int} {v:Int}:setRow (l.map bK) i 2 [.sc (.int .i64 v)]=(l.modify i.toNat fun x=>{x with k:=v}).map bK:=bU fun a=>rfl
@[simp] theorem Tc {l:List Key} {i:Int} {v:Int}:setRow (l.map bK) i 3 [.sc (.int .i64 v)]=(l.modify i.toNat fun x=>{x with c:=v}).map bK:=bU fun a=>rfl
@[simp] theorem Td {l:List Key} {i:Int} {v:Int}:setRow (l.map bK) i 4 [.sc (.int .i64 v)]=(l.modify i.toNat fun x=>{x with g:=v}).map bK:=bU fun a=>rfl
@[simp] theorem VP {l:List Key} {i:Int} {v0:Int} {v1:Int} {v2:Int} {v3:Int} {v4:Int}:setRow (l.map bK) i 0 [.sc (.int .i64 v0),.sc (.int .i64 v1),.sc (.int .i64 v2),.sc (.int .i64 v3),.sc (.int .i64 v4)]=(l.modify i.toNat fun _=>⟨v0,v1,v2,v3,v4⟩).map bK:=bU fun a=>rfl
@[simp] theorem Rj {l:List Age} {i:Int} {v:Int}:setRow (l.map dK) i 0 [.sc (.int .i64 v)]=(l.modify i.toNat fun x=>{x with id:=v}).map dK:=bU fun a=>rfl
@[simp] theorem Rk {l:List Age} {i:Int} {v:Int}:setRow (l.map dK) i 1 [.sc (.int .i64 v)]=(l.modify i.toNat fun x=>{x with fr:=v}).map dK:=bU fun a=>rfl
@[simp] theorem VQ {l:List Age} {i:Int} {v0:Int} {v1:Int}:setRow (l.map dK) i 0 [.sc (.int .i64 v0),.sc (.int .i64 v1)]=(l.modify i.toNat fun _=>⟨v0,v1⟩).map dK:=bU fun a=>rfl
@[simp] theorem Rl {l:List Cell} {i:Int} {v:Int}:setRow (l.map bX) i 0 [.sc (.int .i64 v)]=(l.modify i.toNat fun x=>{x with g:=v}).map bX:=bU fun a=>rfl
@[simp] theorem D9 {l:List Cell} {i:Int} {v:Bool}:setRow (l.map bX) i 1 [.sc (.bool v)]=(l.modify i.toNat fun x=>{x with u:=v}).map bX:=bU fun a=>rfl
@[simp] theorem Ea {l:List Cell} {i:Int} {v:Int}:setRow (l.map bX) i 2 [.sc (.int .i64 v)]=(l.modify i.toNat fun x=>{x with n:=v}).map bX:=bU fun a=>rfl
@[simp] theorem MI {l:List Cell} {i:Int} {v0:Int} {v1:Bool} {v2:Int}:setRow (l.map bX) i 0 [.sc (.int .i64 v0),.sc (.bool v1),.sc (.int .i64 v2)]=(l.modify i.toNat fun _=>⟨v0,v1,v2⟩).map bX:=bU fun a=>rfl
@[simp] theorem Oa {l:List Vol} {i:Int} {v:ByteArray}:setRow (l.map ek) i 0 [.sc (.string v)]=(l.modify i.toNat fun x=>{x with name:=v}).map ek:=bU fun a=>rfl
@[simp] theorem Pz {l:List Vol} {i:Int} {v:Int}:setRow (l.map ek) i 1 [.sc (.int .i64 v)]=(l.modify i.toNat fun x=>{x with age:=v}).map ek:=bU fun a=>rfl
@[simp] theorem Ob {l:List Vol} {i:Int} {v:Int}:setRow (l.map ek) i 2 [.sc (.int .i64 v)]=(l.modify i.toNat fun x=>{x with size:=v}).map ek:=bU fun a=>rfl
@[simp] theorem Rm {l:List Vol} {i:Int} {v:Bool}:setRow (l.map ek) i 3 [.sc (.bool v)]=(l.modify i.toNat fun x=>{x with fx:=v}).map ek:=bU fun a=>rfl
@[simp] theorem VR {l:List Vol} {i:Int} {v0:ByteArray} {v1:Int} {v2:Int} {v3:Bool}:setRow (l.map ek) i 0 [.sc (.string v0),.sc (.int .i64 v1),.sc (.int .i64 v2),.sc (.bool v3)]=(l.modify i.toNat fun _=>⟨v0,v1,v2,v3⟩).map ek:=bU fun a=>rfl
@[simp] theorem VS {l:List S6} {i:Int} {v:Int}:setRow (l.map MH) i 0 [.sc (.int .i64 v)]=(l.modify i.toNat fun x=>{x with kind:=v}).map MH:=bU fun a=>rfl
@[simp] theorem VT {l:List S6} {i:Int} {v:ByteArray}:setRow (l.map MH) i 1 [.sc (.string v)]=(l.modify i.toNat fun x=>{x with name:=v}).map MH:=bU fun a=>rfl
@[simp] theorem WN {l:List S6} {i:Int} {v:ByteArray}:setRow (l.map MH) i 2 [.sc (.string v)]=(l.modify i.toNat fun x=>{x with to:=v}).map MH:=bU fun a=>rfl
@[simp] theorem W7 {l:List S6} {i:Int} {v:Int}:setRow (l.map MH) i 3 [.sc (.int .i64 v)]=(l.modify i.toNat fun x=>{x with a:=v}).map MH:=bU fun a=>rfl
@[simp] theorem W8 {l:List S6} {i:Int} {v:Int}:setRow (l.map MH) i 4 [.sc (.int .i64 v)]=(l.modify i.toNat fun x=>{x with b:=v}).map MH:=bU fun a=>rfl
@[simp] theorem XG {l:List S6} {i:Int} {v0:Int} {v1:ByteArray} {v2:ByteArray} {v3:Int} {v4:Int}:setRow (l.map MH) i 0 [.sc (.int .i64 v0),.sc (.string v1),.sc (.string v2),.sc (.int .i64 v3),.sc (.int .i64 v4)]=(l.modify i.toNat fun _=>⟨v0,v1,v2,v3,v4⟩).map MH:=bU fun a=>rfl
@[simp] theorem Ve {l:List Mp} {i:Int} {v:ByteArray}:setRow (l.map D6) i 0 [.sc (.string v)]=(l.modify i.toNat fun x=>{x with name:=v}).map D6:=bU fun a=>rfl
@[simp] theorem Ws {l:List Mp} {i:Int} {v:Bool}:setRow (l.map D6) i 1 [.sc (.bool v)]=(l.modify i.toNat fun x=>{x with fx:=v}).map D6:=bU fun a=>rfl
@[simp] theorem WO {l:List Mp} {i:Int} {v:List Int}:setRow (l.map D6) i 2 [.sub 1 (v.map bM)]=(l.modify i.toNat fun x=>{x with l:=v}).map D6:=bU fun a=>rfl
@[simp] theorem Xv {l:List Mp} {i:Int} {v0:ByteArray} {v1:Bool} {v2:List Int}:setRow (l.map D6) i 0 [.sc (.string v0),.sc (.bool v1),.sub 1 (v2.map bM)]=(l.modify i.toNat fun _=>⟨v0,v1,v2⟩).map D6:=bU fun a=>rfl
@[simp] theorem VU {l:List (Int)} {i:Int} {v:Int}:setRow (l.map bM) i 0 [.sc (.int .i64 v)]=(l.modify i.toNat fun _=>v).map bM:=bU fun a=>rfl
@[simp] theorem W9 {l:List (Int)} {i:Int} {v:Int}:setRow (l.map z5) i 0 [.sc (.int .u8 v)]=(l.modify i.toNat fun _=>v).map z5:=bU fun a=>rfl
@[simp] theorem UD {l:List (Bool)} {i:Int} {v:Bool}:setRow (l.map FB) i 0 [.sc (.bool v)]=(l.modify i.toNat fun _=>v).map FB:=bU fun a=>rfl
@[simp] theorem VV {l:List (List Key)} {i:Int} {v:List Key}:setRow (l.map bZ) i 0 [.sub 5 (v.map bK)]=(l.modify i.toNat fun _=>v).map bZ:=bU fun a=>rfl
@[simp] theorem UE {l:List (List (List Key))} {i:Int} {v:List (List Key)}:setRow (l.map aV) i 0 [.sub 1 (v.map bZ)]=(l.modify i.toNat fun _=>v).map aV:=bU fun a=>rfl
end Go.T
namespace Go.T
theorem bE {α:Type} (l:List α) (P:Nat→Prop) (fin:P l.length) (step: ∀i a,i<l.length→l[i]?=some a→l.drop i=a::l.drop (i+1)→l.take (i+1)=l.take i++[a]→P (i+1)→P i):P 0:=by
 have: ∀k i,i+k=l.length→P i:=by
  intro k
  induction k with
  |zero=>intro i h;have:i=l.length:=by omega
         subst this;exact fin
  |succ k ih=>
   intro i h
   have hi:i<l.length:=by omega
   refine step i l[i] hi (List.getElem?_eq_getElem hi) (List.drop_eq_getElem_cons hi) ?_ (ih (i+1) (by omega))
   rw[List.take_add_one,List.getElem?_eq_getElem hi];rfl
 exact this l.length 0 (by omega)
theorem xo {α:Type} {e:α→List TC} {z:List TC} (l:List α) (P:Int→RR→Prop) (hz: ∀a,(e a).length=z.length) (fin:P l.length (l.map e))
 (step: ∀(i:Nat) rows a,i<l.length→l[i]?=some a→rowAt rows i=some z→P ((i:Int)+1) (setRow rows i 0 (e a))→P i rows):P 0 (List.replicate l.length z):=by
 have: ∀i:Nat,i≤l.length→P (i:Int) ((l.take i).map e++List.replicate (l.length-i) z)→P 0 (List.replicate l.length z):=by
  intro i
  induction i with
  |zero=>intro _ h;simpa using h
  |succ i ih=>
   intro hi h
   refine ih (by omega) ?_
   have hlt:i<l.length:=by omega
   have ha:=List.getElem?_eq_getElem hlt
   have hk:l.length-i=(l.length-(i+1))+1:=by omega
   rw[hk]
   refine step i _ l[i] hlt ha (S3 (by omega)) ?_
   rw[N5 (e:=e) ha rfl (hz _).symm]
   exact h
 refine this l.length (Nat.le_refl _) ?_
 simpa using fin
def tot {α:Type} (w:α→Nat):List α→Nat
 |[]=>0
 |a::r=>w a+tot w r
def fq {α:Type} (mk:α→Int→α) (w:α→Nat):List α→Int→List α
 |[],_=>[]
 |a::r,k=>mk a k::fq mk w r (k+w a)
theorem rF {α:Type} {e:α→List TC} (mk:α→Int→α) (w:α→Nat) (P:Int→Int→RR→Prop) (B:Int)
 (step: ∀(d:List α) a r (k:Int),0≤k→k+w a≤B→d.length<1099511627776→P (k+w a) ((d.length:Int)+1) ((d++mk a k::r).map e)→P k d.length ((d++a::r).map e)):
 ∀(r d:List α) (k:Int),0≤k→k+tot w r≤B→d.length+r.length≤1099511627776→P (k+tot w r) ((d.length+r.length:Nat):Int) ((d++fq mk w r k).map e)→P k d.length ((d++r).map e)
 |[],d,k,_,_,_,h=>by simpa [fq,tot] using h
 |a::r,d,k,h0,h1,h2,h=>by
  simp only[tot,List.length_cons] at h1 h2 h
  refine step d a r k h0 (by omega) (by omega) ?_
  have:=rF mk w P B step r (d++[mk a k]) (k+w a) (by omega) (by omega) (by simp;omega) (by
   simp only[List.append_assoc,List.singleton_append,List.length_append,List.length_singleton]
   rw[show k+(w a:Int)+(tot w r:Int)=k+((w a+tot w r:Nat):Int) by omega,show d.length+1+r.length=d.length+(r.length+1) by omega]
   exact h)
  simpa using this
theorem rG {α:Type} {e:α→List TC} (mk:α→Int→α) (w:α→Nat) (P:Int→Int→RR→Prop) (B:Int)
 (step: ∀(d:List α) a r (k:Int),0≤k→k+w a≤B→d.length<1099511627776→P (k+w a) ((d.length:Int)+1) ((d++mk a k::r).map e)→P k d.length ((d++mk a k::r).map e)):
 ∀(r d:List α) (k:Int),0≤k→k+tot w r≤B→d.length+r.length≤1099511627776→P (k+tot w r) ((d.length+r.length:Nat):Int) ((d++fq mk w r k).map e)→P k d.length ((d++fq mk w r k).map e)
 |[],d,k,_,_,_,h=>by simpa [fq,tot] using h
 |a::r,d,k,h0,h1,h2,h=>by
  simp only[tot,List.length_cons,fq] at h1 h2 h ⊢
  refine step d a _ k h0 (by omega) (by omega) ?_
  have:=rG mk w P B step r (d++[mk a k]) (k+w a) (by omega) (by omega) (by simp;omega) (by
   simp only[List.append_assoc,List.singleton_append,List.length_append,List.length_singleton]
   rw[show k+(w a:Int)+(tot w r:Int)=k+((w a+tot w r:Nat):Int) by omega,show d.length+1+r.length=d.length+(r.length+1) by omega]
   exact h)
  simpa using this
theorem rH {α:Type} (n:Nat): ∀l:List α,tot (fun _=>n) l=n*l.length
 |[]=>rfl
 |a::r=>by simp only[tot,rH n r,List.length_cons,Nat.mul_add];omega
theorem kD {α:Type} (mk:α→Int→α) (w:α→Nat): ∀(l:List α) (k:Int),(fq mk w l k).length=l.length
 |[],_=>rfl
 |a::r,k=>by simp[fq,kD mk w r]
theorem qg {α:Type} {w:α→Nat}: ∀{l:List α} {a:α},a∈l→w a≤tot w l
 |[],_,h=>by cases h
 |b::r,a,h=>by
  simp only[tot]
  rcases List.mem_cons.1 h with rfl|h
  ·omega
  ·have:=qg (w:=w) h;omega
theorem jI {α:Type} {w:α→Nat} {l:List α} {i:Nat} {a:α} (h:l[i]?=some a):w a≤tot w l:=qg (List.mem_of_getElem? h)
def bJ (s:List Key):Nat:=s.length
def aR (n:List (List Key)):Nat:=n.length+tot bJ n
def o9 (n:List (List (List Key))):Nat:=n.length+tot aR n
def dO (t:Tree):Nat:=t.lows.length+o9 t.nodes
def oR (v:Vol):Nat:=v.name.size
def Eb (l:List Vol):Nat:=l.length+tot oR l
def eF (p:Pool):Nat:=dO p.t+p.ages.length+p.cells.length+Eb p.vols
def kX (left:Int) (n:Nat):Int:=if left<n then-1 else left-n
end Go.T
namespace Go.T
section
variable {C : kr} {f : FuncId} {vs : List TV}
theorem rj {x b:Bool} (h:aa C f vs (vB x) []):aa C f vs (vB b) []↔b=x:=⟨fun h'=>by have:=(h.WJ h').1;simpa using this,fun e=>e▸h⟩
theorem Te {x b:Int} (h:aa C f vs (vI x) []):aa C f vs (vI b) []↔b=x:=⟨fun h'=>by have:=(h.WJ h').1;simpa using this,fun e=>e▸h⟩
theorem Xw {x b:ByteArray} (h:aa C f vs (vS x) []):aa C f vs (vS b) []↔b=x:=⟨fun h'=>by have:=(h.WJ h').1;simpa using this,fun e=>e▸h⟩
theorem Oc {z:Nat} {x b:RR} (h:aa C f vs (.c (.sub z x)) []):aa C f vs (.c (.sub z b)) []↔b=x:=⟨fun h'=>by have:=(h.WJ h').1;simpa using this,fun e=>e▸h⟩
theorem Vf {x b:Int} {y c:Bool} (h:aa C f vs (.tu [(0,[iI x]),(0,[iB y])]) []):aa C f vs (.tu [(0,[iI b]),(0,[iB c])]) []↔b=x∧c=y:=⟨fun h'=>by have:=(h.WJ h').1;simpa using this,fun⟨e,e'⟩=>e▸e'▸h⟩
end
theorem LP {s:ByteArray} {i:Nat} (h:i<s.size): ∃n:Int,pR s i=some n∧0≤n∧n≤255:=by
 unfold pR
 rw[if_pos (Int.natCast_nonneg i),Int.toNat_natCast]
 have:s[i]?=some s[i]:=getElem?_pos s i h
 rw[this]
 have:=(s[i]).toNat_lt
 refine⟨_,rfl,?_,?_⟩<;>show _≤_<;>simp only[]<;>omega
theorem Od {n:Int} (h: -9223372036854775808≤n∧n≤9223372036854775807):qL .i64 n=n:=by unfold qL;exact IntWalk.i64_in _ h
def iJ (a lo hi:Int):Bool:=decide (lo≤a∧a≤hi)
def mu (a:Int):Bool:=iJ a 0 65535
def fR (x:Key):Bool:=iJ x.b 0 15&&iJ x.a 1 60&&iJ x.k 0 2&&(if x.k=1 then iJ x.c 0 23&&iJ x.g 0 999 else decide (x.c=0)&&decide (x.g=0))
def dr (x y:Key):Bool:=decide (x.b<y.b∨(x.b=y.b∧x.a<y.a))
def kE (x y:Key):Bool:=decide (x.b=y.b∧x.a=y.a)
def cE (n:Nat) (f:Nat→Bool):Bool:=(List.range' 0 n).all f
theorem jg {i n:Nat} (h:i<n):List.range' i (n-i)=i::List.range' (i+1) (n-(i+1)):=by
 obtain⟨k,hk⟩: ∃k,n-i=k+1:=⟨n-i-1,by omega⟩
 rw[hk,show n-(i+1)=k by omega]
 rfl
theorem m0 (n:Nat) (P:Nat→Prop) (fin:P n) (step: ∀i,i<n→P (i+1)→P i):P 0:=by
 have: ∀k i,i+k=n→P i:=by
  intro k
  induction k with
  |zero=>intro i h;have:i=n:=by omega
         subst this;exact fin
  |succ k ih=>intro i h;exact step i (by omega) (ih (i+1) (by omega))
 exact this n 0 (by omega)
theorem QE {α:Type} (f g:α→Bool): ∀l:List α,l.all (fun x=>f x&&g x)=(l.all f&&l.all g)
 |[]=>rfl
 |a::r=>by simp only[List.all_cons,QE f g r];cases f a<;>cases g a<;>simp
theorem Tf (n:Nat) (f g:Nat→Bool):cE n (fun i=>f i&&g i)=(cE n f&&cE n g):=QE f g _
theorem vF {n:Nat} {f:Nat→Bool}:cE n f=true↔ ∀i,i<n→f i=true:=by
 unfold cE
 rw[List.all_eq_true]
 constructor
 ·intro h i hi;exact h i (by simp[List.mem_range'];exact hi)
 ·intro h i hi
  simp[List.mem_range'] at hi
  exact h i hi
def RP {α:Type} (l:List α) (f:α→Bool) (i:Nat):Bool:=match l[i]? with|some a=>f a|none=>true
def gl {α:Type} (l:List α) (f:α→α→Bool):Nat→Bool
 |0=>true
 |k+1=>match l[k]?,l[k+1]? with|some x,some y=>f x y|_,_=>true
theorem UF {α:Type} (l:List α) (f:α→Bool):cE l.length (RP l f)=l.all f:=by
 rw[Bool.eq_iff_iff,vF,List.all_eq_true]
 constructor
 ·intro h a ha
  obtain⟨i,hi,rfl⟩:=List.getElem_of_mem ha
  have:=h i hi
  simpa [RP,hi] using this
 ·intro h i hi
  simp only[RP,List.getElem?_eq_getElem hi]
  exact h _ (List.getElem_mem hi)
def ko (l:List Key) (i:Nat):Bool:=RP l fR i&&gl l dr i
def z7 (l:List Key):Bool:=cE l.length (ko l)&&decide (l.length≤60)
theorem IQ (l:List Key):z7 l=(l.all fR&&(cE l.length (gl l dr)&&decide (l.length≤60))):=by
 rw[←Bool.and_assoc,←UF,←Tf];rfl
def fT:Key:=⟨0,0,0,0,0⟩
def setAt (l:List Key) (b a:Int):Option Key:=l.find? fun x=>decide (x.b=b∧x.a=a)
def eG (k:Key):Bool→List Key→List Key
 |put,[]=>if put then [] else [k]
 |put,x::r=>(if !put&& !dr x k then [k] else [])++(if kE x k then [] else [x])++eG k (put|| !dr x k) r
def eH (l:List Key) (k:Key):List Key:=eG k false l
theorem FC (k:Key): ∀(l:List Key) (put:Bool),(eG k put l).length≤l.length+(if put then 0 else 1)
 |[],put=>by simp only[eG];split<;>simp
 |x::r,put=>by
  have:=FC k r (put|| !dr x k)
  simp only[eG,List.length_append,List.length_cons]
  have h1:(if kE x k then([]:List Key) else [x]).length≤1:=by split<;>simp
  revert h1
  generalize (if kE x k then([]:List Key) else [x])=m
  intro h1
  cases put<;>cases hk:dr x k<;>simp[hk] at this ⊢ <;>omega
theorem m4 (l:List Key) (k:Key):(eH l k).length≤l.length+1:=by have:=FC k l false;simpa [eH] using this
def cC (old new:List Key):List Key:=new.foldl eH old
theorem qh: ∀(new old:List Key),(cC old new).length≤old.length+new.length
 |[],old=>by simp[cC]
 |x::r,old=>by
  have:=qh r (eH old x)
  have h2:=m4 old x
  simp only[cC,List.foldl_cons,List.length_cons] at this ⊢
  omega
def mw (l:List Key):List Key:=l.filter fun k=> !decide (k.k=0)
def rI (n:List (List Key)):List Key:=n.foldl cC []
def aO (n:List (List Key)):List Key:=mw (rI n)
theorem xF: ∀(n:List (List Key)) (a:List Key),(n.foldl cC a).length≤a.length+tot bJ n
 |[],a=>by simp[tot]
 |s::r,a=>by
  have:=xF r (cC a s)
  have h2:=qh s a
  simp only[List.foldl_cons,tot,bJ] at this ⊢
  omega
theorem cL (n:List (List Key)):(aO n).length≤tot bJ n:=by
 have h1:=xF n []
 have h2:=List.length_filter_le (fun k:Key=> !decide (k.k=0)) (rI n)
 simp only[List.length_nil,Nat.zero_add] at h1
 exact Nat.le_trans h2 h1
def ck (n:List (List Key)):Nat:=tot bJ n
def eI (n:List (List Key)):Bool:=n.all (fun s=>z7 s&& !decide (s.length=0))&&decide (n.length≤3)&&decide (ck n≤8)
def cz (l:List Key):List (List Key):=if l.length=0 then [] else [l]
def aW (t:Tree):List Key:=t.nodes.flatMap aO
theorem CQ: ∀(l:List (List (List Key))),(l.flatMap aO).length≤tot aR l
 |[]=>by simp[tot]
 |n::r=>by
  have:=CQ r
  have h2:=cL n
  simp only[List.flatMap_cons,List.length_append,tot,aR]
  omega
theorem kY (t:Tree):(aW t).length≤dO t:=by
 have:=CQ t.nodes
 unfold aW dO o9
 omega
def VW (t:Tree) (b:Int):List Key:=(aW t).filter fun k=>decide (k.b=b)
def fU (b a:Int):Int:=az (UA 64 b) a
def jt {α:Type} (p:α→Bool):List α→Int→Int
 |[],_=> -1
 |a::r,i=>if p a then i else jt p r (i+1)
theorem Oe {α:Type} (p:α→Bool): ∀(l:List α) (i:Int),0≤i→decide (0≤jt p l i)=l.any p
 |[],i,_=>by simp[jt]
 |a::r,i,h=>by
  by_cases hp:p a=true
  ·simp[jt,hp,h]
  ·have:=Oe p r (i+1) (by omega)
   simp only[jt,if_neg hp,List.any_cons]
   rw[this]
   simp[hp]
theorem Ec {α:Type} (p:α→Bool): ∀(l:List α) (i:Int),0≤i→(jt p l i= -1∧ ∀a∈l,p a=false)∨ ∃(j:Nat) (a:α),jt p l i=i+j∧l[j]?=some a∧p a=true∧j<l.length∧ ∀k,k<j→ ∀b,l[k]?=some b→p b=false
 |[],i,_=> .inl ⟨rfl,fun a h=>by cases h⟩
 |a::r,i,h=>by
  simp only[jt]
  cases hp:p a with
  |true=>exact .inr ⟨0,a,by simp,rfl,hp,by simp,fun k hk=>by omega⟩
  |false=>
   rcases Ec p r (i+1) (by omega) with⟨h1,h2⟩|⟨j,b,h1,h2,h3,h4,h5⟩
   ·refine .inl ⟨by simpa using h1,fun b hb=> ?_⟩
    rcases List.mem_cons.1 hb with rfl|hb
    ·exact hp
    ·exact h2 b hb
   ·refine .inr ⟨j+1,b,by simp[h1];omega,h2,h3,by simp;omega,fun k hk c hc=> ?_⟩
    cases k with
    |zero=>simp at hc;rw[←hc];exact hp
    |succ k=>exact h5 k (by omega) c hc
theorem UG {α:Type} (p:α→Bool) (l:List α): -1≤jt p l 0∧jt p l 0<l.length:=by
 rcases Ec p l 0 (by omega) with⟨h,_⟩|⟨j,a,h,_,_,h4,_⟩<;>omega
theorem Tg {α:Type} (p:α→Bool) (l:List α) (h: ¬jt p l 0<0): ∃a,fu l (jt p l 0)=some a∧p a=true:=by
 rcases Ec p l 0 (by omega) with⟨h1,_⟩|⟨j,a,h1,h2,h3,_⟩
 ·omega
 ·refine⟨a,?_,h3⟩
  rw[h1,Int.zero_add,aK];exact h2
def iX (l:List Age) (id:Int):Int:=jt (fun a=>decide (a.id=id)) l 0
def Vg (l:List Age):Nat→Int→List Int
 |0,_=>[]
 |n+1,id=>if iX l id<0 then [] else id::(match fu l (iX l id) with|some a=>Vg l n a.fr|none=>[])
def pathOf (l:List Age) (id:Int):List Int:=Vg l (l.length+1) id
def Xx (l:List Int) (n:Int):Bool:=l.any fun a=>decide (a=n)
def WQ (path:List Int):Key×Bool→Key→Key×Bool:=fun p k=>if Xx path k.a&&(!p.2||decide (p.1.a<k.a)) then(k,true) else p
def near (keys:List Key) (path:List Int):Key×Bool:=keys.foldl (WQ path) (fT,false)
def QF (t:Tree) (l:List Age) (b id:Int):Key×Bool:=near (VW t b) (pathOf l id)
def iM (l:List Age) (id:Int):List Int:=if id=0 then [] else(l.filter fun a=>decide (a.fr=id)).map (·.id)
theorem IS (l:List Age) (id:Int):(iM l id).length≤l.length:=by
 unfold iM
 split
 ·simp
 ·rw[List.length_map];exact List.length_filter_le _ _
abbrev Wt (p:Key×Bool):TV:= .tu [(1,[iI p.1.b,iI p.1.a,iI p.1.k,iI p.1.c,iI p.1.g]),(0,[iB p.2])]
def Th (n:Int):Bool:=iJ n 97 122||iJ n 48 57
def dA (s:ByteArray) (i:Nat):Bool:=match pR s i with|some n=>Th n|none=>true
def z8 (s:ByteArray):Bool:=cE s.size (dA s)&&iJ s.size 1 6
def dP (l:List Age) (i:Nat):Bool:=RP l (fun a=>iJ a.id 1 60) i&&(gl l (fun x y=>decide (x.id<y.id)) i&&RP l (fun a=>decide (a.fr=0)|| !decide (iX (l.take i) a.fr<0)) i)
def kZ (l:List Age):Bool:=cE l.length (dP l)&&decide (l.length≤16)
def cellAt (l:List Cell) (i gen:Int):Int×Bool:=match fu l i with
 |none=>(0,false)
 |some c=>if c.u=true∧c.g=gen then(c.n,true) else(0,false)
def bF (l:List Cell):Nat:=(l.filter (·.u)).length
def gu (c:Cell):Bool:=iJ c.g 0 999&&(mu c.n&&(c.u||decide (c.n=0)))
def cP (l:List Cell):Bool:=l.all gu&&decide (l.length=24)
abbrev XH (p:Int×Bool):TV:= .tu [(0,[iI p.1]),(0,[iB p.2])]
@[simp] theorem A7 {l:List Key} {b a k c g:Int}:List.append (l.map bK) [[iI b,iI a,iI k,iI c,iI g]]=(l++[(⟨b,a,k,c,g⟩:Key)]).map bK:=by simp[bK]
@[simp] theorem QG {l:List Int} {b:Int}:List.append (l.map bM) [[iI b]]=(l++[b]).map bM:=by simp[bM]
@[simp] theorem WR {l:List Int} {b:Int}:List.append (l.map z5) [[.sc (.int .u8 b)]]=(l++[b]).map z5:=by simp[z5]
@[simp] theorem Xc {l:List Age} {b a:Int}:List.append (l.map dK) [[iI b,iI a]]=(l++[(⟨b,a⟩:Age)]).map dK:=by simp[dK]
@[simp] theorem Xd {l:List Vol} {s:ByteArray} {b a:Int} {q:Bool}:List.append (l.map ek) [[iS s,iI b,iI a,iB q]]=(l++[(⟨s,b,a,q⟩:Vol)]).map ek:=by simp[ek]
@[simp] theorem Xe {l:List (List Key)} {s:List Key}:List.append (l.map bZ) [[.sub 5 (s.map bK)]]=(l++[s]).map bZ:=by simp[bZ]
@[simp] theorem CR {l:List (List (List Key))} {s:List (List Key)}:List.append (l.map aV) [[.sub 1 (s.map bZ)]]=(l++[s]).map aV:=by simp[aV]
@[simp] theorem Xf {l:List Mp} {s:ByteArray} {f:Bool} {r:List Int}:List.append (l.map D6) [[iS s,iB f,.sub 1 (r.map bM)]]=(l++[(⟨s,f,r⟩:Mp)]).map D6:=by simp[D6]
@[simp] theorem jh {α:Type} {e:α→List TC} {l m:List α}:List.append (l.map e) (m.map e)=(l++m).map e:=by simp
@[simp] theorem WS:([]:RR)=([]:List Key).map bK↔True:=by simp
@[simp] theorem dw {α:Type} (l:List α):Nat.succ (List.length l)=l.length+1:=rfl
theorem oK (b a k c g:Int):bR [[iI b,iI a,iI k,iI c,iI g]]=true:=jw [⟨b,a,k,c,g⟩]
theorem PA (b a:Int):bR [[iI b,iI a]]=true:=A5 [⟨b,a⟩]
theorem PB (s:ByteArray) (b a:Int) (q:Bool):bR [[iS s,iI b,iI a,iB q]]=true:=A6 [⟨s,b,a,q⟩]
attribute [simp] oK PA PB
@[simp] theorem dV (k:Key):(⟨k.b,k.a,k.k,k.c,k.g⟩:Key)=k:=rfl
@[simp] theorem fJ (k:Age):(⟨k.id,k.fr⟩:Age)=k:=rfl
@[simp] theorem ef (k:Cell):(⟨k.g,k.u,k.n⟩:Cell)=k:=rfl
@[simp] theorem fK (k:Vol):(⟨k.name,k.age,k.size,k.fx⟩:Vol)=k:=rfl
@[simp] theorem fM (k:Mp):(⟨k.name,k.fx,k.l⟩:Mp)=k:=rfl
@[simp] theorem iN (k:S6):(⟨k.kind,k.name,k.to,k.a,k.b⟩:S6)=k:=rfl
theorem cX {n b:Nat} (h:n*b≤140737488355328∧n≤140737488355328):fits n b=true:=by rw[Ut];exact decide_eq_true h
end Go.T
namespace Go.T
def cN (s:List Key):Bool:=z7 s&& !decide (s.length=0)
theorem LQ (n:List (List Key)):eI n=(n.all cN&&(decide (n.length≤3)&&decide (ck n≤8))):=by
 unfold eI;rw[Bool.and_assoc];rfl
def PC (lows:List Int) (i:Nat) (x:Int):Bool:=match lows[i]? with
 |some lo=> !decide (x<lo)&&(match lows[i+1]? with|some hi=>decide (x<hi)|none=>true)
 |none=>true
def fE (lows:List Int) (i:Nat) (k:Key):Bool:=PC lows i (fU k.b k.a)
def bS (lows:List Int) (i:Nat) (s:List Key):Bool:=s.all (fE lows i)
def cJ (t:Tree) (i:Nat):Bool:=gl t.lows (fun x y=>decide (x<y)) i&&(match t.nodes[i]? with
 |some n=>eI n&&((decide (i=0)|| !decide ((aO n).length=0))&&n.all (bS t.lows i))
 |none=>true)
def dQ (t:Tree):Bool:=iJ t.nodes.length 1 20&&(decide (t.lows.length=t.nodes.length)&&((match t.lows[0]? with|some x=>decide (x=0)|none=>true)&&(cE t.nodes.length (cJ t)&&decide ((aW t).length≤60))))
def bY (p:Pool) (i:Nat):Bool:=match p.vols[i]? with
 |some v=>z8 v.name&&(iJ v.size 1 12&&(!decide (iX p.ages v.age<0)&&(decide ((iM p.ages v.age).length=0)&&(gl p.vols (fun x y=>JT x.name y.name) i&& !(p.vols.take i).any fun u=>decide (u.age=v.age)))))
 |none=>true
def gz (p:Pool):Bool:=cE p.vols.length (bY p)&&decide (p.vols.length≤6)
def cq (p:Pool) (l:List Key) (i:Nat):Bool:=match l[i]? with
 |some k=> !decide (iX p.ages k.a<0)&&(!decide (k.k=1)||((cellAt p.cells k.c k.g).2&& !(l.take i).any fun x=>decide (x.k=1)&&decide (x.c=k.c)))
 |none=>true
def cc (l:List Key):Nat:=(l.filter fun k=>decide (k.k=1)).length
def eg (p:Pool):Bool:=cE (aW p.t).length (cq p (aW p.t))&&decide ((bF p.cells:Int)=cc (aW p.t))
def g8 (p:Pool):Bool:=p.ages.all (fun a=>decide (a.id<p.next))&&(dQ p.t&&(kZ p.ages&&(cP p.cells&&(iJ p.next 1 61&&(gz p&&eg p)))))
def UH (p:Pool) (i b:Int):Int:=match fu p.vols i with
 |none=>0
 |some v=>if 0≤b∧b<v.size then(if(QF p.t p.ages b v.age).2=true∧(QF p.t p.ages b v.age).1.k=1 then(cellAt p.cells (QF p.t p.ages b v.age).1.c (QF p.t p.ages b v.age).1.g).1 else 0) else 0
def nq (l:List Key):List Bool:=(List.range 24).map fun m:Nat=>l.any fun x=>decide (x.k=1)&&decide (x.c=(m:Int))
theorem Of:nq []=List.replicate 24 false:=by decide
theorem Og (l:List Key) {c:Int} (h:0≤c∧c<24):fu (nq l) c=some (l.any fun x=>decide (x.k=1)&&decide (x.c=c)):=by
 obtain⟨n,rfl⟩: ∃n:Nat,c=n:=⟨c.toNat,by omega⟩
 rw[aK]
 unfold nq
 rw[List.getElem?_map,List.getElem?_range (by omega)]
 rfl
theorem Oh (l:List Key) (k:Key) (hk:k.k=1) (h:0≤k.c∧k.c<24):(nq l).modify k.c.toNat (fun _=>true)=nq (l++[k]):=by
 apply List.ext_getElem?
 intro m
 rw[List.getElem?_modify]
 unfold nq
 rw[List.getElem?_map,List.getElem?_map]
 by_cases hm:m<24
 ·rw[List.getElem?_range hm]
  simp only[Option.map_some,List.any_append,List.any_cons,List.any_nil,Bool.or_false,hk,decide_true,Bool.true_and]
  by_cases e:k.c.toNat=m
  ·have:k.c=(m:Int):=by omega
   simp[e,this]
  ·have: ¬k.c=(m:Int):=by omega
   simp[e,this]
 ·rw[List.getElem?_eq_none (by simp;omega)];rfl
theorem MJ (l:List Key) (k:Key) (hk: ¬k.k=1):nq (l++[k])=nq l:=by
 unfold nq
 simp[hk]
theorem Bi (k:Key) (l:List Key):cc (k::l)=(if k.k=1 then 1 else 0)+cc l:=by
 unfold cc
 by_cases h:k.k=1<;>simp[h]
 omega
theorem Rn {l:List Cell} {i g:Int} (h:(cellAt l i g).2=true):0≤i∧i<l.length:=by
 unfold cellAt at h
 apply Classical.byContradiction
 intro hn
 rw[nj hn] at h
 cases h
theorem lE {p:Pool} (h:eF p≤4194304):dO p.t≤4194304∧p.ages.length≤4194304∧p.cells.length≤4194304∧p.vols.length≤4194304∧tot oR p.vols≤4194304:=by
 unfold eF Eb at h
 omega
end Go.T
namespace Go.T
def blocks (p:Pool) (i:Nat) (k:Nat):List Int:=(List.range k).map fun b:Nat=>UH p i b
def ji (l:List Cell) (i:Int):List Cell:=match fu l i with
 |none=>l
 |some c=>if cP l=true∧c.u=true then l.modify i.toNat (fun _=>⟨uT (az c.g 1) 1000,false,0⟩) else l
theorem Bj {l:List Cell} {i:Int} (h:fu l i=none):ji l i=l:=by unfold ji;rw[h]
theorem CS {l:List Cell} {i:Int} (h:cP l=false):ji l i=l:=by
 unfold ji
 cases fu l i with
 |none=>rfl
 |some c=>exact if_neg (fun hh=>by rw[h] at hh;cases hh.1)
theorem FD {l:List Cell} {i:Int} {c:Cell} (hc:fu l i=some c) (h:c.u=false):ji l i=l:=by
 unfold ji;rw[hc];exact if_neg (fun hh=>by rw[h] at hh;cases hh.2)
theorem CT {l:List Cell} {i:Int} {c:Cell} (hc:fu l i=some c) (h:cP l=true) (hu:c.u=true):ji l i=l.modify i.toNat (fun _=>⟨uT (az c.g 1) 1000,false,0⟩):=by
 unfold ji;rw[hc];exact if_pos ⟨h,hu⟩
theorem CU (l:List Cell) (i:Int):(ji l i).length=l.length:=by
 unfold ji
 cases fu l i with
 |none=>rfl
 |some c=>simp only[];split<;>simp
def rY (c:Cell):Bool:= !c.u
def cY (l:List Cell):Int:=jt rY l 0
def m5 (l:List Cell) (n:Int):List Cell×Int×Bool:=
 if cP l=true∧mu n=true∧0≤cY l then(l.modify (cY l).toNat (fun c=>⟨c.g,true,n⟩),cY l,true) else(l,0,false)
theorem kT {l:List Cell} {n:Int} (h: ¬(cP l=true∧mu n=true∧0≤cY l)):m5 l n=(l,0,false):=if_neg h
theorem pg {l:List Cell} {n:Int} (h:cP l=true∧mu n=true∧0≤cY l):m5 l n=(l.modify (cY l).toNat (fun c=>⟨c.g,true,n⟩),cY l,true):=if_pos h
abbrev UI (x:List Cell×Int×Bool):TV:= .tu [(0,[.sub 3 (x.1.map bX)]),(0,[iI x.2.1]),(0,[iB x.2.2])]
theorem Oi {p:Pool} (h:g8 p=true):gz p=true:=by
 simp only[g8,Bool.and_eq_true] at h
 exact h.2.2.2.2.2.1
theorem Oj {p:Pool} (h:g8 p=true):kZ p.ages=true:=by
 simp only[g8,Bool.and_eq_true] at h
 exact h.2.2.1
def Ed (l:List Key) (b a:Int):Key×Bool:=match setAt l b a with|some k=>(k,true)|none=>(fT,false)
def pk (f:Int→Bool) (l:List Int):Nat→Int
 |0=> -1
 |k+1=>match l[k]? with
  |some x=>if f x=true then(k:Int) else pk f l k
  |none=> -1
def pn (t:Tree) (b a:Int):Int:=pk (fun x=>decide (x≤fU b a)) t.lows t.lows.length
abbrev WT (x:Pool×Bool):TV:= .tu [(1,[.sub 1 (x.1.t.lows.map bM),.sub 1 (x.1.t.nodes.map aV),.sub 2 (x.1.ages.map dK),.sub 3 (x.1.cells.map bX),.sub 4 (x.1.vols.map ek),iI x.1.next]),(0,[iB x.2])]
end Go.T
namespace Go.T
end Go.T
namespace Go.T
end Go.T
namespace Go.T
def Vh (v u:Vol):Bool:=JT u.name v.name||Ni u.name v.name
theorem Ok: ∀(x y z:List UInt8),Op.bytesLess x y=true→Op.bytesLess y z=true→Op.bytesLess x z=true
 |x,y,[],_,h=>by cases y<;>simp[Op.bytesLess] at h
 |x,[],c::z,h,_=>by cases x<;>simp[Op.bytesLess] at h
 |[],_::_,_::_,_,_=>by simp[Op.bytesLess]
 |a::x,b::y,c::z,h1,h2=>by
  simp only[Op.bytesLess,Bool.or_eq_true,Bool.and_eq_true,decide_eq_true_eq,beq_iff_eq] at h1 h2 ⊢
  rcases h1 with h1|⟨rfl,h1⟩
  ·rcases h2 with h2|⟨rfl,h2⟩
   ·exact .inl (UInt8.lt_trans h1 h2)
   ·exact .inl h1
  ·rcases h2 with h2|⟨rfl,h2⟩
   ·exact .inl h2
   ·exact .inr ⟨rfl,Ok x y z h1 h2⟩
theorem Ro {a b c:ByteArray} (h1:JT a b=true) (h2:JT b c=true):JT a c=true:=by
 unfold JT at*
 exact Ok _ _ _ h1 h2
def CV:List Vol→Prop
 |[]=>True
 |[_]=>True
 |a::b::r=>JT a.name b.name=true∧CV (b::r)
theorem Ti {v a b:Vol} (h:JT a.name b.name=true) (hb:Vh v b=true):Vh v a=true:=by
 unfold Vh at*
 rw[Bool.or_eq_true] at*
 rcases hb with hb|hb
 ·exact .inl (Ro h hb)
 ·have:b.name.toList=v.name.toList:=by
   unfold Ni at hb;exact eq_of_beq hb
  unfold JT at h ⊢
  rw[←this];exact .inl h
theorem CV.tail {a:Vol} {l:List Vol} (h:CV (a::l)):CV l:=by
 cases l with
 |nil=>trivial
 |cons b r=>exact h.2
theorem CV.cut {v:Vol}: ∀{l:List Vol} {k:Nat},CV l→k≤l.length→(∀u∈l.drop k,Vh v u=false)→(∀u,0<k→l[k-1]?=some u→Vh v u=true)→(l.takeWhile (Vh v)).length=k
 |[],k,_,hk,_,_=>by simp at hk;simp[hk]
 |a::l,0,_,_,h1,_=>by
  have:=h1 a (.head _)
  simp[this]
 |a::l,k+1,hr,hk,h1,h2=>by
  have ih:=CV.cut (v:=v) (l:=l) (k:=k) hr.tail (by simpa using hk) (fun u hu=>h1 u (by simpa using hu)) fun u h0 hu=>by
   obtain⟨j,rfl⟩: ∃j,k=j+1:=⟨k-1,by omega⟩
   exact h2 u (by omega) (by simpa using hu)
  have ha:Vh v a=true:=by
   cases k with
   |zero=>exact h2 a (by omega) rfl
   |succ k=>
    cases l with
    |nil=>simp at hk
    |cons b r=>
     refine Ti hr.1 ?_
     rw[List.takeWhile_cons] at ih
     cases hb:Vh v b with
     |true=>rfl
     |false=>rw[hb] at ih;simp at ih
  rw[List.takeWhile_cons,if_pos ha,List.length_cons,ih]
theorem CV.modify {f:Vol→Vol} (hf: ∀u,(f u).name=u.name): ∀{l:List Vol} (i:Nat),CV l→CV (l.modify i f)
 |[],i,h=>by cases i<;>exact h
 |[a],0,_=>trivial
 |[a],i+1,_=>by cases i<;>trivial
 |a::b::r,0,h=>by
  show CV (f a::b::r)
  exact⟨by rw[hf];exact h.1,h.2⟩
 |a::b::r,1,h=>by
  show CV (a::f b::r)
  refine⟨by rw[hf];exact h.1,?_⟩
  exact CV.modify hf (l:=b::r) 0 h.2
 |a::b::r,i+2,h=>⟨h.1,CV.modify hf (l:=b::r) (i+1) h.2⟩
end Go.T
namespace Go.T
def XI (m u:Mp):Bool:= !(JT u.name m.name||Ni u.name m.name)
def UJ (l:List Mp) (m:Mp):Nat→Nat
 |0=>0
 |k+1=>match l[k]? with
  |some u=>if XI m u=true then UJ l m k else k+1
  |none=>k+1
theorem QH (l:List Mp) (m:Mp): ∀k,UJ l m k≤k
 |0=>Nat.le_refl _
 |k+1=>by
  unfold UJ
  split
  ·split
   ·exact Nat.le_succ_of_le (QH l m k)
   ·exact Nat.le_refl _
  ·exact Nat.le_refl _
def Tj {α:Type} (l:List α) (k:Nat) (x:α):List α:=l.take k++x::l.drop k
def Tk (l:List Mp) (m:Mp):List Mp:=Tj l (UJ l m l.length) m
theorem Tl (l:List Mp) (m:Mp):(Tk l m).length=l.length+1:=by
 have:=QH l m l.length
 unfold Tk Tj
 rw[List.length_append,List.length_cons,List.length_take,List.length_drop];omega
theorem Tm {l:List Mp} {m x:Mp} (h:x∈Tk l m):x∈l∨x=m:=by
 unfold Tk Tj at h
 rcases List.mem_append.1 h with h|h
 ·exact .inl (List.mem_of_mem_take h)
 ·rcases List.mem_cons.1 h with h|h
  ·exact .inr h
  ·exact .inl (List.mem_of_mem_drop h)
def MK (l l':List Mp):Prop:=l'.length≤l.length+1∧ ∀B:Nat,12≤B→(∀x∈l,x.l.length≤B)→ ∀x∈l',x.l.length≤B
theorem MK.refl (l:List Mp):MK l l:=⟨Nat.le_succ _,fun _ _ h=>h⟩
theorem MK.put {l:List Mp} {m:Mp} (h: ∀B:Nat,12≤B→(∀x∈l,x.l.length≤B)→m.l.length≤B):MK l (Tk l m):=
 ⟨Nat.le_of_eq (Tl l m),fun B hB hl x hx=>(Tm hx).elim (hl x) fun e=>by rw[e];exact h B hB hl⟩
end Go.T
namespace Go.T
abbrev Rq (x:List (List Key)×Bool):TV:= .tu [(1,[.sub 1 (x.1.map bZ)]),(0,[iB x.2])]
def BM (s:List Key) (k:Key):Bool:=(Ed s k.b k.a).2||decide (s.length<4)
def iO (n:List (List Key)) (k:Key):List (List Key):=match n[n.length-1]? with
 |none=>n++[[k]]
 |some s=>if BM s k=true then n.set (n.length-1) (eH s k) else n++[[k]]
def cn (n:List (List Key)) (k:Key):List Key:=mw (eH (aO n) k)
def cg (n:List (List Key)) (k:Key):List (List Key)×Bool:=
 if eI (iO n k)=true then(iO n k,true) else if 8<(cn n k).length then(n,false) else if eI (cz (cn n k))=true then(cz (cn n k),true) else(n,false)
theorem nr (n:List (List Key)) (k:Key):(cn n k).length≤tot bJ n+1:=by
 have h1:=cL n
 have h2:=m4 (aO n) k
 have h3:(cn n k).length≤(eH (aO n) k).length:=List.length_filter_le _ _
 omega
theorem Ol {α:Type} (w:α→Nat) (l:List α) (a:α):tot w (l++[a])=tot w l+w a:=by
 induction l with
 |nil=>simp[tot]
 |cons b r ih=>simp only[List.cons_append,tot,ih];omega
theorem Om {α:Type} (w:α→Nat) (c:Nat): ∀(l:List α) (i:Nat) (a a':α),l[i]?=some a→w a'≤w a+c→tot w (l.set i a')≤tot w l+c
 |[],i,a,a',h,_=>by simp at h
 |b::r,0,a,a',h,hw=>by
  simp only[List.getElem?_cons_zero,Option.some.injEq] at h
  subst h
  simp only[List.set_cons_zero,tot];omega
 |b::r,i+1,a,a',h,hw=>by
  have:=Om w c r i a a' (by simpa using h) hw
  simp only[List.set_cons_succ,tot];omega
theorem BN (n:List (List Key)) (k:Key):(iO n k).length≤n.length+1:=by
 unfold iO
 split
 ·rw[List.length_append];simp
 ·split
  ·rw[List.length_set];omega
  ·rw[List.length_append];simp
theorem BO (n:List (List Key)) (k:Key):tot bJ (iO n k)≤tot bJ n+1:=by
 unfold iO
 split
 ·rw[Ol];exact Nat.le_refl _
 ·rename_i s hs
  split
  ·exact Om bJ 1 _ _ s _ hs (by have:=m4 s k;unfold bJ;omega)
  ·rw[Ol];exact Nat.le_refl _
theorem tr (l:List Key):(cz l).length≤1:=by
 unfold cz
 split<;>simp
theorem tw (l:List Key):tot bJ (cz l)≤l.length:=by
 unfold cz
 split
 ·simp[tot]
 ·simp[tot,bJ]
theorem Aa (n:List (List Key)) (k:Key):(cg n k).1.length≤n.length+1:=by
 have h1:=BN n k
 have h2:=tr (cn n k)
 unfold cg
 repeat' split
 all_goals simp only[];omega
theorem Ab (n:List (List Key)) (k:Key):tot bJ (cg n k).1≤tot bJ n+1:=by
 have h1:=BO n k
 have h2:=tw (cn n k)
 have h3:=nr n k
 unfold cg
 repeat' split
 all_goals simp only[];omega
end Go.T
namespace Go.T
def FE (x y:Key):Prop:=x.b<y.b∨(x.b=y.b∧x.a<y.a)
theorem FE.trans {x y z:Key} (h1:FE x y) (h2:FE y z):FE x z:=by unfold FE at*;omega
theorem Ac {x y:Key}:dr x y=true↔FE x y:=by unfold dr FE;simp
theorem CW {x y:Key}:kE x y=true↔x.b=y.b∧x.a=y.a:=by unfold kE;simp
theorem CX {k y:Key}: ∀{l:List Key},y∈eG k true l→y∈l
 |[],h=>by simp[eG] at h
 |x::r,h=>by
  simp only[eG,Bool.not_true,Bool.false_and,Bool.false_eq_true,if_false,List.nil_append,Bool.true_or] at h
  rcases List.mem_append.1 h with h|h
  ·split at h
   ·cases h
   ·rw[List.mem_singleton.1 h];exact .head _
  ·exact .tail _ (CX h)
theorem IT {k y:Key}: ∀{l:List Key} {put:Bool},y∈eG k put l→y∈l∨y=k
 |[],put,h=>by
  simp only[eG] at h
  split at h
  ·cases h
  ·exact .inr (List.mem_singleton.1 h)
 |x::r,put,h=>by
  simp only[eG] at h
  rcases List.mem_append.1 h with h|h
  ·rcases List.mem_append.1 h with h|h
   ·split at h
    ·exact .inr (List.mem_singleton.1 h)
    ·cases h
   ·split at h
    ·cases h
    ·exact .inl (by rw[List.mem_singleton.1 h];exact .head _)
  ·exact(IT h).imp (.tail _) id
theorem A8 {k:Key}: ∀{l:List Key},l.Pairwise FE→(eG k true l).Pairwise FE
 |[],_=>by simp[eG]
 |x::r,h=>by
  obtain⟨h1,h2⟩:=List.pairwise_cons.1 h
  simp only[eG,Bool.not_true,Bool.false_and,Bool.false_eq_true,if_false,List.nil_append,Bool.true_or]
  split
  ·exact A8 h2
  ·exact List.pairwise_cons.2 ⟨fun y hy=>h1 y (CX hy),A8 h2⟩
theorem LR {k:Key}: ∀{l:List Key},l.Pairwise FE→(eG k false l).Pairwise FE
 |[],_=>by simp[eG]
 |x::r,h=>by
  obtain⟨h1,h2⟩:=List.pairwise_cons.1 h
  cases hk:dr x k with
  |true=>
   have hlt:=Ac.1 hk
   have hns:kE x k=false:=by
    cases hs:kE x k with
    |false=>rfl
    |true=>have:=CW.1 hs;unfold FE at hlt;omega
   simp only[eG,hk,hns,Bool.not_false,Bool.not_true,Bool.true_and,Bool.and_false,Bool.false_eq_true,if_false,List.nil_append,Bool.or_false,Bool.false_or]
   refine List.pairwise_cons.2 ⟨fun y hy=> ?_,LR h2⟩
   rcases IT hy with hy|rfl
   ·exact h1 y hy
   ·exact hlt
  |false=>
   have hge: ¬FE x k:=fun h=>by rw[Ac.2 h] at hk;cases hk
   simp only[eG,hk,Bool.not_false,Bool.true_and,if_true,Bool.or_true]
   have hr: ∀y∈eG k true r,FE k y:=fun y hy=>by
    have:=h1 y (CX hy)
    unfold FE at*;omega
   split
   ·exact List.pairwise_cons.2 ⟨hr,A8 h2⟩
   ·rename_i hns
    refine List.pairwise_cons.2 ⟨fun y hy=> ?_,List.pairwise_cons.2 ⟨fun y hy=>h1 y (CX hy),A8 h2⟩⟩
    rcases List.mem_cons.1 hy with rfl|hy
    ·have: ¬(y.b=k.b∧y.a=k.a):=fun h=>hns (CW.2 h)
     unfold FE at*;omega
    ·exact hr y hy
theorem FF {l:List Key} {k:Key} (h:l.Pairwise FE):(eH l k).Pairwise FE:=LR h
theorem IU {l:List Key} {k y:Key} (h:y∈eH l k):y∈l∨y=k:=IT h
theorem IV: ∀(new:List Key) {old:List Key},old.Pairwise FE→(cC old new).Pairwise FE
 |[],_,h=>h
 |x::r,_,h=>IV r (FF h)
theorem LS {y:Key}: ∀{new old:List Key},y∈cC old new→y∈old∨y∈new
 |[],_,h=> .inl h
 |x::r,old,h=>by
  have h:y∈cC (eH old x) r:=h
  rcases LS h with h|h
  ·exact(IU h).imp id fun e=>by rw[e];exact .head _
  ·exact .inr (.tail _ h)
theorem IW: ∀(n:List (List Key)) {acc:List Key},acc.Pairwise FE→(n.foldl cC acc).Pairwise FE
 |[],_,h=>h
 |s::r,_,h=>IW r (IV s h)
theorem LU {y:Key}: ∀{n:List (List Key)} {acc:List Key},y∈n.foldl cC acc→y∈acc∨ ∃s∈n,y∈s
 |[],_,h=> .inl h
 |s::r,acc,h=>by
  rcases LU (n:=r) h with h|⟨s',h1,h2⟩
  ·exact(LS h).imp id fun h=>⟨s,.head _,h⟩
  ·exact .inr ⟨s',.tail _ h1,h2⟩
theorem J3 (n:List (List Key)):(aO n).Pairwise FE:=(IW n .nil).sublist List.filter_sublist
theorem ML {n:List (List Key)} {y:Key} (h:y∈aO n): ∃s∈n,y∈s:=by
 rcases LU (List.mem_filter.1 h).1 with h|h
 ·cases h
 ·exact h
theorem J4 (n:List (List Key)) (k:Key):(cn n k).Pairwise FE:=(FF (J3 n)).sublist List.filter_sublist
theorem MM {n:List (List Key)} {k y:Key} (h:y∈cn n k):y=k∨ ∃s∈n,y∈s:=
 (IU (List.mem_filter.1 h).1).elim (fun h=> .inr (ML h)) .inl
theorem To {l:List Key} (h1:l.Pairwise FE) (h2: ∀y∈l,fR y=true) (h3:l.length≤60):z7 l=true:=by
 rw[IQ]
 simp only[Bool.and_eq_true,decide_eq_true_eq]
 refine⟨List.all_eq_true.2 h2,vF.2 fun i hi=> ?_,h3⟩
 cases i with
 |zero=>rfl
 |succ k=>
  simp only[gl]
  rw[List.getElem?_eq_getElem (by omega:k<l.length),List.getElem?_eq_getElem hi]
  exact Ac.2 (List.pairwise_iff_getElem.1 h1 k (k+1) (by omega) hi (by omega))
theorem On {n:List (List Key)} (h:eI n=true) {s:List Key} (hs:s∈n) {y:Key} (hy:y∈s):fR y=true:=by
 unfold eI at h
 simp only[Bool.and_eq_true] at h
 have:=List.all_eq_true.1 h.1.1 s hs
 simp only[Bool.and_eq_true] at this
 have h2:=this.1
 rw[IQ] at h2
 simp only[Bool.and_eq_true] at h2
 exact List.all_eq_true.1 h2.1 y hy
theorem PD {l:List Key} (h1:l.Pairwise FE) (h2: ∀y∈l,fR y=true) (h3:l.length≤8):eI (cz l)=true:=by
 unfold cz
 split
 ·decide
 ·rename_i h0
  unfold eI
  have:=To h1 h2 (by omega)
  have h00:l≠[]:=fun e=>h0 (by rw[e];rfl)
  simp[this,h00,ck,tot,bJ,h3]
theorem Oo {n:List (List Key)} {k:Key} (h:eI n=true) (hk:fR k=true): ∀y∈cn n k,fR y=true:=fun y hy=>by
 rcases MM hy with rfl|⟨s,h1,h2⟩
 ·exact hk
 ·exact On h h1 h2
theorem IX {n:List (List Key)} {k:Key} (h:eI n=true) (hk:fR k=true) (hp:(cg n k).2=false):8<(cn n k).length∧cg n k=(n,false):=by
 have hn:=PD (J4 n k) (Oo h hk)
 unfold cg at hp ⊢
 split at hp
 ·cases hp
 ·rename_i h1
  split at hp
  ·rename_i h2
   exact⟨h2,by rw[if_neg h1,if_pos h2]⟩
  ·rename_i h2
   rw[if_pos (hn (by omega))] at hp
   cases hp
end Go.T
namespace Go.T
def gw (x y:Int):Int:=ON .or .i64 (Vj .i64 (qL .i64 x) 8) (qL .i64 y)
end Go.T
namespace Go.T
abbrev wP (x:Tree×Bool):TV:= .tu [(1,QC x.1),(0,[iB x.2])]
def jJ (t:Tree) (i c:Nat) (lows:List Int) (nodes:List (List (List Key))):Tree:=⟨t.lows.take i++lows++t.lows.drop (i+c),t.nodes.take i++nodes++t.nodes.drop (i+c)⟩
def g9 (t:Tree) (i:Nat):List Key:=aO (t.nodes.getD i [])
def qq (t:Tree):Nat→Nat→Option Nat
 |0,_=>none
 |d+1,i=>if i+1<t.nodes.length then(if(g9 t i).length+(g9 t (i+1)).length≤6 then some i else qq t d (i+1)) else none
def nN (t:Tree):Option Nat:=qq t t.nodes.length 0
def cD (t:Tree) (i:Nat):Tree:=jJ t i 2 [t.lows.getD i 0] [cz (g9 t i++g9 t (i+1))]
def jK:Nat→Tree→Tree
 |0,t=>t
 |n+1,t=>match nN t with
  |none=>t
  |some i=>jK n (cD t i)
theorem FG {t:Tree}: ∀{d i j:Nat},qq t d i=some j→i≤j∧j+1<t.nodes.length∧(g9 t j).length+(g9 t (j+1)).length≤6
 |0,i,j,h=>by cases h
 |d+1,i,j,h=>by
  unfold qq at h
  split at h
  ·split at h
   ·cases h;exact⟨Nat.le_refl _,by assumption,by assumption⟩
   ·have:=FG h;exact⟨by omega,this.2⟩
  ·cases h
theorem qb {t:Tree} {j:Nat} (h:nN t=some j):j+1<t.nodes.length∧(g9 t j).length+(g9 t (j+1)).length≤6:=(FG h).2
theorem Ae (t:Tree) (i c:Nat) (lows:List Int) (nodes:List (List (List Key))) (h:i+c≤t.nodes.length):(jJ t i c lows nodes).nodes.length+c=t.nodes.length+nodes.length:=by
 unfold jJ
 simp only[List.length_append,List.length_take,List.length_drop];omega
theorem xp (t:Tree) (i c:Nat) (lows:List Int) (nodes:List (List (List Key))) (h:i+c≤t.lows.length):(jJ t i c lows nodes).lows.length+c=t.lows.length+lows.length:=by
 unfold jJ
 simp only[List.length_append,List.length_take,List.length_drop];omega
theorem rm {t:Tree} {i:Nat} (h:i+1<t.nodes.length):(cD t i).nodes.length+1=t.nodes.length:=by
 have:=Ae t i 2 [t.lows.getD i 0] [cz (g9 t i++g9 t (i+1))] (by omega)
 unfold cD
 simp only[List.length_singleton] at this
 omega
def ju (t:Tree) (i:Nat) (k:Key):Tree:=
 if(cg (t.nodes.getD i []) k).2=true then
  (if 0<i∧(aO (cg (t.nodes.getD i []) k).1).length=0 then jJ t i 1 [] [] else jJ t i 1 [t.lows.getD i 0] [(cg (t.nodes.getD i []) k).1])
 else jJ t i 1 [t.lows.getD i 0,fU ((cn (t.nodes.getD i []) k).getD (((cn (t.nodes.getD i []) k).length+1)/2) fT).b ((cn (t.nodes.getD i []) k).getD (((cn (t.nodes.getD i []) k).length+1)/2) fT).a]
  [cz ((cn (t.nodes.getD i []) k).take (((cn (t.nodes.getD i []) k).length+1)/2)),cz ((cn (t.nodes.getD i []) k).drop (((cn (t.nodes.getD i []) k).length+1)/2))]
def bC (t:Tree) (k:Key):Tree×Bool:=
 if dQ t=true∧fR k=true then(if dQ (jK (ju t (pn t k.b k.a).toNat k).nodes.length (ju t (pn t k.b k.a).toNat k))=true then(jK (ju t (pn t k.b k.a).toNat k).nodes.length (ju t (pn t k.b k.a).toNat k),true) else(t,false)) else(t,false)
end Go.T
namespace Go.T
theorem PE {α:Type} (w:α→Nat) (c:Nat): ∀l:List α,(∀a∈l,w a≤c)→tot w l≤c*l.length
 |[],_=>by simp[tot]
 |a::r,h=>by
  have h1:=h a (.head _)
  have h2:=PE w c r fun b hb=>h b (.tail _ hb)
  simp only[tot,List.length_cons,Nat.mul_add];omega
theorem A9 {n:List (List Key)} (h:eI n=true):n.length≤3∧tot bJ n≤8:=by
 unfold eI ck at h
 simp only[Bool.and_eq_true,decide_eq_true_eq] at h
 exact⟨h.1.2,h.2⟩
theorem Rr {t:Tree} (h:dQ t=true) {i:Nat} (hi:i<t.nodes.length):cJ t i=true:=by
 unfold dQ at h
 simp only[Bool.and_eq_true] at h
 exact vF.1 h.2.2.2.1 i hi
theorem tC {t:Tree} (h:dQ t=true) {n:List (List Key)} (hn:n∈t.nodes):eI n=true:=by
 obtain⟨i,hi,rfl⟩:=List.getElem_of_mem hn
 have:=Rr h hi
 unfold cJ at this
 rw[List.getElem?_eq_getElem hi] at this
 simp only[Bool.and_eq_true] at this
 exact this.2.1
theorem oL {t:Tree} (h:dQ t=true):1≤t.nodes.length∧t.nodes.length≤20∧t.lows.length=t.nodes.length:=by
 unfold dQ iJ at h
 simp only[Bool.and_eq_true,decide_eq_true_eq] at h
 omega
theorem PF {t:Tree} (h:dQ t=true):t.lows[0]?=some 0:=by
 have hl:=oL h
 unfold dQ at h
 simp only[Bool.and_eq_true] at h
 have h0:0<t.lows.length:=by omega
 have:=h.2.2.1
 rw[List.getElem?_eq_getElem h0] at this ⊢
 simp only[decide_eq_true_eq] at this
 rw[this]
theorem IY {t:Tree} (h:dQ t=true):tot aR t.nodes≤220:=by
 have h1:=PE aR 11 t.nodes fun n hn=>by
  have:=A9 (tC h hn)
  unfold aR;omega
 have h2:=oL h
 omega
theorem LV {t:Tree} (h:dQ t=true):dO t≤260:=by
 have h1:=IY h
 have h2:=oL h
 unfold dO o9;omega
theorem PG {t:Tree} {k:Key} (h:(bC t k).2=true):dQ (bC t k).1=true:=by
 unfold bC at h ⊢
 split
 ·split
  ·assumption
  ·rename_i h1 h2;rw[if_pos h1,if_neg h2] at h;cases h
 ·rename_i h1;rw[if_neg h1] at h;cases h
theorem PI {t:Tree} {k:Key} (h:(bC t k).2=false):(bC t k).1=t:=by
 unfold bC at h ⊢
 split
 ·split
  ·rename_i h1 h2;rw[if_pos h1,if_pos h2] at h;cases h
  ·rfl
 ·rfl
theorem IZ (t:Tree) (k:Key):dO (bC t k).1≤max (dO t) 260:=by
 cases h:(bC t k).2 with
 |true=>have:=LV (PG h);omega
 |false=>rw[PI h];omega
theorem Oq {p:Pool} (h:g8 p=true):dQ p.t=true:=by
 simp only[g8,Bool.and_eq_true] at h;exact h.2.1
theorem pz {p:Pool} (h:g8 p=true):cP p.cells=true:=by
 simp only[g8,Bool.and_eq_true] at h;exact h.2.2.2.1
theorem PJ {p:Pool} (h:g8 p=true):eg p=true:=by
 simp only[g8,Bool.and_eq_true] at h;exact h.2.2.2.2.2.2
theorem Rs {s:ByteArray} (h:z8 s=true):1≤s.size∧s.size≤6:=by
 simp only[z8,Bool.and_eq_true,iJ,decide_eq_true_eq] at h
 omega
theorem Rt {p:Pool} (h:gz p=true) {v:Vol} (hv:v∈p.vols):z8 v.name=true∧1≤v.size∧v.size≤12∧0≤iX p.ages v.age:=by
 obtain⟨i,hi,rfl⟩:=List.getElem_of_mem hv
 simp only[gz,Bool.and_eq_true,vF] at h
 have:=h.1 i hi
 unfold bY at this
 rw[List.getElem?_eq_getElem hi] at this
 simp only[Bool.and_eq_true,iJ,decide_eq_true_eq,Bool.not_eq_true',decide_eq_false_iff_not] at this
 exact⟨this.1,this.2.1.1,this.2.1.2,by omega⟩
theorem Ru {p:Pool} (h:g8 p=true):eF p≤500:=by
 have h1:=LV (Oq h)
 have h2:p.ages.length≤16:=by
  have:=Oj h
  simp only[kZ,Bool.and_eq_true,decide_eq_true_eq] at this
  exact this.2
 have h3:p.cells.length=24:=by
  have:=pz h
  simp only[cP,Bool.and_eq_true,decide_eq_true_eq] at this
  exact this.2
 have hv:=Oi h
 have h4:p.vols.length≤6:=by
  simp only[gz,Bool.and_eq_true,decide_eq_true_eq] at hv
  exact hv.2
 have h5:=PE oR 6 p.vols fun v hm=>(Rs (Rt hv hm).1).2
 unfold eF Eb;omega
def Tp (l:List Cell) (i:Int):Int:=match fu l i with|some c=>c.g|none=>0
def j8 (i:Int) (k:Key):Bool:=decide (k.k=1)&&decide (k.c=i)
def fO (p:Pool) (i:Int):Key:=match(aW p.t).find? (j8 i) with|some k=>k|none=>fT
def mz (p:Pool) (i n:Int):Key:=⟨(fO p i).b,(fO p i).a,(fO p i).k,(m5 p.cells n).2.1,Tp (m5 p.cells n).1 (m5 p.cells n).2.1⟩
def xG (p:Pool) (i n:Int):Pool×Bool:=(⟨(bC p.t (mz p i n)).1,p.ages,ji (m5 p.cells n).1 i,p.vols,p.next⟩,(bC p.t (mz p i n)).2)
def Bk (p:Pool) (x:Pool×Bool):Pool×Bool:=if x.2=true∧g8 x.1=true then(x.1,true) else(p,false)
theorem Tq (p:Pool) (x:Pool×Bool):eF (Bk p x).1≤max (eF p) 500:=by
 unfold Bk
 split
 ·rename_i h;have:=Ru h.2;simp only[];omega
 ·simp only[];omega
def iK (p:Pool) (i:Int):Pool×Bool:=
 if g8 p=true then(match fu p.cells i with
  |none=>(p,false)
  |some c=>if c.u=true∧0≤cY p.cells∧cY p.cells≤i then Bk p (xG p i c.n) else(p,false)) else(p,false)
theorem Ot (p:Pool) (i:Int):eF (iK p i).1≤max (eF p) 500:=by
 unfold iK
 split
 ·split
  ·simp only[];omega
  ·split
   ·exact Tq _ _
   ·simp only[];omega
 ·simp only[];omega
end Go.T
namespace Go.T
theorem Ba {α:Type} (w:α→Nat): ∀l m:List α,tot w (l++m)=tot w l+tot w m
 |[],m=>by simp[tot]
 |a::l,m=>by simp only[List.cons_append,tot,Ba w l m];omega
theorem VX {α:Type} {l:List α} {i:Nat} {a b:α} (ha:l[i]?=some a) (hb:l[i+1]?=some b):l=l.take i++a::b::l.drop (i+2):=by
 obtain⟨h1,e1⟩:=List.getElem?_eq_some_iff.1 ha
 obtain⟨h2,e2⟩:=List.getElem?_eq_some_iff.1 hb
 conv=>lhs;rw[←List.take_append_drop i l]
 rw[List.drop_eq_getElem_cons h1,List.drop_eq_getElem_cons h2,e1,e2]
theorem BP (l:List Key):aR (cz l)≤l.length+1:=by
 have h1:=tr l
 have h2:=tw l
 unfold aR;omega
theorem gh {t:Tree} {i:Nat} {a:List (List Key)} (h:t.nodes[i]?=some a):g9 t i=aO a:=by unfold g9;rw[List.getD_eq_getElem?_getD,h];rfl
theorem qc (n:Nat) (t:Tree):jK (n+1) t=match nN t with|none=>t|some i=>jK n (cD t i):=rfl
theorem tD {t:Tree} {i:Nat} (h:i+1<t.nodes.length):tot aR (cD t i).nodes+(cD t i).nodes.length≤tot aR t.nodes+t.nodes.length:=by
 obtain⟨a,ha⟩: ∃a,t.nodes[i]?=some a:=⟨_,List.getElem?_eq_getElem (by omega)⟩
 obtain⟨b,hb⟩: ∃b,t.nodes[i+1]?=some b:=⟨_,List.getElem?_eq_getElem h⟩
 have hl:=rm h
 have hs:=congrArg (tot aR) (VX ha hb)
 rw[Ba] at hs
 simp only[tot] at hs
 have la:=cL a
 have lb:=cL b
 have hn:=BP (g9 t i++g9 t (i+1))
 rw[List.length_append,gh ha,gh hb] at hn
 have e:tot aR (cD t i).nodes=tot aR (t.nodes.take i)+aR (cz (aO a++aO b))+tot aR (t.nodes.drop (i+2)):=by
  unfold cD jJ
  simp only[]
  rw[Ba,Ba,gh ha,gh hb]
  simp[tot]
 have sa:aR a=a.length+tot bJ a:=rfl
 have sb:aR b=b.length+tot bJ b:=rfl
 omega
theorem PK {n:Nat} {t:Tree} (h:nN t=none):jK n t=t:=by
 cases n with
 |zero=>rfl
 |succ n=>rw[qc,h]
theorem Bl {t:Tree} {i:Nat} (h:i+1<t.nodes.length) (hl:t.lows.length=t.nodes.length):(cD t i).lows.length=(cD t i).nodes.length:=by
 have h1:=xp t i 2 [t.lows.getD i 0] [cz (g9 t i++g9 t (i+1))] (by omega)
 have h2:=Ae t i 2 [t.lows.getD i 0] [cz (g9 t i++g9 t (i+1))] (by omega)
 simp only[List.length_singleton] at h1 h2
 unfold cD
 omega
theorem Ou: ∀(n:Nat) (t:Tree),t.lows.length=t.nodes.length→tot aR (jK n t).nodes+(jK n t).nodes.length≤tot aR t.nodes+t.nodes.length∧(jK n t).lows.length=(jK n t).nodes.length
 |0,t,h=>⟨Nat.le_refl _,h⟩
 |n+1,t,h=>by
  rw[qc]
  cases hp:nN t with
  |none=>exact⟨Nat.le_refl _,h⟩
  |some i=>
   have hlt:=(qb hp).1
   have h1:=tD hlt
   have h2:=Ou n (cD t i) (Bl hlt h)
   exact⟨by simp only[];omega,h2.2⟩
theorem Ov {k:Key} (h:fR k=true):0≤k.b∧k.b≤15∧1≤k.a∧k.a≤60∧0≤k.k∧k.k≤2:=by
 simp only[fR,iJ,Bool.and_eq_true,decide_eq_true_eq] at h
 omega
theorem UK {b a:Int} (h: -1000≤b∧b≤1000∧ -1000≤a∧a≤1000):fU b a=64*b+a:=by
 unfold fU
 rw[UB (by omega),aJ (by omega)]
theorem PL {k:Key} (h:fR k=true):fU k.b k.a=64*k.b+k.a:=by
 have:=Ov h
 exact UK (by omega)
theorem I0 {f:Int→Bool} {l:List Int} {x:Int} (h0:l[0]?=some x) (hx:f x=true): ∀n:Nat,0<n→n≤l.length→ ∃j:Nat,pk f l n=j∧j<n
 |0,h,_=>by omega
 |n+1,_,hn=>by
  unfold pk
  rw[List.getElem?_eq_getElem (by omega)]
  simp only[]
  split
  ·exact⟨n,rfl,by omega⟩
  ·rename_i hf
   cases n with
   |zero=>
    rw[List.getElem?_eq_getElem (by omega)] at h0
    cases h0;exact absurd hx hf
   |succ n=>
    obtain⟨j,h1,h2⟩:=I0 h0 hx (n+1) (by omega) (by omega)
    exact⟨j,h1,by omega⟩
theorem I1 {t:Tree} {k:Key} (h:dQ t=true) (hk:fR k=true): ∃j:Nat,pn t k.b k.a=j∧j<t.nodes.length:=by
 have h1:=oL h
 have h2:=Ov hk
 have h3:=PL hk
 unfold pn
 have:=I0 (f:=fun x=>decide (x≤fU k.b k.a)) (PF h) (by simp only[decide_eq_true_eq];omega) t.lows.length (by omega) (Nat.le_refl _)
 rw[h1.2.2] at this ⊢
 exact this
theorem Ow (n:List (List Key)) (k:Key):aR (cg n k).1≤aR n+2:=by
 have h1:=Aa n k
 have h2:=Ab n k
 unfold aR;omega
theorem Rv (t:Tree) (i c:Nat) (lows:List Int) (nodes:List (List (List Key))):tot aR (jJ t i c lows nodes).nodes≤tot aR t.nodes+tot aR nodes:=by
 have h:tot aR (t.nodes.take i++t.nodes.drop i)=tot aR t.nodes:=by rw[List.take_append_drop]
 have h2:tot aR (t.nodes.drop (i+c))≤tot aR (t.nodes.drop i):=by
  rw[←List.drop_drop]
  have h3:tot aR ((t.nodes.drop i).take c++(t.nodes.drop i).drop c)=tot aR (t.nodes.drop i):=by rw[List.take_append_drop]
  rw[Ba] at h3;omega
 unfold jJ
 simp only[Ba] at h ⊢
 omega
theorem UL {t:Tree} {i:Nat} {k:Key} (hl:t.lows.length=t.nodes.length) (hi:i<t.nodes.length) (ht: ∀n∈t.nodes,tot bJ n≤8∧n.length≤3):
 tot aR (ju t i k).nodes≤tot aR t.nodes+40∧(ju t i k).nodes.length≤t.nodes.length+1∧(ju t i k).lows.length=(ju t i k).nodes.length:=by
 have hn:=ht t.nodes[i] (List.getElem_mem hi)
 have hg:t.nodes.getD i []=t.nodes[i]:=by rw[List.getD_eq_getElem?_getD,List.getElem?_eq_getElem hi];rfl
 have hp:=Ow t.nodes[i] k
 have hk:=nr t.nodes[i] k
 have hz:aR t.nodes[i]=t.nodes[i].length+tot bJ t.nodes[i]:=rfl
 unfold ju
 rw[hg]
 generalize cn t.nodes[i] k=l at*
 have e1:=BP (l.take ((l.length+1)/2))
 have e2:=BP (l.drop ((l.length+1)/2))
 rw[List.length_take] at e1
 rw[List.length_drop] at e2
 have key: ∀(lows:List Int) (nodes:List (List (List Key))),lows.length=nodes.length→nodes.length≤2→tot aR nodes≤40→tot aR (jJ t i 1 lows nodes).nodes≤tot aR t.nodes+40∧(jJ t i 1 lows nodes).nodes.length≤t.nodes.length+1∧(jJ t i 1 lows nodes).lows.length=(jJ t i 1 lows nodes).nodes.length:=by
  intro lows nodes h1 h2 h3
  have h4:=Rv t i 1 lows nodes
  have h5:=Ae t i 1 lows nodes (by omega)
  have h6:=xp t i 1 lows nodes (by omega)
  omega
 split
 ·split
  ·exact key _ _ rfl (by simp) (by simp[tot])
  ·exact key _ _ rfl (by simp) (by simp only[tot];omega)
 ·exact key _ _ rfl (by simp) (by simp only[tot];omega)
theorem MN {t:Tree} (h:dQ t=true): ∀n∈t.nodes,tot bJ n≤8∧n.length≤3:=fun n hn=>by
 have:=A9 (tC h hn);omega
theorem Ox {t:Tree} {i:Nat} {k:Key} (h:dQ t=true) (hi:i<t.nodes.length):
 tot aR (ju t i k).nodes+(ju t i k).nodes.length≤300∧(ju t i k).lows.length=(ju t i k).nodes.length∧dO (jK (ju t i k).nodes.length (ju t i k))≤600:=by
 have h1:=oL h
 have h2:=IY h
 have h3:=UL (k:=k) h1.2.2 hi (MN h)
 have h4:=Ou (ju t i k).nodes.length (ju t i k) h3.2.2
 refine⟨by omega,h3.2.2,?_⟩
 unfold dO o9
 omega
theorem QI {n:Nat} (h:8<n):(n+1)/2<n:=by omega
end Go.T
namespace Go.T
def tE:List Cell→Int→List Int
 |[],_=>[]
 |c::r,s=>if c.u=true then s::tE r (s+1) else tE r (s+1)
theorem Af: ∀(l:List Cell) (s:Int),(tE l s).length=bF l
 |[],s=>rfl
 |c::r,s=>by
  have:=Af r (s+1)
  unfold bF at this ⊢
  unfold tE
  cases h:c.u<;>simp[h,this]
theorem Ag: ∀{l:List Cell} {s:Int} {j:Nat} {c:Cell},l[j]?=some c→c.u=true→s+j∈tE l s
 |[],s,j,c,h,_=>by simp at h
 |d::r,s,0,c,h,hu=>by
  simp only[List.getElem?_cons_zero,Option.some.injEq] at h
  subst h
  unfold tE
  rw[if_pos hu];simp
 |d::r,s,j+1,c,h,hu=>by
  have:=Ag (l:=r) (s:=s+1) (j:=j) (by simpa using h) hu
  have e:s+((j+1:Nat):Int)=s+1+(j:Int):=by omega
  rw[e]
  unfold tE
  split
  ·exact .tail _ this
  ·exact this
theorem QJ {α:Type} [DecidableEq α]: ∀(l m:List α),l.Nodup→(∀x∈l,x∈m)→l.length≤m.length
 |[],m,_,_=>Nat.zero_le _
 |a::l,m,hn,hs=>by
  obtain⟨h1,h2⟩:=List.nodup_cons.1 hn
  have hm:=hs a (.head _)
  have:=QJ l (m.erase a) h2 fun x hx=>(List.mem_erase_of_ne (fun e=>by subst e;exact h1 hx)).2 (hs x (.tail _ hx))
  rw[List.length_erase_of_mem hm] at this
  have:=List.length_pos_of_mem hm
  simp only[List.length_cons];omega
theorem Oy {l:List Cell} {i g:Int} (h:(cellAt l i g).2=true): ∃c,fu l i=some c∧c.u=true:=by
 unfold cellAt at h
 cases hc:fu l i with
 |none=>rw[hc] at h;cases h
 |some c=>
  rw[hc] at h
  simp only at h
  split at h
  ·rename_i h1;exact⟨c,rfl,h1.1⟩
  ·cases h
theorem QL {p:Pool} (h:eg p=true) {i j:Nat} {x y:Key} (hi:(aW p.t)[i]?=some x) (hj:(aW p.t)[j]?=some y) (hx:x.k=1) (hy:y.k=1) (hc:x.c=y.c):i=j:=by
 unfold eg at h
 simp only[Bool.and_eq_true,vF] at h
 have key: ∀{i j:Nat} {x y:Key},(aW p.t)[i]?=some x→(aW p.t)[j]?=some y→x.k=1→y.k=1→x.c=y.c→ ¬i<j:=by
  intro i j x y hi hj hx hy hc hlt
  obtain⟨hjl,_⟩:=List.getElem?_eq_some_iff.1 hj
  have:=h.1 j hjl
  unfold cq at this
  rw[hj] at this
  simp only[Bool.and_eq_true,hy,decide_true,Bool.not_true,Bool.false_or,Bool.not_eq_true',List.any_eq_false] at this
  have hm:x∈(aW p.t).take j:=List.mem_of_getElem? (i:=i) (by rw[List.getElem?_take];simp[hlt,hi])
  have:=this.2.2 x hm
  simp[hx,hc] at this
 have h1:=key hi hj hx hy hc
 have h2:=key hj hi hy hx hc.symm
 omega
theorem Tr {p:Pool} (h:eg p=true) {x:Key} (hx:x∈aW p.t) (hk:x.k=1): ∃c,fu p.cells x.c=some c∧c.u=true:=by
 unfold eg at h
 simp only[Bool.and_eq_true,vF] at h
 obtain⟨i,hi,rfl⟩:=List.getElem_of_mem hx
 have:=h.1 i hi
 unfold cq at this
 rw[List.getElem?_eq_getElem hi] at this
 simp only[Bool.and_eq_true,hk,decide_true,Bool.not_true,Bool.false_or] at this
 exact Oy this.2.1
theorem I2: ∀(l:List Key),(∀(i j:Nat) (x y:Key),l[i]?=some x→l[j]?=some y→x.k=1→y.k=1→x.c=y.c→i=j)→((l.filter fun k=>decide (k.k=1)).map (·.c)).Nodup
 |[],_=> .nil
 |a::l,h=>by
  have ih:=I2 l fun i j x y h1 h2 h3 h4 h5=>by have:=h (i+1) (j+1) x y (by simpa using h1) (by simpa using h2) h3 h4 h5;omega
  by_cases ha:a.k=1
  ·rw[List.filter_cons_of_pos (by simpa using ha),List.map_cons]
   refine List.nodup_cons.2 ⟨fun hm=> ?_,ih⟩
   obtain⟨b,hb,e⟩:=List.mem_map.1 hm
   obtain⟨hb1,hb2⟩:=List.mem_filter.1 hb
   obtain⟨j,hj⟩:=List.mem_iff_getElem?.1 hb1
   have:=h 0 (j+1) a b rfl (by simpa using hj) ha (by simpa using hb2) e.symm
   omega
  ·rw[List.filter_cons_of_neg (by simpa using ha)];exact ih
theorem Ts {p:Pool} (h:eg p=true) {i:Int} {c:Cell} (hc:fu p.cells i=some c) (hu:c.u=true): ∃x∈aW p.t,j8 i x=true:=by
 have hi:0≤i∧i<p.cells.length:=Classical.byContradiction fun hn=>by rw[nj hn] at hc;cases hc
 obtain⟨n,rfl⟩: ∃n:Nat,i=n:=⟨i.toNat,by omega⟩
 rw[aK] at hc
 apply Classical.byContradiction
 intro hno
 have hn:=I2 (aW p.t) fun i j x y h1 h2 h3 h4 h5=>QL h h1 h2 h3 h4 h5
 have hsub: ∀y∈((aW p.t).filter fun k=>decide (k.k=1)).map (·.c),y∈(tE p.cells 0).erase (n:Int):=by
  intro y hy
  obtain⟨x,hx,rfl⟩:=List.mem_map.1 hy
  obtain⟨hx1,hx2⟩:=List.mem_filter.1 hx
  have hx2:x.k=1:=by simpa using hx2
  obtain⟨d,hd,hdu⟩:=Tr h hx1 hx2
  have hxi:0≤x.c∧x.c<p.cells.length:=Classical.byContradiction fun hn=>by rw[nj hn] at hd;cases hd
  obtain⟨m,hm⟩: ∃m:Nat,x.c=m:=⟨x.c.toNat,by omega⟩
  rw[hm,aK] at hd
  have:=Ag (s:=0) hd hdu
  refine(List.mem_erase_of_ne fun e=>hno ⟨x,hx1,by unfold j8;simp[hx2,e]⟩).2 ?_
  rw[hm];simpa using this
 have hlen:=QJ _ _ hn hsub
 have hm0:=Ag (s:=0) hc hu
 rw[List.length_erase_of_mem (by simpa using hm0),Af,List.length_map] at hlen
 have hpos:=List.length_pos_of_mem hm0
 rw[Af] at hpos
 unfold eg cc at h
 simp only[Bool.and_eq_true,decide_eq_true_eq] at h
 have:=h.2
 omega
theorem PM {p:Pool} (h:eg p=true) {i:Int} {c:Cell} (hc:fu p.cells i=some c) (hu:c.u=true):
 ∃m:Nat,(aW p.t)[m]?=some (fO p i)∧j8 i (fO p i)=true∧(∀j x,(aW p.t)[j]?=some x→j8 i x=true→j=m):=by
 obtain⟨x,hx,ho⟩:=Ts h hc hu
 unfold fO
 cases hf:(aW p.t).find? (j8 i) with
 |none=>exact absurd ho (by simpa using List.find?_eq_none.1 hf x hx)
 |some k=>
  have h1:=List.find?_some hf
  obtain⟨m,hm⟩:=List.mem_iff_getElem?.1 (List.mem_of_find?_eq_some hf)
  refine⟨m,hm,h1,fun j y hj hy=> ?_⟩
  unfold j8 at h1 hy
  simp only[Bool.and_eq_true,decide_eq_true_eq] at h1 hy
  exact QL h hj hm hy.1 h1.1 (by rw[hy.2,h1.2])
end Go.T
