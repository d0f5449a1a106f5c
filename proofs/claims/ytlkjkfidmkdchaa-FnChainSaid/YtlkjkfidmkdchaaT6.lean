import Derived.Test.YtlkjkfidmkdchaaT5
set_option linter.all false
namespace Go.T
def UZ (cf:Cf):Prop:= ∀f vs r fs r' fs',cf f vs r fs→cf f vs r' fs'→r=r'∧fs=fs'
def W7 (lp:Lp):Prop:= ∀f i c st (Q Q':TX→TS→Prop),lp f i c st Q→lp f i c st Q'→ ∃x s,Q x s∧Q' x s
theorem mI {R:Type} {cf:Cf} {lp:Lp} (hc:UZ cf) (hl:W7 lp) {Q Q':R→Prop}: ∀(e:Ev R),e.holds cf lp Q→e.holds cf lp Q'→ ∃r,Q r∧Q' r
 | .fail,h,_=>h.elim
 | .ret r,h,h'=>⟨r,h,h'⟩
 | .test b k,h,h'=>mI hc hl (k b) h h'
 | .row rows i k,⟨c,h1,h2⟩,⟨c',NO,TY⟩=>by
   rw[h1] at NO;cases NO;exact mI hc hl (k c) h2 TY
 | .byte rows i k,⟨c,h1,h2⟩,⟨c',NO,TY⟩=>by
   rw[h1] at NO;cases NO;exact mI hc hl (k c) h2 TY
 | .bytes rows k,⟨c,h1,h2⟩,⟨c',NO,TY⟩=>by
   rw[h1] at NO;cases NO;exact mI hc hl (k c) h2 TY
 | .call f vs k,⟨r,fs,h1,h2⟩,⟨r',fs',NO,TY⟩=>by
   obtain⟨rfl,rfl⟩:=hc _ _ _ _ _ _ h1 NO;exact mI hc hl (k r fs) h2 TY
 | .loop f i c st k,h,h'=>by
   obtain⟨x,s,h1,h2⟩:=hl _ _ _ _ _ _ h h';exact mI hc hl (k x s) h1 h2
 | .both a b,⟨r,h1,h2,h3⟩,⟨r',NO,TY,XC⟩=>by
   obtain⟨r0,e1,e2⟩:=mI hc hl a h1 NO;subst e1 e2;exact⟨_,h3,XC⟩
section
variable {C : jC}
theorem MW {cf:Cf} {lp:Lp} (hc:UZ cf) (hl:W7 lp) {fx:List Nat} {f i:Nat} {c:Code} {Q Q':TX→TS→Prop}: ∀(n:Nat) (st:TS),iter C cf lp fx f i c Q n st→iter C cf lp fx f i c Q' n st→ ∃x s,Q x s∧Q' x s
 |0,_,h,_=>h.elim
 |n+1,st,h,h'=>by
  obtain⟨⟨x,s⟩,h1,h2⟩:=mI hc hl _ h h'
  cases x with
  |norm=>
   simp only at h1 h2;rw[oC] at h1 h2;exact MW hc hl n _ h1 h2
  |ex id=>exact⟨_,_,h1,h2⟩
  |ret=>exact⟨_,_,h1,h2⟩
theorem P2 {cf:Cf} (hc:UZ cf) (k:Nat) (fx:List Nat): ∀n,W7 (N4 C cf k fx n)
 |0=>fun _ _ _ _ _ _ h _=>h.elim
 |n+1=>fun f i c st Q Q' h h'=>MW hc (P2 hc k fx n) k st h h'
theorem Dy: ∀k,UZ (gh C k)
 |0=>fun _ _ _ _ _ _ h _=>h.elim
 |k+1=>fun f vs r fs r' fs' h h'=>by
  unfold gh at h h'
  cases hx:C.ext f with
  |some p=>rw[hx] at h h';have h:p vs=some (r,fs):=h;have h':p vs=some (r',fs'):=h';rw[h] at h';cases h';exact⟨rfl,rfl⟩
  |none=>
  rw[hx] at h h';simp only at h h';obtain⟨p,h1,h2⟩:=mI (Dy k) (P2 (Dy k) k _ 4) _ h h';rw[h1] at h2
  cases h2
  exact⟨rfl,rfl⟩
theorem aB.ZS {f:FuncId} {vs:List TV} {r r':TV} {fs fs':List TV} (h:aB C f vs r fs) (h':aB C f vs r' fs'):r'=r∧fs'=fs:=by
 obtain⟨k,h⟩:=h;obtain⟨k',h'⟩:=h';obtain⟨h1,h2⟩:=Dy (max k k') _ _ _ _ _ _ (j9 (BE _ _) h) (j9 (Nat.le_max_right _ _) h');exact⟨h1.symm,h2.symm⟩
end
def dM {α:Type} (l:List α) (i:Int):Option α:=if 0≤i then l[i.toNat]? else none
theorem aQ {α:Type} (l:List α) (i:Nat):dM l (i:Int)=l[i]?:=by
 unfold dM;rw[aP (Int.natCast_nonneg i),sJ]
theorem pJ {α:Type} {l:List α} {i:Int} (h0:0≤i) (h1:i<l.length): ∃a,dM l i=some a:=by
 unfold dM;rw[aP h0];exact⟨_,aZ ax⟩
theorem kQ {α:Type} {l:List α} {i:Int} (h: ¬(0≤i∧i<l.length)):dM l i=none:=by
 unfold dM
 split
 ·exact Jr ax
 ·rfl
theorem bq {α:Type} (e:α→List TC) (l:List α) (i:Int):rowAt (l.map e) i=(dM l i).map e:=by
 unfold rowAt dM
 split
 ·rw[gY]
 ·rfl
theorem He {α:Type} {l:List α} {i:Int} {a:α} (h:dM l i=some a):a∈l:=by
 unfold dM at h
 split at h
 ·exact fC h
 ·cases h
def YA {α:Type} (l:List α) (i:Int) (a:α):List α:=l.set i.toNat a
theorem MX {α:Type} {e:α→List TC} {l:List α} {i:Int} {a a':α} {f:Nat} {cs:List TC} (h:dM l i=some a) (he:(e a).take f++cs++(e a).drop (f+cs.length)=e a'):setRow (l.map e) i f cs=(YA l i a').map e:=by
 unfold dM at h
 split at h
 ·unfold setRow YA
  rw[gY,h];simp only[jB,he,List.map_set]
 ·cases h
@[simp] theorem ie {α:Type} (e:α→List TC) (l:List α) (a b:Int):bg (l.map e) a b=((l.take b.toNat).drop a.toNat).map e:=by
  unfold bg;rw[←yt,←u9]
theorem rM {rows:List (List TC)} (h: ∀r∈rows,∀c∈r,∃v,c= .sc v):dw rows=true:=by
 unfold dw;rw[List.all_eq_true];intro r hr;rw[List.all_eq_true];intro c hc;obtain⟨v,rfl⟩:=h r hr c hc
 rfl
@[simp] theorem W8 (s:ByteArray):(ByteArray.data s).1.length=s.size:=rfl
@[simp] theorem MY (l h n:Int):mg l h n=decide (0≤l∧l≤h∧h≤n):=by unfold mg;rfl
end Go.T
namespace Go.T
structure Key where
 b:Int
 a:Int
 k:Int
 c:Int
 g:Int
 deriving DecidableEq
structure lU where
 id:Int
 fr:Int
 deriving DecidableEq
structure Cell where
 g:Int
 u:Bool
 n:Int
 deriving DecidableEq
structure iV where
 name:ByteArray
 ga:Int
 size:Int
 fx:Bool
structure Mp where
 name:ByteArray
 fx:Bool
 l:List Int
structure Tree where
 ay:List Int
 nodes:List (List (List Key))
structure bn where
 t:Tree
 aX:List lU
 cells:List Cell
 az:List iV
 next:Int
structure T8 where
 kind:Int
 name:ByteArray
 to:ByteArray
 a:Int
 b:Int
abbrev iI (n:Int):TC:= .sc (.int .i64 n)
abbrev iB (b:Bool):TC:= .sc (.bool b)
abbrev iS (s:ByteArray):TC:= .sc (.string s)
abbrev cI (n:Int):CE:= .sc (.int .i64 n)
abbrev cB (b:Bool):CE:= .sc (.bool b)
abbrev cS (s:ByteArray):CE:= .sc (.string s)
abbrev ak (a b:Int):Int:=NT .i64 a b
abbrev mz (a b:Int):Int:=Gr .i64 a b
abbrev Hf (a b:Int):Int:=NU .i64 a b
theorem aR {a b:Int} (h: -9223372036854775808≤a+b∧a+b≤9223372036854775807):ak a b=a+b:=UU h
theorem kg {a b:Int} (h: -9223372036854775808≤a-b∧a-b≤9223372036854775807):mz a b=a-b:=UW h
theorem K4 {a b:Int} (h: -9223372036854775808≤a*b∧a*b≤9223372036854775807):Hf a b=a*b:=UX h
abbrev RR:=List (List TC)
abbrev QV:=TV→List TV→Prop
abbrev QX:=TX→TS→Prop
abbrev sI:Sh:= .int .i64
abbrev sB:Sh:= .bool
abbrev sS:Sh:= .str
abbrev hz:Hint:= .z
abbrev hb:Hint→Hint→Hint:= .br
abbrev hr:List Sh→Hint→Hint:= .row
abbrev hc:A5→List A5→Hint→Hint:= .call
def cv (n:Int):List TC:=[.sc (.int .i64 n)]
def mW (n:Int):List TC:=[.sc (.int .u8 n)]
def ED (n:Bool):List TC:=[.sc (.bool n)]
def ck (x:Key):List TC:=[.sc (.int .i64 x.b),.sc (.int .i64 x.a),.sc (.int .i64 x.k),.sc (.int .i64 x.c),.sc (.int .i64 x.g)]
def cW (x:lU):List TC:=[.sc (.int .i64 x.id),.sc (.int .i64 x.fr)]
def cE (x:Cell):List TC:=[.sc (.int .i64 x.g),.sc (.bool x.u),.sc (.int .i64 x.n)]
def cU (x:iV):List TC:=[.sc (.string x.name),.sc (.int .i64 x.ga),.sc (.int .i64 x.size),.sc (.bool x.fx)]
def P3 (x:T8):List TC:=[.sc (.int .i64 x.kind),.sc (.string x.name),.sc (.string x.to),.sc (.int .i64 x.a),.sc (.int .i64 x.b)]
def qP (x:Mp):List TC:=[.sc (.string x.name),.sc (.bool x.fx),.sub 1 (x.l.map cv)]
def S3 (x:List Int):List TC:=[.sub 1 (x.map mW)]
def dI (x:List Key):List TC:=[.sub 5 (x.map ck)]
def bG (x:List (List Key)):List TC:=[.sub 1 (x.map dI)]
abbrev V3 (t:Tree):List TC:=[.sub 1 (t.ay.map cv),.sub 1 (t.nodes.map bG)]
abbrev Cc (p:bn):List TC:=[.sub 1 (p.t.ay.map cv),.sub 1 (p.t.nodes.map bG),.sub 2 (p.aX.map cW),.sub 3 (p.cells.map cE),.sub 4 (p.az.map cU),.sc (.int .i64 p.next)]
abbrev vI (n:Int):TV:= .c (.sc (.int .i64 n))
abbrev vB (b:Bool):TV:= .c (.sc (.bool b))
abbrev vS (s:ByteArray):TV:= .c (.sc (.string s))
abbrev tE (l:List Int):TV:= .c (.sub 1 (l.map cv))
abbrev yP (l:List Int):TV:= .c (.sub 1 (l.map mW))
abbrev gZ (l:List Key):TV:= .c (.sub 5 (l.map ck))
abbrev W9 (l:List (List (List Key))):TV:= .c (.sub 1 (l.map bG))
abbrev jN (l:List lU):TV:= .c (.sub 2 (l.map cW))
abbrev ql (l:List Cell):TV:= .c (.sub 3 (l.map cE))
abbrev Cd (l:List iV):TV:= .c (.sub 4 (l.map cU))
abbrev MZ (l:List Mp):TV:= .c (.sub 3 (l.map qP))
abbrev yQ (k:Key):TV:= .ag [.sc (.int .i64 k.b),.sc (.int .i64 k.a),.sc (.int .i64 k.k),.sc (.int .i64 k.c),.sc (.int .i64 k.g)]
abbrev oh (n:List (List Key)):TV:= .ag [.sub 1 (n.map dI)]
abbrev iD (t:Tree):TV:= .ag (V3 t)
abbrev iE (p:bn):TV:= .ag (Cc p)
section
variable {i : Int}
@[simp] theorem A6 {l:List Int} {K:Int→Prop}:(∃n,rowAt (l.map cv) i=some [.sc (.int .i64 n)]∧K n)↔ ∃a,dM l i=some a∧K a:=by
  rw[bq]
  constructor
  ·rintro⟨n,h,hK⟩
   obtain⟨a,ha,h⟩:=Option.map_eq_some_iff.1 h;unfold cv at h;cases h;exact⟨_,ha,hK⟩
  ·rintro⟨a,ha,hK⟩
   exact⟨_,by rw[ha];rfl,hK⟩
@[simp] theorem ZT {l:List Int} {K:Int→Prop}:(∃n,rowAt (l.map mW) i=some [.sc (.int .u8 n)]∧K n)↔ ∃a,dM l i=some a∧K a:=by
  rw[bq]
  constructor
  ·rintro⟨n,h,hK⟩
   obtain⟨a,ha,h⟩:=Option.map_eq_some_iff.1 h;unfold mW at h;cases h;exact⟨_,ha,hK⟩
  ·rintro⟨a,ha,hK⟩
   exact⟨_,by rw[ha];rfl,hK⟩
@[simp] theorem U0 {l:List Bool} {K:Bool→Prop}:(∃n,rowAt (l.map ED) i=some [.sc (.bool n)]∧K n)↔ ∃a,dM l i=some a∧K a:=by
  rw[bq]
  constructor
  ·rintro⟨n,h,hK⟩
   obtain⟨a,ha,h⟩:=Option.map_eq_some_iff.1 h;unfold ED at h;cases h;exact⟨_,ha,hK⟩
  ·rintro⟨a,ha,hK⟩
   exact⟨_,by rw[ha];rfl,hK⟩
@[simp] theorem rN {l:List Key} {K:Int→Int→Int→Int→Int→Prop}:(∃b a k c g,rowAt (l.map ck) i=some [.sc (.int .i64 b),.sc (.int .i64 a),.sc (.int .i64 k),.sc (.int .i64 c),.sc (.int .i64 g)]∧K b a k c g)↔ ∃x,dM l i=some x∧K x.b x.a x.k x.c x.g:=by
  rw[bq]
  constructor
  ·rintro⟨_,_,_,_,_,h,hK⟩
   obtain⟨a,ha,h⟩:=Option.map_eq_some_iff.1 h;unfold ck at h;cases h;exact⟨_,ha,hK⟩
  ·rintro⟨a,ha,hK⟩
   exact⟨_,_,_,_,_,by rw[ha];rfl,hK⟩
@[simp] theorem Dz {l:List lU} {K:Int→Int→Prop}:(∃b a,rowAt (l.map cW) i=some [.sc (.int .i64 b),.sc (.int .i64 a)]∧K b a)↔ ∃x,dM l i=some x∧K x.id x.fr:=by
  rw[bq]
  constructor
  ·rintro⟨_,_,h,hK⟩
   obtain⟨a,ha,h⟩:=Option.map_eq_some_iff.1 h;unfold cW at h;cases h;exact⟨_,ha,hK⟩
  ·rintro⟨a,ha,hK⟩
   exact⟨_,_,by rw[ha];rfl,hK⟩
@[simp] theorem wE {l:List Cell} {K:Int→Bool→Int→Prop}:(∃g u n,rowAt (l.map cE) i=some [.sc (.int .i64 g),.sc (.bool u),.sc (.int .i64 n)]∧K g u n)↔ ∃x,dM l i=some x∧K x.g x.u x.n:=by
  rw[bq]
  constructor
  ·rintro⟨_,_,_,h,hK⟩
   obtain⟨a,ha,h⟩:=Option.map_eq_some_iff.1 h;unfold cE at h;cases h;exact⟨_,ha,hK⟩
  ·rintro⟨a,ha,hK⟩
   exact⟨_,_,_,by rw[ha];rfl,hK⟩
@[simp] theorem A7 {l:List iV} {K:ByteArray→Int→Int→Bool→Prop}:(∃s a z f,rowAt (l.map cU) i=some [.sc (.string s),.sc (.int .i64 a),.sc (.int .i64 z),.sc (.bool f)]∧K s a z f)↔ ∃x,dM l i=some x∧K x.name x.ga x.size x.fx:=by
  rw[bq]
  constructor
  ·rintro⟨_,_,_,_,h,hK⟩
   obtain⟨a,ha,h⟩:=Option.map_eq_some_iff.1 h;unfold cU at h;cases h;exact⟨_,ha,hK⟩
  ·rintro⟨a,ha,hK⟩
   exact⟨_,_,_,_,by rw[ha];rfl,hK⟩
@[simp] theorem abN {l:List T8} {K:Int→ByteArray→ByteArray→Int→Int→Prop}:(∃k s t a b,rowAt (l.map P3) i=some [.sc (.int .i64 k),.sc (.string s),.sc (.string t),.sc (.int .i64 a),.sc (.int .i64 b)]∧K k s t a b)↔ ∃x,dM l i=some x∧K x.kind x.name x.to x.a x.b:=by
  rw[bq]
  constructor
  ·rintro⟨_,_,_,_,_,h,hK⟩
   obtain⟨a,ha,h⟩:=Option.map_eq_some_iff.1 h;unfold P3 at h;cases h;exact⟨_,ha,hK⟩
  ·rintro⟨a,ha,hK⟩
   exact⟨_,_,_,_,_,by rw[ha];rfl,hK⟩
@[simp] theorem aaz {l:List Mp} {K:ByteArray→Bool→List (List TC)→Prop}:(∃s f r,rowAt (l.map qP) i=some [.sc (.string s),.sc (.bool f),.sub 1 r]∧K s f r)↔ ∃x,dM l i=some x∧K x.name x.fx (x.l.map cv):=by
  rw[bq]
  constructor
  ·rintro⟨_,_,_,h,hK⟩
   obtain⟨a,ha,h⟩:=Option.map_eq_some_iff.1 h;unfold qP at h;cases h;exact⟨_,ha,hK⟩
  ·rintro⟨a,ha,hK⟩
   exact⟨_,_,_,by rw[ha];rfl,hK⟩
@[simp] theorem Hg {l:List (List Key)} {K:List (List TC)→Prop}:(∃r,rowAt (l.map dI) i=some [.sub 5 r]∧K r)↔ ∃x,dM l i=some x∧K (x.map ck):=by
  rw[bq]
  constructor
  ·rintro⟨_,h,hK⟩
   obtain⟨a,ha,h⟩:=Option.map_eq_some_iff.1 h;unfold dI at h;cases h;exact⟨_,ha,hK⟩
  ·rintro⟨a,ha,hK⟩
   exact⟨_,by rw[ha];rfl,hK⟩
@[simp] theorem Ce {l:List (List (List Key))} {K:List (List TC)→Prop}:(∃r,rowAt (l.map bG) i=some [.sub 1 r]∧K r)↔ ∃x,dM l i=some x∧K (x.map dI):=by
  rw[bq]
  constructor
  ·rintro⟨_,h,hK⟩
   obtain⟨a,ha,h⟩:=Option.map_eq_some_iff.1 h;unfold bG at h;cases h;exact⟨_,ha,hK⟩
  ·rintro⟨a,ha,hK⟩
   exact⟨_,by rw[ha];rfl,hK⟩
@[simp] theorem YB {l:List (List Int)} {K:List (List TC)→Prop}:(∃r,rowAt (l.map S3) i=some [.sub 1 r]∧K r)↔ ∃x,dM l i=some x∧K (x.map mW):=by
  rw[bq]
  constructor
  ·rintro⟨_,h,hK⟩
   obtain⟨a,ha,h⟩:=Option.map_eq_some_iff.1 h;unfold S3 at h;cases h;exact⟨_,ha,hK⟩
  ·rintro⟨a,ha,hK⟩
   exact⟨_,by rw[ha];rfl,hK⟩
end
@[simp] theorem natAdd (a b:Nat):Nat.add a b=a+b:=rfl
@[simp] theorem U1 {α:Type} (a b:List α):List.append a b=a++b:=rfl
theorem zO (l:List Int):dw (l.map cv)=true:=rM fun r hr c hc=>by
 obtain⟨a,_,rfl⟩:=List.mem_map.1 hr;unfold cv at hc;simp only[jz] at hc;exact⟨_,hc⟩
theorem OG (l:List Int):dw (l.map mW)=true:=rM fun r hr c hc=>by
 obtain⟨a,_,rfl⟩:=List.mem_map.1 hr;unfold mW at hc;simp only[jz] at hc;exact⟨_,hc⟩
theorem vr (l:List Key):dw (l.map ck)=true:=rM fun r hr c hc=>by
 obtain⟨a,_,rfl⟩:=List.mem_map.1 hr;unfold ck at hc;simp only[cw,List.not_mem_nil,or_false] at hc;rcases hc with h|h|h|h|h<;>exact⟨_,h⟩
theorem DA (l:List lU):dw (l.map cW)=true:=rM fun r hr c hc=>by
 obtain⟨a,_,rfl⟩:=List.mem_map.1 hr;unfold cW at hc;simp only[cw,List.not_mem_nil,or_false] at hc;rcases hc with h|h<;>exact⟨_,h⟩
theorem Hh (l:List Cell):dw (l.map cE)=true:=rM fun r hr c hc=>by
 obtain⟨a,_,rfl⟩:=List.mem_map.1 hr;unfold cE at hc;simp only[cw,List.not_mem_nil,or_false] at hc;rcases hc with h|h|h<;>exact⟨_,h⟩
theorem zP (l:List iV):dw (l.map cU)=true:=rM fun r hr c hc=>by
 obtain⟨a,_,rfl⟩:=List.mem_map.1 hr;unfold cU at hc;simp only[cw,List.not_mem_nil,or_false] at hc;rcases hc with h|h|h|h<;>exact⟨_,h⟩
@[simp] theorem K5 (v:Value):dw [[.sc v]]=true:=rM fun r hr c hc=>by
  simp only[jz] at hr;subst hr;simp only[jz] at hc;exact⟨_,hc⟩
attribute [simp] zO OG vr DA Hh zP
end Go.T
namespace Go.T
theorem JY {α:Type} (g:α→α): ∀(l:List α) (i:Nat) (a:α),l[i]?=some a→l.modify i g=l.set i (g a)
 |[],i,a,h=>by simp at h
 |x::r,0,a,h=>by simp only[cZ,aU] at h;subst h;rfl
 |x::r,i+1,a,h=>by
  simp only[oV] at h;rw[List.modify_succ_cons,List.set_cons_succ,JY g r i a h]
theorem bA {α:Type} {e:α→List TC} {l:List α} {i:Int} {f:Nat} {cs:List TC} {g:α→α} (he: ∀a,(e a).take f++cs++(e a).drop (f+cs.length)=e (g a)):setRow (l.map e) i f cs=(l.modify i.toNat g).map e:=by
 unfold setRow;rw[gY]
 cases h:l[i.toNat]? with
 |none=>
  have:l.length≤i.toNat:=List.getElem?_eq_none_iff.1 h;simp only[Option.map_none];rw[List.modify_eq_self this]
 |some a=>
  simp only[jB];rw[he,JY g l _ a h,List.map_set]
theorem S4 {α:Type} {l:List α} {i:Int} {g:α→α}:dM (l.modify i.toNat g) i=(dM l i).map g:=by
 unfold dM
 split
 ·simp
 ·rfl
theorem mod_mod {α:Type} {l:List α} {i:Nat} {f g:α→α}:(l.modify i f).modify i g=l.modify i (fun x=>g (f x)):=by
 rw[List.modify_modify_eq];rfl
theorem M0 {α β:Type} {o:Option α} {f:α→β} {K:β→Prop}:(∃x,o.map f=some x∧K x)↔ ∃x,o=some x∧K (f x):=by
 cases o with
 |none=>simp
 |some a=>simp
@[simp] theorem YC {l:List Key} {i:Int} {v:Int}:setRow (l.map ck) i 0 [.sc (.int .i64 v)]=(l.modify i.toNat fun x=>{x with b:=v}).map ck:=bA fun a=>rfl
@[simp] theorem YD {l:List Key} {i:Int} {v:Int}:setRow (l.map ck) i 1 [.sc (.int .i64 v)]=(l.modify i.toNat fun x=>{x with a:=v}).map ck:=bA fun a=>rfl
@[simp] theorem YE {l:List Key} {i:Int} {v:Int}:setRow (l.map ck) i 2 [.sc (.int .i64 v)]=(l.modify i.toNat fun x=>{x with k:=v}).map ck:=bA fun a=>rfl
@[simp] theorem YF {l:List Key} {i:Int} {v:Int}:setRow (l.map ck) i 3 [.sc (.int .i64 v)]=(l.modify i.toNat fun x=>{x with c:=v}).map ck:=bA fun a=>rfl
@[simp] theorem YG {l:List Key} {i:Int} {v:Int}:setRow (l.map ck) i 4 [.sc (.int .i64 v)]=(l.modify i.toNat fun x=>{x with g:=v}).map ck:=bA fun a=>rfl
@[simp] theorem aaA {l:List Key} {i:Int} {v0:Int} {v1:Int} {v2:Int} {v3:Int} {v4:Int}:setRow (l.map ck) i 0 [.sc (.int .i64 v0),.sc (.int .i64 v1),.sc (.int .i64 v2),.sc (.int .i64 v3),.sc (.int .i64 v4)]=(l.modify i.toNat fun _=>⟨v0,v1,v2,v3,v4⟩).map ck:=bA fun a=>rfl
@[simp] theorem XX {l:List lU} {i:Int} {v:Int}:setRow (l.map cW) i 0 [.sc (.int .i64 v)]=(l.modify i.toNat fun x=>{x with id:=v}).map cW:=bA fun a=>rfl
@[simp] theorem Q4 {l:List lU} {i:Int} {v:Int}:setRow (l.map cW) i 1 [.sc (.int .i64 v)]=(l.modify i.toNat fun x=>{x with fr:=v}).map cW:=bA fun a=>rfl
@[simp] theorem aaB {l:List lU} {i:Int} {v0:Int} {v1:Int}:setRow (l.map cW) i 0 [.sc (.int .i64 v0),.sc (.int .i64 v1)]=(l.modify i.toNat fun _=>⟨v0,v1⟩).map cW:=bA fun a=>rfl
@[simp] theorem XY {l:List Cell} {i:Int} {v:Int}:setRow (l.map cE) i 0 [.sc (.int .i64 v)]=(l.modify i.toNat fun x=>{x with g:=v}).map cE:=bA fun a=>rfl
@[simp] theorem Q5 {l:List Cell} {i:Int} {v:Bool}:setRow (l.map cE) i 1 [.sc (.bool v)]=(l.modify i.toNat fun x=>{x with u:=v}).map cE:=bA fun a=>rfl
@[simp] theorem Q6 {l:List Cell} {i:Int} {v:Int}:setRow (l.map cE) i 2 [.sc (.int .i64 v)]=(l.modify i.toNat fun x=>{x with n:=v}).map cE:=bA fun a=>rfl
@[simp] theorem U2 {l:List Cell} {i:Int} {v0:Int} {v1:Bool} {v2:Int}:setRow (l.map cE) i 0 [.sc (.int .i64 v0),.sc (.bool v1),.sc (.int .i64 v2)]=(l.modify i.toNat fun _=>⟨v0,v1,v2⟩).map cE:=bA fun a=>rfl
@[simp] theorem V4 {l:List iV} {i:Int} {v:ByteArray}:setRow (l.map cU) i 0 [.sc (.string v)]=(l.modify i.toNat fun x=>{x with name:=v}).map cU:=bA fun a=>rfl
@[simp] theorem OH {l:List iV} {i:Int} {v:Int}:setRow (l.map cU) i 1 [.sc (.int .i64 v)]=(l.modify i.toNat fun x=>{x with ga:=v}).map cU:=bA fun a=>rfl
@[simp] theorem V5 {l:List iV} {i:Int} {v:Int}:setRow (l.map cU) i 2 [.sc (.int .i64 v)]=(l.modify i.toNat fun x=>{x with size:=v}).map cU:=bA fun a=>rfl
@[simp] theorem XZ {l:List iV} {i:Int} {v:Bool}:setRow (l.map cU) i 3 [.sc (.bool v)]=(l.modify i.toNat fun x=>{x with fx:=v}).map cU:=bA fun a=>rfl
@[simp] theorem aaC {l:List iV} {i:Int} {v0:ByteArray} {v1:Int} {v2:Int} {v3:Bool}:setRow (l.map cU) i 0 [.sc (.string v0),.sc (.int .i64 v1),.sc (.int .i64 v2),.sc (.bool v3)]=(l.modify i.toNat fun _=>⟨v0,v1,v2,v3⟩).map cU:=bA fun a=>rfl
@[simp] theorem Xc {l:List T8} {i:Int} {v:Int}:setRow (l.map P3) i 0 [.sc (.int .i64 v)]=(l.modify i.toNat fun x=>{x with kind:=v}).map P3:=bA fun a=>rfl
@[simp] theorem Xd {l:List T8} {i:Int} {v:ByteArray}:setRow (l.map P3) i 1 [.sc (.string v)]=(l.modify i.toNat fun x=>{x with name:=v}).map P3:=bA fun a=>rfl
@[simp] theorem YH {l:List T8} {i:Int} {v:ByteArray}:setRow (l.map P3) i 2 [.sc (.string v)]=(l.modify i.toNat fun x=>{x with to:=v}).map P3:=bA fun a=>rfl
@[simp] theorem ZU {l:List T8} {i:Int} {v:Int}:setRow (l.map P3) i 3 [.sc (.int .i64 v)]=(l.modify i.toNat fun x=>{x with a:=v}).map P3:=bA fun a=>rfl
@[simp] theorem ZV {l:List T8} {i:Int} {v:Int}:setRow (l.map P3) i 4 [.sc (.int .i64 v)]=(l.modify i.toNat fun x=>{x with b:=v}).map P3:=bA fun a=>rfl
@[simp] theorem abO {l:List T8} {i:Int} {v0:Int} {v1:ByteArray} {v2:ByteArray} {v3:Int} {v4:Int}:setRow (l.map P3) i 0 [.sc (.int .i64 v0),.sc (.string v1),.sc (.string v2),.sc (.int .i64 v3),.sc (.int .i64 v4)]=(l.modify i.toNat fun _=>⟨v0,v1,v2,v3,v4⟩).map P3:=bA fun a=>rfl
@[simp] theorem V6 {l:List Mp} {i:Int} {v:ByteArray}:setRow (l.map qP) i 0 [.sc (.string v)]=(l.modify i.toNat fun x=>{x with name:=v}).map qP:=bA fun a=>rfl
@[simp] theorem X3 {l:List Mp} {i:Int} {v:Bool}:setRow (l.map qP) i 1 [.sc (.bool v)]=(l.modify i.toNat fun x=>{x with fx:=v}).map qP:=bA fun a=>rfl
@[simp] theorem YI {l:List Mp} {i:Int} {v:List Int}:setRow (l.map qP) i 2 [.sub 1 (v.map cv)]=(l.modify i.toNat fun x=>{x with l:=v}).map qP:=bA fun a=>rfl
@[simp] theorem aaD {l:List Mp} {i:Int} {v0:ByteArray} {v1:Bool} {v2:List Int}:setRow (l.map qP) i 0 [.sc (.string v0),.sc (.bool v1),.sub 1 (v2.map cv)]=(l.modify i.toNat fun _=>⟨v0,v1,v2⟩).map qP:=bA fun a=>rfl
@[simp] theorem aaE {l:List (Int)} {i:Int} {v:Int}:setRow (l.map cv) i 0 [.sc (.int .i64 v)]=(l.modify i.toNat fun _=>v).map cv:=bA fun a=>rfl
@[simp] theorem ZX {l:List (Int)} {i:Int} {v:Int}:setRow (l.map mW) i 0 [.sc (.int .u8 v)]=(l.modify i.toNat fun _=>v).map mW:=bA fun a=>rfl
@[simp] theorem U3 {l:List (Bool)} {i:Int} {v:Bool}:setRow (l.map ED) i 0 [.sc (.bool v)]=(l.modify i.toNat fun _=>v).map ED:=bA fun a=>rfl
@[simp] theorem aaF {l:List (List Key)} {i:Int} {v:List Key}:setRow (l.map dI) i 0 [.sub 5 (v.map ck)]=(l.modify i.toNat fun _=>v).map dI:=bA fun a=>rfl
@[simp] theorem ZY {l:List (List (List Key))} {i:Int} {v:List (List Key)}:setRow (l.map bG) i 0 [.sub 1 (v.map dI)]=(l.modify i.toNat fun _=>v).map bG:=bA fun a=>rfl
end Go.T
namespace Go.T
theorem ct {α:Type} (l:List α) (P:Nat→Prop) (fin:P l.length) (step: ∀i a,i<l.length→l[i]?=some a→l.drop i=a::l.drop (i+1)→l.take (i+1)=l.take i++[a]→P (i+1)→P i):P 0:=by
 have: ∀k i,i+k=l.length→P i:=by
  intro k
  induction k with
  |zero=>intro i h;have:i=l.length:=by omega
         subst this;exact fin
  |succ k ih=>
   intro i h
   have hi:i<l.length:=by omega
   refine step i l[i] hi (aZ hi) (El hi) ?_ (ih (i+1) ax);rw[List.take_add_one,aZ hi];rfl
 exact this l.length 0 ax
def tot {α:Type} (w:α→Nat):List α→Nat
 |[]=>0
 |a::r=>w a+tot w r
theorem Hi {α:Type} (w:α→Nat): ∀(l m:List α),tot w (l++m)=tot w l+tot w m
 |[],m=>by simp[tot]
 |a::r,m=>by simp only[wV,tot,Hi w r];omega
theorem tF {α:Type} {w:α→Nat}: ∀{l:List α} {a:α},a∈l→w a≤tot w l
 |[],_,h=>by cases h
 |b::r,a,h=>by
  simp only[tot];rcases cw.1 h with rfl|h
  ·omega
  ·have:=tF (w:=w) h;omega
theorem wF {α:Type} {w:α→Nat} {l:List α} {i:Nat} {a:α} (h:l[i]?=some a):w a≤tot w l:=tF (fC h)
def cL (s:List Key):Nat:=s.length
def bw (n:List (List Key)):Nat:=n.length+tot cL n
def zQ (n:List (List (List Key))):Nat:=n.length+tot bw n
def eK (t:Tree):Nat:=t.ay.length+zQ t.nodes
def yR (v:iV):Nat:=v.name.size
def DB (l:List iV):Nat:=l.length+tot yR l
def aV (p:bn):Nat:=eK p.t+p.aX.length+p.cells.length+DB p.az
end Go.T
namespace Go.T
section
variable {C : jC} {f : FuncId} {vs : List TV}
theorem ye {x b:Bool} (h:aB C f vs (vB x) []):aB C f vs (vB b) []↔b=x:=⟨fun h'=>by have:=(h.ZS h').1;simpa using this,fun e=>e▸h⟩
theorem YJ {x b:Int} (h:aB C f vs (vI x) []):aB C f vs (vI b) []↔b=x:=⟨fun h'=>by have:=(h.ZS h').1;simpa using this,fun e=>e▸h⟩
theorem U4 {z:Nat} {x b:RR} (h:aB C f vs (.c (.sub z x)) []):aB C f vs (.c (.sub z b)) []↔b=x:=⟨fun h'=>by have:=(h.ZS h').1;simpa using this,fun e=>e▸h⟩
theorem YK {x b:Int} {y c:Bool} (h:aB C f vs (.tu [(0,[iI x]),(0,[iB y])]) []):aB C f vs (.tu [(0,[iI b]),(0,[iB c])]) []↔b=x∧c=y:=⟨fun h'=>by have:=(h.ZS h').1;simpa using this,fun⟨e,e'⟩=>e▸e'▸h⟩
end
theorem Q7 {s:ByteArray} {i:Nat} (h:i<s.size): ∃n:Int,rz s i=some n∧0≤n∧n≤255:=by
 unfold rz;rw[aP (Int.natCast_nonneg i),sJ];have:s[i]?=some s[i]:=getElem?_pos s i h;rw[this];have:=(s[i]).toNat_lt;refine⟨_,rfl,?_,?_⟩<;>show _≤_<;>simp only[]<;>omega
theorem M3 {n:Int} (h: -9223372036854775808≤n∧n≤9223372036854775807):va .i64 n=n:=by unfold va;exact IntWalk.i64_in _ h
def mX (a lo hi:Int):Bool:=decide (lo≤a∧a≤hi)
def nH (a:Int):Bool:=mX a 0 65535
def jO (x:Key):Bool:=mX x.b 0 15&&mX x.a 1 60&&mX x.k 0 2&&(if x.k=1 then mX x.c 0 23&&mX x.g 0 999 else decide (x.c=0)&&decide (x.g=0))
def iM (x y:Key):Bool:=decide (x.b<y.b∨(x.b=y.b∧x.a<y.a))
def jP (x y:Key):Bool:=decide (x.b=y.b∧x.a=y.a)
def fJ (n:Nat) (f:Nat→Bool):Bool:=(List.range' 0 n).all f
theorem pK {i n:Nat} (h:i<n):List.range' i (n-i)=i::List.range' (i+1) (n-(i+1)):=by
 obtain⟨k,hk⟩: ∃k,n-i=k+1:=⟨n-i-1,by omega⟩;rw[hk,show n-(i+1)=k by omega]
 rfl
theorem vt (n:Nat) (P:Nat→Prop) (fin:P n) (step: ∀i,i<n→P (i+1)→P i):P 0:=by
 have: ∀k i,i+k=n→P i:=by
  intro k
  induction k with
  |zero=>intro i h;have:i=n:=by omega
         subst this;exact fin
  |succ k ih=>intro i h;exact step i ax (ih (i+1) ax)
 exact this n 0 ax
theorem P4 {α:Type} (f g:α→Bool): ∀l:List α,l.all (fun x=>f x&&g x)=(l.all f&&l.all g)
 |[]=>rfl
 |a::r=>by simp only[pX,P4 f g r];cases f a<;>cases g a<;>simp
theorem S5 (n:Nat) (f g:Nat→Bool):fJ n (fun i=>f i&&g i)=(fJ n f&&fJ n g):=P4 f g _
theorem oH {n:Nat} {f:Nat→Bool}:fJ n f=true↔ ∀i,i<n→f i=true:=by
 unfold fJ;rw[List.all_eq_true]
 constructor
 ·intro h i hi;exact h i (by simp[List.mem_range'];exact hi)
 ·intro h i hi
  simp[List.mem_range'] at hi;exact h i hi
def S6 {α:Type} (l:List α) (f:α→Bool) (i:Nat):Bool:=match l[i]? with|some a=>f a|none=>true
def mA {α:Type} (l:List α) (f:α→α→Bool):Nat→Bool
 |0=>true
 |k+1=>match l[k]?,l[k+1]? with|some x,some y=>f x y|_,_=>true
theorem U5 {α:Type} (l:List α) (f:α→Bool):fJ l.length (S6 l f)=l.all f:=by
 rw[Bool.eq_iff_iff,oH,List.all_eq_true]
 constructor
 ·intro h a ha
  obtain⟨i,hi,rfl⟩:=List.getElem_of_mem ha;have:=h i hi;simpa [S6,hi] using this
 ·intro h i hi
  simp only[S6,aZ hi];exact h _ (u7 hi)
def jF (l:List Key) (i:Nat):Bool:=S6 l jO i&&mA l iM i
def EE (l:List Key):Bool:=fJ l.length (jF l)&&decide (l.length≤60)
theorem Hj (l:List Key):EE l=(l.all jO&&(fJ l.length (mA l iM)&&decide (l.length≤60))):=by
 rw[←Bool.and_assoc,←U5,←S5];rfl
def gx:Key:=⟨0,0,0,0,0⟩
def setAt (l:List Key) (b a:Int):Option Key:=l.find? fun x=>decide (x.b=b∧x.a=a)
def dA (k:Key):Bool→List Key→List Key
 |put,[]=>if put then [] else [k]
 |put,x::r=>(if !put&& !iM x k then [k] else [])++(if jP x k then [] else [x])++dA k (put|| !iM x k) r
def hD (l:List Key) (k:Key):List Key:=dA k false l
theorem EF (k:Key): ∀(l:List Key) (put:Bool),(dA k put l).length≤l.length+(if put then 0 else 1)
 |[],put=>by simp only[dA];split<;>simp
 |x::r,put=>by
  have:=EF k r (put|| !iM x k);simp only[dA,bX,ez]
  have h1:(if jP x k then([]:List Key) else [x]).length≤1:=by split<;>simp
  revert h1
  generalize (if jP x k then([]:List Key) else [x])=m;intro h1
  cases put<;>cases hk:iM x k<;>simp[hk] at this ⊢ <;>omega
theorem rO (l:List Key) (k:Key):(hD l k).length≤l.length+1:=by have:=EF k l false;simpa [hD] using this
def bU (old new:List Key):List Key:=new.foldl hD old
theorem uN: ∀(new old:List Key),(bU old new).length≤old.length+new.length
 |[],old=>by simp[bU]
 |x::r,old=>by
  have:=uN r (hD old x);have h2:=rO old x;simp only[bU,List.foldl_cons,ez] at this ⊢;omega
def rP (l:List Key):List Key:=l.filter fun k=> !decide (k.k=0)
def q7 (n:List (List Key)):List Key:=n.foldl bU []
def aL (n:List (List Key)):List Key:=rP (q7 n)
theorem wZ: ∀(n:List (List Key)) (a:List Key),(n.foldl bU a).length≤a.length+tot cL n
 |[],a=>by simp[tot]
 |s::r,a=>by
  have:=wZ r (bU a s);have h2:=uN s a;simp only[List.foldl_cons,tot,cL] at this ⊢;omega
theorem fT (n:List (List Key)):(aL n).length≤tot cL n:=by
 have h1:=wZ n [];have h2:=L4 (fun k:Key=> !decide (k.k=0)) (q7 n);simp only[List.length_nil,ic] at h1;exact pY h2 h1
def eT (n:List (List Key)):Nat:=tot cL n
def fe (n:List (List Key)):Bool:=n.all (fun s=>EE s&& !decide (s.length=0))&&decide (n.length≤3)&&decide (eT n≤8)
def cM (l:List Key):List (List Key):=if l.length=0 then [] else [l]
def aE (t:Tree):List Key:=t.nodes.flatMap aL
theorem Cg: ∀(l:List (List (List Key))),(l.flatMap aL).length≤tot bw l
 |[]=>by simp[tot]
 |n::r=>by
  have:=Cg r;have h2:=fT n;simp only[List.flatMap_cons,bX,tot,bw];omega
theorem ji (t:Tree):(aE t).length≤eK t:=by
 have:=Cg t.nodes;unfold aE eK zQ;omega
def lu (t:Tree) (b:Int):List Key:=(aE t).filter fun k=>decide (k.b=b)
theorem OI (t:Tree) (b:Int):(lu t b).length≤(aE t).length:=L4 _ _
def eL (b a:Int):Int:=ak (Hf 64 b) a
def dW {α:Type} (p:α→Bool):List α→Int→Int
 |[],_=> -1
 |a::r,i=>if p a then i else dW p r (i+1)
theorem Ch {α:Type} (p:α→Bool): ∀(l:List α) (i:Int),0≤i→decide (0≤dW p l i)=l.any p
 |[],i,_=>by simp[dW]
 |a::r,i,h=>by
  by_cases hp:p a=true
  ·simp[dW,hp,h]
  ·have:=Ch p r (i+1) ax
   simp only[dW,aF hp,List.any_cons];rw[this];simp[hp]
theorem DC {α:Type} (p:α→Bool): ∀(l:List α) (i:Int),0≤i→(dW p l i= -1∧ ∀a∈l,p a=false)∨ ∃(j:Nat) (a:α),dW p l i=i+j∧l[j]?=some a∧p a=true∧j<l.length∧ ∀k,k<j→ ∀b,l[k]?=some b→p b=false
 |[],i,_=> .inl ⟨rfl,fun a h=>by cases h⟩
 |a::r,i,h=>by
  simp only[dW]
  cases hp:p a with
  |true=>exact .inr ⟨0,a,by simp,rfl,hp,by simp,fun k hk=>by omega⟩
  |false=>
   rcases DC p r (i+1) ax with⟨h1,h2⟩|⟨j,b,h1,h2,h3,h4,h5⟩
   ·refine .inl ⟨by simpa using h1,fun b hb=> ?_⟩
    rcases cw.1 hb with rfl|hb
    ·exact hp
    ·exact h2 b hb
   ·refine .inr ⟨j+1,b,by simp[h1];omega,h2,h3,by simp;omega,fun k hk c hc=> ?_⟩
    cases k with
    |zero=>simp at hc;rw[←hc];exact hp
    |succ k=>exact h5 k ax c hc
theorem P5 {α:Type} (p:α→Bool) (l:List α): -1≤dW p l 0∧dW p l 0<l.length:=by
 rcases DC p l 0 ax with⟨h,_⟩|⟨j,a,h,_,_,h4,_⟩<;>omega
theorem p9 {α:Type} (p:α→Bool) (l:List α) (h: ¬dW p l 0<0): ∃a,dM l (dW p l 0)=some a∧p a=true:=by
 rcases DC p l 0 ax with⟨h1,_⟩|⟨j,a,h1,h2,h3,_⟩
 ·omega
 ·refine⟨a,?_,h3⟩
  rw[h1,Int.zero_add,aQ];exact h2
def ff (l:List lU) (id:Int):Int:=dW (fun a=>decide (a.id=id)) l 0
theorem S7 (l:List lU) (id:Int): -1≤ff l id∧ff l id<l.length:=P5 _ _
theorem JZ (l:List lU) (id:Int) (h: ¬ff l id<0): ∃a,dM l (ff l id)=some a∧a.id=id:=by
 obtain⟨a,h1,h2⟩:=p9 _ l h;exact⟨a,h1,ry h2⟩
def EG (l:List lU):Nat→Int→List Int
 |0,_=>[]
 |n+1,id=>if ff l id<0 then [] else id::(match dM l (ff l id) with|some a=>EG l n a.fr|none=>[])
def pathOf (l:List lU) (id:Int):List Int:=EG l (l.length+1) id
theorem J0 (l:List lU): ∀(n:Nat) (id:Int),(EG l n id).length≤n
 |0,_=>by simp[EG]
 |n+1,id=>by
  simp only[EG]
  split
  ·simp
  ·split
   ·have:=J0 l n
    simp only[ez];rename_i a _;have:=this a.fr;omega
   ·simp
theorem Hl (l:List lU) (id:Int):(pathOf l id).length≤l.length+1:=J0 l _ id
def S8 (l:List Int) (n:Int):Bool:=l.any fun a=>decide (a=n)
def P6 (path:List Int):Key×Bool→Key→Key×Bool:=fun p k=>if S8 path k.a&&(!p.2||decide (p.1.a<k.a)) then(k,true) else p
def near (keys:List Key) (path:List Int):Key×Bool:=keys.foldl (P6 path) (gx,false)
def qC (t:Tree) (l:List lU) (b id:Int):Key×Bool:=near (lu t b) (pathOf l id)
def DD (t:Tree) (l:List lU) (b id:Int):Key×Bool:=near (lu t b) ((pathOf l id).drop 1)
def qD (t:Tree) (l:List lU) (k:Key) (id:Int):Bool:=(qC t l k.b id).2&&decide ((qC t l k.b id).1.a=k.a)
def J1 (p:bn) (k:Key):Bool:=p.az.any fun v=>decide (k.b<v.size)&&qD p.t p.aX k v.ga
def hJ (l:List lU) (id:Int):List Int:=if id=0 then [] else(l.filter fun a=>decide (a.fr=id)).map (·.id)
theorem OJ (l:List lU) (id:Int):(hJ l id).length≤l.length:=by
 unfold hJ
 split
 ·simp
 ·rw[dB];exact L4 _ _
abbrev S9 (p:Key×Bool):TV:= .tu [(1,[iI p.1.b,iI p.1.a,iI p.1.k,iI p.1.c,iI p.1.g]),(0,[iB p.2])]
def Ta (n:Int):Bool:=mX n 97 122||mX n 48 57
def jj (s:ByteArray) (i:Nat):Bool:=match rz s i with|some n=>Ta n|none=>true
def lz (s:ByteArray):Bool:=fJ s.size (jj s)&&mX s.size 1 6
def jk (l:List lU) (i:Nat):Bool:=S6 l (fun a=>mX a.id 1 60) i&&(mA l (fun x y=>decide (x.id<y.id)) i&&S6 l (fun a=>decide (a.fr=0)|| !decide (ff (l.take i) a.fr<0)) i)
def jQ (l:List lU):Bool:=fJ l.length (jk l)&&decide (l.length≤16)
def dx (l:List iV) (s:ByteArray):Int:=dW (fun v=>decide (v.name=s)) l 0
def J2 (l:List iV) (id:Int):Bool:= !l.any fun v=>decide (v.ga=id)
def cellAt (l:List Cell) (i gen:Int):Int×Bool:=match dM l i with
 |none=>(0,false)
 |some c=>if c.u=true∧c.g=gen then(c.n,true) else(0,false)
def dF (l:List Cell):Nat:=(l.filter (·.u)).length
def oI (c:Cell):Bool:=mX c.g 0 999&&(nH c.n&&(c.u||decide (c.n=0)))
def fU (l:List Cell):Bool:=l.all oI&&decide (l.length=24)
abbrev tIB (p:Int×Bool):TV:= .tu [(0,[iI p.1]),(0,[iB p.2])]
@[simp] theorem Gg {l:List Key} {b a k c g:Int}:List.append (l.map ck) [[iI b,iI a,iI k,iI c,iI g]]=(l++[(⟨b,a,k,c,g⟩:Key)]).map ck:=by simp[ck]
@[simp] theorem K6 {l:List Int} {b:Int}:List.append (l.map cv) [[iI b]]=(l++[b]).map cv:=by simp[cv]
@[simp] theorem YL {l:List Int} {b:Int}:List.append (l.map mW) [[.sc (.int .u8 b)]]=(l++[b]).map mW:=by simp[mW]
@[simp] theorem Z0 {l:List lU} {b a:Int}:List.append (l.map cW) [[iI b,iI a]]=(l++[(⟨b,a⟩:lU)]).map cW:=by simp[cW]
@[simp] theorem zR {l:List iV} {s:ByteArray} {b a:Int} {q:Bool}:List.append (l.map cU) [[iS s,iI b,iI a,iB q]]=(l++[(⟨s,b,a,q⟩:iV)]).map cU:=by simp[cU]
@[simp] theorem Z3 {l:List (List Key)} {s:List Key}:List.append (l.map dI) [[.sub 5 (s.map ck)]]=(l++[s]).map dI:=by simp[dI]
@[simp] theorem YM {l:List (List (List Key))} {s:List (List Key)}:List.append (l.map bG) [[.sub 1 (s.map dI)]]=(l++[s]).map bG:=by simp[bG]
@[simp] theorem K7 {l:List Mp} {s:ByteArray} {f:Bool} {r:List Int}:List.append (l.map qP) [[iS s,iB f,.sub 1 (r.map cv)]]=(l++[(⟨s,f,r⟩:Mp)]).map qP:=by simp[qP]
@[simp] theorem yS {α:Type} {e:α→List TC} {l m:List α}:List.append (l.map e) (m.map e)=(l++m).map e:=by simp
@[simp] theorem YO:([]:RR)=([]:List Key).map ck↔True:=by simp
@[simp] theorem eB {α:Type} (l:List α):Nat.succ (List.length l)=l.length+1:=rfl
theorem rQ (b a k c g:Int):dw [[iI b,iI a,iI k,iI c,iI g]]=true:=vr [⟨b,a,k,c,g⟩]
theorem OK (b a:Int):dw [[iI b,iI a]]=true:=DA [⟨b,a⟩]
theorem pL (s:ByteArray) (b a:Int) (q:Bool):dw [[iS s,iI b,iI a,iB q]]=true:=zP [⟨s,b,a,q⟩]
attribute [simp] rQ OK pL
@[simp] theorem fW (k:Key):(⟨k.b,k.a,k.k,k.c,k.g⟩:Key)=k:=rfl
@[simp] theorem iN (k:lU):(⟨k.id,k.fr⟩:lU)=k:=rfl
@[simp] theorem fE (k:Cell):(⟨k.g,k.u,k.n⟩:Cell)=k:=rfl
@[simp] theorem iO (k:iV):(⟨k.name,k.ga,k.size,k.fx⟩:iV)=k:=rfl
@[simp] theorem iP (k:Mp):(⟨k.name,k.fx,k.l⟩:Mp)=k:=rfl
@[simp] theorem lA (k:T8):(⟨k.kind,k.name,k.to,k.a,k.b⟩:T8)=k:=rfl
theorem fF {n b:Nat} (h:n*b≤140737488355328∧n≤140737488355328):fits n b=true:=by rw[US];exact mT h
end Go.T
namespace Go.T
def gy (s:List Key):Bool:=EE s&& !decide (s.length=0)
theorem Q8 (n:List (List Key)):fe n=(n.all gy&&(decide (n.length≤3)&&decide (eT n≤8))):=by
 unfold fe;rw[Bool.and_assoc];rfl
def OL (ay:List Int) (i:Nat) (x:Int):Bool:=match ay[i]? with
 |some lo=> !decide (x<lo)&&(match ay[i+1]? with|some hi=>decide (x<hi)|none=>true)
 |none=>true
def kR (ay:List Int) (i:Nat) (k:Key):Bool:=OL ay i (eL k.b k.a)
def dO (ay:List Int) (i:Nat) (s:List Key):Bool:=s.all (kR ay i)
def eC (t:Tree) (i:Nat):Bool:=mA t.ay (fun x y=>decide (x<y)) i&&(match t.nodes[i]? with
 |some n=>fe n&&((decide (i=0)|| !decide ((aL n).length=0))&&n.all (dO t.ay i))
 |none=>true)
def gj (t:Tree):Bool:=mX t.nodes.length 1 20&&(decide (t.ay.length=t.nodes.length)&&((match t.ay[0]? with|some x=>decide (x=0)|none=>true)&&(fJ t.nodes.length (eC t)&&decide ((aE t).length≤60))))
def dQ (p:bn) (i:Nat):Bool:=match p.az[i]? with
 |some v=>lz v.name&&(mX v.size 1 12&&(!decide (ff p.aX v.ga<0)&&(decide ((hJ p.aX v.ga).length=0)&&(mA p.az (fun x y=>Iv x.name y.name) i&& !(p.az.take i).any fun u=>decide (u.ga=v.ga)))))
 |none=>true
def lB (p:bn):Bool:=fJ p.az.length (dQ p)&&decide (p.az.length≤6)
def g6 (p:bn) (l:List Key) (i:Nat):Bool:=match l[i]? with
 |some k=> !decide (ff p.aX k.a<0)&&(!decide (k.k=1)||((cellAt p.cells k.c k.g).2&& !(l.take i).any fun x=>decide (x.k=1)&&decide (x.c=k.c)))
 |none=>true
def eD (l:List Key):Nat:=(l.filter fun k=>decide (k.k=1)).length
def pU (p:bn):Bool:=fJ (aE p.t).length (g6 p (aE p.t))&&decide ((dF p.cells:Int)=eD (aE p.t))
def cH (p:bn):Bool:=p.aX.all (fun a=>decide (a.id<p.next))&&(gj p.t&&(jQ p.aX&&(fU p.cells&&(mX p.next 1 61&&(lB p&&pU p)))))
def wG (p:bn) (i b:Int):Int:=match dM p.az i with
 |none=>0
 |some v=>if 0≤b∧b<v.size then(if(qC p.t p.aX b v.ga).2=true∧(qC p.t p.aX b v.ga).1.k=1 then(cellAt p.cells (qC p.t p.aX b v.ga).1.c (qC p.t p.aX b v.ga).1.g).1 else 0) else 0
def pV:bn:=⟨⟨[0],[[]]⟩,[],List.replicate 24 ⟨0,false,0⟩,[],1⟩
def mJ (l:List Key):List Bool:=(List.range 24).map fun m:Nat=>l.any fun x=>decide (x.k=1)&&decide (x.c=(m:Int))
theorem M4:mJ []=List.replicate 24 false:=by decide
theorem M5 (l:List Key) {c:Int} (h:0≤c∧c<24):dM (mJ l) c=some (l.any fun x=>decide (x.k=1)&&decide (x.c=c)):=by
 obtain⟨n,rfl⟩: ∃n:Nat,c=n:=⟨c.toNat,by omega⟩;rw[aQ];unfold mJ;rw[gY,List.getElem?_range ax]
 rfl
theorem M6 (l:List Key) (k:Key) (hk:k.k=1) (h:0≤k.c∧k.c<24):(mJ l).modify k.c.toNat (fun _=>true)=mJ (l++[k]):=by
 apply List.ext_getElem?
 intro m;rw[List.getElem?_modify];unfold mJ;rw[gY,gY]
 by_cases hm:m<24
 ·rw[List.getElem?_range hm]
  simp only[jB,List.any_append,List.any_cons,List.any_nil,Bool.or_false,hk,decide_true,e9]
  by_cases e:k.c.toNat=m
  ·have:k.c=(m:Int):=by omega
   simp[e,this]
  ·have: ¬k.c=(m:Int):=by omega
   simp[e,this]
 ·rw[Jr j8];rfl
theorem K8 (l:List Key) (k:Key) (hk: ¬k.k=1):mJ (l++[k])=mJ l:=by
 unfold mJ;simp[hk]
theorem IF (k:Key) (l:List Key):eD (k::l)=(if k.k=1 then 1 else 0)+eD l:=by
 unfold eD
 by_cases h:k.k=1<;>simp[h]
 omega
theorem Q9 {l:List Cell} {i g:Int} (h:(cellAt l i g).2=true):0≤i∧i<l.length:=by
 unfold cellAt at h
 apply Classical.byContradiction
 intro hn;rw[kQ hn] at h
 cases h
theorem fG {p:bn} (h:aV p≤4194304):eK p.t≤4194304∧p.aX.length≤4194304∧p.cells.length≤4194304∧p.az.length≤4194304∧tot yR p.az≤4194304:=by
 unfold aV DB at h;omega
end Go.T
namespace Go.T
def blocks (p:bn) (i:Nat) (k:Nat):List Int:=(List.range k).map fun b:Nat=>wG p i b
def A8 (p:bn) (i:Nat) (v:iV):Mp:=⟨v.name,v.fx,blocks p i (min v.size.toNat 12)⟩
def nt (p:bn):Nat→List iV→List Mp
 |_,[]=>[]
 |i,v::r=>A8 p i v::nt p (i+1) r
def ki (p:bn):List Mp:=nt p 0 p.az
theorem M7 (p:bn) (i k:Nat):blocks p i (k+1)=blocks p i k++[wG p i k]:=by
 unfold blocks;rw[List.range_succ,ot];rfl
theorem Ho (p:bn) (i k:Nat):(blocks p i k).length=k:=by simp[blocks]
theorem Ci (p:bn): ∀(l:List iV) (i:Nat),(nt p i l).length=l.length
 |[],_=>rfl
 |v::r,i=>by show(A8 p i v::nt p (i+1) r).length=_;rw[ez,Ci p r];rfl
theorem OM (p:bn):(ki p).length=p.az.length:=Ci p _ _
theorem Hp (p:bn): ∀(l:List iV) (i:Nat),∀m∈nt p i l,m.l.length≤12
 |[],_,m,h=>by cases h
 |v::r,i,m,h=>by
  rcases cw.1 h with rfl|h
  ·show(blocks p i _).length≤12
   rw[Ho];omega
  ·exact Hp p r _ m h
theorem Tb (p:bn): ∀m∈ki p,m.l.length≤12:=Hp p _ _
def jR (l:List Cell) (i:Int):List Cell:=match dM l i with
 |none=>l
 |some c=>if fU l=true∧c.u=true then l.modify i.toNat (fun _=>⟨lT (ak c.g 1) 1000,false,0⟩) else l
theorem IG {l:List Cell} {i:Int} (h:dM l i=none):jR l i=l:=by unfold jR;rw[h]
theorem K9 {l:List Cell} {i:Int} (h:fU l=false):jR l i=l:=by
 unfold jR
 cases dM l i with
 |none=>rfl
 |some c=>exact aF (fun hh=>by rw[h] at hh;cases hh.1)
theorem M8 {l:List Cell} {i:Int} {c:Cell} (hc:dM l i=some c) (h:c.u=false):jR l i=l:=by
 unfold jR;rw[hc];exact aF (fun hh=>by rw[h] at hh;cases hh.2)
theorem La {l:List Cell} {i:Int} {c:Cell} (hc:dM l i=some c) (h:fU l=true) (hu:c.u=true):jR l i=l.modify i.toNat (fun _=>⟨lT (ak c.g 1) 1000,false,0⟩):=by
 unfold jR;rw[hc];exact aP ⟨h,hu⟩
theorem Lb (l:List Cell) (i:Int):(jR l i).length=l.length:=by
 unfold jR
 cases dM l i with
 |none=>rfl
 |some c=>simp only[];split<;>simp
def A9 (c:Cell):Bool:= !c.u
def lC (l:List Cell):Int:=dW A9 l 0
def kC (l:List Cell) (n:Int):List Cell×Int×Bool:=
 if fU l=true∧nH n=true∧0≤lC l then(l.modify (lC l).toNat (fun c=>⟨c.g,true,n⟩),lC l,true) else(l,0,false)
theorem tG {l:List Cell} {n:Int} (h: ¬(fU l=true∧nH n=true∧0≤lC l)):kC l n=(l,0,false):=aF h
theorem Cj {l:List Cell} {n:Int} (h:fU l=true∧nH n=true∧0≤lC l):kC l n=(l.modify (lC l).toNat (fun c=>⟨c.g,true,n⟩),lC l,true):=aP h
theorem Lc (l:List Cell) (n:Int):(kC l n).1.length=l.length:=by
 unfold kC;split<;>simp
abbrev aaG (x:List Cell×Int×Bool):TV:= .tu [(0,[.sub 3 (x.1.map cE)]),(0,[iI x.2.1]),(0,[iB x.2.2])]
abbrev T9 (x:Int×Int):TV:= .tu [(0,[iI x.1]),(0,[iI x.2])]
def Ck (p:bn) (s:ByteArray):Bool:=cH p&&lz s
theorem tH {p:bn} (h:cH p=true):lB p=true:=by
 simp only[cH,c8] at h;exact h.2.2.2.2.2.1
theorem EH {p:bn} (h:cH p=true):jQ p.aX=true:=by
 simp only[cH,c8] at h;exact h.2.2.1
theorem M9 {p:bn} {i:Int} {v:iV} (h:lB p=true) (hv:dM p.az i=some v):1≤v.size∧v.size≤12:=by
 obtain⟨n,rfl,hn⟩: ∃n:Nat,i=n∧n<p.az.length:=by
  have:0≤i∧i<p.az.length:=Classical.byContradiction fun hn=>by rw[kQ hn] at hv;cases hv
  exact⟨i.toNat,by omega,by omega⟩
 simp only[lB,c8,oH] at h;have:=h.1 n hn;rw[aQ] at hv;simp only[dQ,hv,c8] at this;have:=this.2.1;simp[mX] at this;omega
theorem Tc {l:List lU} (h:jQ l=true): ∀a∈l,1≤a.id:=by
 intro a ha;simp only[jQ,c8,oH] at h;obtain⟨i,hi,rfl⟩:=List.getElem_of_mem ha;have h1:=h.1 i hi;simp only[jk,c8] at h1;have h2:=h1.1;simp only[S6,aZ hi] at h2;simp[mX] at h2;omega
theorem Td {l:List lU} {id:Int} (h:jQ l=true): ∀x∈hJ l id,1≤x:=by
 intro x hx;unfold hJ at hx
 split at hx
 ·cases hx
 ·obtain⟨a,ha,rfl⟩:=List.mem_map.1 hx
  exact Tc h a (List.mem_filter.1 ha).1
def DE (l:List Key) (b a:Int):Key×Bool:=match setAt l b a with|some k=>(k,true)|none=>(gx,false)
def nu (n:List (List Key)) (b a:Int):Nat→Key×Bool
 |0=>(gx,false)
 |k+1=>match n[k]? with
  |some s=>if(DE s b a).2=true then(if(DE s b a).1.k=0 then(gx,false) else DE s b a) else nu n b a k
  |none=>(gx,false)
def qQ (f:Int→Bool) (l:List Int):Nat→Int
 |0=> -1
 |k+1=>match l[k]? with
  |some x=>if f x=true then(k:Int) else qQ f l k
  |none=> -1
def mK (t:Tree) (b a:Int):Int:=qQ (fun x=>decide (x≤eL b a)) t.ay t.ay.length
def uO (t:Tree) (b a:Int):Key×Bool:=match dM t.nodes (mK t b a) with
 |some n=>nu n b a n.length
 |none=>(gx,false)
def EI (p:bn) (id:Int):Int:=if J2 p.az id=true∧(hJ p.aX id).length=1 then(match dM (hJ p.aX id) 0 with|some x=>x|none=>0) else 0
def P7 (p:bn) (k:Key):Bool:=if EI p k.a=0 then false else !(uO p.t k.b (EI p k.a)).2
def qR (p:bn) (step:Int) (k:Key):Bool:=if step=1 then !J1 p k else if step=2 then decide (k.k=2)&& !(DD p.t p.aX k.b k.a).2 else P7 p k
def hasB (id:Int) (k:Key):Bool:=decide (k.a=id)
def Xe (id:Int) (k:Key):Bool:= !hasB id k
theorem Te (id:Int) (l:List Key):l.all (Xe id)= !(l.any (hasB id)):=by
 induction l with
 |nil=>rfl
 |cons k r ih=>simp[pX,List.any_cons,ih,Xe]
def tI (p:bn) (a:lU):Bool:=(aE p.t).all (Xe a.id)&&(J2 p.az a.id&&decide ((hJ p.aX a.id).length≤1))
def lI (p:bn) (j:Int):Int:=dW (qR p j) (aE p.t) 0
def Hq (p:bn):Int:=dW (tI p) p.aX 0
def dm (p:bn):Int×Int:=
 if cH p=true then(if 0≤lI p 1 then(1,lI p 1) else if 0≤lI p 2 then(2,lI p 2) else if 0≤lI p 3 then(3,lI p 3) else if 0≤Hq p then(4,Hq p) else(0,0)) else(0,0)
abbrev tPB (x:bn×Bool):TV:= .tu [(1,[.sub 1 (x.1.t.ay.map cv),.sub 1 (x.1.t.nodes.map bG),.sub 2 (x.1.aX.map cW),.sub 3 (x.1.cells.map cE),.sub 4 (x.1.az.map cU),iI x.1.next]),(0,[iB x.2])]
theorem Hr {α:Type} {w:α→Nat} {f:α→α}: ∀{l:List α} {i:Nat},(∀a,l[i]?=some a→w (f a)≤w a)→tot w (l.modify i f)≤tot w l
 |[],i,h=>by cases i<;>exact bI _
 |a::r,0,h=>by
  rw[List.modify_zero_cons];have:=h a rfl;simp only[tot];omega
 |a::r,i+1,h=>by
  rw[List.modify_succ_cons];have:=Hr (l:=r) (i:=i) (w:=w) (f:=f) fun b hb=>h b (by simpa using hb);simp only[tot];omega
end Go.T
namespace Go.T
def Ld (p x:bn):bn×Int:=if cH x=true then(x,0) else(p,6)
def DF (p:bn) (i:Int):bn:=⟨p.t,p.aX,p.cells,p.az.take i.toNat++p.az.drop (i.toNat+1),p.next⟩
def w4 (p:bn) (s:ByteArray):bn×Int:=
 if Ck p s=true then(if dx p.az s<0 then(p,2) else Ld p (DF p (dx p.az s))) else(p,1)
abbrev Ua (x:bn×Int):TV:= .tu [(1,[.sub 1 (x.1.t.ay.map cv),.sub 1 (x.1.t.nodes.map bG),.sub 2 (x.1.aX.map cW),.sub 3 (x.1.cells.map cE),.sub 4 (x.1.az.map cU),iI x.1.next]),(0,[iI x.2])]
theorem U6 {α:Type} (w:α→Nat) (l:List α) (k:Nat):tot w (l.take k++l.drop (k+1))≤tot w l:=by
 have h:tot w (l.take k++l.drop k)=tot w l:=by rw[BA]
 rw[Hi] at h ⊢
 have h2:tot w (l.drop (k+1))≤tot w (l.drop k):=by
  cases hk:l.drop k with
  |nil=>
   have:l.drop (k+1)=[]:=by rw[←List.drop_drop];simp[hk]
   rw[this];exact bI _
  |cons a r=>
   have:l.drop (k+1)=r:=by
    have e:l.drop (k+1)=(l.drop k).drop 1:=by rw[List.drop_drop]
    rw[e,hk];rfl
   rw[this];simp only[tot];omega
 omega
theorem J3 (p:bn) (i:Int):aV (DF p i)≤aV p:=by
 have h1:=U6 yR p.az i.toNat
 have h2:(p.az.take i.toNat++p.az.drop (i.toNat+1)).length≤p.az.length:=by
  rw[bX,dj,gf];omega
 unfold aV DB DF;simp only[];omega
theorem Tf (p:bn) (s:ByteArray):aV (w4 p s).1≤aV p:=by
 unfold w4 Ld
 split
 ·split
  ·exact bI _
  ·split
   ·exact J3 p _
   ·exact bI _
 ·exact bI _
end Go.T
namespace Go.T
end Go.T
namespace Go.T
theorem ON {α:Type} (p:α→Bool): ∀(l:List α) (i:Nat),i≤l.length→(l.take i).all p=true→(∀a,l[i]?=some a→p a=false)→(l.takeWhile p).length=i
 |[],i,h,_,_=>by simp at h;simp[h]
 |a::r,0,_,_,h=>by
  have:=h a rfl;simp[this]
 |a::r,i+1,h1,h2,h3=>by
  simp only[List.take_succ_cons,pX,c8] at h2;rw[List.takeWhile_cons,aP h2.1,ez,ON p r i (by simpa using h1) h2.2 fun b hb=>h3 b (by simpa using hb)]
theorem U7 {α:Type} (p:α→Bool) (l:List α):l.take (l.takeWhile p).length=l.takeWhile p:=by
 have h:=List.takeWhile_append_dropWhile (p:=p) (l:=l)
 conv=>lhs;rhs;rw[←h]
 rw[Em (bI _),BC]
theorem U8 {α:Type} (p:α→Bool) (l:List α):l.drop (l.takeWhile p).length=l.dropWhile p:=by
 have h:=List.takeWhile_append_dropWhile (p:=p) (l:=l)
 conv=>lhs;rhs;rw[←h]
 rw[List.drop_append_of_le_length (bI _),iu,oW]
def tJ {α:Type} (p:α→Bool) (x:α) (l:List α):List α:=l.takeWhile p++x::l.dropWhile p
theorem Hs {α:Type} {p:α→Bool} {x a:α} {l:List α}:tJ p x (a::l)=if p a then a::tJ p x l else x::a::l:=by
 unfold tJ
 by_cases h:p a=true
 ·simp[List.takeWhile_cons,List.dropWhile_cons,h]
 ·simp[List.takeWhile_cons,List.dropWhile_cons,h]
theorem vu {α:Type} (p:α→Bool) (x:α) (l:List α):(tJ p x l).length=l.length+1:=by
 unfold tJ;have h:=congrArg List.length (List.takeWhile_append_dropWhile (p:=p) (l:=l));rw[bX] at h ⊢;rw[ez];omega
theorem Tg {α:Type} (p:α→Bool) (x:α) (l:List α) {k:Nat} (h:(l.takeWhile p).length=k):l.take k++x::l.drop k=tJ p x l:=by
 unfold tJ;rw[←h,U7,U8]
theorem DG {α:Type} (w:α→Nat) (p:α→Bool) (x:α): ∀l:List α,tot w (tJ p x l)=tot w l+w x
 |[]=>by simp[tJ,tot]
 |a::l=>by
  rw[Hs]
  split
  ·simp only[tot,DG w p x l];omega
  ·simp only[tot];omega
def Xf (id:Int) (a:lU):Bool:=decide (a.id≤id)
def wH (l:List lU) (id fr:Int):List lU:=tJ (Xf id) ⟨id,fr⟩ l
def jx (l:List lU) (id fr:Int):List lU×Bool:=if 0≤ff l id then(l,false) else if jQ (wH l id fr)=true then(wH l id fr,true) else(l,false)
theorem wI (l:List lU) (id fr:Int):(jx l id fr).1.length≤l.length+1:=by
 unfold jx
 split
 ·exact Nat.le_succ _
 ·split
  ·exact Nat.le_of_eq (vu _ _ _)
  ·exact Nat.le_succ _
def LV (v u:iV):Bool:=Iv u.name v.name||L6 u.name v.name
def mB (l:List iV) (v:iV):List iV:=tJ (LV v) v l
theorem Na: ∀(x y z:List UInt8),Op.bytesLess x y=true→Op.bytesLess y z=true→Op.bytesLess x z=true
 |x,y,[],_,h=>by cases y<;>simp[Op.bytesLess] at h
 |x,[],c::z,h,_=>by cases x<;>simp[Op.bytesLess] at h
 |[],_::_,_::_,_,_=>by simp[Op.bytesLess]
 |a::x,b::y,c::z,h1,h2=>by
  simp only[Op.bytesLess,Bool.or_eq_true,c8,decide_eq_true_eq,beq_iff_eq] at h1 h2 ⊢;rcases h1 with h1|⟨rfl,h1⟩
  ·rcases h2 with h2|⟨rfl,h2⟩
   ·exact .inl (UInt8.lt_trans h1 h2)
   ·exact .inl h1
  ·rcases h2 with h2|⟨rfl,h2⟩
   ·exact .inl h2
   ·exact .inr ⟨rfl,Na x y z h1 h2⟩
theorem J4 {a b c:ByteArray} (h1:Iv a b=true) (h2:Iv b c=true):Iv a c=true:=by
 unfold Iv at*;exact Na _ _ _ h1 h2
def uP:List iV→Prop
 |[]=>True
 |[_]=>True
 |a::b::r=>Iv a.name b.name=true∧uP (b::r)
theorem Th {v a b:iV} (h:Iv a.name b.name=true) (hb:LV v b=true):LV v a=true:=by
 unfold LV at*;rw[Bool.or_eq_true] at*;rcases hb with hb|hb
 ·exact .inl (J4 h hb)
 ·have:b.name.toList=v.name.toList:=by
   unfold L6 at hb;exact eq_of_beq hb
  unfold Iv at h ⊢;rw[←this];exact .inl h
theorem uP.tail {a:iV} {l:List iV} (h:uP (a::l)):uP l:=by
 cases l with
 |nil=>trivial
 |cons b r=>exact h.2
theorem uP.cut {v:iV}: ∀{l:List iV} {k:Nat},uP l→k≤l.length→(∀u∈l.drop k,LV v u=false)→(∀u,0<k→l[k-1]?=some u→LV v u=true)→(l.takeWhile (LV v)).length=k
 |[],k,_,hk,_,_=>by simp at hk;simp[hk]
 |a::l,0,_,_,h1,_=>by
  have:=h1 a (.head _);simp[this]
 |a::l,k+1,hr,hk,h1,h2=>by
  have ih:=uP.cut (v:=v) (l:=l) (k:=k) hr.tail (by simpa using hk) (fun u hu=>h1 u (by simpa using hu)) fun u h0 hu=>by
   obtain⟨j,rfl⟩: ∃j,k=j+1:=⟨k-1,by omega⟩;exact h2 u ax (by simpa using hu)
  have ha:LV v a=true:=by
   cases k with
   |zero=>exact h2 a ax rfl
   |succ k=>
    cases l with
    |nil=>simp at hk
    |cons b r=>
     refine Th hr.1 ?_;rw[List.takeWhile_cons] at ih
     cases hb:LV v b with
     |true=>rfl
     |false=>rw[hb] at ih;simp at ih
  rw[List.takeWhile_cons,aP ha,ez,ih]
theorem U9 {l:List iV} (h: ∀i,mA l (fun x y=>Iv x.name y.name) i=true):uP l:=by
 induction l with
 |nil=>trivial
 |cons a l ih=>
  cases l with
  |nil=>trivial
  |cons b r=>
   refine⟨?_,ih fun i=> ?_⟩
   ·have:=h 1;simpa [mA] using this
   ·cases i with
    |zero=>rfl
    |succ i=>have:=h (i+2);simpa [mA] using this
theorem uP.modify {f:iV→iV} (hf: ∀u,(f u).name=u.name): ∀{l:List iV} (i:Nat),uP l→uP (l.modify i f)
 |[],i,h=>by cases i<;>exact h
 |[a],0,_=>trivial
 |[a],i+1,_=>by cases i<;>trivial
 |a::b::r,0,h=>by
  show uP (f a::b::r);exact⟨by rw[hf];exact h.1,h.2⟩
 |a::b::r,1,h=>by
  show uP (a::f b::r);refine⟨by rw[hf];exact h.1,?_⟩;exact uP.modify hf (l:=b::r) 0 h.2
 |a::b::r,i+2,h=>⟨h.1,uP.modify hf (l:=b::r) (i+1) h.2⟩
theorem Ra {p:bn} (h:cH p=true):uP p.az:=by
 have hv:=tH h;unfold lB at hv;simp only[c8] at hv;refine U9 fun i=> ?_
 by_cases hi:i<p.az.length
 ·have:=oH.1 hv.1 i hi
  unfold dQ at this;rw[aZ hi] at this;simp only[c8] at this;exact this.2.2.2.2.1
 ·cases i with
  |zero=>rfl
  |succ k=>
   have hn:p.az[k+1]?=none:=Jr ax;simp only[mA,hn]
   cases p.az[k]?<;>rfl
def Le (p x:bn) (ok:Bool):bn×Int:=if ok=true then Ld p x else(p,6)
def Cl (p:bn) (s:ByteArray) (n:Int):bn:=⟨p.t,(jx p.aX p.next 0).1,p.cells,mB p.az ⟨s,p.next,n,false⟩,p.next+1⟩
def oJ (p:bn) (s:ByteArray) (n:Int):bn×Int:=
 if Ck p s=true then(if 0≤dx p.az s then(p,3) else if mX n 1 12=true then Le p (Cl p s n) (jx p.aX p.next 0).2 else(p,4)) else(p,1)
def Ti (p:bn) (v:iV):List lU×Bool:=jx (jx p.aX p.next v.ga).1 (p.next+1) v.ga
def J5 (p:bn) (to:ByteArray) (i:Int) (v:iV) (fx:Bool):bn:=⟨p.t,(Ti p v).1,p.cells,mB (p.az.modify i.toNat fun u=>{u with ga:=p.next}) ⟨to,p.next+1,v.size,fx⟩,p.next+2⟩
def Aw (p:bn) (s to:ByteArray) (fx:Bool):bn×Int:=
 if Ck p s=true∧lz to=true then(match dM p.az (dx p.az s) with
  |none=>(p,2)
  |some v=>if 0≤dx p.az to then(p,3) else Le p (J5 p to (dx p.az s) v fx) ((jx p.aX p.next v.ga).2&&(Ti p v).2)) else(p,1)
theorem OO (p:bn) (s:ByteArray) (n:Int):aV (Cl p s n)≤aV p+s.size+2:=by
 have h1:=wI p.aX p.next 0;have h2:=vu (LV ⟨s,p.next,n,false⟩) ⟨s,p.next,n,false⟩ p.az;have h3:=DG yR (LV ⟨s,p.next,n,false⟩) ⟨s,p.next,n,false⟩ p.az;unfold aV DB Cl mB;simp only[h2,h3,yR];omega
theorem Tj (p:bn) (to:ByteArray) (i:Int) (v:iV) (fx:Bool):aV (J5 p to i v fx)≤aV p+to.size+3:=by
 have h0:=wI p.aX p.next v.ga;have h1:=wI (jx p.aX p.next v.ga).1 (p.next+1) v.ga;have h2:=vu (LV ⟨to,p.next+1,v.size,fx⟩) ⟨to,p.next+1,v.size,fx⟩ (p.az.modify i.toNat fun u=>{u with ga:=p.next});have h3:=DG yR (LV ⟨to,p.next+1,v.size,fx⟩) ⟨to,p.next+1,v.size,fx⟩ (p.az.modify i.toNat fun u=>{u with ga:=p.next});have h4:=Hr (w:=yR) (f:=fun u:iV=>{u with ga:=p.next}) (l:=p.az) (i:=i.toNat) fun a _=>bI _
 rw[RF] at h2;unfold aV DB J5 Ti mB;simp only[h2,h3];simp only[yR] at*;omega
end Go.T
namespace Go.T
def gtM (m u:Mp):Bool:= !(Iv u.name m.name||L6 u.name m.name)
def Va (l:List Mp) (m:Mp):Nat→Nat
 |0=>0
 |k+1=>match l[k]? with
  |some u=>if gtM m u=true then Va l m k else k+1
  |none=>k+1
theorem P8 (l:List Mp) (m:Mp): ∀k,Va l m k≤k
 |0=>bI _
 |k+1=>by
  unfold Va
  split
  ·split
   ·exact Nat.le_succ_of_le (P8 l m k)
   ·exact bI _
  ·exact bI _
def Tk {α:Type} (l:List α) (k:Nat) (x:α):List α:=l.take k++x::l.drop k
def Tl (l:List Mp) (m:Mp):List Mp:=Tk l (Va l m l.length) m
theorem Tm (l:List Mp) (m:Mp):(Tl l m).length=l.length+1:=by
 have:=P8 l m l.length;unfold Tl Tk;rw[bX,ez,dj,gf];omega
theorem Tn {l:List Mp} {m x:Mp} (h:x∈Tl l m):x∈l∨x=m:=by
 unfold Tl Tk at h;rcases List.mem_append.1 h with h|h
 ·exact .inl (sK h)
 ·rcases cw.1 h with h|h
  ·exact .inr h
  ·exact .inl (qx h)
def Lf (l l':List Mp):Prop:=l'.length≤l.length+1∧ ∀B:Nat,12≤B→(∀x∈l,x.l.length≤B)→ ∀x∈l',x.l.length≤B
theorem Lf.refl (l:List Mp):Lf l l:=⟨Nat.le_succ _,fun _ _ h=>h⟩
theorem Lf.put {l:List Mp} {m:Mp} (h: ∀B:Nat,12≤B→(∀x∈l,x.l.length≤B)→m.l.length≤B):Lf l (Tl l m):=
 ⟨Nat.le_of_eq (Tm l m),fun B hB hl x hx=>(Tn hx).elim (hl x) fun e=>by rw[e];exact h B hB hl⟩
end Go.T
namespace Go.T
abbrev Xg (x:List (List Key)×Bool):TV:= .tu [(1,[.sub 1 (x.1.map dI)]),(0,[iB x.2])]
def Lg (s:List Key) (k:Key):Bool:=(DE s k.b k.a).2||decide (s.length<4)
def nV (n:List (List Key)) (k:Key):List (List Key):=match n[n.length-1]? with
 |none=>n++[[k]]
 |some s=>if Lg s k=true then n.set (n.length-1) (hD s k) else n++[[k]]
def cN (n:List (List Key)) (k:Key):List Key:=rP (hD (aL n) k)
def dn (n:List (List Key)) (k:Key):List (List Key)×Bool:=
 if fe (nV n k)=true then(nV n k,true) else if 8<(cN n k).length then(n,false) else if fe (cM (cN n k))=true then(cM (cN n k),true) else(n,false)
theorem qS (n:List (List Key)) (k:Key):(cN n k).length≤tot cL n+1:=by
 have h1:=fT n;have h2:=rO (aL n) k;have h3:(cN n k).length≤(hD (aL n) k).length:=L4 _ _;omega
theorem Nb {α:Type} (w:α→Nat) (l:List α) (a:α):tot w (l++[a])=tot w l+w a:=by
 induction l with
 |nil=>simp[tot]
 |cons b r ih=>simp only[wV,tot,ih];omega
theorem Nc {α:Type} (w:α→Nat) (c:Nat): ∀(l:List α) (i:Nat) (a a':α),l[i]?=some a→w a'≤w a+c→tot w (l.set i a')≤tot w l+c
 |[],i,a,a',h,_=>by simp at h
 |b::r,0,a,a',h,hw=>by
  simp only[cZ,aU] at h;subst h;simp only[List.set_cons_zero,tot];omega
 |b::r,i+1,a,a',h,hw=>by
  have:=Nc w c r i a a' (by simpa using h) hw;simp only[List.set_cons_succ,tot];omega
theorem Ht (n:List (List Key)) (k:Key):(nV n k).length≤n.length+1:=by
 unfold nV
 split
 ·rw[bX];simp
 ·split
  ·rw[List.length_set];omega
  ·rw[bX];simp
theorem Hu (n:List (List Key)) (k:Key):tot cL (nV n k)≤tot cL n+1:=by
 unfold nV
 split
 ·rw[Nb];exact bI _
 ·rename_i s hs
  split
  ·exact Nc cL 1 _ _ s _ hs (by have:=rO s k;unfold cL;omega)
  ·rw[Nb];exact bI _
theorem yT (l:List Key):(cM l).length≤1:=by
 unfold cM
 split<;>simp
theorem yU (l:List Key):tot cL (cM l)≤l.length:=by
 unfold cM
 split
 ·simp[tot]
 ·simp[tot,cL]
theorem EJ (n:List (List Key)) (k:Key):(dn n k).1.length≤n.length+1:=by
 have h1:=Ht n k;have h2:=yT (cN n k);unfold dn
 repeat' split
 all_goals simp only[];omega
theorem EK (n:List (List Key)) (k:Key):tot cL (dn n k).1≤tot cL n+1:=by
 have h1:=Hu n k;have h2:=yU (cN n k);have h3:=qS n k;unfold dn
 repeat' split
 all_goals simp only[];omega
end Go.T
namespace Go.T
def pM (x y:Key):Prop:=x.b<y.b∨(x.b=y.b∧x.a<y.a)
theorem pM.trans {x y z:Key} (h1:pM x y) (h2:pM y z):pM x z:=by unfold pM at*;omega
theorem qa {x y:Key}:iM x y=true↔pM x y:=by unfold iM pM;simp
theorem qT {x y:Key}:jP x y=true↔x.b=y.b∧x.a=y.a:=by unfold jP;simp
theorem Cm {k y:Key}: ∀{l:List Key},y∈dA k true l→y∈l
 |[],h=>by simp[dA] at h
 |x::r,h=>by
  simp only[dA,Gn,Bool.false_and,yp,if_false,oW,Bool.true_or] at h;rcases List.mem_append.1 h with h|h
  ·split at h
   ·cases h
   ·rw[jz.1 h];exact .head _
  ·exact .tail _ (Cm h)
theorem Hv {k y:Key}: ∀{l:List Key} {put:Bool},y∈dA k put l→y∈l∨y=k
 |[],put,h=>by
  simp only[dA] at h
  split at h
  ·cases h
  ·exact .inr (jz.1 h)
 |x::r,put,h=>by
  simp only[dA] at h;rcases List.mem_append.1 h with h|h
  ·rcases List.mem_append.1 h with h|h
   ·split at h
    ·exact .inr (jz.1 h)
    ·cases h
   ·split at h
    ·cases h
    ·exact .inl (by rw[jz.1 h];exact .head _)
  ·exact(Hv h).imp (.tail _) id
theorem zS {k:Key}: ∀{l:List Key},l.Pairwise pM→(dA k true l).Pairwise pM
 |[],_=>by simp[dA]
 |x::r,h=>by
  obtain⟨h1,h2⟩:=List.pairwise_cons.1 h;simp only[dA,Gn,Bool.false_and,yp,if_false,oW,Bool.true_or]
  split
  ·exact zS h2
  ·exact List.pairwise_cons.2 ⟨fun y hy=>h1 y (Cm hy),zS h2⟩
theorem J6 {k:Key}: ∀{l:List Key},l.Pairwise pM→(dA k false l).Pairwise pM
 |[],_=>by simp[dA]
 |x::r,h=>by
  obtain⟨h1,h2⟩:=List.pairwise_cons.1 h
  cases hk:iM x k with
  |true=>
   have hlt:=qa.1 hk
   have T7:jP x k=false:=by
    cases hs:jP x k with
    |false=>rfl
    |true=>have:=qT.1 hs;unfold pM at hlt;omega
   simp only[dA,hk,T7,Bool.not_false,Gn,e9,Bool.and_false,yp,if_false,oW,Bool.or_false,Gm];refine List.pairwise_cons.2 ⟨fun y hy=> ?_,J6 h2⟩;rcases Hv hy with hy|rfl
   ·exact h1 y hy
   ·exact hlt
  |false=>
   have hge: ¬pM x k:=fun h=>by rw[qa.2 h] at hk;cases hk
   simp only[dA,hk,Bool.not_false,e9,if_true,Bool.or_true]
   have hr: ∀y∈dA k true r,pM k y:=fun y hy=>by
    have:=h1 y (Cm hy);unfold pM at*;omega
   split
   ·exact List.pairwise_cons.2 ⟨hr,zS h2⟩
   ·rename_i T7
    refine List.pairwise_cons.2 ⟨fun y hy=> ?_,List.pairwise_cons.2 ⟨fun y hy=>h1 y (Cm hy),zS h2⟩⟩;rcases cw.1 hy with rfl|hy
    ·have: ¬(y.b=k.b∧y.a=k.a):=fun h=>T7 (qT.2 h)
     unfold pM at*;omega
    ·exact hr y hy
theorem yV {l:List Key} {k:Key} (h:l.Pairwise pM):(hD l k).Pairwise pM:=J6 h
theorem Hw {l:List Key} {k y:Key} (h:y∈hD l k):y∈l∨y=k:=Hv h
theorem wJ: ∀(new:List Key) {old:List Key},old.Pairwise pM→(bU old new).Pairwise pM
 |[],_,h=>h
 |x::r,_,h=>wJ r (yV h)
theorem J7 {y:Key}: ∀{new old:List Key},y∈bU old new→y∈old∨y∈new
 |[],_,h=> .inl h
 |x::r,old,h=>by
  have h:y∈bU (hD old x) r:=h;rcases J7 h with h|h
  ·exact(Hw h).imp id fun e=>by rw[e];exact .head _
  ·exact .inr (.tail _ h)
theorem Ba: ∀(n:List (List Key)) {acc:List Key},acc.Pairwise pM→(n.foldl bU acc).Pairwise pM
 |[],_,h=>h
 |s::r,_,h=>Ba r (wJ s h)
theorem J8 {y:Key}: ∀{n:List (List Key)} {acc:List Key},y∈n.foldl bU acc→y∈acc∨ ∃s∈n,y∈s
 |[],_,h=> .inl h
 |s::r,acc,h=>by
  rcases J8 (n:=r) h with h|⟨s',h1,h2⟩
  ·exact(J7 h).imp id fun h=>⟨s,.head _,h⟩
  ·exact .inr ⟨s',.tail _ h1,h2⟩
theorem uQ (n:List (List Key)):(aL n).Pairwise pM:=(Ba n .nil).sublist List.filter_sublist
theorem oK {n:List (List Key)} {y:Key} (h:y∈aL n): ∃s∈n,y∈s:=by
 rcases J8 (List.mem_filter.1 h).1 with h|h
 ·cases h
 ·exact h
theorem II (n:List (List Key)) (k:Key):(cN n k).Pairwise pM:=(yV (uQ n)).sublist List.filter_sublist
theorem Lh {n:List (List Key)} {k y:Key} (h:y∈cN n k):y=k∨ ∃s∈n,y∈s:=
 (Hw (List.mem_filter.1 h).1).elim (fun h=> .inr (oK h)) .inl
theorem To {l:List Key} (h1:l.Pairwise pM) (h2: ∀y∈l,jO y=true) (h3:l.length≤60):EE l=true:=by
 rw[Hj];simp only[c8,decide_eq_true_eq];refine⟨List.all_eq_true.2 h2,oH.2 fun i hi=> ?_,h3⟩
 cases i with
 |zero=>rfl
 |succ k=>
  simp only[mA];rw[aZ (by omega:k<l.length),aZ hi];exact qa.2 (List.pairwise_iff_getElem.1 h1 k (k+1) ax hi ax)
theorem tK {n:List (List Key)} (h:fe n=true) {s:List Key} (hs:s∈n) {y:Key} (hy:y∈s):jO y=true:=by
 unfold fe at h;simp only[c8] at h;have:=List.all_eq_true.1 h.1.1 s hs;simp only[c8] at this;have h2:=this.1;rw[Hj] at h2;simp only[c8] at h2;exact List.all_eq_true.1 h2.1 y hy
theorem Hy {l:List Key} (h1:l.Pairwise pM) (h2: ∀y∈l,jO y=true) (h3:l.length≤8):fe (cM l)=true:=by
 unfold cM
 split
 ·decide
 ·rename_i h0
  unfold fe;have:=To h1 h2 ax;have h00:l≠[]:=fun e=>h0 (by rw[e];rfl);simp[this,h00,eT,tot,cL,h3]
theorem Nf {n:List (List Key)} {k:Key} (h:fe n=true) (hk:jO k=true): ∀y∈cN n k,jO y=true:=fun y hy=>by
 rcases Lh hy with rfl|⟨s,h1,h2⟩
 ·exact hk
 ·exact tK h h1 h2
theorem OP {n:List (List Key)} {k:Key} (h:fe n=true) (hk:jO k=true) (hp:(dn n k).2=false):8<(cN n k).length∧dn n k=(n,false):=by
 have hn:=Hy (II n k) (Nf h hk);unfold dn at hp ⊢
 split at hp
 ·cases hp
 ·rename_i h1
  split at hp
  ·rename_i h2
   exact⟨h2,by rw[aF h1,aP h2]⟩
  ·rename_i h2
   rw[aP (hn ax)] at hp
   cases hp
end Go.T
namespace Go.T
def gw (x y:Int):Int:=NV .or .i64 (Wy .i64 (va .i64 x) 8) (va .i64 y)
def YP (b:List Int):Prop:= ∀x∈b,0≤x∧x≤255
end Go.T
namespace Go.T
abbrev Iw (x:Tree×Bool):TV:= .tu [(1,V3 x.1),(0,[iB x.2])]
def mY (t:Tree) (i c:Nat) (ay:List Int) (nodes:List (List (List Key))):Tree:=⟨t.ay.take i++ay++t.ay.drop (i+c),t.nodes.take i++nodes++t.nodes.drop (i+c)⟩
def lD (t:Tree) (i:Nat):List Key:=aL (t.nodes.getD i [])
def vv (t:Tree):Nat→Nat→Option Nat
 |0,_=>none
 |d+1,i=>if i+1<t.nodes.length then(if(lD t i).length+(lD t (i+1)).length≤6 then some i else vv t d (i+1)) else none
def wK (t:Tree):Option Nat:=vv t t.nodes.length 0
def eE (t:Tree) (i:Nat):Tree:=mY t i 2 [t.ay.getD i 0] [cM (lD t i++lD t (i+1))]
def o5:Nat→Tree→Tree
 |0,t=>t
 |n+1,t=>match wK t with
  |none=>t
  |some i=>o5 n (eE t i)
theorem EL {t:Tree}: ∀{d i j:Nat},vv t d i=some j→i≤j∧j+1<t.nodes.length∧(lD t j).length+(lD t (j+1)).length≤6
 |0,i,j,h=>by cases h
 |d+1,i,j,h=>by
  unfold vv at h
  split at h
  ·split at h
   ·cases h;exact⟨bI _,by assumption,by assumption⟩
   ·have:=EL h;exact⟨by omega,this.2⟩
  ·cases h
theorem q8 {t:Tree} {j:Nat} (h:wK t=some j):j+1<t.nodes.length∧(lD t j).length+(lD t (j+1)).length≤6:=(EL h).2
theorem yW (t:Tree) (i c:Nat) (ay:List Int) (nodes:List (List (List Key))) (h:i+c≤t.nodes.length):(mY t i c ay nodes).nodes.length+c=t.nodes.length+nodes.length:=by
 unfold mY;simp only[bX,dj,gf];omega
theorem Hz (t:Tree) (i c:Nat) (ay:List Int) (nodes:List (List (List Key))) (h:i+c≤t.ay.length):(mY t i c ay nodes).ay.length+c=t.ay.length+ay.length:=by
 unfold mY;simp only[bX,dj,gf];omega
theorem Cn {t:Tree} {i:Nat} (h:i+1<t.nodes.length):(eE t i).nodes.length+1=t.nodes.length:=by
 have:=yW t i 2 [t.ay.getD i 0] [cM (lD t i++lD t (i+1))] ax;unfold eE;simp only[lF] at this;omega
def nW (t:Tree) (i:Nat) (k:Key):Tree:=
 if(dn (t.nodes.getD i []) k).2=true then
  (if 0<i∧(aL (dn (t.nodes.getD i []) k).1).length=0 then mY t i 1 [] [] else mY t i 1 [t.ay.getD i 0] [(dn (t.nodes.getD i []) k).1])
 else mY t i 1 [t.ay.getD i 0,eL ((cN (t.nodes.getD i []) k).getD (((cN (t.nodes.getD i []) k).length+1)/2) gx).b ((cN (t.nodes.getD i []) k).getD (((cN (t.nodes.getD i []) k).length+1)/2) gx).a]
  [cM ((cN (t.nodes.getD i []) k).take (((cN (t.nodes.getD i []) k).length+1)/2)),cM ((cN (t.nodes.getD i []) k).drop (((cN (t.nodes.getD i []) k).length+1)/2))]
def bK (t:Tree) (k:Key):Tree×Bool:=
 if gj t=true∧jO k=true then(if gj (o5 (nW t (mK t k.b k.a).toNat k).nodes.length (nW t (mK t k.b k.a).toNat k))=true then(o5 (nW t (mK t k.b k.a).toNat k).nodes.length (nW t (mK t k.b k.a).toNat k),true) else(t,false)) else(t,false)
end Go.T
namespace Go.T
theorem OQ {α:Type} (w:α→Nat) (c:Nat): ∀l:List α,(∀a∈l,w a≤c)→tot w l≤c*l.length
 |[],_=>by simp[tot]
 |a::r,h=>by
  have h1:=h a (.head _);have h2:=OQ w c r fun b hb=>h b (.tail _ hb);simp only[tot,ez,Nat.mul_add];omega
theorem DH {n:List (List Key)} (h:fe n=true):n.length≤3∧tot cL n≤8:=by
 unfold fe eT at h;simp only[c8,decide_eq_true_eq] at h;exact⟨h.1.2,h.2⟩
theorem Rb {t:Tree} (h:gj t=true) {i:Nat} (hi:i<t.nodes.length):eC t i=true:=by
 unfold gj at h;simp only[c8] at h;exact oH.1 h.2.2.2.1 i hi
theorem yX {t:Tree} (h:gj t=true) {n:List (List Key)} (hn:n∈t.nodes):fe n=true:=by
 obtain⟨i,hi,rfl⟩:=List.getElem_of_mem hn;have:=Rb h hi;unfold eC at this;rw[aZ hi] at this;simp only[c8] at this;exact this.2.1
theorem pN {t:Tree} (h:gj t=true):1≤t.nodes.length∧t.nodes.length≤20∧t.ay.length=t.nodes.length:=by
 unfold gj mX at h;simp only[c8,decide_eq_true_eq] at h;omega
theorem OR {t:Tree} (h:gj t=true):t.ay[0]?=some 0:=by
 have hl:=pN h;unfold gj at h;simp only[c8] at h
 have h0:0<t.ay.length:=by omega
 have:=h.2.2.1;rw[aZ h0] at this ⊢;simp only[decide_eq_true_eq] at this;rw[this]
theorem HA {t:Tree} (h:gj t=true):tot bw t.nodes≤220:=by
 have h1:=OQ bw 11 t.nodes fun n hn=>by
  have:=DH (yX h hn);unfold bw;omega
 have h2:=pN h;omega
theorem J9 {t:Tree} (h:gj t=true):eK t≤260:=by
 have h1:=HA h;have h2:=pN h;unfold eK zQ;omega
theorem OS {t:Tree} {k:Key} (h:(bK t k).2=true):gj (bK t k).1=true:=by
 unfold bK at h ⊢
 split
 ·split
  ·assumption
  ·rename_i h1 h2;rw[aP h1,aF h2] at h;cases h
 ·rename_i h1;rw[aF h1] at h;cases h
theorem HB {t:Tree} {k:Key} (h:(bK t k).2=false):(bK t k).1=t:=by
 unfold bK at h ⊢
 split
 ·split
  ·rename_i h1 h2;rw[aP h1,aP h2] at h;cases h
  ·rfl
 ·rfl
theorem wL (t:Tree) (k:Key):eK (bK t k).1≤max (eK t) 260:=by
 cases h:(bK t k).2 with
 |true=>have:=J9 (OS h);omega
 |false=>rw[HB h];omega
theorem Ng {p:bn} (h:cH p=true):gj p.t=true:=by
 simp only[cH,c8] at h;exact h.2.1
theorem Li {p:bn} (h:cH p=true):fU p.cells=true:=by
 simp only[cH,c8] at h;exact h.2.2.2.1
theorem Rc {s:ByteArray} (h:lz s=true):1≤s.size∧s.size≤6:=by
 simp only[lz,c8,mX,decide_eq_true_eq] at h;omega
theorem Ka {p:bn} (h:lB p=true) {v:iV} (hv:v∈p.az):lz v.name=true∧1≤v.size∧v.size≤12∧0≤ff p.aX v.ga:=by
 obtain⟨i,hi,rfl⟩:=List.getElem_of_mem hv;simp only[lB,c8,oH] at h;have:=h.1 i hi;unfold dQ at this;rw[aZ hi] at this;simp only[c8,mX,decide_eq_true_eq,u5,decide_eq_false_iff_not] at this;exact⟨this.1,this.2.1.1,this.2.1.2,by omega⟩
theorem Kb {p:bn} (h:cH p=true):aV p≤500:=by
 have h1:=J9 (Ng h)
 have h2:p.aX.length≤16:=by
  have:=EH h;simp only[jQ,c8,decide_eq_true_eq] at this;exact this.2
 have h3:p.cells.length=24:=by
  have:=Li h;simp only[fU,c8,decide_eq_true_eq] at this;exact this.2
 have hv:=tH h
 have h4:p.az.length≤6:=by
  simp only[lB,c8,decide_eq_true_eq] at hv;exact hv.2
 have h5:=OQ yR 6 p.az fun v hm=>(Rc (Ka hv hm).1).2;unfold aV DB;omega
theorem Tp (p x:bn):aV (Ld p x).1≤max (aV p) 500:=by
 unfold Ld
 split
 ·rename_i h;have:=Kb h;simp only[];omega
 ·simp only[];omega
theorem HC (p x:bn) (b:Bool):aV (Le p x b).1≤max (aV p) 500:=by
 unfold Le
 split
 ·exact Tp p x
 ·simp only[];omega
def Co (p:bn) (k:Key):List Cell:=if(uO p.t k.b k.a).2=true∧(uO p.t k.b k.a).1.k=1 then jR p.cells (uO p.t k.b k.a).1.c else p.cells
def jl (p:bn) (k:Key):bn×Bool:=if(bK p.t k).2=true then(⟨(bK p.t k).1,p.aX,Co p k,p.az,p.next⟩,true) else(p,false)
theorem Lj (p:bn) (k:Key):(Co p k).length=p.cells.length:=by
 unfold Co;split
 ·exact Lb _ _
 ·rfl
theorem Bb (p:bn) (k:Key):aV (jl p k).1≤aV p+260:=by
 have h1:=wL p.t k;have h2:=Lj p k;unfold jl
 split
 ·unfold aV;simp only[];omega
 ·simp only[];omega
def uR (p:bn) (s:ByteArray) (b:Int):Int:=
 if Ck p s=true then(match dM p.az (dx p.az s) with
  |none=>2
  |some v=>if v.fx=true then 5 else if mX b 0 (v.size-1)=true then 0 else 4) else 1
theorem Nh {p:bn} {s:ByteArray} {b:Int} (h:uR p s b=0): ∃v,dM p.az (dx p.az s)=some v∧Ck p s=true∧v.fx=false∧0≤b∧b≤v.size-1:=by
 unfold uR at h
 split at h
 ·rename_i hf
  split at h
  ·cases h
  ·rename_i v hv
   split at h
   ·cases h
   ·split at h
    ·rename_i h1 h2
     refine⟨v,hv,hf,by simpa using h1,?_⟩;simpa [mX] using h2
    ·cases h
 ·cases h
def Tq (l:List Cell) (i:Int):Int:=match dM l i with|some c=>c.g|none=>0
def OT (p:bn) (b n:Int) (v:iV):bn×Bool:=jl ⟨p.t,p.aX,(kC p.cells n).1,p.az,p.next⟩ ⟨b,v.ga,1,(kC p.cells n).2.1,Tq (kC p.cells n).1 (kC p.cells n).2.1⟩
def jS (p:bn) (s:ByteArray) (b n:Int):bn×Int:=
 if uR p s b=0 then(if nH n=true then(match dM p.az (dx p.az s) with
  |none=>(p,2)
  |some v=>if(kC p.cells n).2.2=true then Le p (OT p b n v).1 (OT p b n v).2 else(p,6)) else(p,4)) else(p,uR p s b)
theorem Kd (p:bn) (s:ByteArray) (b n:Int):aV (jS p s b n).1≤max (aV p) 500:=by
 unfold jS
 repeat' split
 all_goals first|exact BE _ _|exact HC _ _ _
def Ax (p:bn) (x:bn×Bool):bn×Bool:=if x.2=true∧cH x.1=true then(x.1,true) else(p,false)
theorem Tr (p:bn) (x:bn×Bool):aV (Ax p x).1≤max (aV p) 500:=by
 unfold Ax
 split
 ·rename_i h;have:=Kb h.2;simp only[];omega
 ·simp only[];omega
def lE (l:List lU) (id fr:Int):List lU:=l.map fun a=>if a.fr=id then {a with fr:=fr} else a
def qm (l:List lU) (id:Int):List lU×Bool:=
 if jQ l=true then(match dM l (ff l id) with
  |none=>(l,false)
  |some a=>((lE l id a.fr).take (ff l id).toNat++(lE l id a.fr).drop ((ff l id).toNat+1),true)) else(l,false)
theorem Bc (l:List lU) (id fr:Int):(lE l id fr).length=l.length:=by unfold lE;simp
theorem OU (l:List lU) (id:Int):(qm l id).1.length≤l.length:=by
 unfold qm
 repeat' split
 all_goals simp only[bX,dj,gf,Bc];omega
def Gh (p:bn) (i:Int):Key:=match dM (aE p.t) i with|some k=>k|none=>gx
def ia (k:Key):Key:=⟨k.b,k.a,0,0,0⟩
def DI (p:bn) (k:Key):Key:=⟨k.b,EI p k.a,k.k,k.c,k.g⟩
def Ay (p:bn) (k:Key):bn×Bool:=
 (⟨(bK (bK p.t (ia k)).1 (DI p k)).1,p.aX,p.cells,p.az,p.next⟩,(bK p.t (ia k)).2&&(bK (bK p.t (ia k)).1 (DI p k)).2)
def Ni (p:bn) (id:Int):bn×Bool:=(⟨p.t,(qm p.aX id).1,p.cells,p.az,p.next⟩,(qm p.aX id).2)
def EM (p:bn) (j i:Int):bn×Bool:=
 if j=4 then(match dM p.aX i with|some a=>Ni p a.id|none=>(p,false)) else if j=3 then Ay p (Gh p i) else jl p (ia (Gh p i))
def jT (p:bn):bn×Bool:=if(dm p).1=0 then(p,false) else Ax p (EM p (dm p).1 (dm p).2)
def rR:Nat→bn→bn
 |0,p=>p
 |n+1,p=>if(jT p).2=true then rR n (jT p).1 else p
def Cp (p:bn):bn:=rR 1000 p
theorem Cq (p:bn):aV (jT p).1≤max (aV p) 500:=by
 unfold jT
 split
 ·simp only[];omega
 ·exact Tr _ _
theorem Ke: ∀(n:Nat) (p:bn),aV (rR n p)≤max (aV p) 500
 |0,p=>by unfold rR;omega
 |n+1,p=>by
  unfold rR
  split
  ·have h1:=Ke n (jT p).1
   have h2:=Cq p;omega
  ·omega
theorem Nj (p:bn) (s:ByteArray) (n:Int):aV (oJ p s n).1≤max (aV p) 500:=by
 unfold oJ
 repeat' split
 all_goals first|exact BE _ _|exact HC _ _ _
theorem Re (p:bn) (s to:ByteArray) (fx:Bool):aV (Aw p s to fx).1≤max (aV p) 500:=by
 unfold Aw
 repeat' split
 all_goals first|exact BE _ _|exact HC _ _ _
theorem Rf (p:bn) (s:ByteArray):aV (w4 p s).1≤max (aV p) 500:=by
 have:=Tf p s;omega
end Go.T
namespace Go.T
theorem zT {α:Type} (w:α→Nat): ∀l m:List α,tot w (l++m)=tot w l+tot w m
 |[],m=>by simp[tot]
 |a::l,m=>by simp only[wV,tot,zT w l m];omega
theorem OV {α:Type} {l:List α} {i:Nat} {a b:α} (ha:l[i]?=some a) (hb:l[i+1]?=some b):l=l.take i++a::b::l.drop (i+2):=by
 obtain⟨h1,e1⟩:=List.getElem?_eq_some_iff.1 ha;obtain⟨h2,e2⟩:=List.getElem?_eq_some_iff.1 hb
 conv=>lhs;rw[←BA i l]
 rw[El h1,El h2,e1,e2]
theorem Bd (l:List Key):bw (cM l)≤l.length+1:=by
 have h1:=yT l;have h2:=yU l;unfold bw;omega
theorem iX {t:Tree} {i:Nat} {a:List (List Key)} (h:t.nodes[i]?=some a):lD t i=aL a:=by unfold lD;rw[u6,h];rfl
theorem Be (n:Nat) (t:Tree):o5 (n+1) t=match wK t with|none=>t|some i=>o5 n (eE t i):=rfl
theorem EN {t:Tree} {i:Nat} (h:i+1<t.nodes.length):tot bw (eE t i).nodes+(eE t i).nodes.length≤tot bw t.nodes+t.nodes.length:=by
 obtain⟨a,ha⟩: ∃a,t.nodes[i]?=some a:=⟨_,aZ ax⟩;obtain⟨b,hb⟩: ∃b,t.nodes[i+1]?=some b:=⟨_,aZ h⟩;have hl:=Cn h;have hs:=congrArg (tot bw) (OV ha hb);rw[zT] at hs;simp only[tot] at hs;have la:=fT a;have lb:=fT b;have hn:=Bd (lD t i++lD t (i+1));rw[bX,iX ha,iX hb] at hn
 have e:tot bw (eE t i).nodes=tot bw (t.nodes.take i)+bw (cM (aL a++aL b))+tot bw (t.nodes.drop (i+2)):=by
  unfold eE mY;simp only[];rw[zT,zT,iX ha,iX hb];simp[tot]
 have sa:bw a=a.length+tot cL a:=rfl;have sb:bw b=b.length+tot cL b:=rfl;omega
theorem OW {n:Nat} {t:Tree} (h:wK t=none):o5 n t=t:=by
 cases n with
 |zero=>rfl
 |succ n=>rw[Be,h]
theorem Az {t:Tree} {i:Nat} (h:i+1<t.nodes.length) (hl:t.ay.length=t.nodes.length):(eE t i).ay.length=(eE t i).nodes.length:=by
 have h1:=Hz t i 2 [t.ay.getD i 0] [cM (lD t i++lD t (i+1))] ax;have h2:=yW t i 2 [t.ay.getD i 0] [cM (lD t i++lD t (i+1))] ax;simp only[lF] at h1 h2;unfold eE;omega
theorem Nk: ∀(n:Nat) (t:Tree),t.ay.length=t.nodes.length→tot bw (o5 n t).nodes+(o5 n t).nodes.length≤tot bw t.nodes+t.nodes.length∧(o5 n t).ay.length=(o5 n t).nodes.length
 |0,t,h=>⟨bI _,h⟩
 |n+1,t,h=>by
  rw[Be]
  cases hp:wK t with
  |none=>exact⟨bI _,h⟩
  |some i=>
   have hlt:=(q8 hp).1;have h1:=EN hlt;have h2:=Nk n (eE t i) (Az hlt h);exact⟨by simp only[];omega,h2.2⟩
theorem Cr {k:Key} (h:jO k=true):0≤k.b∧k.b≤15∧1≤k.a∧k.a≤60∧0≤k.k∧k.k≤2:=by
 simp only[jO,mX,c8,decide_eq_true_eq] at h;omega
theorem Vb {b a:Int} (h: -1000≤b∧b≤1000∧ -1000≤a∧a≤1000):eL b a=64*b+a:=by
 unfold eL;rw[K4 ax,aR ax]
theorem Bf {k:Key} (h:jO k=true):eL k.b k.a=64*k.b+k.a:=by
 have:=Cr h;exact Vb ax
theorem HD {f:Int→Bool} {l:List Int} {x:Int} (h0:l[0]?=some x) (hx:f x=true): ∀n:Nat,0<n→n≤l.length→ ∃j:Nat,qQ f l n=j∧j<n
 |0,h,_=>by omega
 |n+1,_,hn=>by
  unfold qQ;rw[aZ ax];simp only[]
  split
  ·exact⟨n,rfl,by omega⟩
  ·rename_i hf
   cases n with
   |zero=>
    rw[aZ ax] at h0
    cases h0;exact absurd hx hf
   |succ n=>
    obtain⟨j,h1,h2⟩:=HD h0 hx (n+1) ax ax;exact⟨j,h1,by omega⟩
theorem OX {t:Tree} {k:Key} (h:gj t=true) (hk:jO k=true): ∃j:Nat,mK t k.b k.a=j∧j<t.nodes.length:=by
 have h1:=pN h;have h2:=Cr hk;have h3:=Bf hk;unfold mK;have:=HD (f:=fun x=>decide (x≤eL k.b k.a)) (OR h) (by simp only[decide_eq_true_eq];omega) t.ay.length ax (bI _);rw[h1.2.2] at this ⊢;exact this
theorem Nl (n:List (List Key)) (k:Key):bw (dn n k).1≤bw n+2:=by
 have h1:=EJ n k;have h2:=EK n k;unfold bw;omega
theorem Rh (t:Tree) (i c:Nat) (ay:List Int) (nodes:List (List (List Key))):tot bw (mY t i c ay nodes).nodes≤tot bw t.nodes+tot bw nodes:=by
 have h:tot bw (t.nodes.take i++t.nodes.drop i)=tot bw t.nodes:=by rw[BA]
 have h2:tot bw (t.nodes.drop (i+c))≤tot bw (t.nodes.drop i):=by
  rw[←List.drop_drop]
  have h3:tot bw ((t.nodes.drop i).take c++(t.nodes.drop i).drop c)=tot bw (t.nodes.drop i):=by rw[BA]
  rw[zT] at h3;omega
 unfold mY;simp only[zT] at h ⊢;omega
theorem Vc {t:Tree} {i:Nat} {k:Key} (hl:t.ay.length=t.nodes.length) (hi:i<t.nodes.length) (ht: ∀n∈t.nodes,tot cL n≤8∧n.length≤3):
 tot bw (nW t i k).nodes≤tot bw t.nodes+40∧(nW t i k).nodes.length≤t.nodes.length+1∧(nW t i k).ay.length=(nW t i k).nodes.length:=by
 have hn:=ht t.nodes[i] (u7 hi)
 have hg:t.nodes.getD i []=t.nodes[i]:=by rw[u6,aZ hi];rfl
 have hp:=Nl t.nodes[i] k;have hk:=qS t.nodes[i] k;have hz:bw t.nodes[i]=t.nodes[i].length+tot cL t.nodes[i]:=rfl;unfold nW;rw[hg];generalize cN t.nodes[i] k=l at*;have e1:=Bd (l.take ((l.length+1)/2));have e2:=Bd (l.drop ((l.length+1)/2));rw[dj] at e1;rw[gf] at e2
 have key: ∀(ay:List Int) (nodes:List (List (List Key))),ay.length=nodes.length→nodes.length≤2→tot bw nodes≤40→tot bw (mY t i 1 ay nodes).nodes≤tot bw t.nodes+40∧(mY t i 1 ay nodes).nodes.length≤t.nodes.length+1∧(mY t i 1 ay nodes).ay.length=(mY t i 1 ay nodes).nodes.length:=by
  intro ay nodes h1 h2 h3;have h4:=Rh t i 1 ay nodes;have h5:=yW t i 1 ay nodes ax;have h6:=Hz t i 1 ay nodes ax;omega
 split
 ·split
  ·exact key _ _ rfl eO (by simp[tot])
  ·exact key _ _ rfl eO (by simp only[tot];omega)
 ·exact key _ _ rfl eO (by simp only[tot];omega)
theorem Lk {t:Tree} (h:gj t=true): ∀n∈t.nodes,tot cL n≤8∧n.length≤3:=fun n hn=>by
 have:=DH (yX h hn);omega
theorem Ts {t:Tree} {i:Nat} {k:Key} (h:gj t=true) (hi:i<t.nodes.length):
 tot bw (nW t i k).nodes+(nW t i k).nodes.length≤300∧(nW t i k).ay.length=(nW t i k).nodes.length∧eK (o5 (nW t i k).nodes.length (nW t i k))≤600:=by
 have h1:=pN h;have h2:=HA h;have h3:=Vc (k:=k) h1.2.2 hi (Lk h);have h4:=Nk (nW t i k).nodes.length (nW t i k) h3.2.2;refine⟨by omega,h3.2.2,?_⟩;unfold eK zQ;omega
theorem Vd {n:Nat} (h:8<n):(n+1)/2<n:=by omega
end Go.T
namespace Go.T
end Go.T
namespace Go.T
theorem gz {P:Prop} (h:P:=by
 repeat' first
  |assumption
  |exact rfl
  |exact⟨rfl,rfl⟩
  |exact⟨rfl,trivial⟩
  |refine⟨_,_,_,_,_,_,_,by assumption,?_⟩
  |refine⟨_,_,_,_,_,_,by assumption,?_⟩
  |refine⟨_,_,_,_,_,by assumption,?_⟩
  |refine⟨_,_,_,_,by assumption,?_⟩
  |refine⟨_,_,_,by assumption,?_⟩
  |refine⟨_,_,by assumption,?_⟩
  |refine⟨_,by assumption,?_⟩
  |refine ah (by first|rfl|assumption|(rw[dN];rfl)) ?_
  |refine av (by first|rfl|assumption|(rw[dN];rfl)) ?_
  |refine⟨(_,_),?_,?_,rfl⟩
  |refine⟨(_,_),?_,?_,rfl,rfl⟩
  |refine⟨?_,?_⟩):P:=h
end Go.T
namespace Go.T
def DJ (b a:Int) (x:Key):Bool:=decide (x.b=b∧x.a=a)
def look (l:List Key) (b a:Int):Option Key:=l.find? (DJ b a)
theorem OY (l:List Key) (b a:Int):setAt l b a=look l b a:=rfl
theorem vw (l m:List Key) (b a:Int):look (l++m) b a=(look l b a).or (look m b a):=by unfold look;rw[List.find?_append]
theorem jU (x:Key) (l:List Key) (b a:Int):look (x::l) b a=if x.b=b∧x.a=a then some x else look l b a:=by
 unfold look;rw[List.find?_cons]
 by_cases h:x.b=b∧x.a=a
 ·rw[aP h];simp[DJ,h]
 ·rw[aF h];simp[DJ,h]
theorem HE {k:Key} {b a:Int} (h: ¬(k.b=b∧k.a=a)): ∀(l:List Key) (put:Bool),look (dA k put l) b a=look l b a
 |[],put=>by
  unfold dA
  cases put with
  |true=>rfl
  |false=>simp only[yp,if_false];rw[jU,aF h]
 |x::r,put=>by
  have ih:=HE h r (put|| !iM x k);simp only[dA,vw];rw[ih,jU]
  have h1:look (if(!put&& !iM x k)=true then [k] else []) b a=none:=by
   split
   ·rw[jU,aF h];rfl
   ·rfl
  rw[h1]
  by_cases hs:jP x k=true
  ·have:=qT.1 hs
   rw[aP hs,aF ax]
   rfl
  ·rw[aF hs,jU]
   by_cases hx:x.b=b∧x.a=a
   ·rw[aP hx,aP hx];rfl
   ·rw[aF hx,aF hx];rfl
theorem P9 {k:Key}: ∀l:List Key,l.Pairwise pM→look (dA k false l) k.b k.a=some k
 |[],_=>by simp only[dA,yp,if_false];rw[jU,aP ⟨rfl,rfl⟩]
 |x::r,hp=>by
  obtain⟨h1,h2⟩:=List.pairwise_cons.1 hp
  cases hk:iM x k with
  |true=>
   have hlt:=qa.1 hk
   have T7:jP x k=false:=by
    cases hs:jP x k with
    |false=>rfl
    |true=>have:=qT.1 hs;unfold pM at hlt;omega
   simp only[dA,hk,T7,Bool.not_false,Gn,e9,Bool.and_false,yp,if_false,oW,Bool.or_false,Gm];rw[vw,P9 r h2,jU,aF (by unfold pM at hlt;omega)];rfl
  |false=>
   simp only[dA,hk,Bool.not_false,e9,if_true,Bool.or_true];rw[vw,vw,jU,aP ⟨rfl,rfl⟩];rfl
theorem Nm {l:List Key} {k:Key} (h:l.Pairwise pM) (b a:Int):look (hD l k) b a=if k.b=b∧k.a=a then some k else look l b a:=by
 unfold hD
 by_cases hs:k.b=b∧k.a=a
 ·rw[aP hs,←hs.1,←hs.2];exact P9 l h
 ·rw[aF hs];exact HE hs l false
theorem Kf {l:List Key} {b a:Int} {x:Key} (h:look l b a=some x):x∈l∧x.b=b∧x.a=a:=by
 unfold look at h;have h1:=List.find?_some h;unfold DJ at h1;exact⟨List.mem_of_find?_eq_some h,by simpa using h1⟩
theorem Nn {l:List Key} (h:l.Pairwise pM) {x:Key} (hx:x∈l):look l x.b x.a=some x:=by
 induction l with
 |nil=>cases hx
 |cons y r ih=>
  obtain⟨h1,h2⟩:=List.pairwise_cons.1 h;rw[jU];rcases cw.1 hx with rfl|hx
  ·rw[aP ⟨rfl,rfl⟩]
  ·have:=h1 x hx
   rw[aF (by unfold pM at this;omega)];exact ih h2 hx
theorem zU {l:List Key} {b a:Int} (h: ∀x∈l,¬(x.b=b∧x.a=a)):look l b a=none:=by
 unfold look;rw[List.find?_eq_none];intro x hx hs;unfold DJ at hs;exact h x hx (by simpa using hs)
theorem Bg: ∀(new:List Key) {old:List Key},old.Pairwise pM→new.Pairwise pM→ ∀b a,look (bU old new) b a=(look new b a).or (look old b a)
 |[],old,_,_,b,a=>rfl
 |x::r,old,ho,hn,b,a=>by
  obtain⟨h1,h2⟩:=List.pairwise_cons.1 hn;have ih:=Bg r (yV (k:=x) ho) h2 b a;show look (bU (hD old x) r) b a=_;rw[ih,Nm ho,jU]
  by_cases hs:x.b=b∧x.a=a
  ·rw[aP hs,aP hs]
   have hr:look r b a=none:=zU fun y hy h=>by
    have:=h1 y hy;unfold pM at this;omega
   rw[hr];rfl
  ·rw[aF hs,aF hs]
theorem No {l:List Key} (h:l.Pairwise pM) (p:Key→Bool) (b a:Int):look (l.filter p) b a=(look l b a).filter p:=by
 induction l with
 |nil=>rfl
 |cons x r ih=>
  obtain⟨h1,h2⟩:=List.pairwise_cons.1 h;rw[jU]
  by_cases hp:p x=true
  ·rw[List.filter_cons_of_pos hp,jU,ih h2]
   by_cases hs:x.b=b∧x.a=a
   ·rw[aP hs,aP hs];simp[Option.filter,hp]
   ·rw[aF hs,aF hs]
  ·rw[List.filter_cons_of_neg hp,ih h2]
   by_cases hs:x.b=b∧x.a=a
   ·rw[aP hs]
    have hr:look r b a=none:=zU fun y hy h=>by
     have:=h1 y hy;unfold pM at this;omega
    rw[hr];simp[Option.filter,hp]
   ·rw[aF hs]
theorem Np: ∀{l m:List Key},l.Pairwise pM→m.Pairwise pM→(∀x,x∈l↔x∈m)→l=m
 |[],[],_,_,_=>rfl
 |[],y::m,_,_,h=>by have:=(h y).2 (.head _);cases this
 |x::l,[],_,_,h=>by have:=(h x).1 (.head _);cases this
 |x::l,y::m,hl,hm,h=>by
  obtain⟨h1,h2⟩:=List.pairwise_cons.1 hl;obtain⟨h3,h4⟩:=List.pairwise_cons.1 hm
  have hxy:x=y:=by
   rcases cw.1 ((h x).1 (.head _)) with e|e
   ·exact e
   ·rcases cw.1 ((h y).2 (.head _)) with e2|e2
    ·exact e2.symm
    ·have a1:=h3 x e
     have a2:=h1 y e2;unfold pM at a1 a2;omega
  subst hxy
  have:l=m:=Np h2 h4 fun z=>by
   constructor
   ·intro hz
    rcases cw.1 ((h z).1 (.tail _ hz)) with e|e
    ·subst e;have:=h1 z hz;unfold pM at this;omega
    ·exact e
   ·intro hz
    rcases cw.1 ((h z).2 (.tail _ hz)) with e|e
    ·subst e;have:=h3 z hz;unfold pM at this;omega
    ·exact e
  rw[this]
theorem Tt {l m:List Key} (hl:l.Pairwise pM) (hm:m.Pairwise pM) (h: ∀b a,look l b a=look m b a):l=m:=
 Np hl hm fun x=>⟨fun hx=>by have:=Nn hl hx;rw[h] at this;exact(Kf this).1,fun hx=>by have:=Nn hm hx;rw[←h] at this;exact(Kf this).1⟩
def Qa (n:List (List Key)):Prop:= ∀s∈n,s.Pairwise pM
theorem OZ {l:List Key} (h:EE l=true):l.Pairwise pM:=by
 rw[Hj] at h;simp only[c8] at h;have hp:=oH.1 h.2.1
 have key: ∀(l:List Key),(∀i,i<l.length→mA l iM i=true)→l.Pairwise pM:=by
  intro l
  induction l with
  |nil=>intro _;exact .nil
  |cons x r ih=>
   intro hq
   have hr:=ih fun i hi=>by
    have:=hq (i+1) j8
    cases i with
    |zero=>rfl
    |succ i=>simpa [mA] using this
   refine List.pairwise_cons.2 ⟨?_,hr⟩
   cases r with
   |nil=>intro y hy;cases hy
   |cons z r=>
    have hxz:pM x z:=by have:=hq 1 eO;simp only[mA,cZ,oV] at this;exact qa.1 this
    intro y hy;rcases cw.1 hy with rfl|hy
    ·exact hxz
    ·exact hxz.trans ((List.pairwise_cons.1 hr).1 y hy)
 exact key l hp
theorem Nq {n:List (List Key)} (h:fe n=true):Qa n:=fun s hs=>by
 unfold fe at h;simp only[c8] at h;have:=List.all_eq_true.1 h.1.1 s hs;simp only[c8] at this;exact OZ this.1
def AA:List (List Key)→Int→Int→Option Key
 |[],_,_=>none
 |s::r,b,a=>(AA r b a).or (look s b a)
theorem HF: ∀(n:List (List Key)) {acc:List Key},acc.Pairwise pM→Qa n→ ∀b a,look (n.foldl bU acc) b a=(AA n b a).or (look acc b a)
 |[],acc,_,_,b,a=>rfl
 |s::r,acc,ha,hn,b,a=>by
  have hs:=hn s (.head _);have ih:=HF r (wJ s ha) (fun t ht=>hn t (.tail _ ht)) b a;show look (r.foldl bU (bU acc s)) b a=_;rw[ih,Bg s ha hs];show _=((AA r b a).or (look s b a)).or (look acc b a);rw[Option.or_assoc]
def tL (k:Key):Bool:= !decide (k.k=0)
theorem Ri {n:List (List Key)} (h:Qa n) (b a:Int):look (aL n) b a=(AA n b a).filter tL:=by
 have hr:(q7 n).Pairwise pM:=Ba n .nil;have e:=No hr tL b a;have e2:=HF n .nil h b a;show look ((q7 n).filter tL) b a=_;rw[e];show Option.filter tL (look (n.foldl bU []) b a)=_;rw[e2];show Option.filter tL ((AA n b a).or none)=_;rw[Option.or_none]
def Nr:Option Key→Key×Bool
 |some k=>(k,true)
 |none=>(gx,false)
theorem O0 (n:List (List Key)) (s:List Key) (b a:Int):AA (n++[s]) b a=(look s b a).or (AA n b a):=by
 induction n with
 |nil=>simp[AA]
 |cons t r ih=>simp only[wV,AA,ih,Option.or_assoc]
theorem AB (n:List (List Key)) (b a:Int): ∀k,k≤n.length→nu n b a k=Nr ((AA (n.take k) b a).filter tL)
 |0,_=>rfl
 |k+1,h=>by
  have ih:=AB n b a k ax
  have hk:k<n.length:=by omega
  unfold nu;rw[aZ hk,List.take_add_one,aZ hk];simp only[Option.toList];rw[O0];unfold DE;rw[OY]
  cases hl:look n[k] b a with
  |none=>simp only[yp,if_false];rw[ih];rfl
  |some x=>
   simp only[if_true,Option.some_or]
   by_cases hx:x.k=0
   ·rw[aP hx];simp[Option.filter,tL,hx,Nr]
   ·rw[aF hx];simp[Option.filter,tL,hx,Nr]
theorem Ns {n:List (List Key)} (h:Qa n) (b a:Int):nu n b a n.length=Nr (look (aL n) b a):=by
 rw[AB n b a n.length (bI _),BC,Ri h]
end Go.T
namespace Go.T
theorem Rj {l:List Key} (h:l.Pairwise pM):bU [] l=l:=
 Tt (wJ l .nil) h fun b a=>by rw[Bg l .nil h];show(look l b a).or none=_;rw[Option.or_none]
theorem Nt {l:List Key} (h:l.Pairwise pM) (hn: ∀x∈l,¬x.k=0):aL (cM l)=l:=by
 unfold cM
 split
 ·rename_i h0
  rw[List.length_eq_zero_iff.1 h0];rfl
 ·show rP (bU [] l)=l
  rw[Rj h];unfold rP;rw[List.filter_eq_self];intro x hx;simpa using hn x hx
theorem Kg {n:List (List Key)} {x:Key} (hx:x∈aL n): ¬x.k=0:=by
 have:=(List.mem_filter.1 hx).2;simpa using this
end Go.T
namespace Go.T
structure vz (t:Tree):Prop where
 len:t.ay.length=t.nodes.length
 low0:t.ay[0]?=some 0
 rise: ∀i x y,t.ay[i]?=some x→t.ay[i+1]?=some y→x<y
 ok: ∀n∈t.nodes,fe n=true
 lo: ∀(i:Nat) (n:List (List Key)) (x:Int),t.nodes[i]?=some n→t.ay[i]?=some x→ ∀s∈n,∀k:Key,k∈s→x≤eL k.b k.a
 hi: ∀(i:Nat) (n:List (List Key)) (x:Int),t.nodes[i]?=some n→t.ay[i+1]?=some x→ ∀s∈n,∀k:Key,k∈s→eL k.b k.a<x
theorem vz.mono {t:Tree} (h:vz t): ∀(d i:Nat) (x y:Int),t.ay[i]?=some x→t.ay[i+d+1]?=some y→x<y
 |0,i,x,y,hx,hy=>h.rise i x y hx hy
 |d+1,i,x,y,hx,hy=>by
  obtain⟨hlt,_⟩:=List.getElem?_eq_some_iff.1 hy;have hm:t.ay[i+d+1]?=some t.ay[i+d+1]:=aZ ax;have h1:=h.mono d i x _ hx hm;have h2:=h.rise (i+d+1) _ y hm (by rw[show i+d+1+1=i+(d+1)+1 from by omega];exact hy);omega
theorem vz.lt {t:Tree} (h:vz t) {i j:Nat} {x y:Int} (hij:i<j) (hx:t.ay[i]?=some x) (hy:t.ay[j]?=some y):x<y:=
 h.mono (j-i-1) i x y hx (by rw[show i+(j-i-1)+1=j from by omega];exact hy)
theorem vz.key {t:Tree} (h:vz t) {i:Nat} {n:List (List Key)} (hn:t.nodes[i]?=some n) {x:Key} (hx:x∈aL n):jO x=true:=by
 obtain⟨s,hs,hy⟩:=oK hx;exact tK (h.ok n (fC hn)) hs hy
theorem Tu {x y:Key} (hx:jO x=true) (hy:jO y=true):eL x.b x.a<eL y.b y.a↔pM x y:=by
 have h1:=Cr hx;have h2:=Cr hy;rw[Bf hx,Bf hy];unfold pM;omega
theorem Cs {f:Int→Bool} {l:List Int}: ∀(n:Nat),n≤l.length→(qQ f l n= -1∧ ∀j x,j<n→l[j]?=some x→f x=false)∨ ∃i:Nat,qQ f l n=i∧i<n∧(∃x,l[i]?=some x∧f x=true)∧ ∀j x,i<j→j<n→l[j]?=some x→f x=false
 |0,_=> .inl ⟨rfl,fun j x h=>by omega⟩
 |n+1,h=>by
  have hn:n<l.length:=by omega
  unfold qQ;rw[aZ hn];simp only[]
  cases hf:f l[n] with
  |true=>exact .inr ⟨n,by simp,by omega,⟨_,aZ hn,hf⟩,fun j x h1 h2=>by omega⟩
  |false=>
   rw[aF eO];rcases Cs (f:=f) (l:=l) n ax with⟨h1,h2⟩|⟨i,h1,h2,h3,h4⟩
   ·refine .inl ⟨h1,fun j x hj hx=> ?_⟩
    by_cases hjn:j=n
    ·subst hjn;rw[aZ hn] at hx;cases hx;exact hf
    ·exact h2 j x ax hx
   ·refine .inr ⟨i,h1,by omega,h3,fun j x hij hj hx=> ?_⟩
    by_cases hjn:j=n
    ·subst hjn;rw[aZ hn] at hx;cases hx;exact hf
    ·exact h4 j x hij ax hx
theorem vz.Ve {t:Tree} (h:vz t) {i:Nat} {x:Int} {b a:Int} (hx:t.ay[i]?=some x) (hlo:x≤eL b a) (hhi: ∀j y,i<j→t.ay[j]?=some y→eL b a<y):
 ∀(j:Nat) (n:List (List Key)),t.nodes[j]?=some n→ ¬j=i→look (aL n) b a=none:=by
 intro j n hn hne;refine zU fun k hk hs=> ?_
 have hj:j<t.ay.length:=by rw[h.len];exact(List.getElem?_eq_some_iff.1 hn).1
 obtain⟨s,Ei,By⟩:=oK hk;have h1:=h.lo j n t.ay[j] hn (aZ hj) s Ei k By;rw[hs.1,hs.2] at h1
 by_cases hji:j<i
 ·have hj1:j+1<t.ay.length:=by have:=(List.getElem?_eq_some_iff.1 hx).1;omega
  have h2:=h.hi j n t.ay[j+1] hn (aZ hj1) s Ei k By;rw[hs.1,hs.2] at h2
  by_cases he:j+1=i
  ·subst he;rw[aZ hj1] at hx;cases hx;omega
  ·have:=h.lt (i:=j+1) (j:=i) ax (aZ hj1) hx
   omega
 ·have:=hhi j _ ax (aZ hj)
  omega
theorem Kh {b a:Int}: ∀(l:List (List (List Key))) (i:Nat) (n:List (List Key)),l[i]?=some n→(∀j m,l[j]?=some m→ ¬j=i→look (aL m) b a=none)→look (l.flatMap aL) b a=look (aL n) b a
 |[],i,n,h,_=>by simp at h
 |m::r,0,n,h,hn=>by
  simp only[cZ,aU] at h;subst h;rw[List.flatMap_cons,vw]
  have:look (r.flatMap aL) b a=none:=zU fun x hx hs=>by
   obtain⟨q,hq,hx⟩:=List.mem_flatMap.1 hx;obtain⟨j,hj⟩:=List.mem_iff_getElem?.1 hq;have:=hn (j+1) q (by simpa using hj) ax;unfold look at this;rw[List.find?_eq_none] at this;exact this x hx (by unfold DJ;simpa using hs)
  rw[this,Option.or_none]
 |m::r,i+1,n,h,hn=>by
  rw[List.flatMap_cons,vw,hn 0 m rfl ax];have:=Kh r i n (by simpa using h) fun j q hj hne=>hn (j+1) q (by simpa using hj) ax;rw[this];rfl
theorem vz.find {t:Tree} (h:vz t) {b a:Int} (hs:0≤eL b a):uO t b a=Nr (look (aE t) b a):=by
 unfold uO mK;rcases Cs (f:=fun x=>decide (x≤eL b a)) (l:=t.ay) t.ay.length (bI _) with⟨_,h2⟩|⟨i,h1,h2,⟨x,hx,hf⟩,h4⟩
 ·have hpos:=(List.getElem?_eq_some_iff.1 h.low0).1
  have:=h2 0 0 hpos h.low0;simp only[decide_eq_false_iff_not] at this;omega
 ·rw[h1,aQ]
  have hlo:x≤eL b a:=ry hf
  have hi:i<t.nodes.length:=by rw[←h.len];exact h2
  have hn:t.nodes[i]?=some t.nodes[i]:=aZ hi;rw[hn];simp only[]
  have hno:=h.Ve hx hlo fun j y hij hy=>by
   have:=h4 j y hij (List.getElem?_eq_some_iff.1 hy).1 hy;simp only[decide_eq_false_iff_not] at this;omega
  rw[Ns (Nq (h.ok _ (u7 hi)))];unfold aE;rw[Kh t.nodes i t.nodes[i] hn hno]
end Go.T
namespace Go.T
abbrev Nd:=List (List Key)
def below (x:Int):Option Int→Prop
 |none=>True
 |some y=>x<y
def O1 (l:List Int) (hi:Option Int):Option Int:=match l with|[]=>hi|y::_=>some y
def Ll (x:Int) (hi:Option Int) (n:Nd):Prop:=fe n=true∧below x hi∧ ∀s∈n,∀k:Key,k∈s→x≤eL k.b k.a∧below (eL k.b k.a) hi
def TR (hi:Option Int):List Int→List Nd→Prop
 |[],[]=>True
 |x::xs,n::ns=>Ll x (O1 xs hi) n∧TR hi xs ns
 |_,_=>False
theorem Qb (l m:List Int) (hi:Option Int):O1 (l++m) hi=O1 l (O1 m hi):=by cases l<;>rfl
theorem yY (l:List Int):O1 l none=l[0]?:=by cases l<;>rfl
theorem tM {x y:Int} {o:Option Int} (h:x≤y) (h2:below y o):below x o:=by
 cases o with
 |none=>trivial
 |some z=>have:y<z:=h2;show x<z;omega
theorem TR.app {hi:Option Int} {l2:List Int} {n2:List Nd} (h2:TR hi l2 n2): ∀{l:List Int} {n:List Nd},TR (O1 l2 hi) l n→TR hi (l++l2) (n++n2)
 |[],[],_=>h2
 |x::xs,n::ns,h=>⟨by show Ll x (O1 (xs++l2) hi) n;rw[Qb];exact h.1,TR.app h2 h.2⟩
 |[],_::_,h=>h.elim
 |_::_,[],h=>h.elim
theorem TR.split {hi:Option Int} {l2:List Int} {n2:List Nd}: ∀{l:List Int} {n:List Nd},l.length=n.length→TR hi (l++l2) (n++n2)→TR (O1 l2 hi) l n∧TR hi l2 n2
 |[],[],_,h=>⟨trivial,h⟩
 |x::xs,n::ns,hl,h=>by
  have h:Ll x (O1 (xs++l2) hi) n∧TR hi (xs++l2) (ns++n2):=h;rw[Qb] at h;have:=TR.split (by simpa using hl) h.2;exact⟨⟨h.1,this.1⟩,this.2⟩
 |[],_::_,hl,_=>by simp at hl
 |_::_,[],hl,_=>by simp at hl
theorem Ll.mono {x:Int} {n:Nd} {o o':Option Int} (hm: ∀y,below y o→below y o') (h:Ll x o n):Ll x o' n:=
 ⟨h.1,hm _ h.2.1,fun s hs k hk=>⟨(h.2.2 s hs k hk).1,hm _ (h.2.2 s hs k hk).2⟩⟩
theorem TR.mono {o o':Option Int} (hm: ∀y,below y o→below y o'): ∀{l:List Int} {n:List Nd},TR o l n→TR o' l n
 |[],[],_=>trivial
 |[x],[n],h=>⟨Ll.mono hm h.1,trivial⟩
 |x::y::xs,n::ns,h=>⟨h.1,TR.mono hm h.2⟩
 |[x],n::m::ns,h=>h.2.elim
 |[],_::_,h=>h.elim
 |_::_,[],h=>h.elim
theorem TR.len {hi:Option Int}: ∀{l:List Int} {n:List Nd},TR hi l n→l.length=n.length
 |[],[],_=>rfl
 |x::xs,n::ns,h=>by simp[TR.len h.2]
 |[],_::_,h=>h.elim
 |_::_,[],h=>h.elim
theorem TR.at {hi:Option Int}: ∀{l:List Int} {n:List Nd},TR hi l n→ ∀(i:Nat) (x:Int) (m:Nd),l[i]?=some x→n[i]?=some m→Ll x (O1 (l.drop (i+1)) hi) m
 |[],[],_,i,x,m,h1,_=>by simp at h1
 |x::xs,n::ns,h,0,y,m,h1,h2=>by
  simp only[cZ,aU] at h1 h2;subst h1 h2;exact h.1
 |x::xs,n::ns,h,i+1,y,m,h1,h2=>TR.at h.2 i y m (by simpa using h1) (by simpa using h2)
 |[],_::_,h,_,_,_,_,_=>h.elim
 |_::_,[],h,_,_,_,_,_=>h.elim
theorem TR.head {hi:Option Int}: ∀{l:List Int} {n:List Nd},TR hi l n→ ∀x,l[0]?=some x→below x hi
 |[],_,_,x,hx=>by cases hx
 |[y],[n],h,x,hx=>by
  simp only[cZ,aU] at hx;subst hx;exact h.1.2.1
 |y::z::r,n::ns,h,x,hx=>by
  simp only[cZ,aU] at hx;subst hx;exact tM (Int.le_of_lt h.1.2.1) (TR.head h.2 z rfl)
 |[_],_::_::_,h,_,_=>h.2.elim
 |_::_,[],h,_,_=>h.elim
theorem rS (l:List Int) (i:Nat):(l.drop i)[0]?=l[i]?:=by rw[lY];rfl
theorem TR.of {t:Tree} (h:vz t): ∀(d i:Nat),i+d=t.nodes.length→TR none (t.ay.drop i) (t.nodes.drop i)
 |0,i,hd=>by
  have:=h.len;rw[Al ax,Al ax];trivial
 |d+1,i,hd=>by
  have hl:=h.len
  have h1:i<t.ay.length:=by omega
  have h2:i<t.nodes.length:=by omega
  have e1:t.ay[i]?=some t.ay[i]:=aZ h1;have e2:t.nodes[i]?=some t.nodes[i]:=aZ h2;rw[El h1,El h2];refine⟨⟨h.ok _ (u7 h2),?_,fun s hs k hk=>⟨h.lo i _ _ e2 e1 s hs k hk,?_⟩⟩,TR.of h d (i+1) ax⟩
  ·rw[yY,rS]
   cases hy:t.ay[i+1]? with
   |none=>trivial
   |some y=>exact h.rise i _ y e1 hy
  ·rw[yY,rS]
   cases hy:t.ay[i+1]? with
   |none=>trivial
   |some y=>exact h.hi i _ y e2 hy s hs k hk
theorem TR.tree {l:List Int} {n:List Nd} (h:TR none l n) (h0:l[0]?=some 0):vz ⟨l,n⟩:=by
 have hl:=h.len
 have gt: ∀(i:Nat) (x y:Int),l[i]?=some x→l[i+1]?=some y→ ∃m,n[i]?=some m∧Ll x (some y) m:=fun i x y hx hy=>by
  obtain⟨h1,_⟩:=List.getElem?_eq_some_iff.1 hx;have e2:n[i]?=some n[i]:=aZ ax;have:=h.at i x _ hx e2;rw[yY,rS,hy] at this;exact⟨_,e2,this⟩
 refine⟨hl,h0,fun i x y hx hy=> ?_,fun m hm=> ?_,fun i m x hm hx=> ?_,fun i m y hm hy=> ?_⟩
 ·obtain⟨m,_,h1⟩:=gt i x y hx hy
  exact h1.2.1
 ·obtain⟨i,hi⟩:=List.mem_iff_getElem?.1 hm
  obtain⟨h1,_⟩:=List.getElem?_eq_some_iff.1 hi;have h1:i<n.length:=h1;exact(h.at i _ m (aZ ax) hi).1
 ·exact fun s hs k hk=>((h.at i x m hx hm).2.2 s hs k hk).1
 ·intro s hs k hk
  obtain⟨h1,_⟩:=List.getElem?_eq_some_iff.1 hm;have h1:i<n.length:=h1;have:=((h.at i _ m (aZ ax) hm).2.2 s hs k hk).2;have hy:l[i+1]?=some y:=hy;rw[yY,rS,hy] at this;exact this
def NE (l:List Nd):Prop:= ∀n∈l.tail,¬aL n=[]
theorem Xh (m:Nd):NE [m]:=fun n hn=>by simp at hn
structure AD (t:Tree):Prop where
 tr:TR none t.ay t.nodes
 z:t.ay[0]?=some 0
 ne:NE t.nodes
theorem AD.r {t:Tree} (h:AD t):vz t:=h.tr.tree h.z
theorem Nu {α:Type} {l:List α} {a:α} {i:Nat} (h0:0<i) (h:l[i]?=some a):a∈l.tail:=by
 cases l with
 |nil=>simp at h
 |cons b r=>
  cases i with
  |zero=>omega
  |succ i=>exact fC (i:=i) (by simpa using h)
theorem AD.ok {t:Tree} (h:AD t) (h20:t.nodes.length≤20) (h60:(aE t).length≤60):gj t=true:=by
 have hr:=h.r;have hl:=hr.len;have h1:=(List.getElem?_eq_some_iff.1 h.z).1;unfold gj mX;rw[h.z];simp only[c8,decide_eq_true_eq];refine⟨by omega,hl,trivial,oH.2 fun i hi=> ?_,h60⟩;unfold eC;have e2:t.nodes[i]?=some t.nodes[i]:=aZ hi;rw[e2];simp only[c8,Bool.or_eq_true,decide_eq_true_eq,u5,decide_eq_false_iff_not];refine⟨?_,hr.ok _ (u7 hi),?_,List.all_eq_true.2 fun s hs=>List.all_eq_true.2 fun k hk=> ?_⟩
 ·cases i with
  |zero=>rfl
  |succ i=>
   have a1:t.ay[i]?=some t.ay[i]:=aZ ax;have a2:t.ay[i+1]?=some t.ay[i+1]:=aZ ax;simp only[mA,a1,a2,decide_eq_true_eq];exact hr.rise i _ _ a1 a2
 ·by_cases h0:i=0
  ·exact .inl h0
  ·exact .inr fun e=>h.ne _ (Nu ax e2) (List.length_eq_zero_iff.1 e)
 ·unfold kR OL
  have a1:t.ay[i]?=some t.ay[i]:=aZ ax;rw[a1];simp only[c8,u5,decide_eq_false_iff_not];have h3:=hr.lo i _ _ e2 a1 s hs k hk;refine⟨by omega,?_⟩
  cases hy:t.ay[i+1]? with
  |none=>rfl
  |some y=>simp only[decide_eq_true_eq];exact hr.hi i _ y e2 hy s hs k hk
theorem Vf {l:List Key} {s:List Key} (h:s∈cM l) {k:Key} (hk:k∈s):k∈l:=by
 unfold cM at h
 split at h
 ·cases h
 ·rw[jz.1 h] at hk;exact hk
theorem AD.aaH {t:Tree} (h:AD t) {A A1 A2 C:List Int} {N N1 N2 M:List Nd} (e1:t.ay=A++A1++C) (e2:t.nodes=N++N1++M) (hl:A.length=N.length) (C4:A1.length=N1.length) {x:Int} (hx:A1[0]?=some x)
 (h2:TR (O1 C none) A2 N2) (h0:A2[0]?=some x∨(A2=[]∧ ¬A=[])) (hn:NE N2) (hn2: ¬A=[]→ ∀n∈N2,¬aL n=[]):AD ⟨A++A2++C,N++N2++M⟩:=by
 obtain⟨tr,z,ne⟩:=h;rw[e1,e2,oU,oU] at tr;obtain⟨t1,t2⟩:=TR.split hl tr;obtain⟨t3,t4⟩:=TR.split C4 t2
 have Qq:O1 (A1++C) none=some x:=by
  cases A1 with
  |nil=>cases hx
  |cons a r=>simpa [O1] using hx
 rw[Qq] at t1;rw[e2] at ne;rw[e1] at z;have hxC:below x (O1 C none):=t3.head x hx;refine⟨?_,?_,?_⟩
 ·show TR none (A++A2++C) (N++N2++M)
  rw[oU,oU];refine TR.app (TR.app t4 h2) (t1.mono fun y hy=> ?_);have hy:y<x:=hy;rcases h0 with h0|⟨h0,_⟩
  ·cases A2 with
   |nil=>cases h0
   |cons a r=>simp only[cZ,aU] at h0;subst h0;exact hy
  ·subst h0;exact tM (Int.le_of_lt hy) hxC
 ·show(A++A2++C)[0]?=some 0
  cases A with
  |cons a r=>simpa using z
  |nil=>
   rcases h0 with h0|⟨_,h0⟩
   ·cases A1 with
    |nil=>cases hx
    |cons a r=>
     cases A2 with
     |nil=>cases h0
     |cons b s=>
      simp only[oW,wV,cZ,aU] at z hx h0 ⊢;omega
   ·exact absurd rfl h0
 ·show NE (N++N2++M)
  have hM: ∀n∈M,(¬N1=[])→ ¬aL n=[]:=fun n hm h1=>ne n (by
   cases N with
   |cons a r=>simp[hm]
   |nil=>
    cases N1 with
    |nil=>exact absurd rfl h1
    |cons b s=>simp[hm])
  have hN1: ¬N1=[]:=fun e=>by
   subst e;rw[List.length_eq_zero_iff.1 C4] at hx;cases hx
  intro n hnm
  cases N with
  |cons a r=>
   have hA: ¬A=[]:=fun e=>by rw[e] at hl;simp at hl
   simp only[wV,List.tail_cons,List.mem_append] at hnm;rcases hnm with(hnm|hnm)|hnm
   ·exact ne n (by simp[hnm])
   ·exact hn2 hA n hnm
   ·exact hM n hnm hN1
  |nil=>
   have hA:A=[]:=List.length_eq_zero_iff.1 (by simpa using hl)
   cases N2 with
   |nil=>
    rcases h0 with h0|⟨_,h0⟩
    ·rw[List.length_eq_zero_iff.1 h2.len] at h0;cases h0
    ·exact absurd hA h0
   |cons b s=>
    simp only[oW,wV,List.tail_cons,List.mem_append] at hnm;rcases hnm with hnm|hnm
    ·exact hn n hnm
    ·exact hM n hnm hN1
theorem AD.step {t:Tree} (h:AD t) {i:Nat} (hp:wK t=some i):AD (eE t i)∧aE (eE t i)=aE t:=by
 obtain⟨h1,h2⟩:=q8 hp;have hr:=h.r;have hl:=hr.len;have a1:t.nodes[i]?=some t.nodes[i]:=aZ ax;have a2:t.nodes[i+1]?=some t.nodes[i+1]:=aZ h1;have b1:t.ay[i]?=some t.ay[i]:=aZ ax;have b2:t.ay[i+1]?=some t.ay[i+1]:=aZ ax;have en:=OV a1 a2;have el:=OV b1 b2;generalize ha:t.nodes[i]=a at*;generalize hb:t.nodes[i+1]=b at*;generalize hx:t.ay[i]=x at*;generalize hy:t.ay[i+1]=y at*;rw[iX a1,iX a2] at h2
 have e1:eE t i=⟨t.ay.take i++[x]++t.ay.drop (i+2),t.nodes.take i++[cM (aL a++aL b)]++t.nodes.drop (i+2)⟩:=by
  unfold eE mY;rw[iX a1,iX a2,u6,b1];rfl
 have el':t.ay=t.ay.take i++[x,y]++t.ay.drop (i+2):=by simpa using el
 have en':t.nodes=t.nodes.take i++[a,b]++t.nodes.drop (i+2):=by simpa using en
 have hlen:(t.ay.take i).length=(t.nodes.take i).length:=by simp[hl]
 have na:=h.tr.at i x a b1 a1;have nb:=h.tr.at (i+1) y b b2 a2;rw[yY,rS,b2] at na
 have hka: ∀k∈aL a,jO k=true∧x≤eL k.b k.a∧eL k.b k.a<y:=fun k hk=>by
  obtain⟨s,hs,hk⟩:=oK hk;exact⟨tK na.1 hs hk,na.2.2 s hs k hk⟩
 have Yf: ∀k∈aL b,jO k=true∧y≤eL k.b k.a∧below (eL k.b k.a) (O1 (t.ay.drop (i+1+1)) none):=fun k hk=>by
  obtain⟨s,hs,hk⟩:=oK hk;exact⟨tK nb.1 hs hk,nb.2.2 s hs k hk⟩
 have hxy:x<y:=na.2.1
 have Qs:(aL a++aL b).Pairwise pM:=List.pairwise_append.2 ⟨uQ a,uQ b,fun u hu v hv=>by
  have:=hka u hu;have h4:=Yf v hv
  exact(Tu this.1 h4.1).1 ax⟩
 refine⟨?_,?_⟩
 ·rw[e1]
  refine h.aaH el' en' hlen rfl (x:=x) rfl (A2:=[x]) (N2:=[cM (aL a++aL b)]) ⟨⟨Hy Qs (fun k hk=> ?_) (by rw[bX];omega),?_,fun s hs k hk=> ?_⟩,trivial⟩ (.inl rfl) (Xh _) fun hA n hn=> ?_
  ·rcases List.mem_append.1 hk with hk|hk
   ·exact(hka k hk).1
   ·exact(Yf k hk).1
  ·exact tM (Int.le_of_lt hxy) nb.2.1
  ·rcases List.mem_append.1 (Vf hs hk) with hk|hk
   ·exact⟨(hka k hk).2.1,tM (Int.le_of_lt (hka k hk).2.2) nb.2.1⟩
   ·exact⟨by have:=(Yf k hk).2.1;omega,(Yf k hk).2.2⟩
  ·rw[jz.1 hn,Nt Qs fun u hu=>by
    rcases List.mem_append.1 hu with hu|hu<;>exact Kg hu]
   have hi:0<i:=Nat.pos_of_ne_zero fun e=>hA (by subst e;rfl);have:=h.ne a (Nu hi a1);intro e;exact this (List.append_eq_nil_iff.1 e).1
 ·rw[e1]
  unfold aE
  conv=>rhs;rw[en']
  simp only[List.flatMap_append,List.flatMap_cons,List.flatMap_nil,lX]
  rw[Nt Qs fun u hu=>by
     rcases List.mem_append.1 hu with hu|hu<;>exact Kg hu]
end Go.T
namespace Go.T
end Go.T
namespace Go.T
end Go.T
namespace Go.T
theorem Vg {p x:bn} (h:cH p=true):cH (Ld p x).1=true:=by
 unfold Ld
 split
 ·assumption
 ·exact h
theorem Lm {p x:bn} {b:Bool} (h:cH p=true):cH (Le p x b).1=true:=by
 unfold Le
 split
 ·exact Vg h
 ·exact h
theorem uP.lt: ∀{l:List iV},uP l→l.Pairwise fun a b=>Iv a.name b.name=true
 |[],_=> .nil
 |[a],_=>by simp
 |a::b::r,h=>by
  have ih:=uP.lt (l:=b::r) h.2;refine List.pairwise_cons.2 ⟨fun c hc=> ?_,ih⟩;rcases cw.1 hc with rfl|hc
  ·exact h.1
  ·exact J4 h.1 ((List.pairwise_cons.1 ih).1 c hc)
theorem O2:cH pV=true:=by decide+kernel
theorem EO {p:bn} (h:cH p=true) {v:iV} (hv:v∈p.az):1≤v.size∧v.size≤12:=by
 have:=Ka (tH h) hv;omega
end Go.T
namespace Go.T
abbrev Ub:ByteArray:=⟨#[97]⟩
abbrev nmB:ByteArray:=⟨#[98]⟩
abbrev nmC:ByteArray:=⟨#[99]⟩
abbrev nmD:ByteArray:=⟨#[100]⟩
def nv:Nat→ByteArray
 |0=>Ub
 |1=>nmB
 |2=>nmC
 |_=>nmD
def yf (c:Int):Nat→bn
 |0=>(oJ pV Ub 4).1
 |i+1=>(Aw (jS (yf c i) (nv i) (lT (c+i) 4) (100+i)).1 (nv i) (nv (i+1)) false).1
def w5 (c:Int) (i:Nat):bn×Int:=jS (yf c i) (nv i) (lT (c+i) 4) (100+i)
def V7 (c:Int) (i:Nat):bn×Int:=Aw (w5 c i).1 (nv i) (nv (i+1)) false
def zV (c:Int):Nat→bn
 |0=>(w5 c 3).1
 |i+1=>(w4 (zV c i) (nv i)).1
def Nv (c:Int):bn:=Cp (zV c 3)
def Ln (c:Int):Bool:=decide ((oJ pV Ub 4).2=0)&&decide ((w5 c 0).2=0)&&decide ((w5 c 1).2=0)&&decide ((w5 c 2).2=0)&&decide ((w5 c 3).2=0)&&decide ((V7 c 0).2=0)&&decide ((V7 c 1).2=0)&&decide ((V7 c 2).2=0)&&
 decide ((w4 (zV c 0) Ub).2=0)&&decide ((w4 (zV c 1) nmB).2=0)&&decide ((w4 (zV c 2) nmC).2=0)&&decide ((Nv c).aX.length=1)&&decide (dF (Nv c).cells=4)&&cH (Nv c)&&decide ((ki (w5 c 3).1).length=4)&&decide ((ki (Nv c)).length=1)&&
 decide (((ki (Nv c))[0]?.map (·.l))=((ki (w5 c 3).1)[3]?.map (·.l)))
set_option maxRecDepth 100000
theorem YQ:Ln 0=true:=by decide+kernel
theorem YR:Ln 1=true:=by decide+kernel
theorem YS:Ln 2=true:=by decide+kernel
theorem YT:Ln 3=true:=by decide+kernel
theorem YU {c:Int} (h:0≤c) (h2:c≤1000) (i:Nat) (hi:i≤10):lT (c+i) 4=lT (c % 4+i) 4:=by
 rw[K2,K2,Int.tmod_eq_emod_of_nonneg ax,Int.tmod_eq_emod_of_nonneg ax];omega
theorem Qd {c:Int} (h:0≤c) (h2:c≤1000): ∀i,i≤10→yf c i=yf (c % 4) i
 |0,_=>rfl
 |i+1,hi=>by
  simp only[yf];rw[Qd h h2 i ax,YU h h2 i ax]
theorem zW {c:Int} (h:0≤c) (h2:c≤1000) {i:Nat} (hi:i≤10):w5 c i=w5 (c % 4) i:=by
 unfold w5;rw[Qd h h2 i hi,YU h h2 i hi]
theorem Lo {c:Int} (h:0≤c) (h2:c≤1000) {i:Nat} (hi:i≤10):V7 c i=V7 (c % 4) i:=by
 unfold V7;rw[zW h h2 hi]
theorem Lq {c:Int} (h:0≤c) (h2:c≤1000): ∀i,zV c i=zV (c % 4) i
 |0=>by simp only[zV];rw[zW h h2 ax]
 |i+1=>by simp only[zV];rw[Lq h h2 i]
theorem Vh {c:Int} (h:0≤c) (h2:c≤1000):Nv c=Nv (c % 4):=by unfold Nv;rw[Lq h h2]
theorem YV {c:Int} (h:0≤c) (h2:c≤1000):Ln c=true:=by
 have e:Ln c=Ln (c % 4):=by
  unfold Ln;simp only[zW h h2 (i:=0) ax,zW h h2 (i:=1) ax,zW h h2 (i:=2) ax,zW h h2 (i:=3) ax,Lo h h2 (i:=0) ax,Lo h h2 (i:=1) ax,Lo h h2 (i:=2) ax,Lq h h2,Vh h h2]
 rw[e]
 have:c % 4=0∨c % 4=1∨c % 4=2∨c % 4=3:=by omega
 rcases this with e|e|e|e<;>rw[e]
 ·exact YQ
 ·exact YR
 ·exact YS
 ·exact YT
end Go.T
namespace Go.T
end Go.T
namespace Go.T
variable {C : jC} {f : FuncId} {vs : List TV} {b : List Int}
end Go.T
