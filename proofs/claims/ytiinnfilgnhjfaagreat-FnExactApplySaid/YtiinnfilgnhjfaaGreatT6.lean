import Derived.Test.YtiinnfilgnhjfaaGreatT5
set_option linter.all false
namespace Go.T
def alk (cf:Cf):Prop:= ∀f vs r fs r' fs',cf f vs r fs→cf f vs r' fs'→r=r'∧fs=fs'
def anx (lp:Lp):Prop:= ∀f i c st (Q Q':TX→TS→Prop),lp f i c st Q→lp f i c st Q'→ ∃x s,Q x s∧Q' x s
theorem tO {R:Type} {cf:Cf} {lp:Lp} (hc:alk cf) (hl:anx lp) {Q Q':R→Prop}: ∀(e:Ev R),e.holds cf lp Q→e.holds cf lp Q'→ ∃r,Q r∧Q' r
 | .fail,h,_=>h.elim
 | .ret r,h,h'=>⟨r,h,h'⟩
 | .test b k,h,h'=>tO hc hl (k b) h h'
 | .row rows i k,⟨c,h1,h2⟩,⟨c',h1',h2'⟩=>by
   rw[h1] at h1';cases h1';exact tO hc hl (k c) h2 h2'
 | .byte rows i k,⟨c,h1,h2⟩,⟨c',h1',h2'⟩=>by
   rw[h1] at h1';cases h1';exact tO hc hl (k c) h2 h2'
 | .bytes rows k,⟨c,h1,h2⟩,⟨c',h1',h2'⟩=>by
   rw[h1] at h1';cases h1';exact tO hc hl (k c) h2 h2'
 | .call f vs k,⟨r,fs,h1,h2⟩,⟨r',fs',h1',h2'⟩=>by
   obtain⟨rfl,rfl⟩:=hc _ _ _ _ _ _ h1 h1';exact tO hc hl (k r fs) h2 h2'
 | .loop f i c st k,h,h'=>by
   obtain⟨x,s,h1,h2⟩:=hl _ _ _ _ _ _ h h';exact tO hc hl (k x s) h1 h2
 | .both a b,⟨r,h1,h2,h3⟩,⟨r',h1',h2',h3'⟩=>by
   obtain⟨r0,e1,e2⟩:=tO hc hl a h1 h1';subst e1 e2;exact⟨_,h3,h3'⟩
section
variable {C : pU}
theorem ac6 {cf:Cf} {lp:Lp} (hc:alk cf) (hl:anx lp) {fx:List Nat} {f i:Nat} {c:Code} {Q Q':TX→TS→Prop}: ∀(n:Nat) (st:TS),iter C cf lp fx f i c Q n st→iter C cf lp fx f i c Q' n st→ ∃x s,Q x s∧Q' x s
 |0,_,h,_=>h.elim
 |n+1,st,h,h'=>by
  obtain⟨⟨x,s⟩,h1,h2⟩:=tO hc hl _ h h'
  cases x with
  |norm=>
   simp only at h1 h2;rw[xF] at h1 h2;exact ac6 hc hl n _ h1 h2
  |ex id=>exact⟨_,_,h1,h2⟩
  |ret=>exact⟨_,_,h1,h2⟩
theorem agb {cf:Cf} (hc:alk cf) (k:Nat) (fx:List Nat): ∀n,anx (lpN C cf k fx n)
 |0=>fun _ _ _ _ _ _ h _=>h.elim
 |n+1=>fun f i c st Q Q' h h'=>ac6 hc (agb hc k fx n) k st h h'
theorem O6: ∀k,alk (lR C k)
 |0=>fun _ _ _ _ _ _ h _=>h.elim
 |k+1=>fun f vs r fs r' fs' h h'=>by
  unfold lR at h h'
  cases hx:C.ext f with
  |some p=>rw[hx] at h h';have h:p vs=some (r,fs):=h;have h':p vs=some (r',fs'):=h';rw[h] at h';cases h';exact⟨rfl,rfl⟩
  |none=>
  rw[hx] at h h';simp only at h h';obtain⟨p,h1,h2⟩:=tO (O6 k) (agb (O6 k) k _ 4) _ h h';rw[h1] at h2
  cases h2
  exact⟨rfl,rfl⟩
theorem au.det {f:FuncId} {vs:List TV} {r r':TV} {fs fs':List TV} (h:au C f vs r fs) (h':au C f vs r' fs'):r'=r∧fs'=fs:=by
 obtain⟨k,h⟩:=h;obtain⟨k',h'⟩:=h';obtain⟨h1,h2⟩:=O6 (max k k') _ _ _ _ _ _ (qC (IN _ _) h) (qC (Nat.le_max_right _ _) h');exact⟨h1.symm,h2.symm⟩
end
def fE {α:Type} (l:List α) (i:Int):Option α:=if 0≤i then l[i.toNat]? else none
theorem aI {α:Type} (l:List α) (i:Nat):fE l (i:Int)=l[i]?:=by
 unfold fE;rw[aJ (Int.natCast_nonneg i),mT]
theorem mz {α:Type} {l:List α} {i:Int} (h0:0≤i) (h1:i<l.length): ∃a,fE l i=some a:=by
 unfold fE;rw[aJ h0];exact⟨_,cw an⟩
theorem gR {α:Type} {l:List α} {i:Int} (h: ¬(0≤i∧i<l.length)):fE l i=none:=by
 unfold fE
 split
 ·exact US an
 ·rfl
theorem aV {α:Type} (e:α→List TC) (l:List α) (i:Int):rowAt (l.map e) i=(fE l i).map e:=by
 unfold rowAt fE
 split
 ·rw[mm]
 ·rfl
theorem D2 {α:Type} {l:List α} {i:Int} {a:α} (h:fE l i=some a):a∈l:=by
 unfold fE at h
 split at h
 ·exact iV h
 ·cases h
def apk {α:Type} (l:List α) (i:Int) (a:α):List α:=l.set i.toNat a
theorem ac7 {α:Type} {e:α→List TC} {l:List α} {i:Int} {a a':α} {f:Nat} {cs:List TC} (h:fE l i=some a) (he:(e a).take f++cs++(e a).drop (f+cs.length)=e a'):setRow (l.map e) i f cs=(apk l i a').map e:=by
 unfold fE at h
 split at h
 ·unfold setRow apk
  rw[mm,h];simp only[pQ,he,List.map_set]
 ·cases h
@[simp] theorem cO {α:Type} (e:α→List TC) (l:List α) (a b:Int):aE (l.map e) a b=((l.take b.toNat).drop a.toNat).map e:=by
  unfold aE;rw[←IM,←DN]
theorem Ar {rows:List (List TC)} (h: ∀r∈rows,∀c∈r,∃v,c= .sc v):bT rows=true:=by
 unfold bT;rw[List.all_eq_true];intro r hr;rw[List.all_eq_true];intro c hc;obtain⟨v,rfl⟩:=h r hr c hc
 rfl
@[simp] theorem LH (s:ByteArray):(ByteArray.data s).1.length=s.size:=rfl
@[simp] theorem Jd (l h n:Int):gH l h n=decide (0≤l∧l≤h∧h≤n):=by unfold gH;rfl
end Go.T
namespace Go.T
structure Key where
 b:Int
 a:Int
 k:Int
 c:Int
 g:Int
 deriving DecidableEq
structure Age where
 id:Int
 fr:Int
 deriving DecidableEq
structure Cell where
 g:Int
 u:Bool
 n:Int
 deriving DecidableEq
structure Vol where
 name:ByteArray
 cY:Int
 size:Int
 fx:Bool
structure Mp where
 name:ByteArray
 fx:Bool
 l:List Int
structure Tree where
 aD:List Int
 nodes:List (List (List Key))
structure Pool where
 t:Tree
 aL:List Age
 cells:List Cell
 av:List Vol
 next:Int
structure Xk where
 kind:Int
 name:ByteArray
 to:ByteArray
 a:Int
 b:Int
abbrev iI (n:Int):TC:= .sc (.int .i64 n)
abbrev iB (b:Bool):TC:= .sc (.bool b)
abbrev iS (s:ByteArray):TC:= .sc (.string s)
abbrev cI (n:Int):CE:= .sc (.int .i64 n)
abbrev cB (b:Bool):CE:= .sc (.bool b)
abbrev cS (s:ByteArray):CE:= .sc (.string s)
abbrev aA (a b:Int):Int:=aek .i64 a b
abbrev cV (a b:Int):Int:=UW .i64 a b
abbrev alm (a b:Int):Int:=ael .i64 a b
theorem aG {a b:Int} (h: -9223372036854775808≤a+b∧a+b≤9223372036854775807):aA a b=a+b:=alg h
theorem dx {a b:Int} (h: -9223372036854775808≤a-b∧a-b≤9223372036854775807):cV a b=a-b:=alh h
theorem aln {a b:Int} (h: -9223372036854775808≤a*b∧a*b≤9223372036854775807):alm a b=a*b:=ali h
abbrev RR:=List (List TC)
abbrev QV:=TV→List TV→Prop
abbrev QX:=TX→TS→Prop
abbrev sI:Sh:= .int .i64
abbrev sB:Sh:= .bool
abbrev sS:Sh:= .str
abbrev hz:Hint:= .z
abbrev hb:Hint→Hint→Hint:= .br
abbrev hr:List Sh→Hint→Hint:= .row
abbrev hc:Fq→List Fq→Hint→Hint:= .call
abbrev xQ:ByteArray:=⟨#[]⟩
def bS (n:Int):List TC:=[.sc (.int .i64 n)]
def amC (n:Int):List TC:=[.sc (.int .u8 n)]
def Rw (n:Bool):List TC:=[.sc (.bool n)]
def bP (x:Key):List TC:=[.sc (.int .i64 x.b),.sc (.int .i64 x.a),.sc (.int .i64 x.k),.sc (.int .i64 x.c),.sc (.int .i64 x.g)]
def bW (x:Age):List TC:=[.sc (.int .i64 x.id),.sc (.int .i64 x.fr)]
def bQ (x:Cell):List TC:=[.sc (.int .i64 x.g),.sc (.bool x.u),.sc (.int .i64 x.n)]
def cu (x:Vol):List TC:=[.sc (.string x.name),.sc (.int .i64 x.cY),.sc (.int .i64 x.size),.sc (.bool x.fx)]
def opC (x:Xk):List TC:=[.sc (.int .i64 x.kind),.sc (.string x.name),.sc (.string x.to),.sc (.int .i64 x.a),.sc (.int .i64 x.b)]
def cZ (x:List Key):List TC:=[.sub 5 (x.map bP)]
def aR (x:List (List Key)):List TC:=[.sub 1 (x.map cZ)]
abbrev agd (t:Tree):List TC:=[.sub 1 (t.aD.map bS),.sub 1 (t.nodes.map aR)]
abbrev wk (p:Pool):List TC:=[.sub 1 (p.t.aD.map bS),.sub 1 (p.t.nodes.map aR),.sub 2 (p.aL.map bW),.sub 3 (p.cells.map bQ),.sub 4 (p.av.map cu),.sc (.int .i64 p.next)]
abbrev vI (n:Int):TV:= .c (.sc (.int .i64 n))
abbrev vB (b:Bool):TV:= .c (.sc (.bool b))
abbrev vS (s:ByteArray):TV:= .c (.sc (.string s))
abbrev oD (l:List Int):TV:= .c (.sub 1 (l.map bS))
abbrev dP (l:List Key):TV:= .c (.sub 5 (l.map bP))
abbrev Nm (l:List (List Key)):TV:= .c (.sub 1 (l.map cZ))
abbrev As (l:List (List (List Key))):TV:= .c (.sub 1 (l.map aR))
abbrev gL (l:List Age):TV:= .c (.sub 2 (l.map bW))
abbrev jG (l:List Cell):TV:= .c (.sub 3 (l.map bQ))
abbrev qV (l:List Vol):TV:= .c (.sub 4 (l.map cu))
abbrev uG (k:Key):TV:= .ag [.sc (.int .i64 k.b),.sc (.int .i64 k.a),.sc (.int .i64 k.k),.sc (.int .i64 k.c),.sc (.int .i64 k.g)]
abbrev iu (n:List (List Key)):TV:= .ag [.sub 1 (n.map cZ)]
abbrev ef (t:Tree):TV:= .ag (agd t)
abbrev dQ (p:Pool):TV:= .ag (wk p)
section
variable {i : Int}
@[simp] theorem wQ {l:List Int} {K:Int→Prop}:(∃n,rowAt (l.map bS) i=some [.sc (.int .i64 n)]∧K n)↔ ∃a,fE l i=some a∧K a:=by
  rw[aV]
  constructor
  ·rintro⟨n,h,hK⟩
   obtain⟨a,ha,h⟩:=Option.map_eq_some_iff.1 h;unfold bS at h;cases h;exact⟨_,ha,hK⟩
  ·rintro⟨a,ha,hK⟩
   exact⟨_,by rw[ha];rfl,hK⟩
@[simp] theorem alo {l:List Bool} {K:Bool→Prop}:(∃n,rowAt (l.map Rw) i=some [.sc (.bool n)]∧K n)↔ ∃a,fE l i=some a∧K a:=by
  rw[aV]
  constructor
  ·rintro⟨n,h,hK⟩
   obtain⟨a,ha,h⟩:=Option.map_eq_some_iff.1 h;unfold Rw at h;cases h;exact⟨_,ha,hK⟩
  ·rintro⟨a,ha,hK⟩
   exact⟨_,by rw[ha];rfl,hK⟩
@[simp] theorem lT {l:List Key} {K:Int→Int→Int→Int→Int→Prop}:(∃b a k c g,rowAt (l.map bP) i=some [.sc (.int .i64 b),.sc (.int .i64 a),.sc (.int .i64 k),.sc (.int .i64 c),.sc (.int .i64 g)]∧K b a k c g)↔ ∃x,fE l i=some x∧K x.b x.a x.k x.c x.g:=by
  rw[aV]
  constructor
  ·rintro⟨_,_,_,_,_,h,hK⟩
   obtain⟨a,ha,h⟩:=Option.map_eq_some_iff.1 h;unfold bP at h;cases h;exact⟨_,ha,hK⟩
  ·rintro⟨a,ha,hK⟩
   exact⟨_,_,_,_,_,by rw[ha];rfl,hK⟩
@[simp] theorem wR {l:List Age} {K:Int→Int→Prop}:(∃b a,rowAt (l.map bW) i=some [.sc (.int .i64 b),.sc (.int .i64 a)]∧K b a)↔ ∃x,fE l i=some x∧K x.id x.fr:=by
  rw[aV]
  constructor
  ·rintro⟨_,_,h,hK⟩
   obtain⟨a,ha,h⟩:=Option.map_eq_some_iff.1 h;unfold bW at h;cases h;exact⟨_,ha,hK⟩
  ·rintro⟨a,ha,hK⟩
   exact⟨_,_,by rw[ha];rfl,hK⟩
@[simp] theorem pW {l:List Cell} {K:Int→Bool→Int→Prop}:(∃g u n,rowAt (l.map bQ) i=some [.sc (.int .i64 g),.sc (.bool u),.sc (.int .i64 n)]∧K g u n)↔ ∃x,fE l i=some x∧K x.g x.u x.n:=by
  rw[aV]
  constructor
  ·rintro⟨_,_,_,h,hK⟩
   obtain⟨a,ha,h⟩:=Option.map_eq_some_iff.1 h;unfold bQ at h;cases h;exact⟨_,ha,hK⟩
  ·rintro⟨a,ha,hK⟩
   exact⟨_,_,_,by rw[ha];rfl,hK⟩
@[simp] theorem yM {l:List Vol} {K:ByteArray→Int→Int→Bool→Prop}:(∃s a z f,rowAt (l.map cu) i=some [.sc (.string s),.sc (.int .i64 a),.sc (.int .i64 z),.sc (.bool f)]∧K s a z f)↔ ∃x,fE l i=some x∧K x.name x.cY x.size x.fx:=by
  rw[aV]
  constructor
  ·rintro⟨_,_,_,_,h,hK⟩
   obtain⟨a,ha,h⟩:=Option.map_eq_some_iff.1 h;unfold cu at h;cases h;exact⟨_,ha,hK⟩
  ·rintro⟨a,ha,hK⟩
   exact⟨_,_,_,_,by rw[ha];rfl,hK⟩
@[simp] theorem xR {l:List (List Key)} {K:List (List TC)→Prop}:(∃r,rowAt (l.map cZ) i=some [.sub 5 r]∧K r)↔ ∃x,fE l i=some x∧K (x.map bP):=by
  rw[aV]
  constructor
  ·rintro⟨_,h,hK⟩
   obtain⟨a,ha,h⟩:=Option.map_eq_some_iff.1 h;unfold cZ at h;cases h;exact⟨_,ha,hK⟩
  ·rintro⟨a,ha,hK⟩
   exact⟨_,by rw[ha];rfl,hK⟩
@[simp] theorem tP {l:List (List (List Key))} {K:List (List TC)→Prop}:(∃r,rowAt (l.map aR) i=some [.sub 1 r]∧K r)↔ ∃x,fE l i=some x∧K (x.map cZ):=by
  rw[aV]
  constructor
  ·rintro⟨_,h,hK⟩
   obtain⟨a,ha,h⟩:=Option.map_eq_some_iff.1 h;unfold aR at h;cases h;exact⟨_,ha,hK⟩
  ·rintro⟨a,ha,hK⟩
   exact⟨_,by rw[ha];rfl,hK⟩
end
theorem iZ (n:Nat):Int.ofNat n=(n:Int):=rfl
@[simp] theorem natAdd (a b:Nat):Nat.add a b=a+b:=rfl
@[simp] theorem agf {α:Type} (a b:List α):List.append a b=a++b:=rfl
theorem nY (l:List Int):bT (l.map bS)=true:=Ar fun r hr c hc=>by
 obtain⟨a,_,rfl⟩:=List.mem_map.1 hr;unfold bS at hc;simp only[qw] at hc;exact⟨_,hc⟩
theorem ae1 (l:List Int):bT (l.map amC)=true:=Ar fun r hr c hc=>by
 obtain⟨a,_,rfl⟩:=List.mem_map.1 hr;unfold amC at hc;simp only[qw] at hc;exact⟨_,hc⟩
theorem ni (l:List Key):bT (l.map bP)=true:=Ar fun r hr c hc=>by
 obtain⟨a,_,rfl⟩:=List.mem_map.1 hr;unfold bP at hc;simp only[gj,List.not_mem_nil,or_false] at hc;rcases hc with h|h|h|h|h<;>exact⟨_,h⟩
theorem zZ (l:List Age):bT (l.map bW)=true:=Ar fun r hr c hc=>by
 obtain⟨a,_,rfl⟩:=List.mem_map.1 hr;unfold bW at hc;simp only[gj,List.not_mem_nil,or_false] at hc;rcases hc with h|h<;>exact⟨_,h⟩
theorem LI (l:List Cell):bT (l.map bQ)=true:=Ar fun r hr c hc=>by
 obtain⟨a,_,rfl⟩:=List.mem_map.1 hr;unfold bQ at hc;simp only[gj,List.not_mem_nil,or_false] at hc;rcases hc with h|h|h<;>exact⟨_,h⟩
theorem wm (l:List Vol):bT (l.map cu)=true:=Ar fun r hr c hc=>by
 obtain⟨a,_,rfl⟩:=List.mem_map.1 hr;unfold cu at hc;simp only[gj,List.not_mem_nil,or_false] at hc;rcases hc with h|h|h|h<;>exact⟨_,h⟩
@[simp] theorem abd (v:Value):bT [[.sc v]]=true:=Ar fun r hr c hc=>by
  simp only[qw] at hr;subst hr;simp only[qw] at hc;exact⟨_,hc⟩
attribute [simp] nY ae1 ni zZ LI wm
end Go.T
namespace Go.T
theorem O7 {α:Type} (g:α→α): ∀(l:List α) (i:Nat) (a:α),l[i]?=some a→l.modify i g=l.set i (g a)
 |[],i,a,h=>by simp at h
 |x::r,0,a,h=>by simp only[gT,aY] at h;subst h;rfl
 |x::r,i+1,a,h=>by
  simp only[yg] at h;rw[List.modify_succ_cons,List.set_cons_succ,O7 g r i a h]
theorem fM {α:Type} {e:α→List TC} {l:List α} {i:Int} {f:Nat} {cs:List TC} {g:α→α} (he: ∀a,(e a).take f++cs++(e a).drop (f+cs.length)=e (g a)):setRow (l.map e) i f cs=(l.modify i.toNat g).map e:=by
 unfold setRow;rw[mm]
 cases h:l[i.toNat]? with
 |none=>
  have:l.length≤i.toNat:=List.getElem?_eq_none_iff.1 h;simp only[Option.map_none];rw[List.modify_eq_self this]
 |some a=>
  simp only[pQ];rw[he,O7 g l _ a h,List.map_set]
theorem qW {α:Type} {l:List α} {i:Int} {g:α→α}:fE (l.modify i.toNat g) i=(fE l i).map g:=by
 unfold fE
 split
 ·simp
 ·rfl
theorem mod_mod {α:Type} {l:List α} {i:Nat} {f g:α→α}:(l.modify i f).modify i g=l.modify i (fun x=>g (f x)):=by
 rw[List.modify_modify_eq];rfl
theorem kG {α β:Type} {o:Option α} {f:α→β} {K:β→Prop}:(∃x,o.map f=some x∧K x)↔ ∃x,o=some x∧K (f x):=by
 cases o with
 |none=>simp
 |some a=>simp
theorem oE {α:Type} {d r:List α} {a:α}:fE (d++a::r) (d.length:Int)=some a:=by
 rw[aI];simp
theorem Fu {α:Type} {d r:List α} {a:α} {f:α→α}:(d++a::r).modify ((d.length:Int).toNat) f=d++f a::r:=by
 rw[mT,O7 f _ _ a dh];simp
@[simp] theorem aje {l:List Key} {i:Int} {v:Int}:setRow (l.map bP) i 0 [.sc (.int .i64 v)]=(l.modify i.toNat fun x=>{x with b:=v}).map bP:=fM fun a=>rfl
@[simp] theorem ajf {l:List Key} {i:Int} {v:Int}:setRow (l.map bP) i 1 [.sc (.int .i64 v)]=(l.modify i.toNat fun x=>{x with a:=v}).map bP:=fM fun a=>rfl
@[simp] theorem ajg {l:List Key} {i:Int} {v:Int}:setRow (l.map bP) i 2 [.sc (.int .i64 v)]=(l.modify i.toNat fun x=>{x with k:=v}).map bP:=fM fun a=>rfl
@[simp] theorem ajh {l:List Key} {i:Int} {v:Int}:setRow (l.map bP) i 3 [.sc (.int .i64 v)]=(l.modify i.toNat fun x=>{x with c:=v}).map bP:=fM fun a=>rfl
@[simp] theorem aji {l:List Key} {i:Int} {v:Int}:setRow (l.map bP) i 4 [.sc (.int .i64 v)]=(l.modify i.toNat fun x=>{x with g:=v}).map bP:=fM fun a=>rfl
@[simp] theorem anz {l:List Key} {i:Int} {v0:Int} {v1:Int} {v2:Int} {v3:Int} {v4:Int}:setRow (l.map bP) i 0 [.sc (.int .i64 v0),.sc (.int .i64 v1),.sc (.int .i64 v2),.sc (.int .i64 v3),.sc (.int .i64 v4)]=(l.modify i.toNat fun _=>⟨v0,v1,v2,v3,v4⟩).map bP:=fM fun a=>rfl
@[simp] theorem agX {l:List Age} {i:Int} {v:Int}:setRow (l.map bW) i 0 [.sc (.int .i64 v)]=(l.modify i.toNat fun x=>{x with id:=v}).map bW:=fM fun a=>rfl
@[simp] theorem aaj {l:List Age} {i:Int} {v:Int}:setRow (l.map bW) i 1 [.sc (.int .i64 v)]=(l.modify i.toNat fun x=>{x with fr:=v}).map bW:=fM fun a=>rfl
@[simp] theorem anA {l:List Age} {i:Int} {v0:Int} {v1:Int}:setRow (l.map bW) i 0 [.sc (.int .i64 v0),.sc (.int .i64 v1)]=(l.modify i.toNat fun _=>⟨v0,v1⟩).map bW:=fM fun a=>rfl
@[simp] theorem agY {l:List Cell} {i:Int} {v:Int}:setRow (l.map bQ) i 0 [.sc (.int .i64 v)]=(l.modify i.toNat fun x=>{x with g:=v}).map bQ:=fM fun a=>rfl
@[simp] theorem O8 {l:List Cell} {i:Int} {v:Bool}:setRow (l.map bQ) i 1 [.sc (.bool v)]=(l.modify i.toNat fun x=>{x with u:=v}).map bQ:=fM fun a=>rfl
@[simp] theorem O9 {l:List Cell} {i:Int} {v:Int}:setRow (l.map bQ) i 2 [.sc (.int .i64 v)]=(l.modify i.toNat fun x=>{x with n:=v}).map bQ:=fM fun a=>rfl
@[simp] theorem abe {l:List Cell} {i:Int} {v0:Int} {v1:Bool} {v2:Int}:setRow (l.map bQ) i 0 [.sc (.int .i64 v0),.sc (.bool v1),.sc (.int .i64 v2)]=(l.modify i.toNat fun _=>⟨v0,v1,v2⟩).map bQ:=fM fun a=>rfl
@[simp] theorem ac8 {l:List Vol} {i:Int} {v:ByteArray}:setRow (l.map cu) i 0 [.sc (.string v)]=(l.modify i.toNat fun x=>{x with name:=v}).map cu:=fM fun a=>rfl
@[simp] theorem LJ {l:List Vol} {i:Int} {v:Int}:setRow (l.map cu) i 1 [.sc (.int .i64 v)]=(l.modify i.toNat fun x=>{x with cY:=v}).map cu:=fM fun a=>rfl
@[simp] theorem Je {l:List Vol} {i:Int} {v:Int}:setRow (l.map cu) i 2 [.sc (.int .i64 v)]=(l.modify i.toNat fun x=>{x with size:=v}).map cu:=fM fun a=>rfl
@[simp] theorem agZ {l:List Vol} {i:Int} {v:Bool}:setRow (l.map cu) i 3 [.sc (.bool v)]=(l.modify i.toNat fun x=>{x with fx:=v}).map cu:=fM fun a=>rfl
@[simp] theorem anB {l:List Vol} {i:Int} {v0:ByteArray} {v1:Int} {v2:Int} {v3:Bool}:setRow (l.map cu) i 0 [.sc (.string v0),.sc (.int .i64 v1),.sc (.int .i64 v2),.sc (.bool v3)]=(l.modify i.toNat fun _=>⟨v0,v1,v2,v3⟩).map cu:=fM fun a=>rfl
@[simp] theorem anC {l:List (Int)} {i:Int} {v:Int}:setRow (l.map bS) i 0 [.sc (.int .i64 v)]=(l.modify i.toNat fun _=>v).map bS:=fM fun a=>rfl
@[simp] theorem alp {l:List (Bool)} {i:Int} {v:Bool}:setRow (l.map Rw) i 0 [.sc (.bool v)]=(l.modify i.toNat fun _=>v).map Rw:=fM fun a=>rfl
@[simp] theorem anD {l:List (List Key)} {i:Int} {v:List Key}:setRow (l.map cZ) i 0 [.sub 5 (v.map bP)]=(l.modify i.toNat fun _=>v).map cZ:=fM fun a=>rfl
@[simp] theorem abf {l:List (List (List Key))} {i:Int} {v:List (List Key)}:setRow (l.map aR) i 0 [.sub 1 (v.map cZ)]=(l.modify i.toNat fun _=>v).map aR:=fM fun a=>rfl
end Go.T
namespace Go.T
theorem bh {α:Type} (l:List α) (P:Nat→Prop) (fin:P l.length) (step: ∀i a,i<l.length→l[i]?=some a→l.drop i=a::l.drop (i+1)→l.take (i+1)=l.take i++[a]→P (i+1)→P i):P 0:=by
 have: ∀k i,i+k=l.length→P i:=by
  intro k
  induction k with
  |zero=>intro i h;have:i=l.length:=by omega
         subst this;exact fin
  |succ k ih=>
   intro i h
   have hi:i<l.length:=by omega
   refine step i l[i] hi (cw hi) (KT hi) ?_ (ih (i+1) an);rw[List.take_add_one,cw hi];rfl
 exact this l.length 0 an
theorem Fv {α:Type} {e:α→List TC} {z:List TC} (l:List α) (P:Int→RR→Prop) (hz: ∀a,(e a).length=z.length) (fin:P l.length (l.map e))
 (step: ∀(i:Nat) rows a,i<l.length→l[i]?=some a→rowAt rows i=some z→P ((i:Int)+1) (setRow rows i 0 (e a))→P i rows):P 0 (List.replicate l.length z):=by
 have: ∀i:Nat,i≤l.length→P (i:Int) ((l.take i).map e++List.replicate (l.length-i) z)→P 0 (List.replicate l.length z):=by
  intro i
  induction i with
  |zero=>intro _ h;simpa using h
  |succ i ih=>
   intro hi h;refine ih an ?_
   have hlt:i<l.length:=by omega
   have ha:=cw hlt
   have hk:l.length-i=(l.length-(i+1))+1:=by omega
   rw[hk];refine step i _ l[i] hlt ha (ajc an) ?_;rw[ac3 (e:=e) ha rfl (hz _).symm];exact h
 refine this l.length (de _) ?_;simpa using fin
def tot {α:Type} (w:α→Nat):List α→Nat
 |[]=>0
 |a::r=>w a+tot w r
def jE {α:Type} (mk:α→Int→α) (w:α→Nat):List α→Int→List α
 |[],_=>[]
 |a::r,k=>mk a k::jE mk w r (k+w a)
theorem z5 {α:Type} {e:α→List TC} (mk:α→Int→α) (w:α→Nat) (P:Int→Int→RR→Prop) (B:Int)
 (step: ∀(d:List α) a r (k:Int),0≤k→k+w a≤B→d.length<1099511627776→P (k+w a) ((d.length:Int)+1) ((d++mk a k::r).map e)→P k d.length ((d++a::r).map e)):
 ∀(r d:List α) (k:Int),0≤k→k+tot w r≤B→d.length+r.length≤1099511627776→P (k+tot w r) ((d.length+r.length:Nat):Int) ((d++jE mk w r k).map e)→P k d.length ((d++r).map e)
 |[],d,k,_,_,_,h=>by simpa [jE,tot] using h
 |a::r,d,k,h0,h1,h2,h=>by
  simp only[tot,gn] at h1 h2 h;refine step d a r k h0 an an ?_
  have:=z5 mk w P B step r (d++[mk a k]) (k+w a) an an fj (by
   simp only[Ac,List.singleton_append,cM,gX];rw[show k+(w a:Int)+(tot w r:Int)=k+((w a+tot w r:Nat):Int) by omega,show d.length+1+r.length=d.length+(r.length+1) by omega]
   exact h)
  simpa using this
theorem z6 {α:Type} {e:α→List TC} (mk:α→Int→α) (w:α→Nat) (P:Int→Int→RR→Prop) (B:Int)
 (step: ∀(d:List α) a r (k:Int),0≤k→k+w a≤B→d.length<1099511627776→P (k+w a) ((d.length:Int)+1) ((d++mk a k::r).map e)→P k d.length ((d++mk a k::r).map e)):
 ∀(r d:List α) (k:Int),0≤k→k+tot w r≤B→d.length+r.length≤1099511627776→P (k+tot w r) ((d.length+r.length:Nat):Int) ((d++jE mk w r k).map e)→P k d.length ((d++jE mk w r k).map e)
 |[],d,k,_,_,_,h=>by simpa [jE,tot] using h
 |a::r,d,k,h0,h1,h2,h=>by
  simp only[tot,gn,jE] at h1 h2 h ⊢;refine step d a _ k h0 an an ?_
  have:=z6 mk w P B step r (d++[mk a k]) (k+w a) an an fj (by
   simp only[Ac,List.singleton_append,cM,gX];rw[show k+(w a:Int)+(tot w r:Int)=k+((w a+tot w r:Nat):Int) by omega,show d.length+1+r.length=d.length+(r.length+1) by omega]
   exact h)
  simpa using this
theorem z7 {α:Type} (n:Nat): ∀l:List α,tot (fun _=>n) l=n*l.length
 |[]=>rfl
 |a::r=>by simp only[tot,z7 n r,gn,Nat.mul_add];omega
theorem qc {α:Type} (mk:α→Int→α) (w:α→Nat): ∀(l:List α) (k:Int),(jE mk w l k).length=l.length
 |[],_=>rfl
 |a::r,k=>by simp[jE,qc mk w r]
theorem VD {α:Type} (w:α→Nat): ∀(l m:List α),tot w (l++m)=tot w l+tot w m
 |[],m=>by simp[tot]
 |a::r,m=>by simp only[Rb,tot,VD w r];omega
theorem pX {α:Type} {w:α→Nat}: ∀{l:List α} {a:α},a∈l→w a≤tot w l
 |[],_,h=>by cases h
 |b::r,a,h=>by
  simp only[tot];rcases gj.1 h with rfl|h
  ·omega
  ·have:=pX (w:=w) h;omega
theorem oF {α:Type} {w:α→Nat} {l:List α} {i:Nat} {a:α} (h:l[i]?=some a):w a≤tot w l:=pX (iV h)
def cg (s:List Key):Nat:=s.length
def aO (n:List (List Key)):Nat:=n.length+tot cg n
def wS (n:List (List (List Key))):Nat:=n.length+tot aO n
def cN (t:Tree):Nat:=t.aD.length+wS t.nodes
def qd (v:Vol):Nat:=v.name.size
def Dr (l:List Vol):Nat:=l.length+tot qd l
def aN (p:Pool):Nat:=cN p.t+p.aL.length+p.cells.length+Dr p.av
def qq (left:Int) (n:Nat):Int:=if left<n then-1 else left-n
end Go.T
namespace Go.T
section
variable {C : pU} {f : FuncId} {vs : List TV}
theorem vO {x b:Bool} (h:au C f vs (vB x) []):au C f vs (vB b) []↔b=x:=⟨fun h'=>by have:=(h.det h').1;simpa using this,fun e=>e▸h⟩
theorem ajj {x b:Int} (h:au C f vs (vI x) []):au C f vs (vI b) []↔b=x:=⟨fun h'=>by have:=(h.det h').1;simpa using this,fun e=>e▸h⟩
theorem aqQ {x b:ByteArray} (h:au C f vs (vS x) []):au C f vs (vS b) []↔b=x:=⟨fun h'=>by have:=(h.det h').1;simpa using this,fun e=>e▸h⟩
theorem ac9 {z:Nat} {x b:RR} (h:au C f vs (.c (.sub z x)) []):au C f vs (.c (.sub z b)) []↔b=x:=⟨fun h'=>by have:=(h.det h').1;simpa using this,fun e=>e▸h⟩
theorem amD {x b:Int} {y c:Bool} (h:au C f vs (.tu [(0,[iI x]),(0,[iB y])]) []):au C f vs (.tu [(0,[iI b]),(0,[iB c])]) []↔b=x∧c=y:=⟨fun h'=>by have:=(h.det h').1;simpa using this,fun⟨e,e'⟩=>e▸e'▸h⟩
end
theorem aak {s:ByteArray} {i:Nat} (h:i<s.size): ∃n:Int,xD s i=some n∧0≤n∧n≤255:=by
 unfold xD;rw[aJ (Int.natCast_nonneg i),mT];have:s[i]?=some s[i]:=getElem?_pos s i h;rw[this];have:=(s[i]).toNat_lt;refine⟨_,rfl,?_,?_⟩<;>show _≤_<;>simp only[]<;>omega
theorem ada {n:Int} (h: -9223372036854775808≤n∧n≤9223372036854775807):zh .i64 n=n:=by unfold zh;exact IntWalk.i64_in _ h
def iM (a lo hi:Int):Bool:=decide (lo≤a∧a≤hi)
def iN (a:Int):Bool:=iM a 0 65535
def j8 (x:Key):Bool:=iM x.b 0 15&&iM x.a 1 60&&iM x.k 0 2&&(if x.k=1 then iM x.c 0 23&&iM x.g 0 999 else decide (x.c=0)&&decide (x.g=0))
def gf (x y:Key):Bool:=decide (x.b<y.b∨(x.b=y.b∧x.a<y.a))
def qe (x y:Key):Bool:=decide (x.b=y.b∧x.a=y.a)
def dY (n:Nat) (f:Nat→Bool):Bool:=(List.range' 0 n).all f
theorem nG {i n:Nat} (h:i<n):List.range' i (n-i)=i::List.range' (i+1) (n-(i+1)):=by
 obtain⟨k,hk⟩: ∃k,n-i=k+1:=⟨n-i-1,by omega⟩;rw[hk,show n-(i+1)=k by omega]
 rfl
theorem th (n:Nat) (P:Nat→Prop) (fin:P n) (step: ∀i,i<n→P (i+1)→P i):P 0:=by
 have: ∀k i,i+k=n→P i:=by
  intro k
  induction k with
  |zero=>intro i h;have:i=n:=by omega
         subst this;exact fin
  |succ k ih=>intro i h;exact step i an (ih (i+1) an)
 exact this n 0 an
theorem agh {α:Type} (f g:α→Bool): ∀l:List α,l.all (fun x=>f x&&g x)=(l.all f&&l.all g)
 |[]=>rfl
 |a::r=>by simp only[qu,agh f g r];cases f a<;>cases g a<;>simp
theorem ajk (n:Nat) (f g:Nat→Bool):dY n (fun i=>f i&&g i)=(dY n f&&dY n g):=agh f g _
theorem wT {n:Nat} {f:Nat→Bool}:dY n f=true↔ ∀i,i<n→f i=true:=by
 unfold dY;rw[List.all_eq_true]
 constructor
 ·intro h i hi;exact h i (by simp[List.mem_range'];exact hi)
 ·intro h i hi
  simp[List.mem_range'] at hi;exact h i hi
def atL {α:Type} (l:List α) (f:α→Bool) (i:Nat):Bool:=match l[i]? with|some a=>f a|none=>true
def jF {α:Type} (l:List α) (f:α→α→Bool):Nat→Bool
 |0=>true
 |k+1=>match l[k]?,l[k+1]? with|some x,some y=>f x y|_,_=>true
theorem alq {α:Type} (l:List α) (f:α→Bool):dY l.length (atL l f)=l.all f:=by
 rw[Bool.eq_iff_iff,wT,List.all_eq_true]
 constructor
 ·intro h a ha
  obtain⟨i,hi,rfl⟩:=List.getElem_of_mem ha;have:=h i hi;simpa [atL,hi] using this
 ·intro h i hi
  simp only[atL,cw hi];exact h _ (DM hi)
def pY (l:List Key) (i:Nat):Bool:=atL l j8 i&&jF l gf i
def Jf (l:List Key):Bool:=dY l.length (pY l)&&decide (l.length≤60)
theorem VE (l:List Key):Jf l=(l.all j8&&(dY l.length (jF l gf)&&decide (l.length≤60))):=by
 rw[←Bool.and_assoc,←alq,←ajk];rfl
def gh:Key:=⟨0,0,0,0,0⟩
def setAt (l:List Key) (b a:Int):Option Key:=l.find? fun x=>decide (x.b=b∧x.a=a)
def iO (k:Key):Bool→List Key→List Key
 |put,[]=>if put then [] else [k]
 |put,x::r=>(if !put&& !gf x k then [k] else [])++(if qe x k then [] else [x])++iO k (put|| !gf x k) r
def iP (l:List Key) (k:Key):List Key:=iO k false l
theorem Rx (k:Key): ∀(l:List Key) (put:Bool),(iO k put l).length≤l.length+(if put then 0 else 1)
 |[],put=>by simp only[iO];split<;>simp
 |x::r,put=>by
  have:=Rx k r (put|| !gf x k);simp only[iO,cM,gn]
  have h1:(if qe x k then([]:List Key) else [x]).length≤1:=by split<;>simp
  revert h1
  generalize (if qe x k then([]:List Key) else [x])=m;intro h1
  cases put<;>cases hk:gf x k<;>simp[hk] at this ⊢ <;>omega
theorem tj (l:List Key) (k:Key):(iP l k).length≤l.length+1:=by have:=Rx k l false;simpa [iP] using this
def dS (old new:List Key):List Key:=new.foldl iP old
theorem x8: ∀(new old:List Key),(dS old new).length≤old.length+new.length
 |[],old=>by simp[dS]
 |x::r,old=>by
  have:=x8 r (iP old x);have h2:=tj old x;simp only[dS,List.foldl_cons,gn] at this ⊢;omega
def si (l:List Key):List Key:=l.filter fun k=> !decide (k.k=0)
def z8 (n:List (List Key)):List Key:=n.foldl dS []
def aU (n:List (List Key)):List Key:=si (z8 n)
theorem F5: ∀(n:List (List Key)) (a:List Key),(n.foldl dS a).length≤a.length+tot cg n
 |[],a=>by simp[tot]
 |s::r,a=>by
  have:=F5 r (dS a s);have h2:=x8 s a;simp only[List.foldl_cons,tot,cg] at this ⊢;omega
theorem dy (n:List (List Key)):(aU n).length≤tot cg n:=by
 have h1:=F5 n [];have h2:=ZJ (fun k:Key=> !decide (k.k=0)) (z8 n);simp only[List.length_nil,nB] at h1;exact uO h2 h1
def dn (n:List (List Key)):Nat:=tot cg n
def iQ (n:List (List Key)):Bool:=n.all (fun s=>Jf s&& !decide (s.length=0))&&decide (n.length≤3)&&decide (dn n≤8)
def dR (l:List Key):List (List Key):=if l.length=0 then [] else [l]
def aC (t:Tree):List Key:=t.nodes.flatMap aU
theorem Nn: ∀(l:List (List (List Key))),(l.flatMap aU).length≤tot aO l
 |[]=>by simp[tot]
 |n::r=>by
  have:=Nn r;have h2:=dy n;simp only[List.flatMap_cons,cM,tot,aO];omega
theorem fz (t:Tree):(aC t).length≤cN t:=by
 have:=Nn t.nodes;unfold aC cN wS;omega
def ja (t:Tree) (b:Int):List Key:=(aC t).filter fun k=>decide (k.b=b)
theorem VF (t:Tree) (b:Int):(ja t b).length≤(aC t).length:=ZJ _ _
def j9 (b a:Int):Int:=aA (alm 64 b) a
def fe {α:Type} (p:α→Bool):List α→Int→Int
 |[],_=> -1
 |a::r,i=>if p a then i else fe p r (i+1)
theorem No {α:Type} (p:α→Bool): ∀(l:List α) (i:Int),0≤i→decide (0≤fe p l i)=l.any p
 |[],i,_=>by simp[fe]
 |a::r,i,h=>by
  by_cases hp:p a=true
  ·simp[fe,hp,h]
  ·have:=No p r (i+1) an
   simp only[fe,aF hp,List.any_cons];rw[this];simp[hp]
theorem Pb {α:Type} (p:α→Bool): ∀(l:List α) (i:Int),0≤i→(fe p l i= -1∧ ∀a∈l,p a=false)∨ ∃(j:Nat) (a:α),fe p l i=i+j∧l[j]?=some a∧p a=true∧j<l.length∧ ∀k,k<j→ ∀b,l[k]?=some b→p b=false
 |[],i,_=> .inl ⟨rfl,fun a h=>by cases h⟩
 |a::r,i,h=>by
  simp only[fe]
  cases hp:p a with
  |true=>exact .inr ⟨0,a,by simp,rfl,hp,by simp,fun k hk=>by omega⟩
  |false=>
   rcases Pb p r (i+1) an with⟨h1,h2⟩|⟨j,b,h1,h2,h3,h4,h5⟩
   ·refine .inl ⟨by simpa using h1,fun b hb=> ?_⟩
    rcases gj.1 hb with rfl|hb
    ·exact hp
    ·exact h2 b hb
   ·refine .inr ⟨j+1,b,by simp[h1];omega,h2,h3,by simp;omega,fun k hk c hc=> ?_⟩
    cases k with
    |zero=>simp at hc;rw[←hc];exact hp
    |succ k=>exact h5 k an c hc
theorem agi {α:Type} (p:α→Bool) (l:List α): -1≤fe p l 0∧fe p l 0<l.length:=by
 rcases Pb p l 0 an with⟨h,_⟩|⟨j,a,h,_,_,h4,_⟩<;>omega
theorem wU {α:Type} (p:α→Bool) (l:List α) (h: ¬fe p l 0<0): ∃a,fE l (fe p l 0)=some a∧p a=true:=by
 rcases Pb p l 0 an with⟨h1,_⟩|⟨j,a,h1,h2,h3,_⟩
 ·omega
 ·refine⟨a,?_,h3⟩
  rw[h1,Int.zero_add,aI];exact h2
def fA (l:List Age) (id:Int):Int:=fe (fun a=>decide (a.id=id)) l 0
theorem adb (l:List Age) (id:Int): -1≤fA l id∧fA l id<l.length:=agi _ _
theorem Ky (l:List Age) (id:Int) (h: ¬fA l id<0): ∃a,fE l (fA l id)=some a∧a.id=id:=by
 obtain⟨a,h1,h2⟩:=wU _ l h;exact⟨a,h1,yh h2⟩
def Jg (l:List Age):Nat→Int→List Int
 |0,_=>[]
 |n+1,id=>if fA l id<0 then [] else id::(match fE l (fA l id) with|some a=>Jg l n a.fr|none=>[])
def pathOf (l:List Age) (id:Int):List Int:=Jg l (l.length+1) id
theorem aal (l:List Age): ∀(n:Nat) (id:Int),(Jg l n id).length≤n
 |0,_=>by simp[Jg]
 |n+1,id=>by
  simp only[Jg]
  split
  ·simp
  ·split
   ·have:=aal l n
    simp only[gn];rename_i a _;have:=this a.fr;omega
   ·simp
theorem Fw (l:List Age) (id:Int):(pathOf l id).length≤l.length+1:=aal l _ id
def KH (l:List Int) (n:Int):Bool:=l.any fun a=>decide (a=n)
def Np (path:List Int):Key×Bool→Key→Key×Bool:=fun p k=>if KH path k.a&&(!p.2||decide (p.1.a<k.a)) then(k,true) else p
def near (keys:List Key) (path:List Int):Key×Bool:=keys.foldl (Np path) (gh,false)
def K2 (t:Tree) (l:List Age) (b id:Int):Key×Bool:=near (ja t b) (pathOf l id)
def tQ (t:Tree) (l:List Age) (b id:Int):Key×Bool:=near (ja t b) ((pathOf l id).drop 1)
theorem ajl (keys:List Key):near keys []=(gh,false):=by
 unfold near
 suffices ∀(l:List Key),l.foldl (Np []) (gh,false)=(gh,false) from this keys
 intro l
 induction l with
 |nil=>rfl
 |cons a r ih=>simpa [Np,KH] using ih
def nH (t:Tree) (l:List Age) (k:Key) (id:Int):Bool:=(K2 t l k.b id).2&&decide ((K2 t l k.b id).1.a=k.a)
def Pc (p:Pool) (k:Key):Bool:=p.av.any fun v=>decide (k.b<v.size)&&nH p.t p.aL k v.cY
def eJ (l:List Age) (id:Int):List Int:=if id=0 then [] else(l.filter fun a=>decide (a.fr=id)).map (·.id)
theorem VG (l:List Age) (id:Int):(eJ l id).length≤l.length:=by
 unfold eJ
 split
 ·simp
 ·rw[ct];exact ZJ _ _
abbrev Xl (p:Key×Bool):TV:= .tu [(1,[iI p.1.b,iI p.1.a,iI p.1.k,iI p.1.c,iI p.1.g]),(0,[iB p.2])]
def ajm (n:Int):Bool:=iM n 97 122||iM n 48 57
def gz (s:ByteArray) (i:Nat):Bool:=match xD s i with|some n=>ajm n|none=>true
def j5 (s:ByteArray):Bool:=dY s.size (gz s)&&iM s.size 1 6
def gJ (l:List Age) (i:Nat):Bool:=atL l (fun a=>iM a.id 1 60) i&&(jF l (fun x y=>decide (x.id<y.id)) i&&atL l (fun a=>decide (a.fr=0)|| !decide (fA (l.take i) a.fr<0)) i)
def g9 (l:List Age):Bool:=dY l.length (gJ l)&&decide (l.length≤16)
def cj (l:List Vol) (s:ByteArray):Int:=fe (fun v=>decide (v.name=s)) l 0
def qX (l:List Vol) (id:Int):Bool:= !l.any fun v=>decide (v.cY=id)
def cellAt (l:List Cell) (i gen:Int):Int×Bool:=match fE l i with
 |none=>(0,false)
 |some c=>if c.u=true∧c.g=gen then(c.n,true) else(0,false)
def cA (l:List Cell):Nat:=(l.filter (·.u)).length
def kU (c:Cell):Bool:=iM c.g 0 999&&(iN c.n&&(c.u||decide (c.n=0)))
def eY (l:List Cell):Bool:=l.all kU&&decide (l.length=24)
abbrev tIB (p:Int×Bool):TV:= .tu [(0,[iI p.1]),(0,[iB p.2])]
@[simp] theorem BQ {l:List Key} {b a k c g:Int}:List.append (l.map bP) [[iI b,iI a,iI k,iI c,iI g]]=(l++[(⟨b,a,k,c,g⟩:Key)]).map bP:=by simp[bP]
@[simp] theorem UJ {l:List Int} {b:Int}:List.append (l.map bS) [[iI b]]=(l++[b]).map bS:=by simp[bS]
@[simp] theorem BR {l:List Age} {b a:Int}:List.append (l.map bW) [[iI b,iI a]]=(l++[(⟨b,a⟩:Age)]).map bW:=by simp[bW]
@[simp] theorem Fx {l:List Vol} {s:ByteArray} {b a:Int} {q:Bool}:List.append (l.map cu) [[iS s,iI b,iI a,iB q]]=(l++[(⟨s,b,a,q⟩:Vol)]).map cu:=by simp[cu]
@[simp] theorem Nq {l:List (List (List Key))} {s:List (List Key)}:List.append (l.map aR) [[.sub 1 (s.map cZ)]]=(l++[s]).map aR:=by simp[aR]
@[simp] theorem nI {α:Type} {e:α→List TC} {l m:List α}:List.append (l.map e) (m.map e)=(l++m).map e:=by simp
@[simp] theorem cW {α:Type} (l:List α):Nat.succ (List.length l)=l.length+1:=rfl
theorem qH (b a k c g:Int):bT [[iI b,iI a,iI k,iI c,iI g]]=true:=ni [⟨b,a,k,c,g⟩]
theorem vP (b a:Int):bT [[iI b,iI a]]=true:=zZ [⟨b,a⟩]
theorem vQ (s:ByteArray) (b a:Int) (q:Bool):bT [[iS s,iI b,iI a,iB q]]=true:=wm [⟨s,b,a,q⟩]
attribute [simp] qH vP vQ
@[simp] theorem eD (k:Key):(⟨k.b,k.a,k.k,k.c,k.g⟩:Key)=k:=rfl
@[simp] theorem fI (k:Age):(⟨k.id,k.fr⟩:Age)=k:=rfl
@[simp] theorem dW (k:Cell):(⟨k.g,k.u,k.n⟩:Cell)=k:=rfl
@[simp] theorem fJ (k:Vol):(⟨k.name,k.cY,k.size,k.fx⟩:Vol)=k:=rfl
@[simp] theorem fK (k:Mp):(⟨k.name,k.fx,k.l⟩:Mp)=k:=rfl
@[simp] theorem iq (k:Xk):(⟨k.kind,k.name,k.to,k.a,k.b⟩:Xk)=k:=rfl
theorem cT {n b:Nat} (h:n*b≤140737488355328∧n≤140737488355328):fits n b=true:=by rw[ale];exact gq h
end Go.T
namespace Go.T
def eU (s:List Key):Bool:=Jf s&& !decide (s.length=0)
theorem aam (n:List (List Key)):iQ n=(n.all eU&&(decide (n.length≤3)&&decide (dn n≤8))):=by
 unfold iQ;rw[Bool.and_assoc];rfl
def ae2 (aD:List Int) (i:Nat) (x:Int):Bool:=match aD[i]? with
 |some lo=> !decide (x<lo)&&(match aD[i+1]? with|some hi=>decide (x<hi)|none=>true)
 |none=>true
def jP (aD:List Int) (i:Nat) (k:Key):Bool:=ae2 aD i (j9 k.b k.a)
def cK (aD:List Int) (i:Nat) (s:List Key):Bool:=s.all (jP aD i)
def eo (t:Tree) (i:Nat):Bool:=jF t.aD (fun x y=>decide (x<y)) i&&(match t.nodes[i]? with
 |some n=>iQ n&&((decide (i=0)|| !decide ((aU n).length=0))&&n.all (cK t.aD i))
 |none=>true)
def gU (t:Tree):Bool:=iM t.nodes.length 1 20&&(decide (t.aD.length=t.nodes.length)&&((match t.aD[0]? with|some x=>decide (x=0)|none=>true)&&(dY t.nodes.length (eo t)&&decide ((aC t).length≤60))))
def cP (p:Pool) (i:Nat):Bool:=match p.av[i]? with
 |some v=>j5 v.name&&(iM v.size 1 12&&(!decide (fA p.aL v.cY<0)&&(decide ((eJ p.aL v.cY).length=0)&&(jF p.av (fun x y=>RM x.name y.name) i&& !(p.av.take i).any fun u=>decide (u.cY=v.cY)))))
 |none=>true
def j6 (p:Pool):Bool:=dY p.av.length (cP p)&&decide (p.av.length≤6)
def dF (p:Pool) (l:List Key) (i:Nat):Bool:=match l[i]? with
 |some k=> !decide (fA p.aL k.a<0)&&(!decide (k.k=1)||((cellAt p.cells k.c k.g).2&& !(l.take i).any fun x=>decide (x.k=1)&&decide (x.c=k.c)))
 |none=>true
def cX (l:List Key):Nat:=(l.filter fun k=>decide (k.k=1)).length
def ic (p:Pool):Bool:=dY (aC p.t).length (dF p (aC p.t))&&decide ((cA p.cells:Int)=cX (aC p.t))
def dg (p:Pool):Bool:=p.aL.all (fun a=>decide (a.id<p.next))&&(gU p.t&&(g9 p.aL&&(eY p.cells&&(iM p.next 1 61&&(j6 p&&ic p)))))
def alr (p:Pool) (i b:Int):Int:=match fE p.av i with
 |none=>0
 |some v=>if 0≤b∧b<v.size then(if(K2 p.t p.aL b v.cY).2=true∧(K2 p.t p.aL b v.cY).1.k=1 then(cellAt p.cells (K2 p.t p.aL b v.cY).1.c (K2 p.t p.aL b v.cY).1.g).1 else 0) else 0
def tT (l:List Key):List Bool:=(List.range 24).map fun m:Nat=>l.any fun x=>decide (x.k=1)&&decide (x.c=(m:Int))
theorem ade:tT []=List.replicate 24 false:=by decide
theorem adf (l:List Key) {c:Int} (h:0≤c∧c<24):fE (tT l) c=some (l.any fun x=>decide (x.k=1)&&decide (x.c=c)):=by
 obtain⟨n,rfl⟩: ∃n:Nat,c=n:=⟨c.toNat,by omega⟩;rw[aI];unfold tT;rw[mm,List.getElem?_range an]
 rfl
theorem adg (l:List Key) (k:Key) (hk:k.k=1) (h:0≤k.c∧k.c<24):(tT l).modify k.c.toNat (fun _=>true)=tT (l++[k]):=by
 apply List.ext_getElem?
 intro m;rw[List.getElem?_modify];unfold tT;rw[mm,mm]
 by_cases hm:m<24
 ·rw[List.getElem?_range hm]
  simp only[pQ,List.any_append,List.any_cons,List.any_nil,Bool.or_false,hk,decide_true,dB]
  by_cases e:k.c.toNat=m
  ·have:k.c=(m:Int):=by omega
   simp[e,this]
  ·have: ¬k.c=(m:Int):=by omega
   simp[e,this]
 ·rw[US fj];rfl
theorem abg (l:List Key) (k:Key) (hk: ¬k.k=1):tT (l++[k])=tT l:=by
 unfold tT;simp[hk]
theorem K3 (k:Key) (l:List Key):cX (k::l)=(if k.k=1 then 1 else 0)+cX l:=by
 unfold cX
 by_cases h:k.k=1<;>simp[h]
 omega
theorem ag1 {l:List Cell} {i g:Int} (h:(cellAt l i g).2=true):0≤i∧i<l.length:=by
 unfold cellAt at h
 apply Classical.byContradiction
 intro hn;rw[gR hn] at h
 cases h
theorem cJ {p:Pool} (h:aN p≤4194304):cN p.t≤4194304∧p.aL.length≤4194304∧p.cells.length≤4194304∧p.av.length≤4194304∧tot qd p.av≤4194304:=by
 unfold aN Dr at h;omega
end Go.T
namespace Go.T
def blocks (p:Pool) (i:Nat) (k:Nat):List Int:=(List.range k).map fun b:Nat=>alr p i b
def ke (l:List Cell) (i:Int):List Cell:=match fE l i with
 |none=>l
 |some c=>if eY l=true∧c.u=true then l.modify i.toNat (fun _=>⟨Dh (aA c.g 1) 1000,false,0⟩) else l
theorem K4 {l:List Cell} {i:Int} (h:fE l i=none):ke l i=l:=by unfold ke;rw[h]
theorem Nr {l:List Cell} {i:Int} (h:eY l=false):ke l i=l:=by
 unfold ke
 cases fE l i with
 |none=>rfl
 |some c=>exact aF (fun hh=>by rw[h] at hh;cases hh.1)
theorem Ry {l:List Cell} {i:Int} {c:Cell} (hc:fE l i=some c) (h:c.u=false):ke l i=l:=by
 unfold ke;rw[hc];exact aF (fun hh=>by rw[h] at hh;cases hh.2)
theorem Ns {l:List Cell} {i:Int} {c:Cell} (hc:fE l i=some c) (h:eY l=true) (hu:c.u=true):ke l i=l.modify i.toNat (fun _=>⟨Dh (aA c.g 1) 1000,false,0⟩):=by
 unfold ke;rw[hc];exact aJ ⟨h,hu⟩
theorem Fy (l:List Cell) (i:Int):(ke l i).length=l.length:=by
 unfold ke
 cases fE l i with
 |none=>rfl
 |some c=>simp only[];split<;>simp
def At (c:Cell):Bool:= !c.u
def fy (l:List Cell):Int:=fe At l 0
def jQ (l:List Cell) (n:Int):List Cell×Int×Bool:=
 if eY l=true∧iN n=true∧0≤fy l then(l.modify (fy l).toNat (fun c=>⟨c.g,true,n⟩),fy l,true) else(l,0,false)
theorem qA {l:List Cell} {n:Int} (h: ¬(eY l=true∧iN n=true∧0≤fy l)):jQ l n=(l,0,false):=aF h
theorem wV {l:List Cell} {n:Int} (h:eY l=true∧iN n=true∧0≤fy l):jQ l n=(l.modify (fy l).toNat (fun c=>⟨c.g,true,n⟩),fy l,true):=aJ h
theorem Nt (l:List Cell) (n:Int):(jQ l n).1.length=l.length:=by
 unfold jQ;split<;>simp
abbrev als (x:List Cell×Int×Bool):TV:= .tu [(0,[.sub 3 (x.1.map bQ)]),(0,[iI x.2.1]),(0,[iB x.2.2])]
def Pd (o:Xk):Bool:=if o.kind=2 then decide (o.a=0)&&iM o.b 0 1 else if o.kind=3∨o.kind=7 then decide (o.a=0)&&decide (o.b=0) else if o.kind=4 then true else decide (o.b=0)
def opName (o:Xk):Bool:=if 7≤o.kind then decide (o.name=xQ) else j5 o.name
def anE (o:Xk):Bool:=if o.kind=2 then j5 o.to else decide (o.to=xQ)
def VH (o:Xk):Bool:=iM o.kind 1 9&&(opName o&&(anE o&&(iN o.a&&(iN o.b&&Pd o))))
abbrev tII (x:Int×Int):TV:= .tu [(0,[iI x.1]),(0,[iI x.2])]
def uA (p:Pool) (s:ByteArray):Bool:=dg p&&j5 s
theorem wq {p:Pool} (h:dg p=true):j6 p=true:=by
 simp only[dg,fk] at h;exact h.2.2.2.2.2.1
theorem Rz {p:Pool} (h:dg p=true):g9 p.aL=true:=by
 simp only[dg,fk] at h;exact h.2.2.1
theorem BS {p:Pool} {i:Int} {v:Vol} (h:j6 p=true) (hv:fE p.av i=some v):1≤v.size∧v.size≤12:=by
 obtain⟨n,rfl,hn⟩: ∃n:Nat,i=n∧n<p.av.length:=by
  have:0≤i∧i<p.av.length:=Classical.byContradiction fun hn=>by rw[gR hn] at hv;cases hv
  exact⟨i.toNat,by omega,by omega⟩
 simp only[j6,fk,wT] at h;have:=h.1 n hn;rw[aI] at hv;simp only[cP,hv,fk] at this;have:=this.2.1;simp[iM] at this;omega
theorem ajn {l:List Age} (h:g9 l=true): ∀a∈l,1≤a.id:=by
 intro a ha;simp only[g9,fk,wT] at h;obtain⟨i,hi,rfl⟩:=List.getElem_of_mem ha;have h1:=h.1 i hi;simp only[gJ,fk] at h1;have h2:=h1.1;simp only[atL,cw hi] at h2;simp[iM] at h2;omega
theorem ajo {l:List Age} {id:Int} (h:g9 l=true): ∀x∈eJ l id,1≤x:=by
 intro x hx;unfold eJ at hx
 split at hx
 ·cases hx
 ·obtain⟨a,ha,rfl⟩:=List.mem_map.1 hx
  exact ajn h a (List.mem_filter.1 ha).1
def D3 (l:List Key) (b a:Int):Key×Bool:=match setAt l b a with|some k=>(k,true)|none=>(gh,false)
def qY (n:List (List Key)) (b a:Int):Nat→Key×Bool
 |0=>(gh,false)
 |k+1=>match n[k]? with
  |some s=>if(D3 s b a).2=true then(if(D3 s b a).1.k=0 then(gh,false) else D3 s b a) else qY n b a k
  |none=>(gh,false)
def wW (f:Int→Bool) (l:List Int):Nat→Int
 |0=> -1
 |k+1=>match l[k]? with
  |some x=>if f x=true then(k:Int) else wW f l k
  |none=> -1
def pZ (t:Tree) (b a:Int):Int:=wW (fun x=>decide (x≤j9 b a)) t.aD t.aD.length
def wX (t:Tree) (b a:Int):Key×Bool:=match fE t.nodes (pZ t b a) with
 |some n=>qY n b a n.length
 |none=>(gh,false)
def D4 (p:Pool) (id:Int):Int:=if qX p.av id=true∧(eJ p.aL id).length=1 then(match fE (eJ p.aL id) 0 with|some x=>x|none=>0) else 0
def aan (p:Pool) (k:Key):Bool:=if D4 p k.a=0 then false else !(wX p.t k.b (D4 p k.a)).2
def sj (p:Pool) (step:Int) (k:Key):Bool:=if step=1 then !Pc p k else if step=2 then decide (k.k=2)&& !(tQ p.t p.aL k.b k.a).2 else aan p k
def hasB (id:Int) (k:Key):Bool:=decide (k.a=id)
def Jh (id:Int) (k:Key):Bool:= !hasB id k
theorem ajp (id:Int) (l:List Key):l.all (Jh id)= !(l.any (hasB id)):=by
 induction l with
 |nil=>rfl
 |cons k r ih=>simp[qu,List.any_cons,ih,Jh]
def ve (p:Pool) (a:Age):Bool:=(aC p.t).all (Jh a.id)&&(qX p.av a.id&&decide ((eJ p.aL a.id).length≤1))
def mY (p:Pool) (j:Int):Int:=fe (sj p j) (aC p.t) 0
def LK (p:Pool):Int:=fe (ve p) p.aL 0
def dj (p:Pool):Int×Int:=
 if dg p=true then(if 0≤mY p 1 then(1,mY p 1) else if 0≤mY p 2 then(2,mY p 2) else if 0≤mY p 3 then(3,mY p 3) else if 0≤LK p then(4,LK p) else(0,0)) else(0,0)
def newNode (l:List Key):List (List Key):=if l.length=0 then [] else [l]
def wY (n:List (List Key)):List (List Key):=newNode (aU n)
def Au (t:Tree) (i:Int):Tree:=match fE t.nodes i with
 |none=>t
 |some n=>⟨t.aD,t.nodes.modify i.toNat (fun _=>wY n)⟩
def qf (p:Pool) (i:Int):Pool×Bool:=if dg p=true∧0≤i∧i<p.t.nodes.length then(⟨Au p.t i,p.aL,p.cells,p.av,p.next⟩,true) else(p,false)
abbrev tPB (x:Pool×Bool):TV:= .tu [(1,[.sub 1 (x.1.t.aD.map bS),.sub 1 (x.1.t.nodes.map aR),.sub 2 (x.1.aL.map bW),.sub 3 (x.1.cells.map bQ),.sub 4 (x.1.av.map cu),iI x.1.next]),(0,[iB x.2])]
theorem LL {α:Type} {w:α→Nat} {f:α→α}: ∀{l:List α} {i:Nat},(∀a,l[i]?=some a→w (f a)≤w a)→tot w (l.modify i f)≤tot w l
 |[],i,h=>by cases i<;>exact de _
 |a::r,0,h=>by
  rw[List.modify_zero_cons];have:=h a rfl;simp only[tot];omega
 |a::r,i+1,h=>by
  rw[List.modify_succ_cons];have:=LL (l:=r) (i:=i) (w:=w) (f:=f) fun b hb=>h b (by simpa using hb);simp only[tot];omega
theorem adi (n:List (List Key)):aO (wY n)≤aO n:=by
 have h1:=dy n;unfold wY newNode
 split
 ·exact F1 _
 ·rename_i h
  have h2:aO [aU n]=1+((aU n).length+0):=rfl;have h3:aO n=n.length+tot cg n:=rfl
  cases n with
  |nil=>exact absurd rfl h
  |cons s r=>rw[h2,h3,gn];omega
theorem adj (t:Tree) (i:Int):cN (Au t i)≤cN t:=by
 unfold Au
 split
 ·exact de _
 ·rename_i n hn
  have hi:0≤i∧i<t.nodes.length:=Classical.byContradiction fun h=>by rw[gR h] at hn;cases hn
  obtain⟨k,rfl⟩: ∃k:Nat,i=k:=⟨i.toNat,by omega⟩;rw[aI] at hn
  have:=LL (w:=aO) (f:=fun _=>wY n) (l:=t.nodes) (i:=k) fun a ha=>by
   rw[hn] at ha
   cases ha
   exact adi n
  have e1:cN t=t.aD.length+(t.nodes.length+tot aO t.nodes):=rfl;have e2:cN ⟨t.aD,t.nodes.modify ((k:Int)).toNat (fun _=>wY n)⟩=t.aD.length+((t.nodes.modify ((k:Int)).toNat (fun _=>wY n)).length+tot aO (t.nodes.modify ((k:Int)).toNat (fun _=>wY n))):=rfl;rw[e1,e2,Re,mT];omega
theorem adk (p:Pool) (i:Int):aN (qf p i).1≤aN p:=by
 unfold qf
 split
 ·have:=adj p.t i
  unfold aN;simp only[];omega
 ·exact de _
end Go.T
namespace Go.T
def abh (p x:Pool):Pool×Int:=if dg x=true then(x,0) else(p,6)
def Fz (p:Pool) (i:Int):Pool:=⟨p.t,p.aL,p.cells,p.av.take i.toNat++p.av.drop (i.toNat+1),p.next⟩
def Ji (p:Pool) (s:ByteArray):Pool×Int:=
 if uA p s=true then(if cj p.av s<0 then(p,2) else abh p (Fz p (cj p.av s))) else(p,1)
abbrev Pf (x:Pool×Int):TV:= .tu [(1,[.sub 1 (x.1.t.aD.map bS),.sub 1 (x.1.t.nodes.map aR),.sub 2 (x.1.aL.map bW),.sub 3 (x.1.cells.map bQ),.sub 4 (x.1.av.map cu),iI x.1.next]),(0,[iI x.2])]
theorem alu {α:Type} (w:α→Nat) (l:List α) (k:Nat):tot w (l.take k++l.drop (k+1))≤tot w l:=by
 have h:tot w (l.take k++l.drop k)=tot w l:=by rw[MN]
 rw[VD] at h ⊢
 have h2:tot w (l.drop (k+1))≤tot w (l.drop k):=by
  cases hk:l.drop k with
  |nil=>
   have:l.drop (k+1)=[]:=by rw[←List.drop_drop];simp[hk]
   rw[this];exact de _
  |cons a r=>
   have:l.drop (k+1)=r:=by
    have e:l.drop (k+1)=(l.drop k).drop 1:=by rw[List.drop_drop]
    rw[e,hk];rfl
   rw[this];simp only[tot];omega
 omega
theorem Pg (p:Pool) (i:Int):aN (Fz p i)≤aN p:=by
 have h1:=alu qd p.av i.toNat
 have h2:(p.av.take i.toNat++p.av.drop (i.toNat+1)).length≤p.av.length:=by
  rw[cM,fu,jd];omega
 unfold aN Dr Fz;simp only[];omega
theorem ajq (p:Pool) (s:ByteArray):aN (Ji p s).1≤aN p:=by
 unfold Ji abh
 split
 ·split
  ·exact de _
  ·split
   ·exact Pg p _
   ·exact de _
 ·exact de _
end Go.T
namespace Go.T
end Go.T
namespace Go.T
theorem ae3 {α:Type} (p:α→Bool): ∀(l:List α) (i:Nat),i≤l.length→(l.take i).all p=true→(∀a,l[i]?=some a→p a=false)→(l.takeWhile p).length=i
 |[],i,h,_,_=>by simp at h;simp[h]
 |a::r,0,_,_,h=>by
  have:=h a rfl;simp[this]
 |a::r,i+1,h1,h2,h3=>by
  simp only[List.take_succ_cons,qu,fk] at h2;rw[List.takeWhile_cons,aJ h2.1,gn,ae3 p r i (by simpa using h1) h2.2 fun b hb=>h3 b (by simpa using hb)]
theorem alv {α:Type} (p:α→Bool) (l:List α):l.take (l.takeWhile p).length=l.takeWhile p:=by
 have h:=List.takeWhile_append_dropWhile (p:=p) (l:=l)
 conv=>lhs;rhs;rw[←h]
 rw[Rf (de _),we]
theorem alw {α:Type} (p:α→Bool) (l:List α):l.drop (l.takeWhile p).length=l.dropWhile p:=by
 have h:=List.takeWhile_append_dropWhile (p:=p) (l:=l)
 conv=>lhs;rhs;rw[←h]
 rw[List.drop_append_of_le_length (de _),eK,xy]
def yt {α:Type} (p:α→Bool) (x:α) (l:List α):List α:=l.takeWhile p++x::l.dropWhile p
theorem LM {α:Type} {p:α→Bool} {x a:α} {l:List α}:yt p x (a::l)=if p a then a::yt p x l else x::a::l:=by
 unfold yt
 by_cases h:p a=true
 ·simp[List.takeWhile_cons,List.dropWhile_cons,h]
 ·simp[List.takeWhile_cons,List.dropWhile_cons,h]
theorem Aa {α:Type} (p:α→Bool) (x:α) (l:List α):(yt p x l).length=l.length+1:=by
 unfold yt;have h:=congrArg List.length (List.takeWhile_append_dropWhile (p:=p) (l:=l));rw[cM] at h ⊢;rw[gn];omega
theorem VI {α:Type} (p:α→Bool) (x:α) (l:List α) {k:Nat} (h:(l.takeWhile p).length=k):l.take k++x::l.drop k=yt p x l:=by
 unfold yt;rw[←h,alv,alw]
theorem Ph {α:Type} (w:α→Nat) (p:α→Bool) (x:α): ∀l:List α,tot w (yt p x l)=tot w l+w x
 |[]=>by simp[yt,tot]
 |a::l=>by
  rw[LM]
  split
  ·simp only[tot,Ph w p x l];omega
  ·simp only[tot];omega
def leA (id:Int) (a:Age):Bool:=decide (a.id≤id)
def r5 (l:List Age) (id fr:Int):List Age:=yt (leA id) ⟨id,fr⟩ l
def iR (l:List Age) (id fr:Int):List Age×Bool:=if 0≤fA l id then(l,false) else if g9 (r5 l id fr)=true then(r5 l id fr,true) else(l,false)
theorem Av (l:List Age) (id fr:Int):(iR l id fr).1.length≤l.length+1:=by
 unfold iR
 split
 ·exact Nat.le_succ _
 ·split
  ·exact Nat.le_of_eq (Aa _ _ _)
  ·exact Nat.le_succ _
def RA (v u:Vol):Bool:=RM u.name v.name||uL u.name v.name
def lU (l:List Vol) (v:Vol):List Vol:=yt (RA v) v l
theorem adl: ∀(x y z:List UInt8),Op.bytesLess x y=true→Op.bytesLess y z=true→Op.bytesLess x z=true
 |x,y,[],_,h=>by cases y<;>simp[Op.bytesLess] at h
 |x,[],c::z,h,_=>by cases x<;>simp[Op.bytesLess] at h
 |[],_::_,_::_,_,_=>by simp[Op.bytesLess]
 |a::x,b::y,c::z,h1,h2=>by
  simp only[Op.bytesLess,Bool.or_eq_true,fk,decide_eq_true_eq,beq_iff_eq] at h1 h2 ⊢;rcases h1 with h1|⟨rfl,h1⟩
  ·rcases h2 with h2|⟨rfl,h2⟩
   ·exact .inl (UInt8.lt_trans h1 h2)
   ·exact .inl h1
  ·rcases h2 with h2|⟨rfl,h2⟩
   ·exact .inl h2
   ·exact .inr ⟨rfl,adl x y z h1 h2⟩
theorem ag3 {a b c:ByteArray} (h1:RM a b=true) (h2:RM b c=true):RM a c=true:=by
 unfold RM at*;exact adl _ _ _ h1 h2
def Ds:List Vol→Prop
 |[]=>True
 |[_]=>True
 |a::b::r=>RM a.name b.name=true∧Ds (b::r)
theorem ajs {v a b:Vol} (h:RM a.name b.name=true) (hb:RA v b=true):RA v a=true:=by
 unfold RA at*;rw[Bool.or_eq_true] at*;rcases hb with hb|hb
 ·exact .inl (ag3 h hb)
 ·have:b.name.toList=v.name.toList:=by
   unfold uL at hb;exact eq_of_beq hb
  unfold RM at h ⊢;rw[←this];exact .inl h
theorem Ds.tail {a:Vol} {l:List Vol} (h:Ds (a::l)):Ds l:=by
 cases l with
 |nil=>trivial
 |cons b r=>exact h.2
theorem Ds.cut {v:Vol}: ∀{l:List Vol} {k:Nat},Ds l→k≤l.length→(∀u∈l.drop k,RA v u=false)→(∀u,0<k→l[k-1]?=some u→RA v u=true)→(l.takeWhile (RA v)).length=k
 |[],k,_,hk,_,_=>by simp at hk;simp[hk]
 |a::l,0,_,_,h1,_=>by
  have:=h1 a (.head _);simp[this]
 |a::l,k+1,hr,hk,h1,h2=>by
  have ih:=Ds.cut (v:=v) (l:=l) (k:=k) hr.tail (by simpa using hk) (fun u hu=>h1 u (by simpa using hu)) fun u h0 hu=>by
   obtain⟨j,rfl⟩: ∃j,k=j+1:=⟨k-1,by omega⟩;exact h2 u an (by simpa using hu)
  have ha:RA v a=true:=by
   cases k with
   |zero=>exact h2 a an rfl
   |succ k=>
    cases l with
    |nil=>simp at hk
    |cons b r=>
     refine ajs hr.1 ?_;rw[List.takeWhile_cons] at ih
     cases hb:RA v b with
     |true=>rfl
     |false=>rw[hb] at ih;simp at ih
  rw[List.takeWhile_cons,aJ ha,gn,ih]
theorem alx {l:List Vol} (h: ∀i,jF l (fun x y=>RM x.name y.name) i=true):Ds l:=by
 induction l with
 |nil=>trivial
 |cons a l ih=>
  cases l with
  |nil=>trivial
  |cons b r=>
   refine⟨?_,ih fun i=> ?_⟩
   ·have:=h 1;simpa [jF] using this
   ·cases i with
    |zero=>rfl
    |succ i=>have:=h (i+2);simpa [jF] using this
theorem Ds.modify {f:Vol→Vol} (hf: ∀u,(f u).name=u.name): ∀{l:List Vol} (i:Nat),Ds l→Ds (l.modify i f)
 |[],i,h=>by cases i<;>exact h
 |[a],0,_=>trivial
 |[a],i+1,_=>by cases i<;>trivial
 |a::b::r,0,h=>by
  show Ds (f a::b::r);exact⟨by rw[hf];exact h.1,h.2⟩
 |a::b::r,1,h=>by
  show Ds (a::f b::r);refine⟨by rw[hf];exact h.1,?_⟩;exact Ds.modify hf (l:=b::r) 0 h.2
 |a::b::r,i+2,h=>⟨h.1,Ds.modify hf (l:=b::r) (i+1) h.2⟩
theorem Pj {p:Pool} (h:dg p=true):Ds p.av:=by
 have hv:=wq h;unfold j6 at hv;simp only[fk] at hv;refine alx fun i=> ?_
 by_cases hi:i<p.av.length
 ·have:=wT.1 hv.1 i hi
  unfold cP at this;rw[cw hi] at this;simp only[fk] at this;exact this.2.2.2.2.1
 ·cases i with
  |zero=>rfl
  |succ k=>
   have hn:p.av[k+1]?=none:=US an;simp only[jF,hn]
   cases p.av[k]?<;>rfl
def D5 (p x:Pool) (ok:Bool):Pool×Int:=if ok=true then abh p x else(p,6)
def FA (p:Pool) (s:ByteArray) (n:Int):Pool:=⟨p.t,(iR p.aL p.next 0).1,p.cells,lU p.av ⟨s,p.next,n,false⟩,p.next+1⟩
def x9 (p:Pool) (s:ByteArray) (n:Int):Pool×Int:=
 if uA p s=true then(if 0≤cj p.av s then(p,3) else if iM n 1 12=true then D5 p (FA p s n) (iR p.aL p.next 0).2 else(p,4)) else(p,1)
def ajt (p:Pool) (v:Vol):List Age×Bool:=iR (iR p.aL p.next v.cY).1 (p.next+1) v.cY
def Nu (p:Pool) (to:ByteArray) (i:Int) (v:Vol) (fx:Bool):Pool:=⟨p.t,(ajt p v).1,p.cells,lU (p.av.modify i.toNat fun u=>{u with cY:=p.next}) ⟨to,p.next+1,v.size,fx⟩,p.next+2⟩
def K5 (p:Pool) (s to:ByteArray) (fx:Bool):Pool×Int:=
 if uA p s=true∧j5 to=true then(match fE p.av (cj p.av s) with
  |none=>(p,2)
  |some v=>if 0≤cj p.av to then(p,3) else D5 p (Nu p to (cj p.av s) v fx) ((iR p.aL p.next v.cY).2&&(ajt p v).2)) else(p,1)
theorem VJ (p:Pool) (s:ByteArray) (n:Int):aN (FA p s n)≤aN p+s.size+2:=by
 have h1:=Av p.aL p.next 0;have h2:=Aa (RA ⟨s,p.next,n,false⟩) ⟨s,p.next,n,false⟩ p.av;have h3:=Ph qd (RA ⟨s,p.next,n,false⟩) ⟨s,p.next,n,false⟩ p.av;unfold aN Dr FA lU;simp only[h2,h3,qd];omega
theorem adm (p:Pool) (to:ByteArray) (i:Int) (v:Vol) (fx:Bool):aN (Nu p to i v fx)≤aN p+to.size+3:=by
 have h0:=Av p.aL p.next v.cY;have h1:=Av (iR p.aL p.next v.cY).1 (p.next+1) v.cY;have h2:=Aa (RA ⟨to,p.next+1,v.size,fx⟩) ⟨to,p.next+1,v.size,fx⟩ (p.av.modify i.toNat fun u=>{u with cY:=p.next});have h3:=Ph qd (RA ⟨to,p.next+1,v.size,fx⟩) ⟨to,p.next+1,v.size,fx⟩ (p.av.modify i.toNat fun u=>{u with cY:=p.next});have h4:=LL (w:=qd) (f:=fun u:Vol=>{u with cY:=p.next}) (l:=p.av) (i:=i.toNat) fun a _=>de _
 rw[Re] at h2;unfold aN Dr Nu ajt lU;simp only[h2,h3];simp only[qd] at*;omega
end Go.T
namespace Go.T
def gtM (m u:Mp):Bool:= !(RM u.name m.name||uL u.name m.name)
def aly (l:List Mp) (m:Mp):Nat→Nat
 |0=>0
 |k+1=>match l[k]? with
  |some u=>if gtM m u=true then aly l m k else k+1
  |none=>k+1
theorem agj (l:List Mp) (m:Mp): ∀k,aly l m k≤k
 |0=>de _
 |k+1=>by
  unfold aly
  split
  ·split
   ·exact Nat.le_succ_of_le (agj l m k)
   ·exact de _
  ·exact de _
def aju {α:Type} (l:List α) (k:Nat) (x:α):List α:=l.take k++x::l.drop k
def ajv (l:List Mp) (m:Mp):List Mp:=aju l (aly l m l.length) m
theorem ajw (l:List Mp) (m:Mp):(ajv l m).length=l.length+1:=by
 have:=agj l m l.length;unfold ajv aju;rw[cM,gn,fu,jd];omega
theorem ajx {l:List Mp} {m x:Mp} (h:x∈ajv l m):x∈l∨x=m:=by
 unfold ajv aju at h;rcases List.mem_append.1 h with h|h
 ·exact .inl (Bv h)
 ·rcases gj.1 h with h|h
  ·exact .inr h
  ·exact .inl (zg h)
def abi (l l':List Mp):Prop:=l'.length≤l.length+1∧ ∀B:Nat,12≤B→(∀x∈l,x.l.length≤B)→ ∀x∈l',x.l.length≤B
theorem abi.refl (l:List Mp):abi l l:=⟨Nat.le_succ _,fun _ _ h=>h⟩
theorem abi.put {l:List Mp} {m:Mp} (h: ∀B:Nat,12≤B→(∀x∈l,x.l.length≤B)→m.l.length≤B):abi l (ajv l m):=
 ⟨Nat.le_of_eq (ajw l m),fun B hB hl x hx=>(ajx hx).elim (hl x) fun e=>by rw[e];exact h B hB hl⟩
end Go.T
namespace Go.T
abbrev tNB (x:List (List Key)×Bool):TV:= .tu [(1,[.sub 1 (x.1.map cZ)]),(0,[iB x.2])]
def LN (s:List Key) (k:Key):Bool:=(D3 s k.b k.a).2||decide (s.length<4)
def mZ (n:List (List Key)) (k:Key):List (List Key):=match n[n.length-1]? with
 |none=>n++[[k]]
 |some s=>if LN s k=true then n.set (n.length-1) (iP s k) else n++[[k]]
def dz (n:List (List Key)) (k:Key):List Key:=si (iP (aU n) k)
def c8 (n:List (List Key)) (k:Key):List (List Key)×Bool:=
 if iQ (mZ n k)=true then(mZ n k,true) else if 8<(dz n k).length then(n,false) else if iQ (dR (dz n k))=true then(dR (dz n k),true) else(n,false)
theorem tU (n:List (List Key)) (k:Key):(dz n k).length≤tot cg n+1:=by
 have h1:=dy n;have h2:=tj (aU n) k;have h3:(dz n k).length≤(iP (aU n) k).length:=ZJ _ _;omega
theorem adn {α:Type} (w:α→Nat) (l:List α) (a:α):tot w (l++[a])=tot w l+w a:=by
 induction l with
 |nil=>simp[tot]
 |cons b r ih=>simp only[Rb,tot,ih];omega
theorem ado {α:Type} (w:α→Nat) (c:Nat): ∀(l:List α) (i:Nat) (a a':α),l[i]?=some a→w a'≤w a+c→tot w (l.set i a')≤tot w l+c
 |[],i,a,a',h,_=>by simp at h
 |b::r,0,a,a',h,hw=>by
  simp only[gT,aY] at h;subst h;simp only[List.set_cons_zero,tot];omega
 |b::r,i+1,a,a',h,hw=>by
  have:=ado w c r i a a' (by simpa using h) hw;simp only[List.set_cons_succ,tot];omega
theorem LO (n:List (List Key)) (k:Key):(mZ n k).length≤n.length+1:=by
 unfold mZ
 split
 ·rw[cM];simp
 ·split
  ·rw[List.length_set];omega
  ·rw[cM];simp
theorem LP (n:List (List Key)) (k:Key):tot cg (mZ n k)≤tot cg n+1:=by
 unfold mZ
 split
 ·rw[adn];exact de _
 ·rename_i s hs
  split
  ·exact ado cg 1 _ _ s _ hs (by have:=tj s k;unfold cg;omega)
  ·rw[adn];exact de _
theorem BT (l:List Key):(dR l).length≤1:=by
 unfold dR
 split<;>simp
theorem BU (l:List Key):tot cg (dR l)≤l.length:=by
 unfold dR
 split
 ·simp[tot]
 ·simp[tot,cg]
theorem Jj (n:List (List Key)) (k:Key):(c8 n k).1.length≤n.length+1:=by
 have h1:=LO n k;have h2:=BT (dz n k);unfold c8
 repeat' split
 all_goals simp only[];omega
theorem Jk (n:List (List Key)) (k:Key):tot cg (c8 n k).1≤tot cg n+1:=by
 have h1:=LP n k;have h2:=BU (dz n k);have h3:=tU n k;unfold c8
 repeat' split
 all_goals simp only[];omega
end Go.T
namespace Go.T
def RB (x y:Key):Prop:=x.b<y.b∨(x.b=y.b∧x.a<y.a)
theorem RB.trans {x y z:Key} (h1:RB x y) (h2:RB y z):RB x z:=by unfold RB at*;omega
theorem Jl {x y:Key}:gf x y=true↔RB x y:=by unfold gf RB;simp
theorem Nv {x y:Key}:qe x y=true↔x.b=y.b∧x.a=y.a:=by unfold qe;simp
theorem Nw {k y:Key}: ∀{l:List Key},y∈iO k true l→y∈l
 |[],h=>by simp[iO] at h
 |x::r,h=>by
  simp only[iO,Bu,Bool.false_and,MM,if_false,xy,Bool.true_or] at h;rcases List.mem_append.1 h with h|h
  ·split at h
   ·cases h
   ·rw[qw.1 h];exact .head _
  ·exact .tail _ (Nw h)
theorem VK {k y:Key}: ∀{l:List Key} {put:Bool},y∈iO k put l→y∈l∨y=k
 |[],put,h=>by
  simp only[iO] at h
  split at h
  ·cases h
  ·exact .inr (qw.1 h)
 |x::r,put,h=>by
  simp only[iO] at h;rcases List.mem_append.1 h with h|h
  ·rcases List.mem_append.1 h with h|h
   ·split at h
    ·exact .inr (qw.1 h)
    ·cases h
   ·split at h
    ·cases h
    ·exact .inl (by rw[qw.1 h];exact .head _)
  ·exact(VK h).imp (.tail _) id
theorem Kz {k:Key}: ∀{l:List Key},l.Pairwise RB→(iO k true l).Pairwise RB
 |[],_=>by simp[iO]
 |x::r,h=>by
  obtain⟨h1,h2⟩:=List.pairwise_cons.1 h;simp only[iO,Bu,Bool.false_and,MM,if_false,xy,Bool.true_or]
  split
  ·exact Kz h2
  ·exact List.pairwise_cons.2 ⟨fun y hy=>h1 y (Nw hy),Kz h2⟩
theorem aao {k:Key}: ∀{l:List Key},l.Pairwise RB→(iO k false l).Pairwise RB
 |[],_=>by simp[iO]
 |x::r,h=>by
  obtain⟨h1,h2⟩:=List.pairwise_cons.1 h
  cases hk:gf x k with
  |true=>
   have hlt:=Jl.1 hk
   have hns:qe x k=false:=by
    cases hs:qe x k with
    |false=>rfl
    |true=>have:=Nv.1 hs;unfold RB at hlt;omega
   simp only[iO,hk,hns,Bool.not_false,Bu,dB,Bool.and_false,MM,if_false,xy,Bool.or_false,IL];refine List.pairwise_cons.2 ⟨fun y hy=> ?_,aao h2⟩;rcases VK hy with hy|rfl
   ·exact h1 y hy
   ·exact hlt
  |false=>
   have hge: ¬RB x k:=fun h=>by rw[Jl.2 h] at hk;cases hk
   simp only[iO,hk,Bool.not_false,dB,if_true,Bool.or_true]
   have hr: ∀y∈iO k true r,RB k y:=fun y hy=>by
    have:=h1 y (Nw hy);unfold RB at*;omega
   split
   ·exact List.pairwise_cons.2 ⟨hr,Kz h2⟩
   ·rename_i hns
    refine List.pairwise_cons.2 ⟨fun y hy=> ?_,List.pairwise_cons.2 ⟨fun y hy=>h1 y (Nw hy),Kz h2⟩⟩;rcases gj.1 hy with rfl|hy
    ·have: ¬(y.b=k.b∧y.a=k.a):=fun h=>hns (Nv.2 h)
     unfold RB at*;omega
    ·exact hr y hy
theorem RC {l:List Key} {k:Key} (h:l.Pairwise RB):(iP l k).Pairwise RB:=aao h
theorem VL {l:List Key} {k y:Key} (h:y∈iP l k):y∈l∨y=k:=VK h
theorem VM: ∀(new:List Key) {old:List Key},old.Pairwise RB→(dS old new).Pairwise RB
 |[],_,h=>h
 |x::r,_,h=>VM r (RC h)
theorem aap {y:Key}: ∀{new old:List Key},y∈dS old new→y∈old∨y∈new
 |[],_,h=> .inl h
 |x::r,old,h=>by
  have h:y∈dS (iP old x) r:=h;rcases aap h with h|h
  ·exact(VL h).imp id fun e=>by rw[e];exact .head _
  ·exact .inr (.tail _ h)
theorem VN: ∀(n:List (List Key)) {acc:List Key},acc.Pairwise RB→(n.foldl dS acc).Pairwise RB
 |[],_,h=>h
 |s::r,_,h=>VN r (VM s h)
theorem aaq {y:Key}: ∀{n:List (List Key)} {acc:List Key},y∈n.foldl dS acc→y∈acc∨ ∃s∈n,y∈s
 |[],_,h=> .inl h
 |s::r,acc,h=>by
  rcases aaq (n:=r) h with h|⟨s',h1,h2⟩
  ·exact(aap h).imp id fun h=>⟨s,.head _,h⟩
  ·exact .inr ⟨s',.tail _ h1,h2⟩
theorem XA (n:List (List Key)):(aU n).Pairwise RB:=(VN n .nil).sublist List.filter_sublist
theorem abj {n:List (List Key)} {y:Key} (h:y∈aU n): ∃s∈n,y∈s:=by
 rcases aaq (List.mem_filter.1 h).1 with h|h
 ·cases h
 ·exact h
theorem XC (n:List (List Key)) (k:Key):(dz n k).Pairwise RB:=(RC (XA n)).sublist List.filter_sublist
theorem abk {n:List (List Key)} {k y:Key} (h:y∈dz n k):y=k∨ ∃s∈n,y∈s:=
 (VL (List.mem_filter.1 h).1).elim (fun h=> .inr (abj h)) .inl
theorem ajy {l:List Key} (h1:l.Pairwise RB) (h2: ∀y∈l,j8 y=true) (h3:l.length≤60):Jf l=true:=by
 rw[VE];simp only[fk,decide_eq_true_eq];refine⟨List.all_eq_true.2 h2,wT.2 fun i hi=> ?_,h3⟩
 cases i with
 |zero=>rfl
 |succ k=>
  simp only[jF];rw[cw (by omega:k<l.length),cw hi];exact Jl.2 (List.pairwise_iff_getElem.1 h1 k (k+1) an hi an)
theorem adp {n:List (List Key)} (h:iQ n=true) {s:List Key} (hs:s∈n) {y:Key} (hy:y∈s):j8 y=true:=by
 unfold iQ at h;simp only[fk] at h;have:=List.all_eq_true.1 h.1.1 s hs;simp only[fk] at this;have h2:=this.1;rw[VE] at h2;simp only[fk] at h2;exact List.all_eq_true.1 h2.1 y hy
theorem ae4 {l:List Key} (h1:l.Pairwise RB) (h2: ∀y∈l,j8 y=true) (h3:l.length≤8):iQ (dR l)=true:=by
 unfold dR
 split
 ·decide
 ·rename_i h0
  unfold iQ;have:=ajy h1 h2 an;have h00:l≠[]:=fun e=>h0 (by rw[e];rfl);simp[this,h00,dn,tot,cg,h3]
theorem adq {n:List (List Key)} {k:Key} (h:iQ n=true) (hk:j8 k=true): ∀y∈dz n k,j8 y=true:=fun y hy=>by
 rcases abk hy with rfl|⟨s,h1,h2⟩
 ·exact hk
 ·exact adp h h1 h2
theorem VO {n:List (List Key)} {k:Key} (h:iQ n=true) (hk:j8 k=true) (hp:(c8 n k).2=false):8<(dz n k).length∧c8 n k=(n,false):=by
 have hn:=ae4 (XC n k) (adq h hk);unfold c8 at hp ⊢
 split at hp
 ·cases hp
 ·rename_i h1
  split at hp
  ·rename_i h2
   exact⟨h2,by rw[aF h1,aJ h2]⟩
  ·rename_i h2
   rw[aJ (hn an)] at hp
   cases hp
end Go.T
namespace Go.T
def gw (x y:Int):Int:=aem .or .i64 (am0 .i64 (zh .i64 x) 8) (zh .i64 y)
end Go.T
namespace Go.T
abbrev E1 (x:Tree×Bool):TV:= .tu [(1,agd x.1),(0,[iB x.2])]
def oG (t:Tree) (i c:Nat) (aD:List Int) (nodes:List (List (List Key))):Tree:=⟨t.aD.take i++aD++t.aD.drop (i+c),t.nodes.take i++nodes++t.nodes.drop (i+c)⟩
def lV (t:Tree) (i:Nat):List Key:=aU (t.nodes.getD i [])
def yu (t:Tree):Nat→Nat→Option Nat
 |0,_=>none
 |d+1,i=>if i+1<t.nodes.length then(if(lV t i).length+(lV t (i+1)).length≤6 then some i else yu t d (i+1)) else none
def uH (t:Tree):Option Nat:=yu t t.nodes.length 0
def dX (t:Tree) (i:Nat):Tree:=oG t i 2 [t.aD.getD i 0] [dR (lV t i++lV t (i+1))]
def oH:Nat→Tree→Tree
 |0,t=>t
 |n+1,t=>match uH t with
  |none=>t
  |some i=>oH n (dX t i)
theorem RD {t:Tree}: ∀{d i j:Nat},yu t d i=some j→i≤j∧j+1<t.nodes.length∧(lV t j).length+(lV t (j+1)).length≤6
 |0,i,j,h=>by cases h
 |d+1,i,j,h=>by
  unfold yu at h
  split at h
  ·split at h
   ·cases h;exact⟨de _,by assumption,by assumption⟩
   ·have:=RD h;exact⟨by omega,this.2⟩
  ·cases h
theorem xS {t:Tree} {j:Nat} (h:uH t=some j):j+1<t.nodes.length∧(lV t j).length+(lV t (j+1)).length≤6:=(RD h).2
theorem Jm (t:Tree) (i c:Nat) (aD:List Int) (nodes:List (List (List Key))) (h:i+c≤t.nodes.length):(oG t i c aD nodes).nodes.length+c=t.nodes.length+nodes.length:=by
 unfold oG;simp only[cM,fu,jd];omega
theorem FB (t:Tree) (i c:Nat) (aD:List Int) (nodes:List (List (List Key))) (h:i+c≤t.aD.length):(oG t i c aD nodes).aD.length+c=t.aD.length+aD.length:=by
 unfold oG;simp only[cM,fu,jd];omega
theorem zL {t:Tree} {i:Nat} (h:i+1<t.nodes.length):(dX t i).nodes.length+1=t.nodes.length:=by
 have:=Jm t i 2 [t.aD.getD i 0] [dR (lV t i++lV t (i+1))] an;unfold dX;simp only[gX] at this;omega
def nV (t:Tree) (i:Nat) (k:Key):Tree:=
 if(c8 (t.nodes.getD i []) k).2=true then
  (if 0<i∧(aU (c8 (t.nodes.getD i []) k).1).length=0 then oG t i 1 [] [] else oG t i 1 [t.aD.getD i 0] [(c8 (t.nodes.getD i []) k).1])
 else oG t i 1 [t.aD.getD i 0,j9 ((dz (t.nodes.getD i []) k).getD (((dz (t.nodes.getD i []) k).length+1)/2) gh).b ((dz (t.nodes.getD i []) k).getD (((dz (t.nodes.getD i []) k).length+1)/2) gh).a]
  [dR ((dz (t.nodes.getD i []) k).take (((dz (t.nodes.getD i []) k).length+1)/2)),dR ((dz (t.nodes.getD i []) k).drop (((dz (t.nodes.getD i []) k).length+1)/2))]
def bB (t:Tree) (k:Key):Tree×Bool:=
 if gU t=true∧j8 k=true then(if gU (oH (nV t (pZ t k.b k.a).toNat k).nodes.length (nV t (pZ t k.b k.a).toNat k))=true then(oH (nV t (pZ t k.b k.a).toNat k).nodes.length (nV t (pZ t k.b k.a).toNat k),true) else(t,false)) else(t,false)
end Go.T
namespace Go.T
theorem ae5 {α:Type} (w:α→Nat) (c:Nat): ∀l:List α,(∀a∈l,w a≤c)→tot w l≤c*l.length
 |[],_=>by simp[tot]
 |a::r,h=>by
  have h1:=h a (.head _);have h2:=ae5 w c r fun b hb=>h b (.tail _ hb);simp only[tot,gn,Nat.mul_add];omega
theorem KA {n:List (List Key)} (h:iQ n=true):n.length≤3∧tot cg n≤8:=by
 unfold iQ dn at h;simp only[fk,decide_eq_true_eq] at h;exact⟨h.1.2,h.2⟩
theorem ag6 {t:Tree} (h:gU t=true) {i:Nat} (hi:i<t.nodes.length):eo t i=true:=by
 unfold gU at h;simp only[fk] at h;exact wT.1 h.2.2.2.1 i hi
theorem BV {t:Tree} (h:gU t=true) {n:List (List Key)} (hn:n∈t.nodes):iQ n=true:=by
 obtain⟨i,hi,rfl⟩:=List.getElem_of_mem hn;have:=ag6 h hi;unfold eo at this;rw[cw hi] at this;simp only[fk] at this;exact this.2.1
theorem vR {t:Tree} (h:gU t=true):1≤t.nodes.length∧t.nodes.length≤20∧t.aD.length=t.nodes.length:=by
 unfold gU iM at h;simp only[fk,decide_eq_true_eq] at h;omega
theorem ae6 {t:Tree} (h:gU t=true):t.aD[0]?=some 0:=by
 have hl:=vR h;unfold gU at h;simp only[fk] at h
 have h0:0<t.aD.length:=by omega
 have:=h.2.2.1;rw[cw h0] at this ⊢;simp only[decide_eq_true_eq] at this;rw[this]
theorem VP {t:Tree} (h:gU t=true):tot aO t.nodes≤220:=by
 have h1:=ae5 aO 11 t.nodes fun n hn=>by
  have:=KA (BV h hn);unfold aO;omega
 have h2:=vR h;omega
theorem aar {t:Tree} (h:gU t=true):cN t≤260:=by
 have h1:=VP h;have h2:=vR h;unfold cN wS;omega
theorem ae7 {t:Tree} {k:Key} (h:(bB t k).2=true):gU (bB t k).1=true:=by
 unfold bB at h ⊢
 split
 ·split
  ·assumption
  ·rename_i h1 h2;rw[aJ h1,aF h2] at h;cases h
 ·rename_i h1;rw[aF h1] at h;cases h
theorem LQ {t:Tree} {k:Key} (h:(bB t k).2=false):(bB t k).1=t:=by
 unfold bB at h ⊢
 split
 ·split
  ·rename_i h1 h2;rw[aJ h1,aJ h2] at h;cases h
  ·rfl
 ·rfl
theorem vT (t:Tree) (k:Key):cN (bB t k).1≤max (cN t) 260:=by
 cases h:(bB t k).2 with
 |true=>have:=aar (ae7 h);omega
 |false=>rw[LQ h];omega
theorem adr {p:Pool} (h:dg p=true):gU p.t=true:=by
 simp only[dg,fk] at h;exact h.2.1
theorem wZ {p:Pool} (h:dg p=true):eY p.cells=true:=by
 simp only[dg,fk] at h;exact h.2.2.2.1
theorem ae8 {p:Pool} (h:dg p=true):ic p=true:=by
 simp only[dg,fk] at h;exact h.2.2.2.2.2.2
theorem ag7 {s:ByteArray} (h:j5 s=true):1≤s.size∧s.size≤6:=by
 simp only[j5,fk,iM,decide_eq_true_eq] at h;omega
theorem ag8 {p:Pool} (h:j6 p=true) {v:Vol} (hv:v∈p.av):j5 v.name=true∧1≤v.size∧v.size≤12∧0≤fA p.aL v.cY:=by
 obtain⟨i,hi,rfl⟩:=List.getElem_of_mem hv;simp only[j6,fk,wT] at h;have:=h.1 i hi;unfold cP at this;rw[cw hi] at this;simp only[fk,iM,decide_eq_true_eq,F0,decide_eq_false_iff_not] at this;exact⟨this.1,this.2.1.1,this.2.1.2,by omega⟩
theorem aas {p:Pool} (h:dg p=true):aN p≤500:=by
 have h1:=aar (adr h)
 have h2:p.aL.length≤16:=by
  have:=Rz h;simp only[g9,fk,decide_eq_true_eq] at this;exact this.2
 have h3:p.cells.length=24:=by
  have:=wZ h;simp only[eY,fk,decide_eq_true_eq] at this;exact this.2
 have hv:=wq h
 have h4:p.av.length≤6:=by
  simp only[j6,fk,decide_eq_true_eq] at hv;exact hv.2
 have h5:=ae5 qd 6 p.av fun v hm=>(ag7 (ag8 hv hm).1).2;unfold aN Dr;omega
theorem ajz (p x:Pool):aN (abh p x).1≤max (aN p) 500:=by
 unfold abh
 split
 ·rename_i h;have:=aas h;simp only[];omega
 ·simp only[];omega
theorem Jn (p x:Pool) (b:Bool):aN (D5 p x b).1≤max (aN p) 500:=by
 unfold D5
 split
 ·exact ajz p x
 ·simp only[];omega
def Jo (p:Pool) (k:Key):List Cell:=if(wX p.t k.b k.a).2=true∧(wX p.t k.b k.a).1.k=1 then ke p.cells (wX p.t k.b k.a).1.c else p.cells
def dZ (p:Pool) (k:Key):Pool×Bool:=if(bB p.t k).2=true then(⟨(bB p.t k).1,p.aL,Jo p k,p.av,p.next⟩,true) else(p,false)
theorem Nx (p:Pool) (k:Key):(Jo p k).length=p.cells.length:=by
 unfold Jo;split
 ·exact Fy _ _
 ·rfl
theorem tr (p:Pool) (k:Key):aN (dZ p k).1≤aN p+260:=by
 have h1:=vT p.t k;have h2:=Nx p k;unfold dZ
 split
 ·unfold aN;simp only[];omega
 ·simp only[];omega
theorem Ny (p:Pool) (k:Key):(dZ p k).1.aL=p.aL∧(dZ p k).1.av=p.av∧(dZ p k).1.next=p.next∧(dZ p k).1.cells.length=p.cells.length:=by
 have h2:=Nx p k;unfold dZ
 split
 ·exact⟨rfl,rfl,rfl,h2⟩
 ·exact⟨rfl,rfl,rfl,rfl⟩
def ir (p:Pool) (s:ByteArray) (b:Int):Int:=
 if uA p s=true then(match fE p.av (cj p.av s) with
  |none=>2
  |some v=>if v.fx=true then 5 else if iM b 0 (v.size-1)=true then 0 else 4) else 1
theorem wu {p:Pool} {s:ByteArray} {b:Int} (h:ir p s b=0): ∃v,fE p.av (cj p.av s)=some v∧uA p s=true∧v.fx=false∧0≤b∧b≤v.size-1:=by
 unfold ir at h
 split at h
 ·rename_i hf
  split at h
  ·cases h
  ·rename_i v hv
   split at h
   ·cases h
   ·split at h
    ·rename_i h1 h2
     refine⟨v,hv,hf,by simpa using h1,?_⟩;simpa [iM] using h2
    ·cases h
 ·cases h
def agk (l:List Cell) (i:Int):Int:=match fE l i with|some c=>c.g|none=>0
def abl (p:Pool) (b n:Int) (v:Vol):Pool×Bool:=dZ ⟨p.t,p.aL,(jQ p.cells n).1,p.av,p.next⟩ ⟨b,v.cY,1,(jQ p.cells n).2.1,agk (jQ p.cells n).1 (jQ p.cells n).2.1⟩
def m0 (p:Pool) (s:ByteArray) (b n:Int):Pool×Int:=
 if ir p s b=0 then(if iN n=true then(match fE p.av (cj p.av s) with
  |none=>(p,2)
  |some v=>if(jQ p.cells n).2.2=true then D5 p (abl p b n v).1 (abl p b n v).2 else(p,6)) else(p,4)) else(p,ir p s b)
def cL (p:Pool) (cY b:Int):Pool×Bool:=
 if(tQ p.t p.aL b cY).2=true∧(tQ p.t p.aL b cY).1.k=1 then dZ p ⟨b,cY,2,0,0⟩ else if(wX p.t b cY).2=true then dZ p ⟨b,cY,0,0,0⟩ else(p,true)
theorem zM (p:Pool) (cY b:Int):aN (cL p cY b).1≤aN p+260:=by
 unfold cL
 split
 ·exact tr _ _
 ·split
  ·exact tr _ _
  ·simp only[];omega
theorem Jp (p:Pool) (cY b:Int):(cL p cY b).1.aL=p.aL∧(cL p cY b).1.av=p.av∧(cL p cY b).1.next=p.next∧(cL p cY b).1.cells.length=p.cells.length:=by
 unfold cL
 split
 ·exact Ny _ _
 ·split
  ·exact Ny _ _
  ·exact⟨rfl,rfl,rfl,rfl⟩
def mU (p:Pool) (s:ByteArray) (b:Int):Pool×Int:=
 if ir p s b=0 then(match fE p.av (cj p.av s) with
  |none=>(p,2)
  |some v=>D5 p (cL p v.cY b).1 (cL p v.cY b).2) else(p,ir p s b)
def yw (cY:Int):Nat→Int→Pool→Pool×Bool
 |0,_,p=>(p,true)
 |n+1,b,p=>if(cL p cY b).2=true then yw cY n (b-1) (cL p cY b).1 else(p,false)
def BW (p:Pool) (i:Int) (n:Int):Pool:=⟨p.t,p.aL,p.cells,p.av.modify i.toNat fun u=>{u with size:=n},p.next⟩
def p5 (p:Pool) (s:ByteArray) (n:Int):Pool×Int:=
 if ir p s 0=0 then(if iM n 1 12=true then(match fE p.av (cj p.av s) with
  |none=>(p,2)
  |some v=>D5 p (BW (yw v.cY (v.size-n).toNat (v.size-1) p).1 (cj p.av s) n) (yw v.cY (v.size-n).toNat (v.size-1) p).2) else(p,4)) else(p,ir p s 0)
theorem ag9 (p:Pool) (s:ByteArray) (b n:Int):aN (m0 p s b n).1≤max (aN p) 500:=by
 unfold m0
 repeat' split
 all_goals first|exact IN _ _|exact Jn _ _ _
theorem adt (p:Pool) (s:ByteArray) (b:Int):aN (mU p s b).1≤max (aN p) 500:=by
 unfold mU
 repeat' split
 all_goals first|exact IN _ _|exact Jn _ _ _
theorem ae9 (p:Pool) (s:ByteArray) (n:Int):aN (p5 p s n).1≤max (aN p) 500:=by
 unfold p5
 repeat' split
 all_goals first|exact IN _ _|exact Jn _ _ _
def pK (i:Int) (k:Key):Bool:=decide (k.k=1)&&decide (k.c=i)
def jZ (p:Pool) (i:Int):Key:=match(aC p.t).find? (pK i) with|some k=>k|none=>gh
def sn (p:Pool) (i n:Int):Key:=⟨(jZ p i).b,(jZ p i).a,(jZ p i).k,(jQ p.cells n).2.1,agk (jQ p.cells n).1 (jQ p.cells n).2.1⟩
def F6 (p:Pool) (i n:Int):Pool×Bool:=(⟨(bB p.t (sn p i n)).1,p.aL,ke (jQ p.cells n).1 i,p.av,p.next⟩,(bB p.t (sn p i n)).2)
def F7 (p:Pool) (x:Pool×Bool):Pool×Bool:=if x.2=true∧dg x.1=true then(x.1,true) else(p,false)
theorem adu (p:Pool) (x:Pool×Bool):aN (F7 p x).1≤max (aN p) 500:=by
 unfold F7
 split
 ·rename_i h;have:=aas h.2;simp only[];omega
 ·simp only[];omega
def jR (p:Pool) (i:Int):Pool×Bool:=
 if dg p=true then(match fE p.cells i with
  |none=>(p,false)
  |some c=>if c.u=true∧0≤fy p.cells∧fy p.cells≤i then F7 p (F6 p i c.n) else(p,false)) else(p,false)
theorem adv (p:Pool) (i:Int):aN (jR p i).1≤max (aN p) 500:=by
 unfold jR
 split
 ·split
  ·simp only[];omega
  ·split
   ·exact adu _ _
   ·simp only[];omega
 ·simp only[];omega
def pL (l:List Age) (id fr:Int):List Age:=l.map fun a=>if a.fr=id then {a with fr:=fr} else a
def vU (l:List Age) (id:Int):List Age×Bool:=
 if g9 l=true then(match fE l (fA l id) with
  |none=>(l,false)
  |some a=>((pL l id a.fr).take (fA l id).toNat++(pL l id a.fr).drop ((fA l id).toNat+1),true)) else(l,false)
theorem FC (l:List Age) (id fr:Int):(pL l id fr).length=l.length:=by unfold pL;simp
theorem afa (l:List Age) (id:Int):(vU l id).1.length≤l.length:=by
 unfold vU
 repeat' split
 all_goals simp only[cM,fu,jd,FC];omega
def UK (p:Pool) (i:Int):Key:=match fE (aC p.t) i with|some k=>k|none=>gh
def gi (k:Key):Key:=⟨k.b,k.a,0,0,0⟩
def FD (p:Pool) (k:Key):Key:=⟨k.b,D4 p k.a,k.k,k.c,k.g⟩
def BX (p:Pool) (k:Key):Pool×Bool:=
 (⟨(bB (bB p.t (gi k)).1 (FD p k)).1,p.aL,p.cells,p.av,p.next⟩,(bB p.t (gi k)).2&&(bB (bB p.t (gi k)).1 (FD p k)).2)
def XD (p:Pool) (id:Int):Pool×Bool:=(⟨p.t,(vU p.aL id).1,p.cells,p.av,p.next⟩,(vU p.aL id).2)
def RE (p:Pool) (j i:Int):Pool×Bool:=
 if j=4 then(match fE p.aL i with|some a=>XD p a.id|none=>(p,false)) else if j=3 then BX p (UK p i) else dZ p (gi (UK p i))
def jS (p:Pool):Pool×Bool:=if(dj p).1=0 then(p,false) else F7 p (RE p (dj p).1 (dj p).2)
theorem abm (p:Pool):aN (jS p).1≤max (aN p) 500:=by
 unfold jS
 split
 ·simp only[];omega
 ·exact adu _ _
def wz (x:Pool×Bool):Pool×Int:=if x.2=true then(x.1,0) else(x.1,2)
def kf (p:Pool) (o:Xk):Pool×Int:=
 if VH o=true∧dg p=true then
  (if o.kind=1 then x9 p o.name o.a else if o.kind=2 then K5 p o.name o.to (decide (o.b=1)) else if o.kind=3 then Ji p o.name
   else if o.kind=4 then m0 p o.name o.a o.b else if o.kind=5 then mU p o.name o.a else if o.kind=6 then p5 p o.name o.a
   else if o.kind=7 then wz (jS p) else if o.kind=8 then wz (qf p o.a) else wz (jR p o.a)) else(p,1)
theorem adw (p:Pool) (s:ByteArray) (n:Int):aN (x9 p s n).1≤max (aN p) 500:=by
 unfold x9
 repeat' split
 all_goals first|exact IN _ _|exact Jn _ _ _
theorem aha (p:Pool) (s to:ByteArray) (fx:Bool):aN (K5 p s to fx).1≤max (aN p) 500:=by
 unfold K5
 repeat' split
 all_goals first|exact IN _ _|exact Jn _ _ _
theorem ahb (p:Pool) (s:ByteArray):aN (Ji p s).1≤max (aN p) 500:=by
 have:=ajq p s;omega
theorem VQ (x:Pool×Bool):aN (wz x).1=aN x.1:=by unfold wz;split<;>rfl
theorem ahc (p:Pool) (o:Xk):aN (kf p o).1≤max (aN p) 500:=by
 unfold kf
 repeat' split
 ·exact adw _ _ _
 ·exact aha _ _ _ _
 ·exact ahb _ _
 ·exact ag9 _ _ _ _
 ·exact adt _ _ _
 ·exact ae9 _ _ _
 ·rw[VQ];exact abm _
 ·rw[VQ];have:=adk p o.a;omega
 ·rw[VQ];exact adv _ _
 ·simp only[];omega
end Go.T
namespace Go.T
theorem KB {α:Type} (w:α→Nat): ∀l m:List α,tot w (l++m)=tot w l+tot w m
 |[],m=>by simp[tot]
 |a::l,m=>by simp only[Rb,tot,KB w l m];omega
theorem anF {α:Type} {l:List α} {i:Nat} {a b:α} (ha:l[i]?=some a) (hb:l[i+1]?=some b):l=l.take i++a::b::l.drop (i+2):=by
 obtain⟨h1,e1⟩:=List.getElem?_eq_some_iff.1 ha;obtain⟨h2,e2⟩:=List.getElem?_eq_some_iff.1 hb
 conv=>lhs;rw[←MN i l]
 rw[KT h1,KT h2,e1,e2]
theorem LR (l:List Key):aO (dR l)≤l.length+1:=by
 have h1:=BT l;have h2:=BU l;unfold aO;omega
theorem kC {t:Tree} {i:Nat} {a:List (List Key)} (h:t.nodes[i]?=some a):lV t i=aU a:=by unfold lV;rw[wG,h];rfl
theorem xT (n:Nat) (t:Tree):oH (n+1) t=match uH t with|none=>t|some i=>oH n (dX t i):=rfl
theorem BZ {t:Tree} {i:Nat} (h:i+1<t.nodes.length):tot aO (dX t i).nodes+(dX t i).nodes.length≤tot aO t.nodes+t.nodes.length:=by
 obtain⟨a,ha⟩: ∃a,t.nodes[i]?=some a:=⟨_,cw an⟩;obtain⟨b,hb⟩: ∃b,t.nodes[i+1]?=some b:=⟨_,cw h⟩;have hl:=zL h;have hs:=congrArg (tot aO) (anF ha hb);rw[KB] at hs;simp only[tot] at hs;have la:=dy a;have lb:=dy b;have hn:=LR (lV t i++lV t (i+1));rw[cM,kC ha,kC hb] at hn
 have e:tot aO (dX t i).nodes=tot aO (t.nodes.take i)+aO (dR (aU a++aU b))+tot aO (t.nodes.drop (i+2)):=by
  unfold dX oG;simp only[];rw[KB,KB,kC ha,kC hb];simp[tot]
 have sa:aO a=a.length+tot cg a:=rfl;have sb:aO b=b.length+tot cg b:=rfl;omega
theorem afb {n:Nat} {t:Tree} (h:uH t=none):oH n t=t:=by
 cases n with
 |zero=>rfl
 |succ n=>rw[xT,h]
theorem K6 {t:Tree} {i:Nat} (h:i+1<t.nodes.length) (hl:t.aD.length=t.nodes.length):(dX t i).aD.length=(dX t i).nodes.length:=by
 have h1:=FB t i 2 [t.aD.getD i 0] [dR (lV t i++lV t (i+1))] an;have h2:=Jm t i 2 [t.aD.getD i 0] [dR (lV t i++lV t (i+1))] an;simp only[gX] at h1 h2;unfold dX;omega
theorem adx: ∀(n:Nat) (t:Tree),t.aD.length=t.nodes.length→tot aO (oH n t).nodes+(oH n t).nodes.length≤tot aO t.nodes+t.nodes.length∧(oH n t).aD.length=(oH n t).nodes.length
 |0,t,h=>⟨de _,h⟩
 |n+1,t,h=>by
  rw[xT]
  cases hp:uH t with
  |none=>exact⟨de _,h⟩
  |some i=>
   have hlt:=(xS hp).1;have h1:=BZ hlt;have h2:=adx n (dX t i) (K6 hlt h);exact⟨by simp only[];omega,h2.2⟩
theorem ady {k:Key} (h:j8 k=true):0≤k.b∧k.b≤15∧1≤k.a∧k.a≤60∧0≤k.k∧k.k≤2:=by
 simp only[j8,iM,fk,decide_eq_true_eq] at h;omega
theorem alz {b a:Int} (h: -1000≤b∧b≤1000∧ -1000≤a∧a≤1000):j9 b a=64*b+a:=by
 unfold j9;rw[aln an,aG an]
theorem afc {k:Key} (h:j8 k=true):j9 k.b k.a=64*k.b+k.a:=by
 have:=ady h;exact alz an
theorem VR {f:Int→Bool} {l:List Int} {x:Int} (h0:l[0]?=some x) (hx:f x=true): ∀n:Nat,0<n→n≤l.length→ ∃j:Nat,wW f l n=j∧j<n
 |0,h,_=>by omega
 |n+1,_,hn=>by
  unfold wW;rw[cw an];simp only[]
  split
  ·exact⟨n,rfl,by omega⟩
  ·rename_i hf
   cases n with
   |zero=>
    rw[cw an] at h0
    cases h0;exact absurd hx hf
   |succ n=>
    obtain⟨j,h1,h2⟩:=VR h0 hx (n+1) an an;exact⟨j,h1,by omega⟩
theorem VS {t:Tree} {k:Key} (h:gU t=true) (hk:j8 k=true): ∃j:Nat,pZ t k.b k.a=j∧j<t.nodes.length:=by
 have h1:=vR h;have h2:=ady hk;have h3:=afc hk;unfold pZ;have:=VR (f:=fun x=>decide (x≤j9 k.b k.a)) (ae6 h) (by simp only[decide_eq_true_eq];omega) t.aD.length an (de _);rw[h1.2.2] at this ⊢;exact this
theorem adz (n:List (List Key)) (k:Key):aO (c8 n k).1≤aO n+2:=by
 have h1:=Jj n k;have h2:=Jk n k;unfold aO;omega
theorem ahd (t:Tree) (i c:Nat) (aD:List Int) (nodes:List (List (List Key))):tot aO (oG t i c aD nodes).nodes≤tot aO t.nodes+tot aO nodes:=by
 have h:tot aO (t.nodes.take i++t.nodes.drop i)=tot aO t.nodes:=by rw[MN]
 have h2:tot aO (t.nodes.drop (i+c))≤tot aO (t.nodes.drop i):=by
  rw[←List.drop_drop]
  have h3:tot aO ((t.nodes.drop i).take c++(t.nodes.drop i).drop c)=tot aO (t.nodes.drop i):=by rw[MN]
  rw[KB] at h3;omega
 unfold oG;simp only[KB] at h ⊢;omega
theorem alA {t:Tree} {i:Nat} {k:Key} (hl:t.aD.length=t.nodes.length) (hi:i<t.nodes.length) (ht: ∀n∈t.nodes,tot cg n≤8∧n.length≤3):
 tot aO (nV t i k).nodes≤tot aO t.nodes+40∧(nV t i k).nodes.length≤t.nodes.length+1∧(nV t i k).aD.length=(nV t i k).nodes.length:=by
 have hn:=ht t.nodes[i] (DM hi)
 have hg:t.nodes.getD i []=t.nodes[i]:=by rw[wG,cw hi];rfl
 have hp:=adz t.nodes[i] k;have hk:=tU t.nodes[i] k;have hz:aO t.nodes[i]=t.nodes[i].length+tot cg t.nodes[i]:=rfl;unfold nV;rw[hg];generalize dz t.nodes[i] k=l at*;have e1:=LR (l.take ((l.length+1)/2));have e2:=LR (l.drop ((l.length+1)/2));rw[fu] at e1;rw[jd] at e2
 have key: ∀(aD:List Int) (nodes:List (List (List Key))),aD.length=nodes.length→nodes.length≤2→tot aO nodes≤40→tot aO (oG t i 1 aD nodes).nodes≤tot aO t.nodes+40∧(oG t i 1 aD nodes).nodes.length≤t.nodes.length+1∧(oG t i 1 aD nodes).aD.length=(oG t i 1 aD nodes).nodes.length:=by
  intro aD nodes h1 h2 h3;have h4:=ahd t i 1 aD nodes;have h5:=Jm t i 1 aD nodes an;have h6:=FB t i 1 aD nodes an;omega
 split
 ·split
  ·exact key _ _ rfl dh (by simp[tot])
  ·exact key _ _ rfl dh (by simp only[tot];omega)
 ·exact key _ _ rfl dh (by simp only[tot];omega)
theorem abn {t:Tree} (h:gU t=true): ∀n∈t.nodes,tot cg n≤8∧n.length≤3:=fun n hn=>by
 have:=KA (BV h hn);omega
theorem adA {t:Tree} {i:Nat} {k:Key} (h:gU t=true) (hi:i<t.nodes.length):
 tot aO (nV t i k).nodes+(nV t i k).nodes.length≤300∧(nV t i k).aD.length=(nV t i k).nodes.length∧cN (oH (nV t i k).nodes.length (nV t i k))≤600:=by
 have h1:=vR h;have h2:=VP h;have h3:=alA (k:=k) h1.2.2 hi (abn h);have h4:=adx (nV t i k).nodes.length (nV t i k) h3.2.2;refine⟨by omega,h3.2.2,?_⟩;unfold cN wS;omega
theorem K7 {α:Type} {w:α→Nat} {f:α→α} (hf: ∀a,w (f a)=w a): ∀(l:List α) (i:Nat),tot w (l.modify i f)=tot w l
 |[],i=>by cases i<;>rfl
 |a::r,0=>by rw[List.modify_zero_cons];simp only[tot,hf]
 |a::r,i+1=>by rw[List.modify_succ_cons];simp only[tot,K7 hf r i]
theorem adB (p:Pool) (i n:Int):aN (BW p i n)=aN p:=by
 unfold aN Dr BW;simp only[Re];rw[K7 (w:=qd) (f:=fun u:Vol=>{u with size:=n}) fun a=>rfl]
theorem agl {n:Nat} (h:8<n):(n+1)/2<n:=by omega
end Go.T
namespace Go.T
def B0:List Cell→Int→List Int
 |[],_=>[]
 |c::r,s=>if c.u=true then s::B0 r (s+1) else B0 r (s+1)
theorem Jq: ∀(l:List Cell) (s:Int),(B0 l s).length=cA l
 |[],s=>rfl
 |c::r,s=>by
  have:=Jq r (s+1);unfold cA at this ⊢;unfold B0
  cases h:c.u<;>simp[h,this]
theorem Jr: ∀{l:List Cell} {s:Int} {j:Nat} {c:Cell},l[j]?=some c→c.u=true→s+j∈B0 l s
 |[],s,j,c,h,_=>by simp at h
 |d::r,s,0,c,h,hu=>by
  simp only[gT,aY] at h;subst h;unfold B0;rw[aJ hu];simp
 |d::r,s,j+1,c,h,hu=>by
  have:=Jr (l:=r) (s:=s+1) (j:=j) (by simpa using h) hu
  have e:s+((j+1:Nat):Int)=s+1+(j:Int):=by omega
  rw[e];unfold B0
  split
  ·exact .tail _ this
  ·exact this
theorem agm {α:Type} [DecidableEq α]: ∀(l m:List α),l.Nodup→(∀x∈l,x∈m)→l.length≤m.length
 |[],m,_,_=>F1 _
 |a::l,m,hn,hs=>by
  obtain⟨h1,h2⟩:=List.nodup_cons.1 hn;have hm:=hs a (.head _);have:=agm l (m.erase a) h2 fun x hx=>(List.mem_erase_of_ne (fun e=>by subst e;exact h1 hx)).2 (hs x (.tail _ hx));rw[List.length_erase_of_mem hm] at this;have:=List.length_pos_of_mem hm;simp only[gn];omega
theorem adC {l:List Cell} {i g:Int} (h:(cellAt l i g).2=true): ∃c,fE l i=some c∧c.u=true:=by
 unfold cellAt at h
 cases hc:fE l i with
 |none=>rw[hc] at h;cases h
 |some c=>
  rw[hc] at h;simp only at h
  split at h
  ·rename_i h1;exact⟨c,rfl,h1.1⟩
  ·cases h
theorem agn {p:Pool} (h:ic p=true) {i j:Nat} {x y:Key} (hi:(aC p.t)[i]?=some x) (hj:(aC p.t)[j]?=some y) (hx:x.k=1) (hy:y.k=1) (hc:x.c=y.c):i=j:=by
 unfold ic at h;simp only[fk,wT] at h
 have key: ∀{i j:Nat} {x y:Key},(aC p.t)[i]?=some x→(aC p.t)[j]?=some y→x.k=1→y.k=1→x.c=y.c→ ¬i<j:=by
  intro i j x y hi hj hx hy hc hlt;obtain⟨hjl,_⟩:=List.getElem?_eq_some_iff.1 hj;have:=h.1 j hjl;unfold dF at this;rw[hj] at this;simp only[fk,hy,decide_true,Bu,IL,F0,List.any_eq_false] at this;have hm:x∈(aC p.t).take j:=iV (i:=i) (by rw[DL];simp[hlt,hi]);have:=this.2.2 x hm;simp[hx,hc] at this
 have h1:=key hi hj hx hy hc;have h2:=key hj hi hy hx hc.symm;omega
theorem ajA {p:Pool} (h:ic p=true) {x:Key} (hx:x∈aC p.t) (hk:x.k=1): ∃c,fE p.cells x.c=some c∧c.u=true:=by
 unfold ic at h;simp only[fk,wT] at h;obtain⟨i,hi,rfl⟩:=List.getElem_of_mem hx;have:=h.1 i hi;unfold dF at this;rw[cw hi] at this;simp only[fk,hk,decide_true,Bu,IL] at this;exact adC this.2.1
theorem VT: ∀(l:List Key),(∀(i j:Nat) (x y:Key),l[i]?=some x→l[j]?=some y→x.k=1→y.k=1→x.c=y.c→i=j)→((l.filter fun k=>decide (k.k=1)).map (·.c)).Nodup
 |[],_=> .nil
 |a::l,h=>by
  have ih:=VT l fun i j x y h1 h2 h3 h4 h5=>by have:=h (i+1) (j+1) x y (by simpa using h1) (by simpa using h2) h3 h4 h5;omega
  by_cases ha:a.k=1
  ·rw[List.filter_cons_of_pos (by simpa using ha),List.map_cons]
   refine List.nodup_cons.2 ⟨fun hm=> ?_,ih⟩;obtain⟨b,hb,e⟩:=List.mem_map.1 hm;obtain⟨hb1,hb2⟩:=List.mem_filter.1 hb;obtain⟨j,hj⟩:=List.mem_iff_getElem?.1 hb1;have:=h 0 (j+1) a b rfl (by simpa using hj) ha (by simpa using hb2) e.symm;omega
  ·rw[List.filter_cons_of_neg (by simpa using ha)];exact ih
theorem ajB {p:Pool} (h:ic p=true) {i:Int} {c:Cell} (hc:fE p.cells i=some c) (hu:c.u=true): ∃x∈aC p.t,pK i x=true:=by
 have hi:0≤i∧i<p.cells.length:=Classical.byContradiction fun hn=>by rw[gR hn] at hc;cases hc
 obtain⟨n,rfl⟩: ∃n:Nat,i=n:=⟨i.toNat,by omega⟩;rw[aI] at hc
 apply Classical.byContradiction
 intro hno;have hn:=VT (aC p.t) fun i j x y h1 h2 h3 h4 h5=>agn h h1 h2 h3 h4 h5
 have hsub: ∀y∈((aC p.t).filter fun k=>decide (k.k=1)).map (·.c),y∈(B0 p.cells 0).erase (n:Int):=by
  intro y hy;obtain⟨x,hx,rfl⟩:=List.mem_map.1 hy;obtain⟨hx1,hx2⟩:=List.mem_filter.1 hx
  have hx2:x.k=1:=by simpa using hx2
  obtain⟨d,hd,hdu⟩:=ajA h hx1 hx2
  have hxi:0≤x.c∧x.c<p.cells.length:=Classical.byContradiction fun hn=>by rw[gR hn] at hd;cases hd
  obtain⟨m,hm⟩: ∃m:Nat,x.c=m:=⟨x.c.toNat,by omega⟩;rw[hm,aI] at hd;have:=Jr (s:=0) hd hdu;refine(List.mem_erase_of_ne fun e=>hno ⟨x,hx1,by unfold pK;simp[hx2,e]⟩).2 ?_;rw[hm];simpa using this
 have hlen:=agm _ _ hn hsub;have hm0:=Jr (s:=0) hc hu;rw[List.length_erase_of_mem (by simpa using hm0),Jq,ct] at hlen;have hpos:=List.length_pos_of_mem hm0;rw[Jq] at hpos;unfold ic cX at h;simp only[fk,decide_eq_true_eq] at h;have:=h.2;omega
theorem afd {p:Pool} (h:ic p=true) {i:Int} {c:Cell} (hc:fE p.cells i=some c) (hu:c.u=true):
 ∃m:Nat,(aC p.t)[m]?=some (jZ p i)∧pK i (jZ p i)=true∧(∀j x,(aC p.t)[j]?=some x→pK i x=true→j=m):=by
 obtain⟨x,hx,ho⟩:=ajB h hc hu;unfold jZ
 cases hf:(aC p.t).find? (pK i) with
 |none=>exact absurd ho (by simpa using List.find?_eq_none.1 hf x hx)
 |some k=>
  have h1:=List.find?_some hf;obtain⟨m,hm⟩:=List.mem_iff_getElem?.1 (List.mem_of_find?_eq_some hf);refine⟨m,hm,h1,fun j y hj hy=> ?_⟩;unfold pK at h1 hy;simp only[fk,decide_eq_true_eq] at h1 hy;exact agn h hj hm hy.1 h1.1 (by rw[hy.2,h1.2])
end Go.T
namespace Go.T
theorem bL {P:Prop} (h:P:=by
 repeat' first
  |assumption
  |exact rfl
  |exact⟨rfl,rfl⟩
  |exact⟨rfl,trivial⟩
  |refine⟨_,_,_,_,_,_,_,by assumption,?_⟩
  |refine⟨_,_,_,_,_,_,by assumption,?_⟩
  |refine⟨_,_,_,_,_,by assumption,?_⟩
  |refine⟨_,_,_,_,by assumption,?_⟩
  |refine⟨_,_,_,by assumption,?_⟩
  |refine⟨_,_,by assumption,?_⟩
  |refine⟨_,by assumption,?_⟩
  |refine ai (by first|rfl|assumption|(rw[bF];rfl)) ?_
  |refine aa (by first|rfl|assumption|(rw[bF];rfl)) ?_
  |refine⟨(_,_),?_,?_,rfl⟩
  |refine⟨(_,_),?_,?_,rfl,rfl⟩
  |refine⟨?_,?_⟩):P:=h
end Go.T
