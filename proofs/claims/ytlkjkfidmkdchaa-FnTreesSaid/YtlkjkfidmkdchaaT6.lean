import Derived.Test.YtlkjkfidmkdchaaT5
set_option linter.all false
namespace Go.T
def O5 (cf:Cf):Prop:= ∀f vs r fs r' fs',cf f vs r fs→cf f vs r' fs'→r=r'∧fs=fs'
def Q9 (lp:Lp):Prop:= ∀f i c st (Q Q':TX→TS→Prop),lp f i c st Q→lp f i c st Q'→ ∃x s,Q x s∧Q' x s
theorem jZ {R:Type} {cf:Cf} {lp:Lp} (hc:O5 cf) (hl:Q9 lp) {Q Q':R→Prop}: ∀(e:Ev R),e.holds cf lp Q→e.holds cf lp Q'→ ∃r,Q r∧Q' r
 | .fail,h,_=>h.elim
 | .ret r,h,h'=>⟨r,h,h'⟩
 | .test b k,h,h'=>jZ hc hl (k b) h h'
 | .row rows i k,⟨c,h1,h2⟩,⟨c',BC,K9⟩=>by
   rw[h1] at BC;cases BC;exact jZ hc hl (k c) h2 K9
 | .byte rows i k,⟨c,h1,h2⟩,⟨c',BC,K9⟩=>by
   rw[h1] at BC;cases BC;exact jZ hc hl (k c) h2 K9
 | .bytes rows k,⟨c,h1,h2⟩,⟨c',BC,K9⟩=>by
   rw[h1] at BC;cases BC;exact jZ hc hl (k c) h2 K9
 | .call f vs k,⟨r,fs,h1,h2⟩,⟨r',fs',BC,K9⟩=>by
   obtain⟨rfl,rfl⟩:=hc _ _ _ _ _ _ h1 BC;exact jZ hc hl (k r fs) h2 K9
 | .loop f i c st k,h,h'=>by
   obtain⟨x,s,h1,h2⟩:=hl _ _ _ _ _ _ h h';exact jZ hc hl (k x s) h1 h2
 | .both a b,⟨r,h1,h2,h3⟩,⟨r',BC,K9,Oh⟩=>by
   obtain⟨r0,e1,e2⟩:=jZ hc hl a h1 BC;subst e1 e2;exact⟨_,h3,Oh⟩
section
variable {C : hD}
theorem Ir {cf:Cf} {lp:Lp} (hc:O5 cf) (hl:Q9 lp) {fx:List Nat} {f i:Nat} {c:Code} {Q Q':TX→TS→Prop}: ∀(n:Nat) (st:TS),iter C cf lp fx f i c Q n st→iter C cf lp fx f i c Q' n st→ ∃x s,Q x s∧Q' x s
 |0,_,h,_=>h.elim
 |n+1,st,h,h'=>by
  obtain⟨⟨x,s⟩,h1,h2⟩:=jZ hc hl _ h h'
  cases x with
  |norm=>
   simp only at h1 h2;rw[me] at h1 h2;exact Ir hc hl n _ h1 h2
  |ex id=>exact⟨_,_,h1,h2⟩
  |ret=>exact⟨_,_,h1,h2⟩
theorem KP {cf:Cf} (hc:O5 cf) (k:Nat) (fx:List Nat): ∀n,Q9 (Jd C cf k fx n)
 |0=>fun _ _ _ _ _ _ h _=>h.elim
 |n+1=>fun f i c st Q Q' h h'=>Ir hc (KP hc k fx n) k st h h'
theorem AA: ∀k,O5 (e8 C k)
 |0=>fun _ _ _ _ _ _ h _=>h.elim
 |k+1=>fun f vs r fs r' fs' h h'=>by
  unfold e8 at h h'
  cases hx:C.ext f with
  |some p=>rw[hx] at h h';have h:p vs=some (r,fs):=h;have h':p vs=some (r',fs'):=h';rw[h] at h';cases h';exact⟨rfl,rfl⟩
  |none=>
  rw[hx] at h h';simp only at h h';obtain⟨p,h1,h2⟩:=jZ (AA k) (KP (AA k) k _ 4) _ h h';rw[h1] at h2
  cases h2
  exact⟨rfl,rfl⟩
theorem ax.Um {f:FuncId} {vs:List TV} {r r':TV} {fs fs':List TV} (h:ax C f vs r fs) (h':ax C f vs r' fs'):r'=r∧fs'=fs:=by
 obtain⟨k,h⟩:=h;obtain⟨k',h'⟩:=h';obtain⟨h1,h2⟩:=AA (max k k') _ _ _ _ _ _ (iM (E8 _ _) h) (iM (Nat.le_max_right _ _) h');exact⟨h1.symm,h2.symm⟩
end
def j5 {α:Type} (l:List α) (i:Int):Option α:=if 0≤i then l[i.toNat]? else none
theorem aL {α:Type} (l:List α) (i:Nat):j5 l (i:Int)=l[i]?:=by
 unfold j5;rw[aZ (Int.natCast_nonneg i),rH]
theorem AB {α:Type} {l:List α} {i:Int} (h0:0≤i) (h1:i<l.length): ∃a,j5 l i=some a:=by
 unfold j5;rw[aZ h0];exact⟨_,aX az⟩
theorem LK {α:Type} {l:List α} {i:Int} (h: ¬(0≤i∧i<l.length)):j5 l i=none:=by
 unfold j5
 split
 ·exact Ka az
 ·rfl
theorem bu {α:Type} (e:α→List TC) (l:List α) (i:Int):rowAt (l.map e) i=(j5 l i).map e:=by
 unfold rowAt j5
 split
 ·rw[gm]
 ·rfl
theorem Is {α:Type} {l:List α} {i:Int} {a:α} (h:j5 l i=some a):a∈l:=by
 unfold j5 at h
 split at h
 ·exact ee h
 ·cases h
def St {α:Type} (l:List α) (i:Int) (a:α):List α:=l.set i.toNat a
theorem Iu {α:Type} {e:α→List TC} {l:List α} {i:Int} {a a':α} {f:Nat} {cs:List TC} (h:j5 l i=some a) (he:(e a).take f++cs++(e a).drop (f+cs.length)=e a'):setRow (l.map e) i f cs=(St l i a').map e:=by
 unfold j5 at h
 split at h
 ·unfold setRow St
  rw[gm,h];simp only[ic,he,List.map_set]
 ·cases h
@[simp] theorem cK {α:Type} (e:α→List TC) (l:List α) (a b:Int):au (l.map e) a b=((l.take b.toNat).drop a.toNat).map e:=by
  unfold au;rw[←Hs,←CO]
theorem oX {rows:List (List TC)} (h: ∀r∈rows,∀c∈r,∃v,c= .sc v):cN rows=true:=by
 unfold cN;rw[List.all_eq_true];intro r hr;rw[List.all_eq_true];intro c hc;obtain⟨v,rfl⟩:=h r hr c hc
 rfl
@[simp] theorem Un (s:ByteArray):(ByteArray.data s).1.length=s.size:=rfl
@[simp] theorem yZ (l h n:Int):eD l h n=decide (0≤l∧l≤h∧h≤n):=by unfold eD;rfl
end Go.T
namespace Go.T
structure Key where
 b:Int
 a:Int
 k:Int
 c:Int
 g:Int
 deriving DecidableEq
structure JK where
 id:Int
 fr:Int
 deriving DecidableEq
structure Cell where
 g:Int
 u:Bool
 n:Int
 deriving DecidableEq
structure CK where
 name:ByteArray
 Qs:Int
 size:Int
 fx:Bool
structure Mp where
 name:ByteArray
 fx:Bool
 l:List Int
structure Tree where
 ak:List Int
 nodes:List (List (List Key))
structure Su where
 t:Tree
 PK:List JK
 cells:List Cell
 Vd:List CK
 next:Int
structure Oe where
 kind:Int
 name:ByteArray
 to:ByteArray
 a:Int
 b:Int
abbrev iI (n:Int):TC:= .sc (.int .i64 n)
abbrev iB (b:Bool):TC:= .sc (.bool b)
abbrev iS (s:ByteArray):TC:= .sc (.string s)
abbrev cI (n:Int):CE:= .sc (.int .i64 n)
abbrev cB (b:Bool):CE:= .sc (.bool b)
abbrev aB (a b:Int):Int:=I3 .i64 a b
abbrev dX (a b:Int):Int:=CR .i64 a b
abbrev xR (a b:Int):Int:=I5 .i64 a b
theorem aV {a b:Int} (h: -9223372036854775808≤a+b∧a+b≤9223372036854775807):aB a b=a+b:=O2 h
theorem gj {a b:Int} (h: -9223372036854775808≤a-b∧a-b≤9223372036854775807):dX a b=a-b:=O3 h
theorem O6 {a b:Int} (h: -9223372036854775808≤a*b∧a*b≤9223372036854775807):xR a b=a*b:=GF h
abbrev RR:=List (List TC)
abbrev QV:=TV→List TV→Prop
abbrev QX:=TX→TS→Prop
abbrev sI:Sh:= .int .i64
abbrev sB:Sh:= .bool
abbrev hz:Hint:= .z
abbrev hb:Hint→Hint→Hint:= .br
abbrev hr:List Sh→Hint→Hint:= .row
abbrev hc:CJ→List CJ→Hint→Hint:= .call
def bW (n:Int):List TC:=[.sc (.int .i64 n)]
def jP (n:Int):List TC:=[.sc (.int .u8 n)]
def KQ (n:Bool):List TC:=[.sc (.bool n)]
def bE (x:Key):List TC:=[.sc (.int .i64 x.b),.sc (.int .i64 x.a),.sc (.int .i64 x.k),.sc (.int .i64 x.c),.sc (.int .i64 x.g)]
def AD (x:JK):List TC:=[.sc (.int .i64 x.id),.sc (.int .i64 x.fr)]
def tZ (x:Cell):List TC:=[.sc (.int .i64 x.g),.sc (.bool x.u),.sc (.int .i64 x.n)]
def vG (x:CK):List TC:=[.sc (.string x.name),.sc (.int .i64 x.Qs),.sc (.int .i64 x.size),.sc (.bool x.fx)]
def KR (x:Oe):List TC:=[.sc (.int .i64 x.kind),.sc (.string x.name),.sc (.string x.to),.sc (.int .i64 x.a),.sc (.int .i64 x.b)]
def AE (x:Mp):List TC:=[.sc (.string x.name),.sc (.bool x.fx),.sub 1 (x.l.map bW)]
def Nv (x:List Int):List TC:=[.sub 1 (x.map jP)]
def bL (x:List Key):List TC:=[.sub 5 (x.map bE)]
def bk (x:List (List Key)):List TC:=[.sub 1 (x.map bL)]
abbrev KS (t:Tree):List TC:=[.sub 1 (t.ak.map bW),.sub 1 (t.nodes.map bk)]
abbrev vI (n:Int):TV:= .c (.sc (.int .i64 n))
abbrev vB (b:Bool):TV:= .c (.sc (.bool b))
abbrev vS (s:ByteArray):TV:= .c (.sc (.string s))
abbrev DF (l:List Int):TV:= .c (.sub 1 (l.map bW))
abbrev AF (l:List Int):TV:= .c (.sub 1 (l.map jP))
abbrev cG (l:List Key):TV:= .c (.sub 5 (l.map bE))
abbrev Nw (l:List (List (List Key))):TV:= .c (.sub 1 (l.map bk))
abbrev td (k:Key):TV:= .ag [.sc (.int .i64 k.b),.sc (.int .i64 k.a),.sc (.int .i64 k.k),.sc (.int .i64 k.c),.sc (.int .i64 k.g)]
abbrev eF (n:List (List Key)):TV:= .ag [.sub 1 (n.map bL)]
abbrev cS (t:Tree):TV:= .ag (KS t)
section
variable {i : Int}
@[simp] theorem tf {l:List Int} {K:Int→Prop}:(∃n,rowAt (l.map bW) i=some [.sc (.int .i64 n)]∧K n)↔ ∃a,j5 l i=some a∧K a:=by
  rw[bu]
  constructor
  ·rintro⟨n,h,hK⟩
   obtain⟨a,ha,h⟩:=Option.map_eq_some_iff.1 h;unfold bW at h;cases h;exact⟨_,ha,hK⟩
  ·rintro⟨a,ha,hK⟩
   exact⟨_,by rw[ha];rfl,hK⟩
@[simp] theorem Tt {l:List Int} {K:Int→Prop}:(∃n,rowAt (l.map jP) i=some [.sc (.int .u8 n)]∧K n)↔ ∃a,j5 l i=some a∧K a:=by
  rw[bu]
  constructor
  ·rintro⟨n,h,hK⟩
   obtain⟨a,ha,h⟩:=Option.map_eq_some_iff.1 h;unfold jP at h;cases h;exact⟨_,ha,hK⟩
  ·rintro⟨a,ha,hK⟩
   exact⟨_,by rw[ha];rfl,hK⟩
@[simp] theorem Tu {l:List Bool} {K:Bool→Prop}:(∃n,rowAt (l.map KQ) i=some [.sc (.bool n)]∧K n)↔ ∃a,j5 l i=some a∧K a:=by
  rw[bu]
  constructor
  ·rintro⟨n,h,hK⟩
   obtain⟨a,ha,h⟩:=Option.map_eq_some_iff.1 h;unfold KQ at h;cases h;exact⟨_,ha,hK⟩
  ·rintro⟨a,ha,hK⟩
   exact⟨_,by rw[ha];rfl,hK⟩
@[simp] theorem mm {l:List Key} {K:Int→Int→Int→Int→Int→Prop}:(∃b a k c g,rowAt (l.map bE) i=some [.sc (.int .i64 b),.sc (.int .i64 a),.sc (.int .i64 k),.sc (.int .i64 c),.sc (.int .i64 g)]∧K b a k c g)↔ ∃x,j5 l i=some x∧K x.b x.a x.k x.c x.g:=by
  rw[bu]
  constructor
  ·rintro⟨_,_,_,_,_,h,hK⟩
   obtain⟨a,ha,h⟩:=Option.map_eq_some_iff.1 h;unfold bE at h;cases h;exact⟨_,ha,hK⟩
  ·rintro⟨a,ha,hK⟩
   exact⟨_,_,_,_,_,by rw[ha];rfl,hK⟩
@[simp] theorem Uo {l:List JK} {K:Int→Int→Prop}:(∃b a,rowAt (l.map AD) i=some [.sc (.int .i64 b),.sc (.int .i64 a)]∧K b a)↔ ∃x,j5 l i=some x∧K x.id x.fr:=by
  rw[bu]
  constructor
  ·rintro⟨_,_,h,hK⟩
   obtain⟨a,ha,h⟩:=Option.map_eq_some_iff.1 h;unfold AD at h;cases h;exact⟨_,ha,hK⟩
  ·rintro⟨a,ha,hK⟩
   exact⟨_,_,by rw[ha];rfl,hK⟩
@[simp] theorem Tv {l:List Cell} {K:Int→Bool→Int→Prop}:(∃g u n,rowAt (l.map tZ) i=some [.sc (.int .i64 g),.sc (.bool u),.sc (.int .i64 n)]∧K g u n)↔ ∃x,j5 l i=some x∧K x.g x.u x.n:=by
  rw[bu]
  constructor
  ·rintro⟨_,_,_,h,hK⟩
   obtain⟨a,ha,h⟩:=Option.map_eq_some_iff.1 h;unfold tZ at h;cases h;exact⟨_,ha,hK⟩
  ·rintro⟨a,ha,hK⟩
   exact⟨_,_,_,by rw[ha];rfl,hK⟩
@[simp] theorem Up {l:List CK} {K:ByteArray→Int→Int→Bool→Prop}:(∃s a z f,rowAt (l.map vG) i=some [.sc (.string s),.sc (.int .i64 a),.sc (.int .i64 z),.sc (.bool f)]∧K s a z f)↔ ∃x,j5 l i=some x∧K x.name x.Qs x.size x.fx:=by
  rw[bu]
  constructor
  ·rintro⟨_,_,_,_,h,hK⟩
   obtain⟨a,ha,h⟩:=Option.map_eq_some_iff.1 h;unfold vG at h;cases h;exact⟨_,ha,hK⟩
  ·rintro⟨a,ha,hK⟩
   exact⟨_,_,_,_,by rw[ha];rfl,hK⟩
@[simp] theorem Vl {l:List Oe} {K:Int→ByteArray→ByteArray→Int→Int→Prop}:(∃k s t a b,rowAt (l.map KR) i=some [.sc (.int .i64 k),.sc (.string s),.sc (.string t),.sc (.int .i64 a),.sc (.int .i64 b)]∧K k s t a b)↔ ∃x,j5 l i=some x∧K x.kind x.name x.to x.a x.b:=by
  rw[bu]
  constructor
  ·rintro⟨_,_,_,_,_,h,hK⟩
   obtain⟨a,ha,h⟩:=Option.map_eq_some_iff.1 h;unfold KR at h;cases h;exact⟨_,ha,hK⟩
  ·rintro⟨a,ha,hK⟩
   exact⟨_,_,_,_,_,by rw[ha];rfl,hK⟩
@[simp] theorem Uq {l:List Mp} {K:ByteArray→Bool→List (List TC)→Prop}:(∃s f r,rowAt (l.map AE) i=some [.sc (.string s),.sc (.bool f),.sub 1 r]∧K s f r)↔ ∃x,j5 l i=some x∧K x.name x.fx (x.l.map bW):=by
  rw[bu]
  constructor
  ·rintro⟨_,_,_,h,hK⟩
   obtain⟨a,ha,h⟩:=Option.map_eq_some_iff.1 h;unfold AE at h;cases h;exact⟨_,ha,hK⟩
  ·rintro⟨a,ha,hK⟩
   exact⟨_,_,_,by rw[ha];rfl,hK⟩
@[simp] theorem ry {l:List (List Key)} {K:List (List TC)→Prop}:(∃r,rowAt (l.map bL) i=some [.sub 5 r]∧K r)↔ ∃x,j5 l i=some x∧K (x.map bE):=by
  rw[bu]
  constructor
  ·rintro⟨_,h,hK⟩
   obtain⟨a,ha,h⟩:=Option.map_eq_some_iff.1 h;unfold bL at h;cases h;exact⟨_,ha,hK⟩
  ·rintro⟨a,ha,hK⟩
   exact⟨_,by rw[ha];rfl,hK⟩
@[simp] theorem qh {l:List (List (List Key))} {K:List (List TC)→Prop}:(∃r,rowAt (l.map bk) i=some [.sub 1 r]∧K r)↔ ∃x,j5 l i=some x∧K (x.map bL):=by
  rw[bu]
  constructor
  ·rintro⟨_,h,hK⟩
   obtain⟨a,ha,h⟩:=Option.map_eq_some_iff.1 h;unfold bk at h;cases h;exact⟨_,ha,hK⟩
  ·rintro⟨a,ha,hK⟩
   exact⟨_,by rw[ha];rfl,hK⟩
@[simp] theorem Sv {l:List (List Int)} {K:List (List TC)→Prop}:(∃r,rowAt (l.map Nv) i=some [.sub 1 r]∧K r)↔ ∃x,j5 l i=some x∧K (x.map jP):=by
  rw[bu]
  constructor
  ·rintro⟨_,h,hK⟩
   obtain⟨a,ha,h⟩:=Option.map_eq_some_iff.1 h;unfold Nv at h;cases h;exact⟨_,ha,hK⟩
  ·rintro⟨a,ha,hK⟩
   exact⟨_,by rw[ha];rfl,hK⟩
end
@[simp] theorem natAdd (a b:Nat):Nat.add a b=a+b:=rfl
@[simp] theorem KT {α:Type} (a b:List α):List.append a b=a++b:=rfl
theorem gC (l:List Int):cN (l.map bW)=true:=oX fun r hr c hc=>by
 obtain⟨a,_,rfl⟩:=List.mem_map.1 hr;unfold bW at hc;simp only[fk] at hc;exact⟨_,hc⟩
theorem JL (l:List Int):cN (l.map jP)=true:=oX fun r hr c hc=>by
 obtain⟨a,_,rfl⟩:=List.mem_map.1 hr;unfold jP at hc;simp only[fk] at hc;exact⟨_,hc⟩
theorem gD (l:List Key):cN (l.map bE)=true:=oX fun r hr c hc=>by
 obtain⟨a,_,rfl⟩:=List.mem_map.1 hr;unfold bE at hc;simp only[cu,List.not_mem_nil,or_false] at hc;rcases hc with h|h|h|h|h<;>exact⟨_,h⟩
theorem FI (l:List JK):cN (l.map AD)=true:=oX fun r hr c hc=>by
 obtain⟨a,_,rfl⟩:=List.mem_map.1 hr;unfold AD at hc;simp only[cu,List.not_mem_nil,or_false] at hc;rcases hc with h|h<;>exact⟨_,h⟩
theorem JM (l:List Cell):cN (l.map tZ)=true:=oX fun r hr c hc=>by
 obtain⟨a,_,rfl⟩:=List.mem_map.1 hr;unfold tZ at hc;simp only[cu,List.not_mem_nil,or_false] at hc;rcases hc with h|h|h<;>exact⟨_,h⟩
theorem FJ (l:List CK):cN (l.map vG)=true:=oX fun r hr c hc=>by
 obtain⟨a,_,rfl⟩:=List.mem_map.1 hr;unfold vG at hc;simp only[cu,List.not_mem_nil,or_false] at hc;rcases hc with h|h|h|h<;>exact⟨_,h⟩
@[simp] theorem Ur (v:Value):cN [[.sc v]]=true:=oX fun r hr c hc=>by
  simp only[fk] at hr;subst hr;simp only[fk] at hc;exact⟨_,hc⟩
attribute [simp] gC JL gD FI JM FJ
end Go.T
namespace Go.T
theorem FK {α:Type} (g:α→α): ∀(l:List α) (i:Nat) (a:α),l[i]?=some a→l.modify i g=l.set i (g a)
 |[],i,a,h=>by simp at h
 |x::r,0,a,h=>by simp only[cP,bg] at h;subst h;rfl
 |x::r,i+1,a,h=>by
  simp only[mE] at h;rw[List.modify_succ_cons,List.set_cons_succ,FK g r i a h]
theorem bI {α:Type} {e:α→List TC} {l:List α} {i:Int} {f:Nat} {cs:List TC} {g:α→α} (he: ∀a,(e a).take f++cs++(e a).drop (f+cs.length)=e (g a)):setRow (l.map e) i f cs=(l.modify i.toNat g).map e:=by
 unfold setRow;rw[gm]
 cases h:l[i.toNat]? with
 |none=>
  have:l.length≤i.toNat:=List.getElem?_eq_none_iff.1 h;simp only[Option.map_none];rw[List.modify_eq_self this]
 |some a=>
  simp only[ic];rw[he,FK g l _ a h,List.map_set]
@[simp] theorem Sw {l:List Key} {i:Int} {v:Int}:setRow (l.map bE) i 0 [.sc (.int .i64 v)]=(l.modify i.toNat fun x=>{x with b:=v}).map bE:=bI fun a=>rfl
@[simp] theorem Sx {l:List Key} {i:Int} {v:Int}:setRow (l.map bE) i 1 [.sc (.int .i64 v)]=(l.modify i.toNat fun x=>{x with a:=v}).map bE:=bI fun a=>rfl
@[simp] theorem Sy {l:List Key} {i:Int} {v:Int}:setRow (l.map bE) i 2 [.sc (.int .i64 v)]=(l.modify i.toNat fun x=>{x with k:=v}).map bE:=bI fun a=>rfl
@[simp] theorem Sz {l:List Key} {i:Int} {v:Int}:setRow (l.map bE) i 3 [.sc (.int .i64 v)]=(l.modify i.toNat fun x=>{x with c:=v}).map bE:=bI fun a=>rfl
@[simp] theorem SA {l:List Key} {i:Int} {v:Int}:setRow (l.map bE) i 4 [.sc (.int .i64 v)]=(l.modify i.toNat fun x=>{x with g:=v}).map bE:=bI fun a=>rfl
@[simp] theorem Us {l:List Key} {i:Int} {v0:Int} {v1:Int} {v2:Int} {v3:Int} {v4:Int}:setRow (l.map bE) i 0 [.sc (.int .i64 v0),.sc (.int .i64 v1),.sc (.int .i64 v2),.sc (.int .i64 v3),.sc (.int .i64 v4)]=(l.modify i.toNat fun _=>⟨v0,v1,v2,v3,v4⟩).map bE:=bI fun a=>rfl
@[simp] theorem RP {l:List JK} {i:Int} {v:Int}:setRow (l.map AD) i 0 [.sc (.int .i64 v)]=(l.modify i.toNat fun x=>{x with id:=v}).map AD:=bI fun a=>rfl
@[simp] theorem RQ {l:List JK} {i:Int} {v:Int}:setRow (l.map AD) i 1 [.sc (.int .i64 v)]=(l.modify i.toNat fun x=>{x with fr:=v}).map AD:=bI fun a=>rfl
@[simp] theorem Ut {l:List JK} {i:Int} {v0:Int} {v1:Int}:setRow (l.map AD) i 0 [.sc (.int .i64 v0),.sc (.int .i64 v1)]=(l.modify i.toNat fun _=>⟨v0,v1⟩).map AD:=bI fun a=>rfl
@[simp] theorem RS {l:List Cell} {i:Int} {v:Int}:setRow (l.map tZ) i 0 [.sc (.int .i64 v)]=(l.modify i.toNat fun x=>{x with g:=v}).map tZ:=bI fun a=>rfl
@[simp] theorem RT {l:List Cell} {i:Int} {v:Bool}:setRow (l.map tZ) i 1 [.sc (.bool v)]=(l.modify i.toNat fun x=>{x with u:=v}).map tZ:=bI fun a=>rfl
@[simp] theorem RU {l:List Cell} {i:Int} {v:Int}:setRow (l.map tZ) i 2 [.sc (.int .i64 v)]=(l.modify i.toNat fun x=>{x with n:=v}).map tZ:=bI fun a=>rfl
@[simp] theorem Tw {l:List Cell} {i:Int} {v0:Int} {v1:Bool} {v2:Int}:setRow (l.map tZ) i 0 [.sc (.int .i64 v0),.sc (.bool v1),.sc (.int .i64 v2)]=(l.modify i.toNat fun _=>⟨v0,v1,v2⟩).map tZ:=bI fun a=>rfl
@[simp] theorem P0 {l:List CK} {i:Int} {v:ByteArray}:setRow (l.map vG) i 0 [.sc (.string v)]=(l.modify i.toNat fun x=>{x with name:=v}).map vG:=bI fun a=>rfl
@[simp] theorem Ra {l:List CK} {i:Int} {v:Int}:setRow (l.map vG) i 1 [.sc (.int .i64 v)]=(l.modify i.toNat fun x=>{x with Qs:=v}).map vG:=bI fun a=>rfl
@[simp] theorem P1 {l:List CK} {i:Int} {v:Int}:setRow (l.map vG) i 2 [.sc (.int .i64 v)]=(l.modify i.toNat fun x=>{x with size:=v}).map vG:=bI fun a=>rfl
@[simp] theorem RV {l:List CK} {i:Int} {v:Bool}:setRow (l.map vG) i 3 [.sc (.bool v)]=(l.modify i.toNat fun x=>{x with fx:=v}).map vG:=bI fun a=>rfl
@[simp] theorem Uu {l:List CK} {i:Int} {v0:ByteArray} {v1:Int} {v2:Int} {v3:Bool}:setRow (l.map vG) i 0 [.sc (.string v0),.sc (.int .i64 v1),.sc (.int .i64 v2),.sc (.bool v3)]=(l.modify i.toNat fun _=>⟨v0,v1,v2,v3⟩).map vG:=bI fun a=>rfl
@[simp] theorem Rb {l:List Oe} {i:Int} {v:Int}:setRow (l.map KR) i 0 [.sc (.int .i64 v)]=(l.modify i.toNat fun x=>{x with kind:=v}).map KR:=bI fun a=>rfl
@[simp] theorem Rc {l:List Oe} {i:Int} {v:ByteArray}:setRow (l.map KR) i 1 [.sc (.string v)]=(l.modify i.toNat fun x=>{x with name:=v}).map KR:=bI fun a=>rfl
@[simp] theorem SB {l:List Oe} {i:Int} {v:ByteArray}:setRow (l.map KR) i 2 [.sc (.string v)]=(l.modify i.toNat fun x=>{x with to:=v}).map KR:=bI fun a=>rfl
@[simp] theorem Tx {l:List Oe} {i:Int} {v:Int}:setRow (l.map KR) i 3 [.sc (.int .i64 v)]=(l.modify i.toNat fun x=>{x with a:=v}).map KR:=bI fun a=>rfl
@[simp] theorem Ty {l:List Oe} {i:Int} {v:Int}:setRow (l.map KR) i 4 [.sc (.int .i64 v)]=(l.modify i.toNat fun x=>{x with b:=v}).map KR:=bI fun a=>rfl
@[simp] theorem Vm {l:List Oe} {i:Int} {v0:Int} {v1:ByteArray} {v2:ByteArray} {v3:Int} {v4:Int}:setRow (l.map KR) i 0 [.sc (.int .i64 v0),.sc (.string v1),.sc (.string v2),.sc (.int .i64 v3),.sc (.int .i64 v4)]=(l.modify i.toNat fun _=>⟨v0,v1,v2,v3,v4⟩).map KR:=bI fun a=>rfl
@[simp] theorem P2 {l:List Mp} {i:Int} {v:ByteArray}:setRow (l.map AE) i 0 [.sc (.string v)]=(l.modify i.toNat fun x=>{x with name:=v}).map AE:=bI fun a=>rfl
@[simp] theorem RW {l:List Mp} {i:Int} {v:Bool}:setRow (l.map AE) i 1 [.sc (.bool v)]=(l.modify i.toNat fun x=>{x with fx:=v}).map AE:=bI fun a=>rfl
@[simp] theorem SC {l:List Mp} {i:Int} {v:List Int}:setRow (l.map AE) i 2 [.sub 1 (v.map bW)]=(l.modify i.toNat fun x=>{x with l:=v}).map AE:=bI fun a=>rfl
@[simp] theorem Uv {l:List Mp} {i:Int} {v0:ByteArray} {v1:Bool} {v2:List Int}:setRow (l.map AE) i 0 [.sc (.string v0),.sc (.bool v1),.sub 1 (v2.map bW)]=(l.modify i.toNat fun _=>⟨v0,v1,v2⟩).map AE:=bI fun a=>rfl
@[simp] theorem Uw {l:List (Int)} {i:Int} {v:Int}:setRow (l.map bW) i 0 [.sc (.int .i64 v)]=(l.modify i.toNat fun _=>v).map bW:=bI fun a=>rfl
@[simp] theorem Tz {l:List (Int)} {i:Int} {v:Int}:setRow (l.map jP) i 0 [.sc (.int .u8 v)]=(l.modify i.toNat fun _=>v).map jP:=bI fun a=>rfl
@[simp] theorem TA {l:List (Bool)} {i:Int} {v:Bool}:setRow (l.map KQ) i 0 [.sc (.bool v)]=(l.modify i.toNat fun _=>v).map KQ:=bI fun a=>rfl
@[simp] theorem Ux {l:List (List Key)} {i:Int} {v:List Key}:setRow (l.map bL) i 0 [.sub 5 (v.map bE)]=(l.modify i.toNat fun _=>v).map bL:=bI fun a=>rfl
@[simp] theorem TB {l:List (List (List Key))} {i:Int} {v:List (List Key)}:setRow (l.map bk) i 0 [.sub 1 (v.map bL)]=(l.modify i.toNat fun _=>v).map bk:=bI fun a=>rfl
end Go.T
namespace Go.T
theorem cE {α:Type} (l:List α) (P:Nat→Prop) (fin:P l.length) (step: ∀i a,i<l.length→l[i]?=some a→l.drop i=a::l.drop (i+1)→l.take (i+1)=l.take i++[a]→P (i+1)→P i):P 0:=by
 have: ∀k i,i+k=l.length→P i:=by
  intro k
  induction k with
  |zero=>intro i h;have:i=l.length:=by omega
         subst this;exact fin
  |succ k ih=>
   intro i h
   have hi:i<l.length:=by omega
   refine step i l[i] hi (aX hi) (ve hi) ?_ (ih (i+1) az);rw[List.take_add_one,aX hi];rfl
 exact this l.length 0 az
def tot {α:Type} (w:α→Nat):List α→Nat
 |[]=>0
 |a::r=>w a+tot w r
theorem qi {α:Type} {w:α→Nat}: ∀{l:List α} {a:α},a∈l→w a≤tot w l
 |[],_,h=>by cases h
 |b::r,a,h=>by
  simp only[tot];rcases cu.1 h with rfl|h
  ·omega
  ·have:=qi (w:=w) h;omega
theorem fI {α:Type} {w:α→Nat} {l:List α} {i:Nat} {a:α} (h:l[i]?=some a):w a≤tot w l:=qi (ee h)
def bF (s:List Key):Nat:=s.length
def aE (n:List (List Key)):Nat:=n.length+tot bF n
def qj (n:List (List (List Key))):Nat:=n.length+tot aE n
def dy (t:Tree):Nat:=t.ak.length+qj t.nodes
end Go.T
namespace Go.T
section
variable {C : hD} {f : FuncId} {vs : List TV}
theorem AG {x b:Bool} (h:ax C f vs (vB x) []):ax C f vs (vB b) []↔b=x:=⟨fun h'=>by have:=(h.Um h').1;simpa using this,fun e=>e▸h⟩
theorem Re {x b:Int} (h:ax C f vs (vI x) []):ax C f vs (vI b) []↔b=x:=⟨fun h'=>by have:=(h.Um h').1;simpa using this,fun e=>e▸h⟩
theorem LL {z:Nat} {x b:RR} (h:ax C f vs (.c (.sub z x)) []):ax C f vs (.c (.sub z b)) []↔b=x:=⟨fun h'=>by have:=(h.Um h').1;simpa using this,fun e=>e▸h⟩
end
def y5 (a lo hi:Int):Bool:=decide (lo≤a∧a≤hi)
def cv (x:Key):Bool:=y5 x.b 0 15&&y5 x.a 1 60&&y5 x.k 0 2&&(if x.k=1 then y5 x.c 0 23&&y5 x.g 0 999 else decide (x.c=0)&&decide (x.g=0))
def bZ (x y:Key):Bool:=decide (x.b<y.b∨(x.b=y.b∧x.a<y.a))
def eP (x y:Key):Bool:=decide (x.b=y.b∧x.a=y.a)
def gv (n:Nat) (f:Nat→Bool):Bool:=(List.range' 0 n).all f
theorem xS {i n:Nat} (h:i<n):List.range' i (n-i)=i::List.range' (i+1) (n-(i+1)):=by
 obtain⟨k,hk⟩: ∃k,n-i=k+1:=⟨n-i-1,by omega⟩;rw[hk,show n-(i+1)=k by omega]
 rfl
theorem DG (n:Nat) (P:Nat→Prop) (fin:P n) (step: ∀i,i<n→P (i+1)→P i):P 0:=by
 have: ∀k i,i+k=n→P i:=by
  intro k
  induction k with
  |zero=>intro i h;have:i=n:=by omega
         subst this;exact fin
  |succ k ih=>intro i h;exact step i az (ih (i+1) az)
 exact this n 0 az
theorem KU {α:Type} (f g:α→Bool): ∀l:List α,l.all (fun x=>f x&&g x)=(l.all f&&l.all g)
 |[]=>rfl
 |a::r=>by simp only[oJ,KU f g r];cases f a<;>cases g a<;>simp
theorem Nx (n:Nat) (f g:Nat→Bool):gv n (fun i=>f i&&g i)=(gv n f&&gv n g):=KU f g _
theorem vH {n:Nat} {f:Nat→Bool}:gv n f=true↔ ∀i,i<n→f i=true:=by
 unfold gv;rw[List.all_eq_true]
 constructor
 ·intro h i hi;exact h i (by simp[List.mem_range'];exact hi)
 ·intro h i hi
  simp[List.mem_range'] at hi;exact h i hi
def RX {α:Type} (l:List α) (f:α→Bool) (i:Nat):Bool:=match l[i]? with|some a=>f a|none=>true
def fX {α:Type} (l:List α) (f:α→α→Bool):Nat→Bool
 |0=>true
 |k+1=>match l[k]?,l[k+1]? with|some x,some y=>f x y|_,_=>true
theorem O7 {α:Type} (l:List α) (f:α→Bool):gv l.length (RX l f)=l.all f:=by
 rw[Bool.eq_iff_iff,vH,List.all_eq_true]
 constructor
 ·intro h a ha
  obtain⟨i,hi,rfl⟩:=List.getElem_of_mem ha;have:=h i hi;simpa [RX,hi] using this
 ·intro h i hi
  simp only[RX,aX hi];exact h _ (oK hi)
def hJ (l:List Key) (i:Nat):Bool:=RX l cv i&&fX l bZ i
def ua (l:List Key):Bool:=gv l.length (hJ l)&&decide (l.length≤60)
theorem y6 (l:List Key):ua l=(l.all cv&&(gv l.length (fX l bZ)&&decide (l.length≤60))):=by
 rw[←Bool.and_assoc,←O7,←Nx];rfl
def di:Key:=⟨0,0,0,0,0⟩
def setAt (l:List Key) (b a:Int):Option Key:=l.find? fun x=>decide (x.b=b∧x.a=a)
def cM (k:Key):Bool→List Key→List Key
 |put,[]=>if put then [] else [k]
 |put,x::r=>(if !put&& !bZ x k then [k] else [])++(if eP x k then [] else [x])++cM k (put|| !bZ x k) r
def bU (l:List Key) (k:Key):List Key:=cM k false l
theorem Bu (k:Key): ∀(l:List Key) (put:Bool),(cM k put l).length≤l.length+(if put then 0 else 1)
 |[],put=>by simp only[cM];split<;>simp
 |x::r,put=>by
  have:=Bu k r (put|| !bZ x k);simp only[cM,cW,e7]
  have h1:(if eP x k then([]:List Key) else [x]).length≤1:=by split<;>simp
  revert h1
  generalize (if eP x k then([]:List Key) else [x])=m;intro h1
  cases put<;>cases hk:bZ x k<;>simp[hk] at this ⊢ <;>omega
theorem gY (l:List Key) (k:Key):(bU l k).length≤l.length+1:=by have:=Bu k l false;simpa [bU] using this
def bG (old new:List Key):List Key:=new.foldl bU old
theorem m9: ∀(new old:List Key),(bG old new).length≤old.length+new.length
 |[],old=>by simp[bG]
 |x::r,old=>by
  have:=m9 r (bU old x);have h2:=gY old x;simp only[bG,List.foldl_cons,e7] at this ⊢;omega
def fH (l:List Key):List Key:=l.filter fun k=> !decide (k.k=0)
def lO (n:List (List Key)):List Key:=n.foldl bG []
def aq (n:List (List Key)):List Key:=fH (lO n)
theorem uc: ∀(n:List (List Key)) (a:List Key),(n.foldl bG a).length≤a.length+tot bF n
 |[],a=>by simp[tot]
 |s::r,a=>by
  have:=uc r (bG a s);have h2:=m9 s a;simp only[List.foldl_cons,tot,bF] at this ⊢;omega
theorem bV (n:List (List Key)):(aq n).length≤tot bF n:=by
 have h1:=uc n [];have h2:=Kb (fun k:Key=> !decide (k.k=0)) (lO n);simp only[List.length_nil,ia] at h1;exact nS h2 h1
def bP (n:List (List Key)):Nat:=tot bF n
def cV (n:List (List Key)):Bool:=n.all (fun s=>ua s&& !decide (s.length=0))&&decide (n.length≤3)&&decide (bP n≤8)
def bD (l:List Key):List (List Key):=if l.length=0 then [] else [l]
def av (t:Tree):List Key:=t.nodes.flatMap aq
theorem y7: ∀(l:List (List (List Key))),(l.flatMap aq).length≤tot aE l
 |[]=>by simp[tot]
 |n::r=>by
  have:=y7 r;have h2:=bV n;simp only[List.flatMap_cons,cW,tot,aE];omega
theorem tg (t:Tree):(av t).length≤dy t:=by
 have:=y7 t.nodes;unfold av dy qj;omega
def Rf (t:Tree) (b:Int):List Key:=(av t).filter fun k=>decide (k.b=b)
def bJ (b a:Int):Int:=aB (xR 64 b) a
def SD {α:Type} (p:α→Bool):List α→Int→Int
 |[],_=> -1
 |a::r,i=>if p a then i else SD p r (i+1)
def P3 (l:List JK) (id:Int):Int:=SD (fun a=>decide (a.id=id)) l 0
def P4 (l:List JK):Nat→Int→List Int
 |0,_=>[]
 |n+1,id=>if P3 l id<0 then [] else id::(match j5 l (P3 l id) with|some a=>P4 l n a.fr|none=>[])
def pathOf (l:List JK) (id:Int):List Int:=P4 l (l.length+1) id
def Uy (l:List Int) (n:Int):Bool:=l.any fun a=>decide (a=n)
def SE (path:List Int):Key×Bool→Key→Key×Bool:=fun p k=>if Uy path k.a&&(!p.2||decide (p.1.a<k.a)) then(k,true) else p
def near (keys:List Key) (path:List Int):Key×Bool:=keys.foldl (SE path) (di,false)
def KV (t:Tree) (l:List JK) (b id:Int):Key×Bool:=near (Rf t b) (pathOf l id)
abbrev Ny (p:Key×Bool):TV:= .tu [(1,[iI p.1.b,iI p.1.a,iI p.1.k,iI p.1.c,iI p.1.g]),(0,[iB p.2])]
def cellAt (l:List Cell) (i gen:Int):Int×Bool:=match j5 l i with
 |none=>(0,false)
 |some c=>if c.u=true∧c.g=gen then(c.n,true) else(0,false)
@[simp] theorem wO {l:List Key} {b a k c g:Int}:List.append (l.map bE) [[iI b,iI a,iI k,iI c,iI g]]=(l++[(⟨b,a,k,c,g⟩:Key)]).map bE:=by simp[bE]
@[simp] theorem TD {l:List Int} {b:Int}:List.append (l.map bW) [[iI b]]=(l++[b]).map bW:=by simp[bW]
@[simp] theorem SF {l:List Int} {b:Int}:List.append (l.map jP) [[.sc (.int .u8 b)]]=(l++[b]).map jP:=by simp[jP]
@[simp] theorem TF {l:List JK} {b a:Int}:List.append (l.map AD) [[iI b,iI a]]=(l++[(⟨b,a⟩:JK)]).map AD:=by simp[AD]
@[simp] theorem TG {l:List CK} {s:ByteArray} {b a:Int} {q:Bool}:List.append (l.map vG) [[iS s,iI b,iI a,iB q]]=(l++[(⟨s,b,a,q⟩:CK)]).map vG:=by simp[vG]
@[simp] theorem TH {l:List (List Key)} {s:List Key}:List.append (l.map bL) [[.sub 5 (s.map bE)]]=(l++[s]).map bL:=by simp[bL]
@[simp] theorem y8 {l:List (List (List Key))} {s:List (List Key)}:List.append (l.map bk) [[.sub 1 (s.map bL)]]=(l++[s]).map bk:=by simp[bk]
@[simp] theorem TJ {l:List Mp} {s:ByteArray} {f:Bool} {r:List Int}:List.append (l.map AE) [[iS s,iB f,.sub 1 (r.map bW)]]=(l++[(⟨s,f,r⟩:Mp)]).map AE:=by simp[AE]
@[simp] theorem fY {α:Type} {e:α→List TC} {l m:List α}:List.append (l.map e) (m.map e)=(l++m).map e:=by simp
@[simp] theorem SG:([]:RR)=([]:List Key).map bE↔True:=by simp
@[simp] theorem fc {α:Type} (l:List α):Nat.succ (List.length l)=l.length+1:=rfl
theorem lH (b a k c g:Int):cN [[iI b,iI a,iI k,iI c,iI g]]=true:=gD [⟨b,a,k,c,g⟩]
theorem JN (b a:Int):cN [[iI b,iI a]]=true:=FI [⟨b,a⟩]
theorem JO (s:ByteArray) (b a:Int) (q:Bool):cN [[iS s,iI b,iI a,iB q]]=true:=FJ [⟨s,b,a,q⟩]
attribute [simp] lH JN JO
@[simp] theorem fJ (k:Key):(⟨k.b,k.a,k.k,k.c,k.g⟩:Key)=k:=rfl
@[simp] theorem j6 (k:JK):(⟨k.id,k.fr⟩:JK)=k:=rfl
@[simp] theorem iu (k:Cell):(⟨k.g,k.u,k.n⟩:Cell)=k:=rfl
@[simp] theorem j7 (k:CK):(⟨k.name,k.Qs,k.size,k.fx⟩:CK)=k:=rfl
@[simp] theorem j8 (k:Mp):(⟨k.name,k.fx,k.l⟩:Mp)=k:=rfl
@[simp] theorem mV (k:Oe):(⟨k.kind,k.name,k.to,k.a,k.b⟩:Oe)=k:=rfl
theorem cY {n b:Nat} (h:n*b≤140737488355328∧n≤140737488355328):fits n b=true:=by rw[O1];exact yu h
end Go.T
namespace Go.T
def bY (s:List Key):Bool:=ua s&& !decide (s.length=0)
theorem FL (n:List (List Key)):cV n=(n.all bY&&(decide (n.length≤3)&&decide (bP n≤8))):=by
 unfold cV;rw[Bool.and_assoc];rfl
def xT (ak:List Int) (i:Nat) (x:Int):Bool:=match ak[i]? with
 |some lo=> !decide (x<lo)&&(match ak[i+1]? with|some hi=>decide (x<hi)|none=>true)
 |none=>true
def dS (ak:List Int) (i:Nat) (k:Key):Bool:=xT ak i (bJ k.b k.a)
def bH (ak:List Int) (i:Nat) (s:List Key):Bool:=s.all (dS ak i)
def bM (t:Tree) (i:Nat):Bool:=fX t.ak (fun x y=>decide (x<y)) i&&(match t.nodes[i]? with
 |some n=>cV n&&((decide (i=0)|| !decide ((aq n).length=0))&&n.all (bH t.ak i))
 |none=>true)
def cw (t:Tree):Bool:=y5 t.nodes.length 1 20&&(decide (t.ak.length=t.nodes.length)&&((match t.ak[0]? with|some x=>decide (x=0)|none=>true)&&(gv t.nodes.length (bM t)&&decide ((av t).length≤60))))
def O8 (p:Su) (i b:Int):Int:=match j5 p.Vd i with
 |none=>0
 |some v=>if 0≤b∧b<v.size then(if(KV p.t p.PK b v.Qs).2=true∧(KV p.t p.PK b v.Qs).1.k=1 then(cellAt p.cells (KV p.t p.PK b v.Qs).1.c (KV p.t p.PK b v.Qs).1.g).1 else 0) else 0
end Go.T
namespace Go.T
def blocks (p:Su) (i:Nat) (k:Nat):List Int:=(List.range k).map fun b:Nat=>O8 p i b
def th (l:List Key) (b a:Int):Key×Bool:=match setAt l b a with|some k=>(k,true)|none=>(di,false)
def kP (n:List (List Key)) (b a:Int):Nat→Key×Bool
 |0=>(di,false)
 |k+1=>match n[k]? with
  |some s=>if(th s b a).2=true then(if(th s b a).1.k=0 then(di,false) else th s b a) else kP n b a k
  |none=>(di,false)
def jt (f:Int→Bool) (l:List Int):Nat→Int
 |0=> -1
 |k+1=>match l[k]? with
  |some x=>if f x=true then(k:Int) else jt f l k
  |none=> -1
def eo (t:Tree) (b a:Int):Int:=jt (fun x=>decide (x≤bJ b a)) t.ak t.ak.length
def mW (t:Tree) (b a:Int):Key×Bool:=match j5 t.nodes (eo t b a) with
 |some n=>kP n b a n.length
 |none=>(di,false)
end Go.T
namespace Go.T
end Go.T
namespace Go.T
theorem Nz (x:Int):0≤vi .and .i64 x 255∧vi .and .i64 x 255≤255:=by
 have h:vi .and .i64 x 255=Go.IntKind.i64.wrap (((BitVec.ofInt 64 x&&&BitVec.ofInt 64 255).toNat:Nat):Int):=by unfold vi;rfl
 have hle:(BitVec.ofInt 64 x&&&BitVec.ofInt 64 255).toNat≤255:=by
  rw[BitVec.toNat_and];exact nS Nat.and_le_right (by decide)
 rw[h,Go.IntKind.wrap_i64];omega
abbrev Uz (b:List Int) (i h:Int):List TC:=[.sub 1 (b.map jP),.sc (.int .i64 i),.sc (.int .i64 h)]
abbrev Ez (b:List Int) (i h:Int):TV:= .bx (Uz b i h)
def Dr (b:List Int) (P:TV→Prop) (r:TV) (fs:List TV):Prop:= ∃i h,0≤i∧fs=[Ez b i h]∧P r
theorem Iv {x n:Int} (h0:0≤x) (hn:0<n):0≤x.tmod n∧x.tmod n<n:=⟨Int.tmod_nonneg _ h0,Int.tmod_lt_of_pos _ hn⟩
end Go.T
namespace Go.T
def P5 (v u:CK):Bool:=Ht u.name v.name||I2 u.name v.name
theorem Iw: ∀(x y z:List UInt8),Op.bytesLess x y=true→Op.bytesLess y z=true→Op.bytesLess x z=true
 |x,y,[],_,h=>by cases y<;>simp[Op.bytesLess] at h
 |x,[],c::z,h,_=>by cases x<;>simp[Op.bytesLess] at h
 |[],_::_,_::_,_,_=>by simp[Op.bytesLess]
 |a::x,b::y,c::z,h1,h2=>by
  simp only[Op.bytesLess,Bool.or_eq_true,dg,decide_eq_true_eq,beq_iff_eq] at h1 h2 ⊢;rcases h1 with h1|⟨rfl,h1⟩
  ·rcases h2 with h2|⟨rfl,h2⟩
   ·exact .inl (UInt8.lt_trans h1 h2)
   ·exact .inl h1
  ·rcases h2 with h2|⟨rfl,h2⟩
   ·exact .inl h2
   ·exact .inr ⟨rfl,Iw x y z h1 h2⟩
theorem FM {a b c:ByteArray} (h1:Ht a b=true) (h2:Ht b c=true):Ht a c=true:=by
 unfold Ht at*;exact Iw _ _ _ h1 h2
def vJ:List CK→Prop
 |[]=>True
 |[_]=>True
 |a::b::r=>Ht a.name b.name=true∧vJ (b::r)
theorem NA {v a b:CK} (h:Ht a.name b.name=true) (hb:P5 v b=true):P5 v a=true:=by
 unfold P5 at*;rw[Bool.or_eq_true] at*;rcases hb with hb|hb
 ·exact .inl (FM h hb)
 ·have:b.name.toList=v.name.toList:=by
   unfold I2 at hb;exact eq_of_beq hb
  unfold Ht at h ⊢;rw[←this];exact .inl h
theorem vJ.tail {a:CK} {l:List CK} (h:vJ (a::l)):vJ l:=by
 cases l with
 |nil=>trivial
 |cons b r=>exact h.2
theorem vJ.cut {v:CK}: ∀{l:List CK} {k:Nat},vJ l→k≤l.length→(∀u∈l.drop k,P5 v u=false)→(∀u,0<k→l[k-1]?=some u→P5 v u=true)→(l.takeWhile (P5 v)).length=k
 |[],k,_,hk,_,_=>by simp at hk;simp[hk]
 |a::l,0,_,_,h1,_=>by
  have:=h1 a (.head _);simp[this]
 |a::l,k+1,hr,hk,h1,h2=>by
  have ih:=vJ.cut (v:=v) (l:=l) (k:=k) hr.tail (by simpa using hk) (fun u hu=>h1 u (by simpa using hu)) fun u h0 hu=>by
   obtain⟨j,rfl⟩: ∃j,k=j+1:=⟨k-1,by omega⟩;exact h2 u az (by simpa using hu)
  have ha:P5 v a=true:=by
   cases k with
   |zero=>exact h2 a az rfl
   |succ k=>
    cases l with
    |nil=>simp at hk
    |cons b r=>
     refine NA hr.1 ?_;rw[List.takeWhile_cons] at ih
     cases hb:P5 v b with
     |true=>rfl
     |false=>rw[hb] at ih;simp at ih
  rw[List.takeWhile_cons,aZ ha,e7,ih]
theorem vJ.modify {f:CK→CK} (hf: ∀u,(f u).name=u.name): ∀{l:List CK} (i:Nat),vJ l→vJ (l.modify i f)
 |[],i,h=>by cases i<;>exact h
 |[a],0,_=>trivial
 |[a],i+1,_=>by cases i<;>trivial
 |a::b::r,0,h=>by
  show vJ (f a::b::r);exact⟨by rw[hf];exact h.1,h.2⟩
 |a::b::r,1,h=>by
  show vJ (a::f b::r);refine⟨by rw[hf];exact h.1,?_⟩;exact vJ.modify hf (l:=b::r) 0 h.2
 |a::b::r,i+2,h=>⟨h.1,vJ.modify hf (l:=b::r) (i+1) h.2⟩
end Go.T
namespace Go.T
def VP (m u:Mp):Bool:= !(Ht u.name m.name||I2 u.name m.name)
def O9 (l:List Mp) (m:Mp):Nat→Nat
 |0=>0
 |k+1=>match l[k]? with
  |some u=>if VP m u=true then O9 l m k else k+1
  |none=>k+1
theorem KW (l:List Mp) (m:Mp): ∀k,O9 l m k≤k
 |0=>cq _
 |k+1=>by
  unfold O9
  split
  ·split
   ·exact Nat.le_succ_of_le (KW l m k)
   ·exact cq _
  ·exact cq _
def NC {α:Type} (l:List α) (k:Nat) (x:α):List α:=l.take k++x::l.drop k
def ND (l:List Mp) (m:Mp):List Mp:=NC l (O9 l m l.length) m
theorem NF (l:List Mp) (m:Mp):(ND l m).length=l.length+1:=by
 have:=KW l m l.length;unfold ND NC;rw[cW,e7,eM,iF];omega
theorem NG {l:List Mp} {m x:Mp} (h:x∈ND l m):x∈l∨x=m:=by
 unfold ND NC at h;rcases List.mem_append.1 h with h|h
 ·exact .inl (rI h)
 ·rcases cu.1 h with h|h
  ·exact .inr h
  ·exact .inl (vh h)
def GH (l l':List Mp):Prop:=l'.length≤l.length+1∧ ∀B:Nat,12≤B→(∀x∈l,x.l.length≤B)→ ∀x∈l',x.l.length≤B
theorem GH.refl (l:List Mp):GH l l:=⟨Nat.le_succ _,fun _ _ h=>h⟩
theorem GH.put {l:List Mp} {m:Mp} (h: ∀B:Nat,12≤B→(∀x∈l,x.l.length≤B)→m.l.length≤B):GH l (ND l m):=
 ⟨Nat.le_of_eq (NF l m),fun B hB hl x hx=>(NG hx).elim (hl x) fun e=>by rw[e];exact h B hB hl⟩
end Go.T
namespace Go.T
abbrev LM (x:List (List Key)×Bool):TV:= .tu [(1,[.sub 1 (x.1.map bL)]),(0,[iB x.2])]
def xU (s:List Key) (k:Key):Bool:=(th s k.b k.a).2||decide (s.length<4)
def eu (n:List (List Key)) (k:Key):List (List Key):=match n[n.length-1]? with
 |none=>n++[[k]]
 |some s=>if xU s k=true then n.set (n.length-1) (bU s k) else n++[[k]]
def bB (n:List (List Key)) (k:Key):List Key:=fH (bU (aq n) k)
def bA (n:List (List Key)) (k:Key):List (List Key)×Bool:=
 if cV (eu n k)=true then(eu n k,true) else if 8<(bB n k).length then(n,false) else if cV (bD (bB n k))=true then(bD (bB n k),true) else(n,false)
theorem iP (n:List (List Key)) (k:Key):(bB n k).length≤tot bF n+1:=by
 have h1:=bV n;have h2:=gY (aq n) k;have h3:(bB n k).length≤(bU (aq n) k).length:=Kb _ _;omega
theorem Ix {α:Type} (w:α→Nat) (l:List α) (a:α):tot w (l++[a])=tot w l+w a:=by
 induction l with
 |nil=>simp[tot]
 |cons b r ih=>simp only[w4,tot,ih];omega
theorem Iy {α:Type} (w:α→Nat) (c:Nat): ∀(l:List α) (i:Nat) (a a':α),l[i]?=some a→w a'≤w a+c→tot w (l.set i a')≤tot w l+c
 |[],i,a,a',h,_=>by simp at h
 |b::r,0,a,a',h,hw=>by
  simp only[cP,bg] at h;subst h;simp only[List.set_cons_zero,tot];omega
 |b::r,i+1,a,a',h,hw=>by
  have:=Iy w c r i a a' (by simpa using h) hw;simp only[List.set_cons_succ,tot];omega
theorem xV (n:List (List Key)) (k:Key):(eu n k).length≤n.length+1:=by
 unfold eu
 split
 ·rw[cW];simp
 ·split
  ·rw[List.length_set];omega
  ·rw[cW];simp
theorem xW (n:List (List Key)) (k:Key):tot bF (eu n k)≤tot bF n+1:=by
 unfold eu
 split
 ·rw[Ix];exact cq _
 ·rename_i s hs
  split
  ·exact Iy bF 1 _ _ s _ hs (by have:=gY s k;unfold bF;omega)
  ·rw[Ix];exact cq _
theorem qk (l:List Key):(bD l).length≤1:=by
 unfold bD
 split<;>simp
theorem ql (l:List Key):tot bF (bD l)≤l.length:=by
 unfold bD
 split
 ·simp[tot]
 ·simp[tot,bF]
theorem vK (n:List (List Key)) (k:Key):(bA n k).1.length≤n.length+1:=by
 have h1:=xV n k;have h2:=qk (bB n k);unfold bA
 repeat' split
 all_goals simp only[];omega
theorem vL (n:List (List Key)) (k:Key):tot bF (bA n k).1≤tot bF n+1:=by
 have h1:=xW n k;have h2:=ql (bB n k);have h3:=iP n k;unfold bA
 repeat' split
 all_goals simp only[];omega
end Go.T
namespace Go.T
def lS (x y:Key):Prop:=x.b<y.b∨(x.b=y.b∧x.a<y.a)
theorem lS.trans {x y z:Key} (h1:lS x y) (h2:lS y z):lS x z:=by unfold lS at*;omega
theorem lP {x y:Key}:bZ x y=true↔lS x y:=by unfold bZ lS;simp
theorem mo {x y:Key}:eP x y=true↔x.b=y.b∧x.a=y.a:=by unfold eP;simp
theorem y9 {k y:Key}: ∀{l:List Key},y∈cM k true l→y∈l
 |[],h=>by simp[cM] at h
 |x::r,h=>by
  simp only[cM,CN,Bool.false_and,rG,if_false,pP,Bool.true_or] at h;rcases List.mem_append.1 h with h|h
  ·split at h
   ·cases h
   ·rw[fk.1 h];exact .head _
  ·exact .tail _ (y9 h)
theorem DH {k y:Key}: ∀{l:List Key} {put:Bool},y∈cM k put l→y∈l∨y=k
 |[],put,h=>by
  simp only[cM] at h
  split at h
  ·cases h
  ·exact .inr (fk.1 h)
 |x::r,put,h=>by
  simp only[cM] at h;rcases List.mem_append.1 h with h|h
  ·rcases List.mem_append.1 h with h|h
   ·split at h
    ·exact .inr (fk.1 h)
    ·cases h
   ·split at h
    ·cases h
    ·exact .inl (by rw[fk.1 h];exact .head _)
  ·exact(DH h).imp (.tail _) id
theorem wP {k:Key}: ∀{l:List Key},l.Pairwise lS→(cM k true l).Pairwise lS
 |[],_=>by simp[cM]
 |x::r,h=>by
  obtain⟨h1,h2⟩:=List.pairwise_cons.1 h;simp only[cM,CN,Bool.false_and,rG,if_false,pP,Bool.true_or]
  split
  ·exact wP h2
  ·exact List.pairwise_cons.2 ⟨fun y hy=>h1 y (y9 hy),wP h2⟩
theorem FN {k:Key}: ∀{l:List Key},l.Pairwise lS→(cM k false l).Pairwise lS
 |[],_=>by simp[cM]
 |x::r,h=>by
  obtain⟨h1,h2⟩:=List.pairwise_cons.1 h
  cases hk:bZ x k with
  |true=>
   have hlt:=lP.1 hk
   have Tn:eP x k=false:=by
    cases hs:eP x k with
    |false=>rfl
    |true=>have:=mo.1 hs;unfold lS at hlt;omega
   simp only[cM,hk,Tn,Bool.not_false,CN,fK,Bool.and_false,rG,if_false,pP,Bool.or_false,CM];refine List.pairwise_cons.2 ⟨fun y hy=> ?_,FN h2⟩;rcases DH hy with hy|rfl
   ·exact h1 y hy
   ·exact hlt
  |false=>
   have hge: ¬lS x k:=fun h=>by rw[lP.2 h] at hk;cases hk
   simp only[cM,hk,Bool.not_false,fK,if_true,Bool.or_true]
   have hr: ∀y∈cM k true r,lS k y:=fun y hy=>by
    have:=h1 y (y9 hy);unfold lS at*;omega
   split
   ·exact List.pairwise_cons.2 ⟨hr,wP h2⟩
   ·rename_i Tn
    refine List.pairwise_cons.2 ⟨fun y hy=> ?_,List.pairwise_cons.2 ⟨fun y hy=>h1 y (y9 hy),wP h2⟩⟩;rcases cu.1 hy with rfl|hy
    ·have: ¬(y.b=k.b∧y.a=k.a):=fun h=>Tn (mo.2 h)
     unfold lS at*;omega
    ·exact hr y hy
theorem iK {l:List Key} {k:Key} (h:l.Pairwise lS):(bU l k).Pairwise lS:=FN h
theorem xX {l:List Key} {k y:Key} (h:y∈bU l k):y∈l∨y=k:=DH h
theorem tj: ∀(new:List Key) {old:List Key},old.Pairwise lS→(bG old new).Pairwise lS
 |[],_,h=>h
 |x::r,_,h=>tj r (iK h)
theorem FO {y:Key}: ∀{new old:List Key},y∈bG old new→y∈old∨y∈new
 |[],_,h=> .inl h
 |x::r,old,h=>by
  have h:y∈bG (bU old x) r:=h;rcases FO h with h|h
  ·exact(xX h).imp id fun e=>by rw[e];exact .head _
  ·exact .inr (.tail _ h)
theorem xY: ∀(n:List (List Key)) {acc:List Key},acc.Pairwise lS→(n.foldl bG acc).Pairwise lS
 |[],_,h=>h
 |s::r,_,h=>xY r (tj s h)
theorem FP {y:Key}: ∀{n:List (List Key)} {acc:List Key},y∈n.foldl bG acc→y∈acc∨ ∃s∈n,y∈s
 |[],_,h=> .inl h
 |s::r,acc,h=>by
  rcases FP (n:=r) h with h|⟨s',h1,h2⟩
  ·exact(FO h).imp id fun h=>⟨s,.head _,h⟩
  ·exact .inr ⟨s',.tail _ h1,h2⟩
theorem jg (n:List (List Key)):(aq n).Pairwise lS:=(xY n .nil).sublist List.filter_sublist
theorem iQ {n:List (List Key)} {y:Key} (h:y∈aq n): ∃s∈n,y∈s:=by
 rcases FP (List.mem_filter.1 h).1 with h|h
 ·cases h
 ·exact h
theorem nc (n:List (List Key)) (k:Key):(bB n k).Pairwise lS:=(iK (jg n)).sublist List.filter_sublist
theorem tq {n:List (List Key)} {k y:Key} (h:y∈bB n k):y=k∨ ∃s∈n,y∈s:=
 (xX (List.mem_filter.1 h).1).elim (fun h=> .inr (iQ h)) .inl
theorem NH {l:List Key} (h1:l.Pairwise lS) (h2: ∀y∈l,cv y=true) (h3:l.length≤60):ua l=true:=by
 rw[y6];simp only[dg,decide_eq_true_eq];refine⟨List.all_eq_true.2 h2,vH.2 fun i hi=> ?_,h3⟩
 cases i with
 |zero=>rfl
 |succ k=>
  simp only[fX];rw[aX (by omega:k<l.length),aX hi];exact lP.2 (List.pairwise_iff_getElem.1 h1 k (k+1) az hi az)
theorem nv {n:List (List Key)} (h:cV n=true) {s:List Key} (hs:s∈n) {y:Key} (hy:y∈s):cv y=true:=by
 unfold cV at h;simp only[dg] at h;have:=List.all_eq_true.1 h.1.1 s hs;simp only[dg] at this;have h2:=this.1;rw[y6] at h2;simp only[dg] at h2;exact List.all_eq_true.1 h2.1 y hy
theorem tw {l:List Key} (h1:l.Pairwise lS) (h2: ∀y∈l,cv y=true) (h3:l.length≤8):cV (bD l)=true:=by
 unfold bD
 split
 ·decide
 ·rename_i h0
  unfold cV;have:=NH h1 h2 az;have WQ:l≠[]:=fun e=>h0 (by rw[e];rfl);simp[this,WQ,bP,tot,bF,h3]
theorem Iz {n:List (List Key)} {k:Key} (h:cV n=true) (hk:cv k=true): ∀y∈bB n k,cv y=true:=fun y hy=>by
 rcases tq hy with rfl|⟨s,h1,h2⟩
 ·exact hk
 ·exact nv h h1 h2
theorem xZ {n:List (List Key)} {k:Key} (h:cV n=true) (hk:cv k=true) (hp:(bA n k).2=false):8<(bB n k).length∧bA n k=(n,false):=by
 have hn:=tw (nc n k) (Iz h hk);unfold bA at hp ⊢
 split at hp
 ·cases hp
 ·rename_i h1
  split at hp
  ·rename_i h2
   exact⟨h2,by rw[aR h1,aZ h2]⟩
  ·rename_i h2
   rw[aZ (hn az)] at hp
   cases hp
end Go.T
namespace Go.T
def gw (x y:Int):Int:=vi .or .i64 (Qx .i64 (Bg .i64 x) 8) (Bg .i64 y)
end Go.T
namespace Go.T
abbrev sC (x:Tree×Bool):TV:= .tu [(1,KS x.1),(0,[iB x.2])]
def gr (t:Tree) (i c:Nat) (ak:List Int) (nodes:List (List (List Key))):Tree:=⟨t.ak.take i++ak++t.ak.drop (i+c),t.nodes.take i++nodes++t.nodes.drop (i+c)⟩
def eJ (t:Tree) (i:Nat):List Key:=aq (t.nodes.getD i [])
def kQ (t:Tree):Nat→Nat→Option Nat
 |0,_=>none
 |d+1,i=>if i+1<t.nodes.length then(if(eJ t i).length+(eJ t (i+1)).length≤6 then some i else kQ t d (i+1)) else none
def gx (t:Tree):Option Nat:=kQ t t.nodes.length 0
def bN (t:Tree) (i:Nat):Tree:=gr t i 2 [t.ak.getD i 0] [bD (eJ t i++eJ t (i+1))]
def fe:Nat→Tree→Tree
 |0,t=>t
 |n+1,t=>match gx t with
  |none=>t
  |some i=>fe n (bN t i)
theorem Bv {t:Tree}: ∀{d i j:Nat},kQ t d i=some j→i≤j∧j+1<t.nodes.length∧(eJ t j).length+(eJ t (j+1)).length≤6
 |0,i,j,h=>by cases h
 |d+1,i,j,h=>by
  unfold kQ at h
  split at h
  ·split at h
   ·cases h;exact⟨cq _,by assumption,by assumption⟩
   ·have:=Bv h;exact⟨by omega,this.2⟩
  ·cases h
theorem j9 {t:Tree} {j:Nat} (h:gx t=some j):j+1<t.nodes.length∧(eJ t j).length+(eJ t (j+1)).length≤6:=(Bv h).2
theorem vM (t:Tree) (i c:Nat) (ak:List Int) (nodes:List (List (List Key))) (h:i+c≤t.nodes.length):(gr t i c ak nodes).nodes.length+c=t.nodes.length+nodes.length:=by
 unfold gr;simp only[cW,eM,iF];omega
theorem tC (t:Tree) (i c:Nat) (ak:List Int) (nodes:List (List (List Key))) (h:i+c≤t.ak.length):(gr t i c ak nodes).ak.length+c=t.ak.length+ak.length:=by
 unfold gr;simp only[cW,eM,iF];omega
theorem mq {t:Tree} {i:Nat} (h:i+1<t.nodes.length):(bN t i).nodes.length+1=t.nodes.length:=by
 have:=vM t i 2 [t.ak.getD i 0] [bD (eJ t i++eJ t (i+1))] az;unfold bN;simp only[jG] at this;omega
def eC (t:Tree) (i:Nat) (k:Key):Tree:=
 if(bA (t.nodes.getD i []) k).2=true then
  (if 0<i∧(aq (bA (t.nodes.getD i []) k).1).length=0 then gr t i 1 [] [] else gr t i 1 [t.ak.getD i 0] [(bA (t.nodes.getD i []) k).1])
 else gr t i 1 [t.ak.getD i 0,bJ ((bB (t.nodes.getD i []) k).getD (((bB (t.nodes.getD i []) k).length+1)/2) di).b ((bB (t.nodes.getD i []) k).getD (((bB (t.nodes.getD i []) k).length+1)/2) di).a]
  [bD ((bB (t.nodes.getD i []) k).take (((bB (t.nodes.getD i []) k).length+1)/2)),bD ((bB (t.nodes.getD i []) k).drop (((bB (t.nodes.getD i []) k).length+1)/2))]
def aO (t:Tree) (k:Key):Tree×Bool:=
 if cw t=true∧cv k=true then(if cw (fe (eC t (eo t k.b k.a).toNat k).nodes.length (eC t (eo t k.b k.a).toNat k))=true then(fe (eC t (eo t k.b k.a).toNat k).nodes.length (eC t (eo t k.b k.a).toNat k),true) else(t,false)) else(t,false)
end Go.T
namespace Go.T
theorem NI {α:Type} (w:α→Nat) (c:Nat): ∀l:List α,(∀a∈l,w a≤c)→tot w l≤c*l.length
 |[],_=>by simp[tot]
 |a::r,h=>by
  have h1:=h a (.head _);have h2:=NI w c r fun b hb=>h b (.tail _ hb);simp only[tot,e7,Nat.mul_add];omega
theorem r5 {n:List (List Key)} (h:cV n=true):n.length≤3∧tot bF n≤8:=by
 unfold cV bP at h;simp only[dg,decide_eq_true_eq] at h;exact⟨h.1.2,h.2⟩
theorem wQ {t:Tree} (h:cw t=true) {i:Nat} (hi:i<t.nodes.length):bM t i=true:=by
 unfold cw at h;simp only[dg] at h;exact vH.1 h.2.2.2.1 i hi
theorem nw {t:Tree} (h:cw t=true) {n:List (List Key)} (hn:n∈t.nodes):cV n=true:=by
 obtain⟨i,hi,rfl⟩:=List.getElem_of_mem hn;have:=wQ h hi;unfold bM at this;rw[aX hi] at this;simp only[dg] at this;exact this.2.1
theorem jQ {t:Tree} (h:cw t=true):1≤t.nodes.length∧t.nodes.length≤20∧t.ak.length=t.nodes.length:=by
 unfold cw y5 at h;simp only[dg,decide_eq_true_eq] at h;omega
theorem DI {t:Tree} (h:cw t=true):t.ak[0]?=some 0:=by
 have hl:=jQ h;unfold cw at h;simp only[dg] at h
 have h0:0<t.ak.length:=by omega
 have:=h.2.2.1;rw[aX h0] at this ⊢;simp only[decide_eq_true_eq] at this;rw[this]
theorem DJ {t:Tree} (h:cw t=true):tot aE t.nodes≤220:=by
 have h1:=NI aE 11 t.nodes fun n hn=>by
  have:=r5 (nw h hn);unfold aE;omega
 have h2:=jQ h;omega
theorem AH {t:Tree} (h:cw t=true):dy t≤260:=by
 have h1:=DJ h;have h2:=jQ h;unfold dy qj;omega
theorem oY {t:Tree} {k:Key} (h:(aO t k).2=true):cw (aO t k).1=true:=by
 unfold aO at h ⊢
 split
 ·split
  ·assumption
  ·rename_i h1 h2;rw[aZ h1,aR h2] at h;cases h
 ·rename_i h1;rw[aR h1] at h;cases h
theorem tD {t:Tree} {k:Key} (h:(aO t k).2=false):(aO t k).1=t:=by
 unfold aO at h ⊢
 split
 ·split
  ·rename_i h1 h2;rw[aZ h1,aZ h2] at h;cases h
  ·rfl
 ·rfl
theorem JP (t:Tree) (k:Key):dy (aO t k).1≤max (dy t) 260:=by
 cases h:(aO t k).2 with
 |true=>have:=AH (oY h);omega
 |false=>rw[tD h];omega
end Go.T
namespace Go.T
theorem wR {α:Type} (w:α→Nat): ∀l m:List α,tot w (l++m)=tot w l+tot w m
 |[],m=>by simp[tot]
 |a::l,m=>by simp only[w4,tot,wR w l m];omega
theorem JQ {α:Type} {l:List α} {i:Nat} {a b:α} (ha:l[i]?=some a) (hb:l[i+1]?=some b):l=l.take i++a::b::l.drop (i+2):=by
 obtain⟨h1,e1⟩:=List.getElem?_eq_some_iff.1 ha;obtain⟨h2,e2⟩:=List.getElem?_eq_some_iff.1 hb
 conv=>lhs;rw[←w6 i l]
 rw[ve h1,ve h2,e1,e2]
theorem x8 (l:List Key):aE (bD l)≤l.length+1:=by
 have h1:=qk l;have h2:=ql l;unfold aE;omega
theorem cX {t:Tree} {i:Nat} {a:List (List Key)} (h:t.nodes[i]?=some a):eJ t i=aq a:=by unfold eJ;rw[jF,h];rfl
theorem lI (n:Nat) (t:Tree):fe (n+1) t=match gx t with|none=>t|some i=>fe n (bN t i):=rfl
theorem qm {t:Tree} {i:Nat} (h:i+1<t.nodes.length):tot aE (bN t i).nodes+(bN t i).nodes.length≤tot aE t.nodes+t.nodes.length:=by
 obtain⟨a,ha⟩: ∃a,t.nodes[i]?=some a:=⟨_,aX az⟩;obtain⟨b,hb⟩: ∃b,t.nodes[i+1]?=some b:=⟨_,aX h⟩;have hl:=mq h;have hs:=congrArg (tot aE) (JQ ha hb);rw[wR] at hs;simp only[tot] at hs;have la:=bV a;have lb:=bV b;have hn:=x8 (eJ t i++eJ t (i+1));rw[cW,cX ha,cX hb] at hn
 have e:tot aE (bN t i).nodes=tot aE (t.nodes.take i)+aE (bD (aq a++aq b))+tot aE (t.nodes.drop (i+2)):=by
  unfold bN gr;simp only[];rw[wR,wR,cX ha,cX hb];simp[tot]
 have sa:aE a=a.length+tot bF a:=rfl;have sb:aE b=b.length+tot bF b:=rfl;omega
theorem JR {n:Nat} {t:Tree} (h:gx t=none):fe n t=t:=by
 cases n with
 |zero=>rfl
 |succ n=>rw[lI,h]
theorem xj {t:Tree} {i:Nat} (h:i+1<t.nodes.length) (hl:t.ak.length=t.nodes.length):(bN t i).ak.length=(bN t i).nodes.length:=by
 have h1:=tC t i 2 [t.ak.getD i 0] [bD (eJ t i++eJ t (i+1))] az;have h2:=vM t i 2 [t.ak.getD i 0] [bD (eJ t i++eJ t (i+1))] az;simp only[jG] at h1 h2;unfold bN;omega
theorem IA: ∀(n:Nat) (t:Tree),t.ak.length=t.nodes.length→tot aE (fe n t).nodes+(fe n t).nodes.length≤tot aE t.nodes+t.nodes.length∧(fe n t).ak.length=(fe n t).nodes.length
 |0,t,h=>⟨cq _,h⟩
 |n+1,t,h=>by
  rw[lI]
  cases hp:gx t with
  |none=>exact⟨cq _,h⟩
  |some i=>
   have hlt:=(j9 hp).1;have h1:=qm hlt;have h2:=IA n (bN t i) (xj hlt h);exact⟨by simp only[];omega,h2.2⟩
theorem mu {k:Key} (h:cv k=true):0≤k.b∧k.b≤15∧1≤k.a∧k.a≤60∧0≤k.k∧k.k≤2:=by
 simp only[cv,y5,dg,decide_eq_true_eq] at h;omega
theorem Pb {b a:Int} (h: -1000≤b∧b≤1000∧ -1000≤a∧a≤1000):bJ b a=64*b+a:=by
 unfold bJ;rw[O6 az,aV az]
theorem jR {k:Key} (h:cv k=true):bJ k.b k.a=64*k.b+k.a:=by
 have:=mu h;exact Pb az
theorem DK {f:Int→Bool} {l:List Int} {x:Int} (h0:l[0]?=some x) (hx:f x=true): ∀n:Nat,0<n→n≤l.length→ ∃j:Nat,jt f l n=j∧j<n
 |0,h,_=>by omega
 |n+1,_,hn=>by
  unfold jt;rw[aX az];simp only[]
  split
  ·exact⟨n,rfl,by omega⟩
  ·rename_i hf
   cases n with
   |zero=>
    rw[aX az] at h0
    cases h0;exact absurd hx hf
   |succ n=>
    obtain⟨j,h1,h2⟩:=DK h0 hx (n+1) az az;exact⟨j,h1,by omega⟩
theorem DL {t:Tree} {k:Key} (h:cw t=true) (hk:cv k=true): ∃j:Nat,eo t k.b k.a=j∧j<t.nodes.length:=by
 have h1:=jQ h;have h2:=mu hk;have h3:=jR hk;unfold eo;have:=DK (f:=fun x=>decide (x≤bJ k.b k.a)) (DI h) (by simp only[decide_eq_true_eq];omega) t.ak.length az (cq _);rw[h1.2.2] at this ⊢;exact this
theorem IB (n:List (List Key)) (k:Key):aE (bA n k).1≤aE n+2:=by
 have h1:=vK n k;have h2:=vL n k;unfold aE;omega
theorem LN (t:Tree) (i c:Nat) (ak:List Int) (nodes:List (List (List Key))):tot aE (gr t i c ak nodes).nodes≤tot aE t.nodes+tot aE nodes:=by
 have h:tot aE (t.nodes.take i++t.nodes.drop i)=tot aE t.nodes:=by rw[w6]
 have h2:tot aE (t.nodes.drop (i+c))≤tot aE (t.nodes.drop i):=by
  rw[←List.drop_drop]
  have h3:tot aE ((t.nodes.drop i).take c++(t.nodes.drop i).drop c)=tot aE (t.nodes.drop i):=by rw[w6]
  rw[wR] at h3;omega
 unfold gr;simp only[wR] at h ⊢;omega
theorem Pc {t:Tree} {i:Nat} {k:Key} (hl:t.ak.length=t.nodes.length) (hi:i<t.nodes.length) (ht: ∀n∈t.nodes,tot bF n≤8∧n.length≤3):
 tot aE (eC t i k).nodes≤tot aE t.nodes+40∧(eC t i k).nodes.length≤t.nodes.length+1∧(eC t i k).ak.length=(eC t i k).nodes.length:=by
 have hn:=ht t.nodes[i] (oK hi)
 have hg:t.nodes.getD i []=t.nodes[i]:=by rw[jF,aX hi];rfl
 have hp:=IB t.nodes[i] k;have hk:=iP t.nodes[i] k;have hz:aE t.nodes[i]=t.nodes[i].length+tot bF t.nodes[i]:=rfl;unfold eC;rw[hg];generalize bB t.nodes[i] k=l at*;have e1:=x8 (l.take ((l.length+1)/2));have e2:=x8 (l.drop ((l.length+1)/2));rw[eM] at e1;rw[iF] at e2
 have key: ∀(ak:List Int) (nodes:List (List (List Key))),ak.length=nodes.length→nodes.length≤2→tot aE nodes≤40→tot aE (gr t i 1 ak nodes).nodes≤tot aE t.nodes+40∧(gr t i 1 ak nodes).nodes.length≤t.nodes.length+1∧(gr t i 1 ak nodes).ak.length=(gr t i 1 ak nodes).nodes.length:=by
  intro ak nodes h1 h2 h3;have h4:=LN t i 1 ak nodes;have h5:=vM t i 1 ak nodes az;have h6:=tC t i 1 ak nodes az;omega
 split
 ·split
  ·exact key _ _ rfl dI (by simp[tot])
  ·exact key _ _ rfl dI (by simp only[tot];omega)
 ·exact key _ _ rfl dI (by simp only[tot];omega)
theorem GI {t:Tree} (h:cw t=true): ∀n∈t.nodes,tot bF n≤8∧n.length≤3:=fun n hn=>by
 have:=r5 (nw h hn);omega
theorem IC {t:Tree} {i:Nat} {k:Key} (h:cw t=true) (hi:i<t.nodes.length):
 tot aE (eC t i k).nodes+(eC t i k).nodes.length≤300∧(eC t i k).ak.length=(eC t i k).nodes.length∧dy (fe (eC t i k).nodes.length (eC t i k))≤600:=by
 have h1:=jQ h;have h2:=DJ h;have h3:=Pc (k:=k) h1.2.2 hi (GI h);have h4:=IA (eC t i k).nodes.length (eC t i k) h3.2.2;refine⟨by omega,h3.2.2,?_⟩;unfold dy qj;omega
theorem GJ {n:Nat} (h:8<n):(n+1)/2<n:=by omega
end Go.T
namespace Go.T
end Go.T
namespace Go.T
end Go.T
namespace Go.T
def jS (b a:Int) (x:Key):Bool:=decide (x.b=b∧x.a=a)
def look (l:List Key) (b a:Int):Option Key:=l.find? (jS b a)
theorem JS (l:List Key) (b a:Int):setAt l b a=look l b a:=rfl
theorem kR (l m:List Key) (b a:Int):look (l++m) b a=(look l b a).or (look m b a):=by unfold look;rw[List.find?_append]
theorem fQ (x:Key) (l:List Key) (b a:Int):look (x::l) b a=if x.b=b∧x.a=a then some x else look l b a:=by
 unfold look;rw[List.find?_cons]
 by_cases h:x.b=b∧x.a=a
 ·rw[aZ h];simp[jS,h]
 ·rw[aR h];simp[jS,h]
theorem DM {k:Key} {b a:Int} (h: ¬(k.b=b∧k.a=a)): ∀(l:List Key) (put:Bool),look (cM k put l) b a=look l b a
 |[],put=>by
  unfold cM
  cases put with
  |true=>rfl
  |false=>simp only[rG,if_false];rw[fQ,aR h]
 |x::r,put=>by
  have ih:=DM h r (put|| !bZ x k);simp only[cM,kR];rw[ih,fQ]
  have h1:look (if(!put&& !bZ x k)=true then [k] else []) b a=none:=by
   split
   ·rw[fQ,aR h];rfl
   ·rfl
  rw[h1]
  by_cases hs:eP x k=true
  ·have:=mo.1 hs
   rw[aZ hs,aR az]
   rfl
  ·rw[aR hs,fQ]
   by_cases hx:x.b=b∧x.a=a
   ·rw[aZ hx,aZ hx];rfl
   ·rw[aR hx,aR hx];rfl
theorem KX {k:Key}: ∀l:List Key,l.Pairwise lS→look (cM k false l) k.b k.a=some k
 |[],_=>by simp only[cM,rG,if_false];rw[fQ,aZ ⟨rfl,rfl⟩]
 |x::r,hp=>by
  obtain⟨h1,h2⟩:=List.pairwise_cons.1 hp
  cases hk:bZ x k with
  |true=>
   have hlt:=lP.1 hk
   have Tn:eP x k=false:=by
    cases hs:eP x k with
    |false=>rfl
    |true=>have:=mo.1 hs;unfold lS at hlt;omega
   simp only[cM,hk,Tn,Bool.not_false,CN,fK,Bool.and_false,rG,if_false,pP,Bool.or_false,CM];rw[kR,KX r h2,fQ,aR (by unfold lS at hlt;omega)];rfl
  |false=>
   simp only[cM,hk,Bool.not_false,fK,if_true,Bool.or_true];rw[kR,kR,fQ,aZ ⟨rfl,rfl⟩];rfl
theorem lQ {l:List Key} {k:Key} (h:l.Pairwise lS) (b a:Int):look (bU l k) b a=if k.b=b∧k.a=a then some k else look l b a:=by
 unfold bU
 by_cases hs:k.b=b∧k.a=a
 ·rw[aZ hs,←hs.1,←hs.2];exact KX l h
 ·rw[aR hs];exact DM hs l false
theorem wS {l:List Key} {b a:Int} {x:Key} (h:look l b a=some x):x∈l∧x.b=b∧x.a=a:=by
 unfold look at h;have h1:=List.find?_some h;unfold jS at h1;exact⟨List.mem_of_find?_eq_some h,by simpa using h1⟩
theorem DN {l:List Key} (h:l.Pairwise lS) {x:Key} (hx:x∈l):look l x.b x.a=some x:=by
 induction l with
 |nil=>cases hx
 |cons y r ih=>
  obtain⟨h1,h2⟩:=List.pairwise_cons.1 h;rw[fQ];rcases cu.1 hx with rfl|hx
  ·rw[aZ ⟨rfl,rfl⟩]
  ·have:=h1 x hx
   rw[aR (by unfold lS at this;omega)];exact ih h2 hx
theorem oF {l:List Key} {b a:Int} (h: ∀x∈l,¬(x.b=b∧x.a=a)):look l b a=none:=by
 unfold look;rw[List.find?_eq_none];intro x hx hs;unfold jS at hs;exact h x hx (by simpa using hs)
theorem x9: ∀(new:List Key) {old:List Key},old.Pairwise lS→new.Pairwise lS→ ∀b a,look (bG old new) b a=(look new b a).or (look old b a)
 |[],old,_,_,b,a=>rfl
 |x::r,old,ho,hn,b,a=>by
  obtain⟨h1,h2⟩:=List.pairwise_cons.1 hn;have ih:=x9 r (iK (k:=x) ho) h2 b a;show look (bG (bU old x) r) b a=_;rw[ih,lQ ho,fQ]
  by_cases hs:x.b=b∧x.a=a
  ·rw[aZ hs,aZ hs]
   have hr:look r b a=none:=oF fun y hy h=>by
    have:=h1 y hy;unfold lS at this;omega
   rw[hr];rfl
  ·rw[aR hs,aR hs]
theorem jT {l:List Key} (h:l.Pairwise lS) (p:Key→Bool) (b a:Int):look (l.filter p) b a=(look l b a).filter p:=by
 induction l with
 |nil=>rfl
 |cons x r ih=>
  obtain⟨h1,h2⟩:=List.pairwise_cons.1 h;rw[fQ]
  by_cases hp:p x=true
  ·rw[List.filter_cons_of_pos hp,fQ,ih h2]
   by_cases hs:x.b=b∧x.a=a
   ·rw[aZ hs,aZ hs];simp[Option.filter,hp]
   ·rw[aR hs,aR hs]
  ·rw[List.filter_cons_of_neg hp,ih h2]
   by_cases hs:x.b=b∧x.a=a
   ·rw[aZ hs]
    have hr:look r b a=none:=oF fun y hy h=>by
     have:=h1 y hy;unfold lS at this;omega
    rw[hr];simp[Option.filter,hp]
   ·rw[aR hs]
theorem ID: ∀{l m:List Key},l.Pairwise lS→m.Pairwise lS→(∀x,x∈l↔x∈m)→l=m
 |[],[],_,_,_=>rfl
 |[],y::m,_,_,h=>by have:=(h y).2 (.head _);cases this
 |x::l,[],_,_,h=>by have:=(h x).1 (.head _);cases this
 |x::l,y::m,hl,hm,h=>by
  obtain⟨h1,h2⟩:=List.pairwise_cons.1 hl;obtain⟨h3,h4⟩:=List.pairwise_cons.1 hm
  have hxy:x=y:=by
   rcases cu.1 ((h x).1 (.head _)) with e|e
   ·exact e
   ·rcases cu.1 ((h y).2 (.head _)) with e2|e2
    ·exact e2.symm
    ·have a1:=h3 x e
     have a2:=h1 y e2;unfold lS at a1 a2;omega
  subst hxy
  have:l=m:=ID h2 h4 fun z=>by
   constructor
   ·intro hz
    rcases cu.1 ((h z).1 (.tail _ hz)) with e|e
    ·subst e;have:=h1 z hz;unfold lS at this;omega
    ·exact e
   ·intro hz
    rcases cu.1 ((h z).2 (.tail _ hz)) with e|e
    ·subst e;have:=h3 z hz;unfold lS at this;omega
    ·exact e
  rw[this]
theorem zc {l m:List Key} (hl:l.Pairwise lS) (hm:m.Pairwise lS) (h: ∀b a,look l b a=look m b a):l=m:=
 ID hl hm fun x=>⟨fun hx=>by have:=DN hl hx;rw[h] at this;exact(wS this).1,fun hx=>by have:=DN hm hx;rw[←h] at this;exact(wS this).1⟩
def Bw (n:List (List Key)):Prop:= ∀s∈n,s.Pairwise lS
theorem JT {l:List Key} (h:ua l=true):l.Pairwise lS:=by
 rw[y6] at h;simp only[dg] at h;have hp:=vH.1 h.2.1
 have key: ∀(l:List Key),(∀i,i<l.length→fX l bZ i=true)→l.Pairwise lS:=by
  intro l
  induction l with
  |nil=>intro _;exact .nil
  |cons x r ih=>
   intro hq
   have hr:=ih fun i hi=>by
    have:=hq (i+1) nF
    cases i with
    |zero=>rfl
    |succ i=>simpa [fX] using this
   refine List.pairwise_cons.2 ⟨?_,hr⟩
   cases r with
   |nil=>intro y hy;cases hy
   |cons z r=>
    have hxz:lS x z:=by have:=hq 1 dI;simp only[fX,cP,mE] at this;exact lP.1 this
    intro y hy;rcases cu.1 hy with rfl|hy
    ·exact hxz
    ·exact hxz.trans ((List.pairwise_cons.1 hr).1 y hy)
 exact key l hp
theorem ny {n:List (List Key)} (h:cV n=true):Bw n:=fun s hs=>by
 unfold cV at h;simp only[dg] at h;have:=List.all_eq_true.1 h.1.1 s hs;simp only[dg] at this;exact JT this.1
def nY:List (List Key)→Int→Int→Option Key
 |[],_,_=>none
 |s::r,b,a=>(nY r b a).or (look s b a)
theorem DO: ∀(n:List (List Key)) {acc:List Key},acc.Pairwise lS→Bw n→ ∀b a,look (n.foldl bG acc) b a=(nY n b a).or (look acc b a)
 |[],acc,_,_,b,a=>rfl
 |s::r,acc,ha,hn,b,a=>by
  have hs:=hn s (.head _);have ih:=DO r (tj s ha) (fun t ht=>hn t (.tail _ ht)) b a;show look (r.foldl bG (bG acc s)) b a=_;rw[ih,x9 s ha hs];show _=((nY r b a).or (look s b a)).or (look acc b a);rw[Option.or_assoc]
def eK (k:Key):Bool:= !decide (k.k=0)
theorem wT {n:List (List Key)} (h:Bw n) (b a:Int):look (aq n) b a=(nY n b a).filter eK:=by
 have hr:(lO n).Pairwise lS:=xY n .nil;have e:=jT hr eK b a;have e2:=DO n .nil h b a;show look ((lO n).filter eK) b a=_;rw[e];show Option.filter eK (look (n.foldl bG []) b a)=_;rw[e2];show Option.filter eK ((nY n b a).or none)=_;rw[Option.or_none]
def zd:Option Key→Key×Bool
 |some k=>(k,true)
 |none=>(di,false)
theorem tE (n:List (List Key)) (s:List Key) (b a:Int):nY (n++[s]) b a=(look s b a).or (nY n b a):=by
 induction n with
 |nil=>simp[nY]
 |cons t r ih=>simp only[w4,nY,ih,Option.or_assoc]
theorem xk (n:List (List Key)) (b a:Int): ∀k,k≤n.length→kP n b a k=zd ((nY (n.take k) b a).filter eK)
 |0,_=>rfl
 |k+1,h=>by
  have ih:=xk n b a k az
  have hk:k<n.length:=by omega
  unfold kP;rw[aX hk,List.take_add_one,aX hk];simp only[Option.toList];rw[tE];unfold th;rw[JS]
  cases hl:look n[k] b a with
  |none=>simp only[rG,if_false];rw[ih];rfl
  |some x=>
   simp only[if_true,Option.some_or]
   by_cases hx:x.k=0
   ·rw[aZ hx];simp[Option.filter,eK,hx,zd]
   ·rw[aR hx];simp[Option.filter,eK,hx,zd]
theorem IE {n:List (List Key)} (h:Bw n) (b a:Int):kP n b a n.length=zd (look (aq n) b a):=by
 rw[xk n b a n.length (cq _),pQ,wT h]
end Go.T
namespace Go.T
theorem LO {l:List Key} (h:l.Pairwise lS):bG [] l=l:=
 zc (tj l .nil) h fun b a=>by rw[x9 l .nil h];show(look l b a).or none=_;rw[Option.or_none]
theorem vN {l:List Key} (h:l.Pairwise lS) (hn: ∀x∈l,¬x.k=0):aq (bD l)=l:=by
 unfold bD
 split
 ·rename_i h0
  rw[List.length_eq_zero_iff.1 h0];rfl
 ·show fH (bG [] l)=l
  rw[LO h];unfold fH;rw[List.filter_eq_self];intro x hx;simpa using hn x hx
theorem AI {n:List (List Key)} {x:Key} (hx:x∈aq n): ¬x.k=0:=by
 have:=(List.mem_filter.1 hx).2;simpa using this
theorem FQ {n:List (List Key)} {k x:Key} (hx:x∈bB n k): ¬x.k=0:=by
 have:=(List.mem_filter.1 hx).2;simpa using this
theorem NJ {n:List (List Key)} (k:Key) (h:Bw n) (b a:Int):nY (eu n k) b a=if k.b=b∧k.a=a then some k else nY n b a:=by
 have hone: ∀m:List (List Key),nY (m++[[k]]) b a=if k.b=b∧k.a=a then some k else nY m b a:=fun m=>by
  rw[tE,fQ]
  by_cases hs:k.b=b∧k.a=a
  ·rw[aZ hs,aZ hs];rfl
  ·rw[aR hs,aR hs];rfl
 unfold eu
 cases hl:n[n.length-1]? with
 |none=>exact hone n
 |some s=>
  simp only[]
  split
  ·obtain⟨hlt,hs⟩:=List.getElem?_eq_some_iff.1 hl
   have hpos:0<n.length:=by omega
   have e1:n=n.take (n.length-1)++[s]:=by
    conv=>lhs;rw[←w6 (n.length-1) n]
    rw[ve hlt,hs,yq az]
   have e2:n.set (n.length-1) (bU s k)=n.take (n.length-1)++[bU s k]:=by
    rw[List.set_eq_take_append_cons_drop,aZ hlt,yq az]
   rw[e2,tE,lQ (h s (by rw[←hs];exact oK hlt))]
   conv=>rhs;rw[e1]
   rw[tE]
   by_cases hs:k.b=b∧k.a=a
   ·rw[aZ hs,aZ hs];rfl
   ·rw[aR hs,aR hs]
  ·exact hone n
theorem FR {n:List (List Key)} (k:Key) (h:Bw n) (b a:Int):look (bB n k) b a=(if k.b=b∧k.a=a then some k else nY n b a).filter eK:=by
 have hr:=jg n;show look ((bU (aq n) k).filter eK) b a=_;rw[jT (iK hr),lQ hr]
 by_cases hs:k.b=b∧k.a=a
 ·rw[aZ hs,aZ hs]
 ·rw[aR hs,aR hs,wT h]
  cases nY n b a with
  |none=>rfl
  |some x=>by_cases hx:eK x=true<;>simp[Option.filter,hx]
theorem Pd {n:List (List Key)} (k:Key) (h:Bw n) (h2:Bw (eu n k)):aq (eu n k)=bB n k:=
 zc (jg _) (nc n k) fun b a=>by rw[wT h2,NJ k h,FR k h]
theorem GK {n:List (List Key)} {k:Key} (h:cV n=true) (hp:(bA n k).2=true):aq (bA n k).1=bB n k∧cV (bA n k).1=true:=by
 have hr:=ny h;unfold bA at hp ⊢
 split
 ·rename_i h1
  exact⟨Pd k hr (ny h1),h1⟩
 ·rename_i h1
  rw[aR h1] at hp
  split
  ·rename_i h2;rw[aZ h2] at hp;cases hp
  ·rename_i h2
   rw[aR h2] at hp
   split
   ·rename_i h3
    exact⟨vN (nc n k) fun x hx=>FQ hx,h3⟩
   ·rename_i h3;rw[aR h3] at hp;cases hp
end Go.T
namespace Go.T
structure ku (t:Tree):Prop where
 len:t.ak.length=t.nodes.length
 low0:t.ak[0]?=some 0
 rise: ∀i x y,t.ak[i]?=some x→t.ak[i+1]?=some y→x<y
 ok: ∀n∈t.nodes,cV n=true
 lo: ∀(i:Nat) (n:List (List Key)) (x:Int),t.nodes[i]?=some n→t.ak[i]?=some x→ ∀s∈n,∀k:Key,k∈s→x≤bJ k.b k.a
 hi: ∀(i:Nat) (n:List (List Key)) (x:Int),t.nodes[i]?=some n→t.ak[i+1]?=some x→ ∀s∈n,∀k:Key,k∈s→bJ k.b k.a<x
theorem nB {t:Tree} (h:cw t=true):ku t:=by
 have hl:=jQ h;have FZ: ∀i n,t.nodes[i]?=some n→bM t i=true:=fun i n hn=>wQ h (List.getElem?_eq_some_iff.1 hn).1
 have hsp: ∀(i:Nat) (n:List (List Key)),t.nodes[i]?=some n→ ∀s∈n,∀k:Key,k∈s→xT t.ak i (bJ k.b k.a)=true:=by
  intro i n hn s hs k hk;have:=FZ i n hn;unfold bM at this;rw[hn] at this;simp only[dg] at this;have h1:=List.all_eq_true.1 this.2.2.2 s hs;unfold bH at h1;exact List.all_eq_true.1 h1 k hk
 refine⟨hl.2.2,DI h,?_,fun n hn=>nw h hn,?_,?_⟩
 ·intro i x y hx hy
  obtain⟨hi,_⟩:=List.getElem?_eq_some_iff.1 hy;have:=wQ h (i:=i+1) az;unfold bM at this;simp only[dg,fX,hx,hy,decide_eq_true_eq] at this;exact this.1
 ·intro i n x hn hx s hs k hk
  have:=hsp i n hn s hs k hk;unfold xT at this;rw[hx] at this;simp only[dg,pN,decide_eq_false_iff_not] at this;omega
 ·intro i n x hn hx s hs k hk
  have:=hsp i n hn s hs k hk;obtain⟨hi,_⟩:=List.getElem?_eq_some_iff.1 hn;unfold xT at this;rw[aX (by omega:i<t.ak.length),hx] at this;simp only[dg,decide_eq_true_eq] at this;exact this.2
theorem ku.mono {t:Tree} (h:ku t): ∀(d i:Nat) (x y:Int),t.ak[i]?=some x→t.ak[i+d+1]?=some y→x<y
 |0,i,x,y,hx,hy=>h.rise i x y hx hy
 |d+1,i,x,y,hx,hy=>by
  obtain⟨hlt,_⟩:=List.getElem?_eq_some_iff.1 hy;have hm:t.ak[i+d+1]?=some t.ak[i+d+1]:=aX az;have h1:=h.mono d i x _ hx hm;have h2:=h.rise (i+d+1) _ y hm (by rw[show i+d+1+1=i+(d+1)+1 from by omega];exact hy);omega
theorem ku.lt {t:Tree} (h:ku t) {i j:Nat} {x y:Int} (hij:i<j) (hx:t.ak[i]?=some x) (hy:t.ak[j]?=some y):x<y:=
 h.mono (j-i-1) i x y hx (by rw[show i+(j-i-1)+1=j from by omega];exact hy)
theorem ku.key {t:Tree} (h:ku t) {i:Nat} {n:List (List Key)} (hn:t.nodes[i]?=some n) {x:Key} (hx:x∈aq n):cv x=true:=by
 obtain⟨s,hs,hy⟩:=iQ hx;exact nv (h.ok n (ee hn)) hs hy
theorem ze {x y:Key} (hx:cv x=true) (hy:cv y=true):bJ x.b x.a<bJ y.b y.a↔lS x y:=by
 have h1:=mu hx;have h2:=mu hy;rw[jR hx,jR hy];unfold lS;omega
def oZ (t:Tree) (i:Nat):List Key:=(t.nodes.drop i).flatMap aq
theorem xm {t:Tree} {i:Nat} {n:List (List Key)} (hn:t.nodes[i]?=some n):oZ t i=aq n++oZ t (i+1):=by
 obtain⟨hi,he⟩:=List.getElem?_eq_some_iff.1 hn;unfold oZ;rw[ve hi,he,List.flatMap_cons]
theorem oy {t:Tree} {i:Nat} (h:t.nodes.length≤i):oZ t i=[]:=by
 unfold oZ;rw[yq h];rfl
theorem ku.GL {t:Tree} (h:ku t): ∀(d i:Nat),i+d=t.nodes.length→ ∀x,t.ak[i]?=some x→ ∀k∈oZ t i,cv k=true∧x≤bJ k.b k.a
 |0,i,hd,x,hx,k,hk=>by rw[oy az] at hk;cases hk
 |d+1,i,hd,x,hx,k,hk=>by
  have hn:t.nodes[i]?=some t.nodes[i]:=aX az;rw[xm hn] at hk;rcases List.mem_append.1 hk with hk|hk
  ·refine⟨h.key hn hk,?_⟩
   obtain⟨s,hs,hk⟩:=iQ hk;exact h.lo i _ x hn hx s hs k hk
  ·cases hm:t.ak[i+1]? with
   |none=>
    have hl:=h.len
    have: ¬i+1<t.ak.length:=fun hlt=>by rw[aX hlt] at hm;cases hm
    rw[oy az] at hk;cases hk
   |some y=>
    obtain⟨h1,h2⟩:=h.GL d (i+1) az y hm k hk;have:=h.rise i x y hx hm;exact⟨h1,by omega⟩
theorem ku.FT {t:Tree} (h:ku t): ∀(d i:Nat),i+d=t.nodes.length→(oZ t i).Pairwise lS
 |0,i,hd=>by rw[oy az];exact .nil
 |d+1,i,hd=>by
  have hn:t.nodes[i]?=some t.nodes[i]:=aX az;rw[xm hn];refine List.pairwise_append.2 ⟨jg _,h.FT d (i+1) az,fun x hx y hy=> ?_⟩
  cases hm:t.ak[i+1]? with
  |none=>
   have hl:=h.len
   have: ¬i+1<t.ak.length:=fun hlt=>by rw[aX hlt] at hm;cases hm
   rw[oy az] at hy;cases hy
  |some z=>
   obtain⟨h1,h2⟩:=h.GL d (i+1) az z hm y hy;have WR:=h.key hn hx;obtain⟨s,hs,hx⟩:=iQ hx;have h3:=h.hi i _ z hn hm s hs x hx;exact(ze WR h1).1 az
theorem ku.eA {t:Tree} (h:ku t):(av t).Pairwise lS:=h.FT t.nodes.length 0 az
theorem ku.KY {t:Tree} (h:ku t) {k:Key} (hk:k∈av t):cv k=true:=
 (h.GL t.nodes.length 0 az 0 h.low0 k hk).1
theorem tF {f:Int→Bool} {l:List Int}: ∀(n:Nat),n≤l.length→(jt f l n= -1∧ ∀j x,j<n→l[j]?=some x→f x=false)∨ ∃i:Nat,jt f l n=i∧i<n∧(∃x,l[i]?=some x∧f x=true)∧ ∀j x,i<j→j<n→l[j]?=some x→f x=false
 |0,_=> .inl ⟨rfl,fun j x h=>by omega⟩
 |n+1,h=>by
  have hn:n<l.length:=by omega
  unfold jt;rw[aX hn];simp only[]
  cases hf:f l[n] with
  |true=>exact .inr ⟨n,by simp,by omega,⟨_,aX hn,hf⟩,fun j x h1 h2=>by omega⟩
  |false=>
   rw[aR dI];rcases tF (f:=f) (l:=l) n az with⟨h1,h2⟩|⟨i,h1,h2,h3,h4⟩
   ·refine .inl ⟨h1,fun j x hj hx=> ?_⟩
    by_cases hjn:j=n
    ·subst hjn;rw[aX hn] at hx;cases hx;exact hf
    ·exact h2 j x az hx
   ·refine .inr ⟨i,h1,by omega,h3,fun j x hij hj hx=> ?_⟩
    by_cases hjn:j=n
    ·subst hjn;rw[aX hn] at hx;cases hx;exact hf
    ·exact h4 j x hij az hx
theorem ku.KZ {t:Tree} (h:ku t) {i:Nat} {x:Int} {b a:Int} (hx:t.ak[i]?=some x) (hlo:x≤bJ b a) (hhi: ∀j y,i<j→t.ak[j]?=some y→bJ b a<y):
 ∀(j:Nat) (n:List (List Key)),t.nodes[j]?=some n→ ¬j=i→look (aq n) b a=none:=by
 intro j n hn hne;refine oF fun k hk hs=> ?_
 have hj:j<t.ak.length:=by rw[h.len];exact(List.getElem?_eq_some_iff.1 hn).1
 obtain⟨s,FY,yp⟩:=iQ hk;have h1:=h.lo j n t.ak[j] hn (aX hj) s FY k yp;rw[hs.1,hs.2] at h1
 by_cases hji:j<i
 ·have Qu:j+1<t.ak.length:=by have:=(List.getElem?_eq_some_iff.1 hx).1;omega
  have h2:=h.hi j n t.ak[j+1] hn (aX Qu) s FY k yp;rw[hs.1,hs.2] at h2
  by_cases he:j+1=i
  ·subst he;rw[aX Qu] at hx;cases hx;omega
  ·have:=h.lt (i:=j+1) (j:=i) az (aX Qu) hx
   omega
 ·have:=hhi j _ az (aX hj)
  omega
theorem FU {b a:Int}: ∀(l:List (List (List Key))) (i:Nat) (n:List (List Key)),l[i]?=some n→(∀j m,l[j]?=some m→ ¬j=i→look (aq m) b a=none)→look (l.flatMap aq) b a=look (aq n) b a
 |[],i,n,h,_=>by simp at h
 |m::r,0,n,h,hn=>by
  simp only[cP,bg] at h;subst h;rw[List.flatMap_cons,kR]
  have:look (r.flatMap aq) b a=none:=oF fun x hx hs=>by
   obtain⟨q,hq,hx⟩:=List.mem_flatMap.1 hx;obtain⟨j,hj⟩:=List.mem_iff_getElem?.1 hq;have:=hn (j+1) q (by simpa using hj) az;unfold look at this;rw[List.find?_eq_none] at this;exact this x hx (by unfold jS;simpa using hs)
  rw[this,Option.or_none]
 |m::r,i+1,n,h,hn=>by
  rw[List.flatMap_cons,kR,hn 0 m rfl az];have:=FU r i n (by simpa using h) fun j q hj hne=>hn (j+1) q (by simpa using hj) az;rw[this];rfl
theorem ku.find {t:Tree} (h:ku t) {b a:Int} (hs:0≤bJ b a):mW t b a=zd (look (av t) b a):=by
 unfold mW eo;rcases tF (f:=fun x=>decide (x≤bJ b a)) (l:=t.ak) t.ak.length (cq _) with⟨_,h2⟩|⟨i,h1,h2,⟨x,hx,hf⟩,h4⟩
 ·have hpos:=(List.getElem?_eq_some_iff.1 h.low0).1
  have:=h2 0 0 hpos h.low0;simp only[decide_eq_false_iff_not] at this;omega
 ·rw[h1,aL]
  have hlo:x≤bJ b a:=tV hf
  have hi:i<t.nodes.length:=by rw[←h.len];exact h2
  have hn:t.nodes[i]?=some t.nodes[i]:=aX hi;rw[hn];simp only[]
  have hno:=h.KZ hx hlo fun j y hij hy=>by
   have:=h4 j y hij (List.getElem?_eq_some_iff.1 hy).1 hy;simp only[decide_eq_false_iff_not] at this;omega
  rw[IE (ny (h.ok _ (oK hi)))];unfold av;rw[FU t.nodes i t.nodes[i] hn hno]
end Go.T
namespace Go.T
abbrev Nd:=List (List Key)
def below (x:Int):Option Int→Prop
 |none=>True
 |some y=>x<y
def GM (l:List Int) (hi:Option Int):Option Int:=match l with|[]=>hi|y::_=>some y
def GN (x:Int) (hi:Option Int) (n:Nd):Prop:=cV n=true∧below x hi∧ ∀s∈n,∀k:Key,k∈s→x≤bJ k.b k.a∧below (bJ k.b k.a) hi
def TR (hi:Option Int):List Int→List Nd→Prop
 |[],[]=>True
 |x::xs,n::ns=>GN x (GM xs hi) n∧TR hi xs ns
 |_,_=>False
theorem K0 (l m:List Int) (hi:Option Int):GM (l++m) hi=GM l (GM m hi):=by cases l<;>rfl
theorem r6 (l:List Int):GM l none=l[0]?:=by cases l<;>rfl
theorem nC {x y:Int} {o:Option Int} (h:x≤y) (h2:below y o):below x o:=by
 cases o with
 |none=>trivial
 |some z=>have:y<z:=h2;show x<z;omega
theorem TR.app {hi:Option Int} {l2:List Int} {n2:List Nd} (h2:TR hi l2 n2): ∀{l:List Int} {n:List Nd},TR (GM l2 hi) l n→TR hi (l++l2) (n++n2)
 |[],[],_=>h2
 |x::xs,n::ns,h=>⟨by show GN x (GM (xs++l2) hi) n;rw[K0];exact h.1,TR.app h2 h.2⟩
 |[],_::_,h=>h.elim
 |_::_,[],h=>h.elim
theorem TR.split {hi:Option Int} {l2:List Int} {n2:List Nd}: ∀{l:List Int} {n:List Nd},l.length=n.length→TR hi (l++l2) (n++n2)→TR (GM l2 hi) l n∧TR hi l2 n2
 |[],[],_,h=>⟨trivial,h⟩
 |x::xs,n::ns,hl,h=>by
  have h:GN x (GM (xs++l2) hi) n∧TR hi (xs++l2) (ns++n2):=h;rw[K0] at h;have:=TR.split (by simpa using hl) h.2;exact⟨⟨h.1,this.1⟩,this.2⟩
 |[],_::_,hl,_=>by simp at hl
 |_::_,[],hl,_=>by simp at hl
theorem GN.mono {x:Int} {n:Nd} {o o':Option Int} (hm: ∀y,below y o→below y o') (h:GN x o n):GN x o' n:=
 ⟨h.1,hm _ h.2.1,fun s hs k hk=>⟨(h.2.2 s hs k hk).1,hm _ (h.2.2 s hs k hk).2⟩⟩
theorem TR.mono {o o':Option Int} (hm: ∀y,below y o→below y o'): ∀{l:List Int} {n:List Nd},TR o l n→TR o' l n
 |[],[],_=>trivial
 |[x],[n],h=>⟨GN.mono hm h.1,trivial⟩
 |x::y::xs,n::ns,h=>⟨h.1,TR.mono hm h.2⟩
 |[x],n::m::ns,h=>h.2.elim
 |[],_::_,h=>h.elim
 |_::_,[],h=>h.elim
theorem TR.len {hi:Option Int}: ∀{l:List Int} {n:List Nd},TR hi l n→l.length=n.length
 |[],[],_=>rfl
 |x::xs,n::ns,h=>by simp[TR.len h.2]
 |[],_::_,h=>h.elim
 |_::_,[],h=>h.elim
theorem TR.at {hi:Option Int}: ∀{l:List Int} {n:List Nd},TR hi l n→ ∀(i:Nat) (x:Int) (m:Nd),l[i]?=some x→n[i]?=some m→GN x (GM (l.drop (i+1)) hi) m
 |[],[],_,i,x,m,h1,_=>by simp at h1
 |x::xs,n::ns,h,0,y,m,h1,h2=>by
  simp only[cP,bg] at h1 h2;subst h1 h2;exact h.1
 |x::xs,n::ns,h,i+1,y,m,h1,h2=>TR.at h.2 i y m (by simpa using h1) (by simpa using h2)
 |[],_::_,h,_,_,_,_,_=>h.elim
 |_::_,[],h,_,_,_,_,_=>h.elim
theorem TR.head {hi:Option Int}: ∀{l:List Int} {n:List Nd},TR hi l n→ ∀x,l[0]?=some x→below x hi
 |[],_,_,x,hx=>by cases hx
 |[y],[n],h,x,hx=>by
  simp only[cP,bg] at hx;subst hx;exact h.1.2.1
 |y::z::r,n::ns,h,x,hx=>by
  simp only[cP,bg] at hx;subst hx;exact nC (Int.le_of_lt h.1.2.1) (TR.head h.2 z rfl)
 |[_],_::_::_,h,_,_=>h.2.elim
 |_::_,[],h,_,_=>h.elim
theorem mX (l:List Int) (i:Nat):(l.drop i)[0]?=l[i]?:=by rw[kJ];rfl
theorem TR.of {t:Tree} (h:ku t): ∀(d i:Nat),i+d=t.nodes.length→TR none (t.ak.drop i) (t.nodes.drop i)
 |0,i,hd=>by
  have:=h.len;rw[yq az,yq az];trivial
 |d+1,i,hd=>by
  have hl:=h.len
  have h1:i<t.ak.length:=by omega
  have h2:i<t.nodes.length:=by omega
  have e1:t.ak[i]?=some t.ak[i]:=aX h1;have e2:t.nodes[i]?=some t.nodes[i]:=aX h2;rw[ve h1,ve h2];refine⟨⟨h.ok _ (oK h2),?_,fun s hs k hk=>⟨h.lo i _ _ e2 e1 s hs k hk,?_⟩⟩,TR.of h d (i+1) az⟩
  ·rw[r6,mX]
   cases hy:t.ak[i+1]? with
   |none=>trivial
   |some y=>exact h.rise i _ y e1 hy
  ·rw[r6,mX]
   cases hy:t.ak[i+1]? with
   |none=>trivial
   |some y=>exact h.hi i _ y e2 hy s hs k hk
theorem TR.tree {l:List Int} {n:List Nd} (h:TR none l n) (h0:l[0]?=some 0):ku ⟨l,n⟩:=by
 have hl:=h.len
 have gt: ∀(i:Nat) (x y:Int),l[i]?=some x→l[i+1]?=some y→ ∃m,n[i]?=some m∧GN x (some y) m:=fun i x y hx hy=>by
  obtain⟨h1,_⟩:=List.getElem?_eq_some_iff.1 hx;have e2:n[i]?=some n[i]:=aX az;have:=h.at i x _ hx e2;rw[r6,mX,hy] at this;exact⟨_,e2,this⟩
 refine⟨hl,h0,fun i x y hx hy=> ?_,fun m hm=> ?_,fun i m x hm hx=> ?_,fun i m y hm hy=> ?_⟩
 ·obtain⟨m,_,h1⟩:=gt i x y hx hy
  exact h1.2.1
 ·obtain⟨i,hi⟩:=List.mem_iff_getElem?.1 hm
  obtain⟨h1,_⟩:=List.getElem?_eq_some_iff.1 hi;have h1:i<n.length:=h1;exact(h.at i _ m (aX az) hi).1
 ·exact fun s hs k hk=>((h.at i x m hx hm).2.2 s hs k hk).1
 ·intro s hs k hk
  obtain⟨h1,_⟩:=List.getElem?_eq_some_iff.1 hm;have h1:i<n.length:=h1;have:=((h.at i _ m (aX az) hm).2.2 s hs k hk).2;have hy:l[i+1]?=some y:=hy;rw[r6,mX,hy] at this;exact this
def NE (l:List Nd):Prop:= ∀n∈l.tail,¬aq n=[]
theorem Rh:NE []:=fun n hn=>by simp at hn
theorem NK (m:Nd):NE [m]:=fun n hn=>by simp at hn
structure mH (t:Tree):Prop where
 tr:TR none t.ak t.nodes
 z:t.ak[0]?=some 0
 ne:NE t.nodes
theorem mH.r {t:Tree} (h:mH t):ku t:=h.tr.tree h.z
theorem NL {α:Type} {l:List α} {a:α} (h:a∈l.tail): ∃i:Nat,0<i∧l[i]?=some a:=by
 obtain⟨i,hi⟩:=List.mem_iff_getElem?.1 h;refine⟨i+1,by omega,?_⟩
 cases l with
 |nil=>simp at hi
 |cons b r=>simpa using hi
theorem IF {α:Type} {l:List α} {a:α} {i:Nat} (h0:0<i) (h:l[i]?=some a):a∈l.tail:=by
 cases l with
 |nil=>simp at h
 |cons b r=>
  cases i with
  |zero=>omega
  |succ i=>exact ee (i:=i) (by simpa using h)
theorem NM {t:Tree} (h:cw t=true):mH t:=by
 have hr:=nB h;refine⟨by have:=TR.of hr t.nodes.length 0 az;simpa using this,hr.low0,fun n hn=> ?_⟩;obtain⟨i,h0,hi⟩:=NL hn;have:=wQ h (List.getElem?_eq_some_iff.1 hi).1;unfold bM at this;rw[hi] at this;simp only[dg,Bool.or_eq_true,decide_eq_true_eq,pN,decide_eq_false_iff_not] at this;rcases this.2.2.1 with h1|h1
 ·omega
 ·exact fun e=>h1 (by rw[e];rfl)
theorem mH.ok {t:Tree} (h:mH t) (Xk:t.nodes.length≤20) (Qv:(av t).length≤60):cw t=true:=by
 have hr:=h.r;have hl:=hr.len;have h1:=(List.getElem?_eq_some_iff.1 h.z).1;unfold cw y5;rw[h.z];simp only[dg,decide_eq_true_eq];refine⟨by omega,hl,trivial,vH.2 fun i hi=> ?_,Qv⟩;unfold bM;have e2:t.nodes[i]?=some t.nodes[i]:=aX hi;rw[e2];simp only[dg,Bool.or_eq_true,decide_eq_true_eq,pN,decide_eq_false_iff_not];refine⟨?_,hr.ok _ (oK hi),?_,List.all_eq_true.2 fun s hs=>List.all_eq_true.2 fun k hk=> ?_⟩
 ·cases i with
  |zero=>rfl
  |succ i=>
   have a1:t.ak[i]?=some t.ak[i]:=aX az;have a2:t.ak[i+1]?=some t.ak[i+1]:=aX az;simp only[fX,a1,a2,decide_eq_true_eq];exact hr.rise i _ _ a1 a2
 ·by_cases h0:i=0
  ·exact .inl h0
  ·exact .inr fun e=>h.ne _ (IF az e2) (List.length_eq_zero_iff.1 e)
 ·unfold dS xT
  have a1:t.ak[i]?=some t.ak[i]:=aX az;rw[a1];simp only[dg,pN,decide_eq_false_iff_not];have h3:=hr.lo i _ _ e2 a1 s hs k hk;refine⟨by omega,?_⟩
  cases hy:t.ak[i+1]? with
  |none=>rfl
  |some y=>simp only[decide_eq_true_eq];exact hr.hi i _ y e2 hy s hs k hk
theorem IG: ∀{l:List Nd},(∀(j:Nat) (a b:Nd),l[j]?=some a→l[j+1]?=some b→6<(aq a).length+(aq b).length)→7*(l.length/2)≤(l.flatMap aq).length
 |[],_=>by simp
 |[a],_=>by simp
 |a::b::r,h=>by
  have h1:=h 0 a b rfl rfl;have h2:=IG (l:=r) fun j x y hx hy=>h (j+2) x y (by simpa using hx) (by simpa using hy);simp only[List.flatMap_cons,cW,e7];omega
theorem xo {t:Tree}: ∀{d i:Nat},i+d=t.nodes.length→kQ t d i=none→ ∀j,i≤j→j+1<t.nodes.length→6<(eJ t j).length+(eJ t (j+1)).length
 |0,i,hd,_,j,h1,h2=>by omega
 |d+1,i,hd,h,j,h1,h2=>by
  unfold kQ at h
  split at h
  ·split at h
   ·cases h
   ·by_cases hij:i=j
    ·subst hij;omega
    ·exact xo az h j az h2
  ·omega
theorem NN {t:Tree} (h:gx t=none) (Qv:(av t).length≤60):t.nodes.length≤20:=by
 have:=IG (l:=t.nodes) fun j a b ha hb=>by
  have h1:=(List.getElem?_eq_some_iff.1 hb).1;have:=xo (t:=t) (d:=t.nodes.length) (i:=0) az h j az h1
  rwa [cX ha,cX hb] at this
 unfold av at Qv;omega
theorem NO {α:Type} {l:List α} {i:Nat} {a:α} (h:l[i]?=some a):l=l.take i++a::l.drop (i+1):=by
 obtain⟨h1,e⟩:=List.getElem?_eq_some_iff.1 h
 conv=>lhs;rw[←w6 i l]
 rw[ve h1,e]
theorem wU {l:List Key} {s:List Key} (h:s∈bD l) {k:Key} (hk:k∈s):k∈l:=by
 unfold bD at h
 split at h
 ·cases h
 ·rw[fk.1 h] at hk;exact hk
theorem mH.SH {t:Tree} (h:mH t) {A A1 A2 C:List Int} {N N1 N2 M:List Nd} (e1:t.ak=A++A1++C) (e2:t.nodes=N++N1++M) (hl:A.length=N.length) (Bz:A1.length=N1.length) {x:Int} (hx:A1[0]?=some x)
 (h2:TR (GM C none) A2 N2) (h0:A2[0]?=some x∨(A2=[]∧ ¬A=[])) (hn:NE N2) (hn2: ¬A=[]→ ∀n∈N2,¬aq n=[]):mH ⟨A++A2++C,N++N2++M⟩:=by
 obtain⟨tr,z,ne⟩:=h;rw[e1,e2,tT,tT] at tr;obtain⟨t1,t2⟩:=TR.split hl tr;obtain⟨t3,t4⟩:=TR.split Bz t2
 have WS:GM (A1++C) none=some x:=by
  cases A1 with
  |nil=>cases hx
  |cons a r=>simpa [GM] using hx
 rw[WS] at t1;rw[e2] at ne;rw[e1] at z;have WT:below x (GM C none):=t3.head x hx;refine⟨?_,?_,?_⟩
 ·show TR none (A++A2++C) (N++N2++M)
  rw[tT,tT];refine TR.app (TR.app t4 h2) (t1.mono fun y hy=> ?_);have hy:y<x:=hy;rcases h0 with h0|⟨h0,_⟩
  ·cases A2 with
   |nil=>cases h0
   |cons a r=>simp only[cP,bg] at h0;subst h0;exact hy
  ·subst h0;exact nC (Int.le_of_lt hy) WT
 ·show(A++A2++C)[0]?=some 0
  cases A with
  |cons a r=>simpa using z
  |nil=>
   rcases h0 with h0|⟨_,h0⟩
   ·cases A1 with
    |nil=>cases hx
    |cons a r=>
     cases A2 with
     |nil=>cases h0
     |cons b s=>
      simp only[pP,w4,cP,bg] at z hx h0 ⊢;omega
   ·exact absurd rfl h0
 ·show NE (N++N2++M)
  have hM: ∀n∈M,(¬N1=[])→ ¬aq n=[]:=fun n hm h1=>ne n (by
   cases N with
   |cons a r=>simp[hm]
   |nil=>
    cases N1 with
    |nil=>exact absurd rfl h1
    |cons b s=>simp[hm])
  have VL: ¬N1=[]:=fun e=>by
   subst e;rw[List.length_eq_zero_iff.1 Bz] at hx;cases hx
  intro n hnm
  cases N with
  |cons a r=>
   have hA: ¬A=[]:=fun e=>by rw[e] at hl;simp at hl
   simp only[w4,List.tail_cons,List.mem_append] at hnm;rcases hnm with(hnm|hnm)|hnm
   ·exact ne n (by simp[hnm])
   ·exact hn2 hA n hnm
   ·exact hM n hnm VL
  |nil=>
   have hA:A=[]:=List.length_eq_zero_iff.1 (by simpa using hl)
   cases N2 with
   |nil=>
    rcases h0 with h0|⟨_,h0⟩
    ·rw[List.length_eq_zero_iff.1 h2.len] at h0;cases h0
    ·exact absurd hA h0
   |cons b s=>
    simp only[pP,w4,List.tail_cons,List.mem_append] at hnm;rcases hnm with hnm|hnm
    ·exact hn n hnm
    ·exact hM n hnm VL
theorem mH.step {t:Tree} (h:mH t) {i:Nat} (hp:gx t=some i):mH (bN t i)∧av (bN t i)=av t:=by
 obtain⟨h1,h2⟩:=j9 hp;have hr:=h.r;have hl:=hr.len;have a1:t.nodes[i]?=some t.nodes[i]:=aX az;have a2:t.nodes[i+1]?=some t.nodes[i+1]:=aX h1;have b1:t.ak[i]?=some t.ak[i]:=aX az;have b2:t.ak[i+1]?=some t.ak[i+1]:=aX az;have en:=JQ a1 a2;have el:=JQ b1 b2;generalize ha:t.nodes[i]=a at*;generalize hb:t.nodes[i+1]=b at*;generalize hx:t.ak[i]=x at*;generalize hy:t.ak[i+1]=y at*;rw[cX a1,cX a2] at h2
 have e1:bN t i=⟨t.ak.take i++[x]++t.ak.drop (i+2),t.nodes.take i++[bD (aq a++aq b)]++t.nodes.drop (i+2)⟩:=by
  unfold bN gr;rw[cX a1,cX a2,jF,b1];rfl
 have el':t.ak=t.ak.take i++[x,y]++t.ak.drop (i+2):=by simpa using el
 have en':t.nodes=t.nodes.take i++[a,b]++t.nodes.drop (i+2):=by simpa using en
 have hlen:(t.ak.take i).length=(t.nodes.take i).length:=by simp[hl]
 have na:=h.tr.at i x a b1 a1;have nb:=h.tr.at (i+1) y b b2 a2;rw[r6,mX,b2] at na
 have hka: ∀k∈aq a,cv k=true∧x≤bJ k.b k.a∧bJ k.b k.a<y:=fun k hk=>by
  obtain⟨s,hs,hk⟩:=iQ hk;exact⟨nv na.1 hs hk,na.2.2 s hs k hk⟩
 have R6: ∀k∈aq b,cv k=true∧y≤bJ k.b k.a∧below (bJ k.b k.a) (GM (t.ak.drop (i+1+1)) none):=fun k hk=>by
  obtain⟨s,hs,hk⟩:=iQ hk;exact⟨nv nb.1 hs hk,nb.2.2 s hs k hk⟩
 have hxy:x<y:=na.2.1
 have IY:(aq a++aq b).Pairwise lS:=List.pairwise_append.2 ⟨jg a,jg b,fun u hu v hv=>by
  have:=hka u hu;have h4:=R6 v hv
  exact(ze this.1 h4.1).1 az⟩
 refine⟨?_,?_⟩
 ·rw[e1]
  refine h.SH el' en' hlen rfl (x:=x) rfl (A2:=[x]) (N2:=[bD (aq a++aq b)]) ⟨⟨tw IY (fun k hk=> ?_) (by rw[cW];omega),?_,fun s hs k hk=> ?_⟩,trivial⟩ (.inl rfl) (NK _) fun hA n hn=> ?_
  ·rcases List.mem_append.1 hk with hk|hk
   ·exact(hka k hk).1
   ·exact(R6 k hk).1
  ·exact nC (Int.le_of_lt hxy) nb.2.1
  ·rcases List.mem_append.1 (wU hs hk) with hk|hk
   ·exact⟨(hka k hk).2.1,nC (Int.le_of_lt (hka k hk).2.2) nb.2.1⟩
   ·exact⟨by have:=(R6 k hk).2.1;omega,(R6 k hk).2.2⟩
  ·rw[fk.1 hn,vN IY fun u hu=>by
    rcases List.mem_append.1 hu with hu|hu<;>exact AI hu]
   have hi:0<i:=Nat.pos_of_ne_zero fun e=>hA (by subst e;rfl);have:=h.ne a (IF hi a1);intro e;exact this (List.append_eq_nil_iff.1 e).1
 ·rw[e1]
  unfold av
  conv=>rhs;rw[en']
  simp only[List.flatMap_append,List.flatMap_cons,List.flatMap_nil,nh]
  rw[vN IY fun u hu=>by
     rcases List.mem_append.1 hu with hu|hu<;>exact AI hu]
theorem mH.join: ∀(n:Nat) {t:Tree},mH t→t.nodes.length≤n→mH (fe n t)∧av (fe n t)=av t∧gx (fe n t)=none
 |0,t,h,hn=>⟨h,rfl,by
    have:t.nodes.length=0:=by omega
    show gx t=none
    unfold gx;rw[this];rfl⟩
 |n+1,t,h,hn=>by
  rw[lI]
  cases hp:gx t with
  |none=>exact⟨h,rfl,hp⟩
  |some i=>
   obtain⟨h1,h2⟩:=h.step hp;have h3:=mq (j9 hp).1;obtain⟨h4,h5,h6⟩:=mH.join n h1 az;exact⟨h4,h5.trans h2,h6⟩
theorem II {n:Nd} {k y:Key} {s:List Key} (hs:s∈(bA n k).1) (hy:y∈s):y=k∨ ∃s∈n,y∈s:=by
 have hin:s∈eu n k→y=k∨ ∃s∈n,y∈s:=fun hs=>by
  unfold eu at hs
  split at hs
  ·rcases List.mem_append.1 hs with hs|hs
   ·exact .inr ⟨s,hs,hy⟩
   ·rw[fk.1 hs] at hy;exact .inl (fk.1 hy)
  ·rename_i s0 h0
   split at hs
   ·rcases List.mem_or_eq_of_mem_set hs with hs|hs
    ·exact .inr ⟨s,hs,hy⟩
    ·rw[hs] at hy
     rcases xX hy with hy|hy
     ·exact .inr ⟨s0,ee h0,hy⟩
     ·exact .inl hy
   ·rcases List.mem_append.1 hs with hs|hs
    ·exact .inr ⟨s,hs,hy⟩
    ·rw[fk.1 hs] at hy;exact .inl (fk.1 hy)
 unfold bA at hs
 split at hs
 ·exact hin hs
 ·split at hs
  ·exact .inr ⟨s,hs,hy⟩
  ·split at hs
   ·exact tq (wU hs hy)
   ·exact .inr ⟨s,hs,hy⟩
theorem FV {b a:Int} {l:List Nd} (h: ∀q∈l,look (aq q) b a=none):look (l.flatMap aq) b a=none:=oF fun x hx hs=>by
 obtain⟨q,hq,hx⟩:=List.mem_flatMap.1 hx;have:=h q hq;unfold look at this;rw[List.find?_eq_none] at this;exact this x hx (by unfold jS;simpa using hs)
theorem EA {t:Tree} {x:Key} (h:x∈av t): ¬x.k=0:=by
 obtain⟨n,_,hx⟩:=List.mem_flatMap.1 h;exact AI hx
theorem tG {t:Tree} (b a:Int):(look (av t) b a).filter eK=look (av t) b a:=by
 cases h:look (av t) b a with
 |none=>rfl
 |some x=>
  have:=EA (wS h).1;simp[Option.filter,eK,this]
theorem LP {t:Tree} {k:Key} (h:cw t=true) (hk:cv k=true):mH (eC t (eo t k.b k.a).toNat k)∧av (eC t (eo t k.b k.a).toNat k)=fH (bU (av t) k):=by
 have hw:=NM h;have hr:=hw.r;have hl:=hr.len
 have nE:0≤bJ k.b k.a:=by have:=mu hk;rw[jR hk];omega
 unfold eo;rcases tF (f:=fun x=>decide (x≤bJ k.b k.a)) (l:=t.ak) t.ak.length (cq _) with⟨_,h2⟩|⟨i,h1,h2,⟨x,hx,hf⟩,h4⟩
 ·have hpos:=(List.getElem?_eq_some_iff.1 hr.low0).1
  have:=h2 0 0 hpos hr.low0;simp only[decide_eq_false_iff_not] at this;omega
 rw[h1];simp only[rH];have hlo:x≤bJ k.b k.a:=tV hf
 have hhi: ∀j y,i<j→t.ak[j]?=some y→bJ k.b k.a<y:=fun j y hij hy=>by
  have:=h4 j y hij (List.getElem?_eq_some_iff.1 hy).1 hy;simp only[decide_eq_false_iff_not] at this;omega
 have hi:i<t.nodes.length:=by omega
 have hn:t.nodes[i]?=some t.nodes[i]:=aX hi;generalize hne:t.nodes[i]=n at*
 have el:t.ak=t.ak.take i++[x]++t.ak.drop (i+1):=by simpa using NO hx
 have en:t.nodes=t.nodes.take i++[n]++t.nodes.drop (i+1):=by simpa using NO hn
 have nd:=hw.tr.at i x n hx hn
 have hkn:below (bJ k.b k.a) (GM (t.ak.drop (i+1)) none):=by
  rw[r6,mX]
  cases hy:t.ak[i+1]? with
  |none=>trivial
  |some y=>exact hhi (i+1) y az hy
 have hlen:(t.ak.take i).length=(t.nodes.take i).length:=by simp[hl]
 have hgd:t.nodes.getD i []=n:=by rw[jF,hn];rfl
 have WU:t.ak.getD i 0=x:=by rw[jF,hx];rfl
 have hin: ∀y:Key,(y=k∨ ∃s∈n,y∈s)→cv y=true∧x≤bJ y.b y.a∧below (bJ y.b y.a) (GM (t.ak.drop (i+1)) none):=fun y hy=>by
  rcases hy with rfl|⟨s,hs,hy⟩
  ·exact⟨hk,hlo,hkn⟩
  ·exact⟨nv nd.1 hs hy,nd.2.2 s hs y hy⟩
 have mid: ∃(A2:List Int) (N2:List Nd),eC t i k=⟨t.ak.take i++A2++t.ak.drop (i+1),t.nodes.take i++N2++t.nodes.drop (i+1)⟩∧TR (GM (t.ak.drop (i+1)) none) A2 N2∧(A2[0]?=some x∨(A2=[]∧ ¬t.ak.take i=[]))∧NE N2∧(¬t.ak.take i=[]→ ∀m∈N2,¬aq m=[])∧N2.flatMap aq=bB n k:=by
  unfold eC;rw[hgd,WU]
  cases hp:(bA n k).2 with
  |true=>
   obtain⟨k1,k2⟩:=GK nd.1 hp;rw[aZ rfl];have hA: ¬t.ak.take i=[]→0<i:=fun hA=>Nat.pos_of_ne_zero fun e=>hA (by subst e;rfl)
   by_cases hz:0<i∧(aq (bA n k).1).length=0
   ·rw[aZ hz]
    refine⟨[],[],rfl,trivial,.inr ⟨rfl,fun e=> ?_⟩,Rh,fun _ m hm=>(by cases hm),?_⟩
    ·have h5:(t.ak.take i).length=i:=by rw[eM];omega
     rw[e] at h5;have h6:=hz.1;have h7:0=i:=h5;omega
    ·rw[←k1,List.length_eq_zero_iff.1 hz.2];rfl
   ·rw[aR hz]
    refine⟨[x],[(bA n k).1],rfl,⟨⟨k2,nC hlo hkn,fun s hs y hy=>(hin y (II hs hy)).2⟩,trivial⟩,.inl rfl,NK _,fun WV m hm=> ?_,by simp[k1]⟩;rw[fk.1 hm];exact fun e=>hz ⟨hA WV,by rw[e];rfl⟩
  |false=>
   obtain⟨h8,_⟩:=xZ nd.1 hk hp;rw[aR dI];have IY:=nc n k;have hall: ∀y∈bB n k,(y=k∨ ∃s∈n,y∈s)∧ ¬y.k=0:=fun y hy=>⟨tq hy,FQ hy⟩
   have h9:(bB n k).length≤9:=by
    have h5:=iP n k;have h6:=r5 nd.1;omega
   generalize bB n k=L at*;have hh:=GJ h8;generalize Qw:(L.length+1)/2=zV at*;have hg:L[zV]?=some L[zV]:=aX hh
   have WW:L.getD zV di=L[zV]:=by rw[jF,hg];rfl
   rw[WW];generalize hm:L[zV]=m at*;have hsplit:=NO hg
   have IX:L.drop zV=m::L.drop (zV+1):=by rw[ve hh,hm]
   have On:(L.take zV++L.drop zV).Pairwise lS:=by rw[w6];exact IY
   obtain⟨p1,p2,p3⟩:=List.pairwise_append.1 On;have Ve:m∈L:=ee hg;have ok1: ∀y∈L,cv y=true∧x≤bJ y.b y.a∧below (bJ y.b y.a) (GM (t.ak.drop (i+1)) none):=fun y hy=>hin y (hall y hy).1;have lt1: ∀y∈L.take zV,bJ y.b y.a<bJ m.b m.a:=fun y hy=>(ze (ok1 y (rI hy)).1 (ok1 m Ve).1).2 (p3 y hy m (by rw[IX];exact .head _))
   have le2: ∀y∈L.drop zV,bJ m.b m.a≤bJ y.b y.a:=fun y hy=>by
    rw[IX] at hy p2;rcases cu.1 hy with rfl|hy
    ·exact Int.le_refl _
    ·have:=(ze (ok1 m Ve).1 (ok1 y (vh hy)).1).2 ((List.pairwise_cons.1 p2).1 y hy)
     omega
   have k1:aq (bD (L.take zV))=L.take zV:=vN p1 fun y hy=>(hall y (rI hy)).2;have k2:aq (bD (L.drop zV))=L.drop zV:=vN p2 fun y hy=>(hall y (vh hy)).2
   have l1:(L.take zV).length=zV:=by rw[eM];omega
   have l2:(L.drop zV).length=L.length-zV:=iF
   have hpos:0<zV:=by omega
   have q1: ∃y,y∈L.take zV:=⟨(L.take zV)[0]'az,oK _⟩
   have WX:x<bJ m.b m.a:=by
    obtain⟨y,hy⟩:=q1;have h5:=lt1 y hy;have h6:=(ok1 y (rI hy)).2.1;omega
   have ne1: ¬aq (bD (L.take zV))=[]:=fun e=>by rw[k1] at e;have:=congrArg List.length e;rw[l1] at this;simp at this;omega
   have ne2: ¬aq (bD (L.drop zV))=[]:=fun e=>by rw[k2] at e;have:=congrArg List.length e;rw[l2] at this;simp at this;omega
   refine⟨[x,bJ m.b m.a],[bD (L.take zV),bD (L.drop zV)],rfl,⟨⟨tw p1 (fun y hy=>(ok1 y (rI hy)).1) az,WX,fun s hs y hy=>⟨(ok1 y (rI (wU hs hy))).2.1,lt1 y (wU hs hy)⟩⟩,⟨tw p2 (fun y hy=>(ok1 y (vh hy)).1) az,(ok1 m Ve).2.2,fun s hs y hy=>⟨le2 y (wU hs hy),(ok1 y (vh (wU hs hy))).2.2⟩⟩,trivial⟩,.inl rfl,fun q hq=> ?_,fun _ q hq=> ?_,?_⟩
   ·simp only[List.tail_cons,fk] at hq
    rw[hq];exact ne2
   ·simp only[cu,List.not_mem_nil,or_false] at hq
    rcases hq with rfl|rfl
    ·exact ne1
    ·exact ne2
   ·simp only[List.flatMap_cons,List.flatMap_nil,nh,k1,k2,w6]
 obtain⟨A2,N2,e0,m1,m2,m3,m4,m5⟩:=mid
 have hW:mH (eC t i k):=by
  rw[e0];exact hw.SH el en hlen rfl (x:=x) rfl m1 m2 m3 m4
 refine⟨hW,zc hW.r.eA ((iK hr.eA).sublist List.filter_sublist) fun b a=> ?_⟩
 have e3:av (eC t i k)=(t.nodes.take i).flatMap aq++bB n k++(t.nodes.drop (i+1)).flatMap aq:=by
  rw[e0];unfold av;simp only[List.flatMap_append,m5]
 have e4:av t=(t.nodes.take i).flatMap aq++aq n++(t.nodes.drop (i+1)).flatMap aq:=by
  unfold av
  conv=>lhs;rw[en]
  simp only[List.flatMap_append,List.flatMap_cons,List.flatMap_nil,nh]
 show look (av (eC t i k)) b a=look ((bU (av t) k).filter eK) b a;rw[jT (iK hr.eA),lQ hr.eA,e3,kR,kR,FR k (ny nd.1)]
 by_cases hs:k.b=b∧k.a=a
 ·obtain⟨rfl,rfl⟩:=hs
  rw[aZ ⟨rfl,rfl⟩,aZ ⟨rfl,rfl⟩];have hno:=hr.KZ hx hlo hhi
  have f1:look ((t.nodes.take i).flatMap aq) k.b k.a=none:=FV fun q hq=>by
   obtain⟨j,hj⟩:=List.mem_iff_getElem?.1 hq
   have Qu:j<i:=by have:=(List.getElem?_eq_some_iff.1 hj).1;rw[eM] at this;omega
   rw[List.getElem?_take_of_lt Qu] at hj;exact hno j q hj az
  have f2:look ((t.nodes.drop (i+1)).flatMap aq) k.b k.a=none:=FV fun q hq=>by
   obtain⟨j,hj⟩:=List.mem_iff_getElem?.1 hq;rw[kJ] at hj;exact hno (i+1+j) q hj az
  rw[f1,f2,Option.none_or,Option.or_none]
 ·rw[aR hs,aR hs,tG,←wT (ny nd.1),e4,kR,kR]
theorem DP {t:Tree} {k:Key} (h:cw t=true) (hk:cv k=true):mH (fe (eC t (eo t k.b k.a).toNat k).nodes.length (eC t (eo t k.b k.a).toNat k))∧av (fe (eC t (eo t k.b k.a).toNat k).nodes.length (eC t (eo t k.b k.a).toNat k))=fH (bU (av t) k)∧
 ((fH (bU (av t) k)).length≤60→cw (fe (eC t (eo t k.b k.a).toNat k).nodes.length (eC t (eo t k.b k.a).toNat k))=true):=by
 obtain⟨h1,h2⟩:=LP h hk;obtain⟨h3,h4,h5⟩:=h1.join _ (cq _);rw[h2] at h4;exact⟨h3,h4,fun Qv=>h3.ok (NN h5 (by rw[h4];exact Qv)) (by rw[h4];exact Qv)⟩
theorem tH {t:Tree} {k:Key} (h:cw t=true) (hk:cv k=true) (hp:(aO t k).2=true):av (aO t k).1=fH (bU (av t) k):=by
 unfold aO at hp ⊢;rw[aZ ⟨h,hk⟩] at hp ⊢
 split
 ·exact(DP h hk).2.1
 ·rename_i h1;rw[aR h1] at hp;cases hp
theorem EB {t:Tree} (h:cw t=true):(av t).length≤60:=by
 unfold cw at h;simp only[dg,decide_eq_true_eq] at h;exact h.2.2.2.2
theorem GO {t:Tree} {k:Key} (h:cw t=true) (hk:cv k=true) (hp:(aO t k).2=false):(av t).length=60∧(aO t k).1=t:=by
 refine⟨?_,tD hp⟩;have Qv:=EB h;unfold aO at hp;rw[aZ ⟨h,hk⟩] at hp
 split at hp
 ·cases hp
 ·rename_i h1
  have h2: ¬(fH (bU (av t) k)).length≤60:=fun h2=>h1 ((DP h hk).2.2 h2);have h3:(fH (bU (av t) k)).length≤(bU (av t) k).length:=Kb _ _;have h4:=gY (av t) k;omega
theorem zf {t:Tree} {k:Key} (h:cw t=true) (hk:cv k=true) (hp:(aO t k).2=true) {b a:Int} (hs:0≤bJ b a):
 mW (aO t k).1 b a=if k.b=b∧k.a=a then(if k.k=0 then(di,false) else(k,true)) else mW t b a:=by
 have hr:=nB h;rw[(nB (oY hp)).find hs,tH h hk hp,hr.find hs];show zd (look ((bU (av t) k).filter eK) b a)=_;rw[jT (iK hr.eA),lQ hr.eA]
 by_cases h1:k.b=b∧k.a=a
 ·rw[aZ h1,aZ h1]
  by_cases h2:k.k=0
  ·rw[aZ h2];simp[Option.filter,eK,h2,zd]
  ·rw[aR h2];simp[Option.filter,eK,h2,zd]
 ·rw[aR h1,aR h1,tG]
theorem JU {t:Tree} (h:cw t=true) {x:Key} (hx:x∈av t):mW t x.b x.a=(x,true):=by
 have hr:=nB h;have hk:=hr.KY hx;have:=mu hk;rw[hr.find (by rw[jR hk];omega),DN hr.eA hx];rfl
theorem DQ {b a:Int}: ∀{l:List Key},l.Pairwise lS→l.length=(l.filter fun x=> !jS b a x).length+(if(look l b a).isSome=true then 1 else 0)
 |[],_=>rfl
 |x::r,h=>by
  obtain⟨h1,h2⟩:=List.pairwise_cons.1 h;have ih:=DQ (b:=b) (a:=a) h2;rw[fQ]
  by_cases hs:x.b=b∧x.a=a
  ·have hr:look r b a=none:=oF fun y hy h=>by
    have:=h1 y hy;unfold lS at this;omega
   have FZ:jS b a x=true:=by unfold jS;simpa using hs
   rw[hr] at ih;rw[aZ hs,List.filter_cons_of_neg (by simp[FZ])];simp only[Option.isSome_none,rG,if_false,mF] at ih;simp[ih]
  ·have FZ:jS b a x=false:=by unfold jS;simpa using hs
   rw[aR hs,List.filter_cons_of_pos (by simp[FZ])];simp only[e7];omega
theorem EC {t:Tree} {k:Key} (h:cw t=true) (hk:cv k=true) (hp:(aO t k).2=true):
 ((av (aO t k).1).length:Int)=(av t).length-(if(mW t k.b k.a).2=true then 1 else 0)+(if k.k=0 then 0 else 1):=by
 have hr:=nB h
 have hs:0≤bJ k.b k.a:=by have:=mu hk;rw[jR hk];omega
 have Cx:=nB (oY hp);have c1:=DQ (b:=k.b) (a:=k.a) hr.eA;have c2:=DQ (b:=k.b) (a:=k.a) Cx.eA;have f1:=hr.find hs;have f2:=zf h hk hp hs;rw[aZ ⟨rfl,rfl⟩,Cx.find hs] at f2
 have same:(av (aO t k).1).filter (fun x=> !jS k.b k.a x)=(av t).filter fun x=> !jS k.b k.a x:=by
  refine zc (Cx.eA.sublist List.filter_sublist) (hr.eA.sublist List.filter_sublist) fun b a=> ?_;rw[jT Cx.eA,jT hr.eA,tH h hk hp];show(look ((bU (av t) k).filter eK) b a).filter _=_;rw[jT (iK hr.eA),lQ hr.eA]
  by_cases h1:k.b=b∧k.a=a
  ·rw[aZ h1]
   have e1: ∀o:Option Key,(∀x,o=some x→x.b=b∧x.a=a)→o.filter (fun x=> !jS k.b k.a x)=none:=fun o ho=>by
    cases o with
    |none=>rfl
    |some x=>
     have:=ho x rfl
     have FZ:jS k.b k.a x=true:=by unfold jS;simp;omega
     simp[Option.filter,FZ]
   have e2:=e1 ((some k).filter eK) fun x hx=>by
    cases hn:eK k with
    |true=>rw[show(some k).filter eK=some k from by simp[Option.filter,hn]] at hx;cases hx;exact h1
    |false=>rw[show(some k).filter eK=none from by simp[Option.filter,hn]] at hx;cases hx
   rw[e2,e1 _ fun x hx=>(wS hx).2]
  ·rw[aR h1,tG]
 rw[same] at c2
 have g1:(mW t k.b k.a).2=(look (av t) k.b k.a).isSome:=by rw[f1];cases look (av t) k.b k.a<;>rfl
 have g2:(look (av (aO t k).1) k.b k.a).isSome= !decide (k.k=0):=by
  have:(zd (look (av (aO t k).1) k.b k.a)).2=(look (av (aO t k).1) k.b k.a).isSome:=by cases look (av (aO t k).1) k.b k.a<;>rfl
  rw[←this,f2]
  by_cases hz:k.k=0<;>simp[hz]
 rw[g1];rw[g2] at c2
 by_cases hz:k.k=0
 ·rw[aZ hz]
  simp only[hz,decide_true,CN,rG,if_false] at c2
  split at c1<;>rename_i hq<;>simp only[hq,if_true,if_false,rG]<;>omega
 ·rw[aR hz]
  simp only[hz,decide_false,Bool.not_false,if_true] at c2
  split at c1<;>rename_i hq<;>simp only[hq,if_true,if_false,rG]<;>omega
end Go.T
namespace Go.T
end Go.T
namespace Go.T
end Go.T
namespace Go.T
theorem vJ.lt: ∀{l:List CK},vJ l→l.Pairwise fun a b=>Ht a.name b.name=true
 |[],_=> .nil
 |[a],_=>by simp
 |a::b::r,h=>by
  have ih:=vJ.lt (l:=b::r) h.2;refine List.pairwise_cons.2 ⟨fun c hc=> ?_,ih⟩;rcases cu.1 hc with rfl|hc
  ·exact h.1
  ·exact FM h.1 ((List.pairwise_cons.1 ih).1 c hc)
theorem JV:cw ⟨[0],[[]]⟩=true:=by decide+kernel
end Go.T
namespace Go.T
set_option maxRecDepth 100000
end Go.T
namespace Go.T
theorem NP {b a k c g:Int} (hb:0≤b∧b≤15) (ha:1≤a∧a≤60) (hk:0≤k∧k≤2) (h:(k=1∧0≤c∧c≤23∧0≤g∧g≤999)∨(¬k=1∧c=0∧g=0)):cv ⟨b,a,k,c,g⟩=true:=by
 unfold cv y5;simp only[dg,decide_eq_true_eq];refine⟨⟨⟨hb,ha⟩,hk⟩,?_⟩;rcases h with⟨h1,h2⟩|⟨h1,h2⟩
 ·rw[aZ h1];simp only[dg,decide_eq_true_eq];omega
 ·rw[aR h1];simp only[dg,decide_eq_true_eq];exact h2
theorem Pf {x:Key} (h:cv x=true) {b:Int} (hb:0≤b∧b≤15):cv ⟨b,x.a,x.k,x.c,x.g⟩=true:=by
 unfold cv y5 at h ⊢;simp only[dg,decide_eq_true_eq] at h ⊢;exact⟨⟨⟨hb,h.1.1.2⟩,h.1.2⟩,h.2⟩
theorem IJ {t:Tree} (h:cw t=true) (k:Key):cw (aO t k).1=true:=by
 cases hp:(aO t k).2 with
 |true=>exact oY hp
 |false=>rw[tD hp];exact h
theorem GP {t:Tree} {k:Key} (h:cw t=true) (hk:cv k=true):(av (aO t k).1).length≤(av t).length+1:=by
 cases hp:(aO t k).2 with
 |true=>
  rw[tH h hk hp];have h3:(fH (bU (av t) k)).length≤(bU (av t) k).length:=Kb _ _;have h4:=gY (av t) k;omega
 |false=>rw[tD hp];omega
end Go.T
namespace Go.T
variable {C : hD} {f : FuncId} {vs : List TV} {b : List Int}
theorem ya {P:Int→Prop} {K:Int→RR→Int→Int→Prop} (h:cJ C f vs (Dr b fun r=> ∃x,r=vI x∧P x)) (k: ∀x i h,0≤i→P x→K x (b.map jP) i h):
 ∃(n:Int) (l:List (List TC)) (n2 n3:Int),ax C f vs (TV.c (TC.sc (Value.int IntKind.i64 n))) [TV.bx [TC.sub 1 l,TC.sc (Value.int IntKind.i64 n2),TC.sc (Value.int IntKind.i64 n3)]]∧K n l n2 n3:=by
 obtain⟨_,_,hr,i,h',hi,rfl,x,rfl,hx⟩:=h;exact⟨x,_,i,h',hr,k x i h' hi hx⟩
theorem JW {P:Key→Prop} {K:Int→Int→Int→Int→Int→RR→Int→Int→Prop} (h:cJ C f vs (Dr b fun r=> ∃x,r=TV.ag (bE x)∧P x)) (k: ∀x i h,0≤i→P x→K x.b x.a x.k x.c x.g (b.map jP) i h):
 ∃(m1 m2 m3 m4 m5:Int) (l:List (List TC)) (n2 n3:Int),ax C f vs (TV.ag [TC.sc (Value.int IntKind.i64 m1),TC.sc (Value.int IntKind.i64 m2),TC.sc (Value.int IntKind.i64 m3),TC.sc (Value.int IntKind.i64 m4),TC.sc (Value.int IntKind.i64 m5)]) [TV.bx [TC.sub 1 l,TC.sc (Value.int IntKind.i64 n2),TC.sc (Value.int IntKind.i64 n3)]]∧K m1 m2 m3 m4 m5 l n2 n3:=by
 obtain⟨_,_,hr,i,h',hi,rfl,x,rfl,hx⟩:=h;exact⟨x.b,x.a,x.k,x.c,x.g,_,i,h',hr,k x i h' hi hx⟩
theorem Pg {P:Tree→Prop} {K:RR→RR→RR→Int→Int→Prop} (h:cJ C f vs (Dr b fun r=> ∃x:Tree,r=cS x∧P x)) (k: ∀(x:Tree) i h,0≤i→P x→K (x.ak.map bW) (x.nodes.map bk) (b.map jP) i h):
 ∃(l0 l1 l:List (List TC)) (n2 n3:Int),ax C f vs (TV.ag [TC.sub 1 l0,TC.sub 1 l1]) [TV.bx [TC.sub 1 l,TC.sc (Value.int IntKind.i64 n2),TC.sc (Value.int IntKind.i64 n3)]]∧K l0 l1 l n2 n3:=by
 obtain⟨_,_,hr,i,h',hi,rfl,x,rfl,hx⟩:=h;exact⟨_,_,_,i,h',hr,k x i h' hi hx⟩
theorem Ri {K:RR→Int→Int→Prop} (h:cJ C f vs (fun r fs=>fs=[]∧ ∃h,r=Ez b 0 h)) (k: ∀h,K (b.map jP) 0 h):
 ∃(l:List (List TC)) (n2 n3:Int),ax C f vs (TV.bx [TC.sub 1 l,TC.sc (Value.int IntKind.i64 n2),TC.sc (Value.int IntKind.i64 n3)]) []∧K l n2 n3:=by
 obtain⟨_,_,hr,rfl,x,rfl⟩:=h;exact⟨_,_,_,hr,k x⟩
theorem GQ {P:TV→Prop} {r:TV} {i h:Int} (hi:0≤i) (hP:P r):Dr b P r [TV.bx [TC.sub 1 (b.map jP),TC.sc (Value.int IntKind.i64 i),TC.sc (Value.int IntKind.i64 h)]]:=⟨i,h,hi,rfl,hP⟩
end Go.T
