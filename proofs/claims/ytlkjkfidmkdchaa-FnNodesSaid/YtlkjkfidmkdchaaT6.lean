import Derived.Test.YtlkjkfidmkdchaaT5
set_option linter.all false
namespace Go.T
def JB (cf:Cf):Prop:= ∀f vs r fs r' fs',cf f vs r fs→cf f vs r' fs'→r=r'∧fs=fs'
def Ln (lp:Lp):Prop:= ∀f i c st (Q Q':TX→TS→Prop),lp f i c st Q→lp f i c st Q'→ ∃x s,Q x s∧Q' x s
theorem gH {R:Type} {cf:Cf} {lp:Lp} (hc:JB cf) (hl:Ln lp) {Q Q':R→Prop}: ∀(e:Ev R),e.holds cf lp Q→e.holds cf lp Q'→ ∃r,Q r∧Q' r
 | .fail,h,_=>h.elim
 | .ret r,h,h'=>⟨r,h,h'⟩
 | .test b k,h,h'=>gH hc hl (k b) h h'
 | .row rows i k,⟨c,h1,h2⟩,⟨c',wC,FD⟩=>by
   rw[h1] at wC;cases wC;exact gH hc hl (k c) h2 FD
 | .byte rows i k,⟨c,h1,h2⟩,⟨c',wC,FD⟩=>by
   rw[h1] at wC;cases wC;exact gH hc hl (k c) h2 FD
 | .bytes rows k,⟨c,h1,h2⟩,⟨c',wC,FD⟩=>by
   rw[h1] at wC;cases wC;exact gH hc hl (k c) h2 FD
 | .call f vs k,⟨r,fs,h1,h2⟩,⟨r',fs',wC,FD⟩=>by
   obtain⟨rfl,rfl⟩:=hc _ _ _ _ _ _ h1 wC;exact gH hc hl (k r fs) h2 FD
 | .loop f i c st k,h,h'=>by
   obtain⟨x,s,h1,h2⟩:=hl _ _ _ _ _ _ h h';exact gH hc hl (k x s) h1 h2
 | .both a b,⟨r,h1,h2,h3⟩,⟨r',wC,FD,IQ⟩=>by
   obtain⟨r0,e1,e2⟩:=gH hc hl a h1 wC;subst e1 e2;exact⟨_,h3,IQ⟩
section
variable {C : eZ}
theorem Da {cf:Cf} {lp:Lp} (hc:JB cf) (hl:Ln lp) {fx:List Nat} {f i:Nat} {c:Code} {Q Q':TX→TS→Prop}: ∀(n:Nat) (st:TS),iter C cf lp fx f i c Q n st→iter C cf lp fx f i c Q' n st→ ∃x s,Q x s∧Q' x s
 |0,_,h,_=>h.elim
 |n+1,st,h,h'=>by
  obtain⟨⟨x,s⟩,h1,h2⟩:=gH hc hl _ h h'
  cases x with
  |norm=>
   simp only at h1 h2;rw[iT] at h1 h2;exact Da hc hl n _ h1 h2
  |ex id=>exact⟨_,_,h1,h2⟩
  |ret=>exact⟨_,_,h1,h2⟩
theorem Fj {cf:Cf} (hc:JB cf) (k:Nat) (fx:List Nat): ∀n,Ln (DI C cf k fx n)
 |0=>fun _ _ _ _ _ _ h _=>h.elim
 |n+1=>fun f i c st Q Q' h h'=>Da hc (Fj hc k fx n) k st h h'
theorem vk: ∀k,JB (dw C k)
 |0=>fun _ _ _ _ _ _ h _=>h.elim
 |k+1=>fun f vs r fs r' fs' h h'=>by
  unfold dw at h h'
  cases hx:C.ext f with
  |some p=>rw[hx] at h h';have h:p vs=some (r,fs):=h;have h':p vs=some (r',fs'):=h';rw[h] at h';cases h';exact⟨rfl,rfl⟩
  |none=>
  rw[hx] at h h';simp only at h h';obtain⟨p,h1,h2⟩:=gH (vk k) (Fj (vk k) k _ 4) _ h h';rw[h1] at h2
  cases h2
  exact⟨rfl,rfl⟩
theorem aq.PI {f:FuncId} {vs:List TV} {r r':TV} {fs fs':List TV} (h:aq C f vs r fs) (h':aq C f vs r' fs'):r'=r∧fs'=fs:=by
 obtain⟨k,h⟩:=h;obtain⟨k',h'⟩:=h';obtain⟨h1,h2⟩:=vk (max k k') _ _ _ _ _ _ (fo (Ae _ _) h) (fo (Nat.le_max_right _ _) h');exact⟨h1.symm,h2.symm⟩
end
def jL {α:Type} (l:List α) (i:Int):Option α:=if 0≤i then l[i.toNat]? else none
theorem bE {α:Type} (l:List α) (i:Nat):jL l (i:Int)=l[i]?:=by
 unfold jL;rw[aO (Int.natCast_nonneg i),Gs]
theorem AO {α:Type} {l:List α} {i:Int} (h0:0≤i) (h1:i<l.length): ∃a,jL l i=some a:=by
 unfold jL;rw[aO h0];exact⟨_,aN aB⟩
theorem bS {α:Type} (e:α→List TC) (l:List α) (i:Int):rowAt (l.map e) i=(jL l i).map e:=by
 unfold rowAt jL
 split
 ·rw[eF]
 ·rfl
theorem HY {α:Type} {l:List α} {i:Int} {a:α} (h:jL l i=some a):a∈l:=by
 unfold jL at h
 split at h
 ·exact c7 h
 ·cases h
@[simp] theorem Kk {α:Type} (e:α→List TC) (l:List α) (a b:Int):cF (l.map e) a b=((l.take b.toNat).drop a.toNat).map e:=by
  unfold cF;rw[←Ck,←Ac]
theorem lq {rows:List (List TC)} (h: ∀r∈rows,∀c∈r,∃v,c= .sc v):cT rows=true:=by
 unfold cT;rw[List.all_eq_true];intro r hr;rw[List.all_eq_true];intro c hc;obtain⟨v,rfl⟩:=h r hr c hc
 rfl
@[simp] theorem OG (s:ByteArray):(ByteArray.data s).1.length=s.size:=rfl
@[simp] theorem ML (l h n:Int):Af l h n=decide (0≤l∧l≤h∧h≤n):=by unfold Af;rfl
end Go.T
namespace Go.T
structure Key where
 b:Int
 a:Int
 k:Int
 c:Int
 g:Int
 deriving DecidableEq
structure Ef where
 id:Int
 fr:Int
 deriving DecidableEq
structure Cell where
 g:Int
 u:Bool
 n:Int
 deriving DecidableEq
structure xy where
 name:ByteArray
 KQ:Int
 size:Int
 fx:Bool
structure Mp where
 name:ByteArray
 fx:Bool
 l:List Int
structure Tree where
 cv:List Int
 nodes:List (List (List Key))
structure MM where
 t:Tree
 J4:List Ef
 cells:List Cell
 PB:List xy
 next:Int
structure IN where
 kind:Int
 name:ByteArray
 to:ByteArray
 a:Int
 b:Int
abbrev iI (n:Int):TC:= .sc (.int .i64 n)
abbrev iB (b:Bool):TC:= .sc (.bool b)
abbrev iS (s:ByteArray):TC:= .sc (.string s)
abbrev cI (n:Int):CE:= .sc (.int .i64 n)
abbrev cB (b:Bool):CE:= .sc (.bool b)
abbrev bW (a b:Int):Int:=Dz .i64 a b
abbrev dy (a b:Int):Int:=xI .i64 a b
abbrev vl (a b:Int):Int:=DA .i64 a b
theorem bR {a b:Int} (h: -9223372036854775808≤a+b∧a+b≤9223372036854775807):bW a b=a+b:=Jy h
theorem iX {a b:Int} (h: -9223372036854775808≤a-b∧a-b≤9223372036854775807):dy a b=a-b:=Jz h
theorem JC {a b:Int} (h: -9223372036854775808≤a*b∧a*b≤9223372036854775807):vl a b=a*b:=BL h
abbrev RR:=List (List TC)
abbrev QV:=TV→List TV→Prop
abbrev QX:=TX→TS→Prop
abbrev sI:Sh:= .int .i64
abbrev sB:Sh:= .bool
abbrev hz:Hint:= .z
abbrev hb:Hint→Hint→Hint:= .br
abbrev hr:List Sh→Hint→Hint:= .row
abbrev hc:zI→List zI→Hint→Hint:= .call
def sD (n:Int):List TC:=[.sc (.int .i64 n)]
def gR (n:Int):List TC:=[.sc (.int .u8 n)]
def Fk (n:Bool):List TC:=[.sc (.bool n)]
def bB (x:Key):List TC:=[.sc (.int .i64 x.b),.sc (.int .i64 x.a),.sc (.int .i64 x.k),.sc (.int .i64 x.c),.sc (.int .i64 x.g)]
def vm (x:Ef):List TC:=[.sc (.int .i64 x.id),.sc (.int .i64 x.fr)]
def oW (x:Cell):List TC:=[.sc (.int .i64 x.g),.sc (.bool x.u),.sc (.int .i64 x.n)]
def qq (x:xy):List TC:=[.sc (.string x.name),.sc (.int .i64 x.KQ),.sc (.int .i64 x.size),.sc (.bool x.fx)]
def Fl (x:IN):List TC:=[.sc (.int .i64 x.kind),.sc (.string x.name),.sc (.string x.to),.sc (.int .i64 x.a),.sc (.int .i64 x.b)]
def vn (x:Mp):List TC:=[.sc (.string x.name),.sc (.bool x.fx),.sub 1 (x.l.map sD)]
def HZ (x:List Int):List TC:=[.sub 1 (x.map gR)]
def bg (x:List Key):List TC:=[.sub 5 (x.map bB)]
def yH (x:List (List Key)):List TC:=[.sub 1 (x.map bg)]
abbrev vI (n:Int):TV:= .c (.sc (.int .i64 n))
abbrev vB (b:Bool):TV:= .c (.sc (.bool b))
abbrev vS (s:ByteArray):TV:= .c (.sc (.string s))
abbrev MN (l:List Int):TV:= .c (.sub 1 (l.map sD))
abbrev yI (l:List Int):TV:= .c (.sub 1 (l.map gR))
abbrev bV (l:List Key):TV:= .c (.sub 5 (l.map bB))
abbrev tW (k:Key):TV:= .ag [.sc (.int .i64 k.b),.sc (.int .i64 k.a),.sc (.int .i64 k.k),.sc (.int .i64 k.c),.sc (.int .i64 k.g)]
abbrev di (n:List (List Key)):TV:= .ag [.sub 1 (n.map bg)]
section
variable {i : Int}
@[simp] theorem OH {l:List Int} {K:Int→Prop}:(∃n,rowAt (l.map sD) i=some [.sc (.int .i64 n)]∧K n)↔ ∃a,jL l i=some a∧K a:=by
  rw[bS]
  constructor
  ·rintro⟨n,h,hK⟩
   obtain⟨a,ha,h⟩:=Option.map_eq_some_iff.1 h;unfold sD at h;cases h;exact⟨_,ha,hK⟩
  ·rintro⟨a,ha,hK⟩
   exact⟨_,by rw[ha];rfl,hK⟩
@[simp] theorem NR {l:List Int} {K:Int→Prop}:(∃n,rowAt (l.map gR) i=some [.sc (.int .u8 n)]∧K n)↔ ∃a,jL l i=some a∧K a:=by
  rw[bS]
  constructor
  ·rintro⟨n,h,hK⟩
   obtain⟨a,ha,h⟩:=Option.map_eq_some_iff.1 h;unfold gR at h;cases h;exact⟨_,ha,hK⟩
  ·rintro⟨a,ha,hK⟩
   exact⟨_,by rw[ha];rfl,hK⟩
@[simp] theorem NS {l:List Bool} {K:Bool→Prop}:(∃n,rowAt (l.map Fk) i=some [.sc (.bool n)]∧K n)↔ ∃a,jL l i=some a∧K a:=by
  rw[bS]
  constructor
  ·rintro⟨n,h,hK⟩
   obtain⟨a,ha,h⟩:=Option.map_eq_some_iff.1 h;unfold Fk at h;cases h;exact⟨_,ha,hK⟩
  ·rintro⟨a,ha,hK⟩
   exact⟨_,by rw[ha];rfl,hK⟩
@[simp] theorem jT {l:List Key} {K:Int→Int→Int→Int→Int→Prop}:(∃b a k c g,rowAt (l.map bB) i=some [.sc (.int .i64 b),.sc (.int .i64 a),.sc (.int .i64 k),.sc (.int .i64 c),.sc (.int .i64 g)]∧K b a k c g)↔ ∃x,jL l i=some x∧K x.b x.a x.k x.c x.g:=by
  rw[bS]
  constructor
  ·rintro⟨_,_,_,_,_,h,hK⟩
   obtain⟨a,ha,h⟩:=Option.map_eq_some_iff.1 h;unfold bB at h;cases h;exact⟨_,ha,hK⟩
  ·rintro⟨a,ha,hK⟩
   exact⟨_,_,_,_,_,by rw[ha];rfl,hK⟩
@[simp] theorem OI {l:List Ef} {K:Int→Int→Prop}:(∃b a,rowAt (l.map vm) i=some [.sc (.int .i64 b),.sc (.int .i64 a)]∧K b a)↔ ∃x,jL l i=some x∧K x.id x.fr:=by
  rw[bS]
  constructor
  ·rintro⟨_,_,h,hK⟩
   obtain⟨a,ha,h⟩:=Option.map_eq_some_iff.1 h;unfold vm at h;cases h;exact⟨_,ha,hK⟩
  ·rintro⟨a,ha,hK⟩
   exact⟨_,_,by rw[ha];rfl,hK⟩
@[simp] theorem NT {l:List Cell} {K:Int→Bool→Int→Prop}:(∃g u n,rowAt (l.map oW) i=some [.sc (.int .i64 g),.sc (.bool u),.sc (.int .i64 n)]∧K g u n)↔ ∃x,jL l i=some x∧K x.g x.u x.n:=by
  rw[bS]
  constructor
  ·rintro⟨_,_,_,h,hK⟩
   obtain⟨a,ha,h⟩:=Option.map_eq_some_iff.1 h;unfold oW at h;cases h;exact⟨_,ha,hK⟩
  ·rintro⟨a,ha,hK⟩
   exact⟨_,_,_,by rw[ha];rfl,hK⟩
@[simp] theorem OJ {l:List xy} {K:ByteArray→Int→Int→Bool→Prop}:(∃s a z f,rowAt (l.map qq) i=some [.sc (.string s),.sc (.int .i64 a),.sc (.int .i64 z),.sc (.bool f)]∧K s a z f)↔ ∃x,jL l i=some x∧K x.name x.KQ x.size x.fx:=by
  rw[bS]
  constructor
  ·rintro⟨_,_,_,_,h,hK⟩
   obtain⟨a,ha,h⟩:=Option.map_eq_some_iff.1 h;unfold qq at h;cases h;exact⟨_,ha,hK⟩
  ·rintro⟨a,ha,hK⟩
   exact⟨_,_,_,_,by rw[ha];rfl,hK⟩
@[simp] theorem PJ {l:List IN} {K:Int→ByteArray→ByteArray→Int→Int→Prop}:(∃k s t a b,rowAt (l.map Fl) i=some [.sc (.int .i64 k),.sc (.string s),.sc (.string t),.sc (.int .i64 a),.sc (.int .i64 b)]∧K k s t a b)↔ ∃x,jL l i=some x∧K x.kind x.name x.to x.a x.b:=by
  rw[bS]
  constructor
  ·rintro⟨_,_,_,_,_,h,hK⟩
   obtain⟨a,ha,h⟩:=Option.map_eq_some_iff.1 h;unfold Fl at h;cases h;exact⟨_,ha,hK⟩
  ·rintro⟨a,ha,hK⟩
   exact⟨_,_,_,_,_,by rw[ha];rfl,hK⟩
@[simp] theorem OK {l:List Mp} {K:ByteArray→Bool→List (List TC)→Prop}:(∃s f r,rowAt (l.map vn) i=some [.sc (.string s),.sc (.bool f),.sub 1 r]∧K s f r)↔ ∃x,jL l i=some x∧K x.name x.fx (x.l.map sD):=by
  rw[bS]
  constructor
  ·rintro⟨_,_,_,h,hK⟩
   obtain⟨a,ha,h⟩:=Option.map_eq_some_iff.1 h;unfold vn at h;cases h;exact⟨_,ha,hK⟩
  ·rintro⟨a,ha,hK⟩
   exact⟨_,_,_,by rw[ha];rfl,hK⟩
@[simp] theorem mZ {l:List (List Key)} {K:List (List TC)→Prop}:(∃r,rowAt (l.map bg) i=some [.sub 5 r]∧K r)↔ ∃x,jL l i=some x∧K (x.map bB):=by
  rw[bS]
  constructor
  ·rintro⟨_,h,hK⟩
   obtain⟨a,ha,h⟩:=Option.map_eq_some_iff.1 h;unfold bg at h;cases h;exact⟨_,ha,hK⟩
  ·rintro⟨a,ha,hK⟩
   exact⟨_,by rw[ha];rfl,hK⟩
@[simp] theorem NU {l:List (List (List Key))} {K:List (List TC)→Prop}:(∃r,rowAt (l.map yH) i=some [.sub 1 r]∧K r)↔ ∃x,jL l i=some x∧K (x.map bg):=by
  rw[bS]
  constructor
  ·rintro⟨_,h,hK⟩
   obtain⟨a,ha,h⟩:=Option.map_eq_some_iff.1 h;unfold yH at h;cases h;exact⟨_,ha,hK⟩
  ·rintro⟨a,ha,hK⟩
   exact⟨_,by rw[ha];rfl,hK⟩
@[simp] theorem MO {l:List (List Int)} {K:List (List TC)→Prop}:(∃r,rowAt (l.map HZ) i=some [.sub 1 r]∧K r)↔ ∃x,jL l i=some x∧K (x.map gR):=by
  rw[bS]
  constructor
  ·rintro⟨_,h,hK⟩
   obtain⟨a,ha,h⟩:=Option.map_eq_some_iff.1 h;unfold HZ at h;cases h;exact⟨_,ha,hK⟩
  ·rintro⟨a,ha,hK⟩
   exact⟨_,by rw[ha];rfl,hK⟩
end
@[simp] theorem natAdd (a b:Nat):Nat.add a b=a+b:=rfl
@[simp] theorem NV {α:Type} (a b:List α):List.append a b=a++b:=rfl
theorem Gb (l:List Int):cT (l.map sD)=true:=lq fun r hr c hc=>by
 obtain⟨a,_,rfl⟩:=List.mem_map.1 hr;unfold sD at hc;simp only[eG] at hc;exact⟨_,hc⟩
theorem Eg (l:List Int):cT (l.map gR)=true:=lq fun r hr c hc=>by
 obtain⟨a,_,rfl⟩:=List.mem_map.1 hr;unfold gR at hc;simp only[eG] at hc;exact⟨_,hc⟩
theorem jy (l:List Key):cT (l.map bB)=true:=lq fun r hr c hc=>by
 obtain⟨a,_,rfl⟩:=List.mem_map.1 hr;unfold bB at hc;simp only[bC,List.not_mem_nil,or_false] at hc;rcases hc with h|h|h|h|h<;>exact⟨_,h⟩
theorem AP (l:List Ef):cT (l.map vm)=true:=lq fun r hr c hc=>by
 obtain⟨a,_,rfl⟩:=List.mem_map.1 hr;unfold vm at hc;simp only[bC,List.not_mem_nil,or_false] at hc;rcases hc with h|h<;>exact⟨_,h⟩
theorem Eh (l:List Cell):cT (l.map oW)=true:=lq fun r hr c hc=>by
 obtain⟨a,_,rfl⟩:=List.mem_map.1 hr;unfold oW at hc;simp only[bC,List.not_mem_nil,or_false] at hc;rcases hc with h|h|h<;>exact⟨_,h⟩
theorem AQ (l:List xy):cT (l.map qq)=true:=lq fun r hr c hc=>by
 obtain⟨a,_,rfl⟩:=List.mem_map.1 hr;unfold qq at hc;simp only[bC,List.not_mem_nil,or_false] at hc;rcases hc with h|h|h|h<;>exact⟨_,h⟩
@[simp] theorem OL (v:Value):cT [[.sc v]]=true:=lq fun r hr c hc=>by
  simp only[eG] at hr;subst hr;simp only[eG] at hc;exact⟨_,hc⟩
attribute [simp] Gb Eg jy AP Eh AQ
end Go.T
namespace Go.T
theorem AR {α:Type} (g:α→α): ∀(l:List α) (i:Nat) (a:α),l[i]?=some a→l.modify i g=l.set i (g a)
 |[],i,a,h=>by simp at h
 |x::r,0,a,h=>by simp only[bL,aE] at h;subst h;rfl
 |x::r,i+1,a,h=>by
  simp only[jh] at h;rw[List.modify_succ_cons,List.set_cons_succ,AR g r i a h]
theorem aH {α:Type} {e:α→List TC} {l:List α} {i:Int} {f:Nat} {cs:List TC} {g:α→α} (he: ∀a,(e a).take f++cs++(e a).drop (f+cs.length)=e (g a)):setRow (l.map e) i f cs=(l.modify i.toNat g).map e:=by
 unfold setRow;rw[eF]
 cases h:l[i.toNat]? with
 |none=>
  have:l.length≤i.toNat:=List.getElem?_eq_none_iff.1 h;simp only[Option.map_none];rw[List.modify_eq_self this]
 |some a=>
  simp only[e9];rw[he,AR g l _ a h,List.map_set]
@[simp] theorem MP {l:List Key} {i:Int} {v:Int}:setRow (l.map bB) i 0 [.sc (.int .i64 v)]=(l.modify i.toNat fun x=>{x with b:=v}).map bB:=aH fun a=>rfl
@[simp] theorem MQ {l:List Key} {i:Int} {v:Int}:setRow (l.map bB) i 1 [.sc (.int .i64 v)]=(l.modify i.toNat fun x=>{x with a:=v}).map bB:=aH fun a=>rfl
@[simp] theorem MR {l:List Key} {i:Int} {v:Int}:setRow (l.map bB) i 2 [.sc (.int .i64 v)]=(l.modify i.toNat fun x=>{x with k:=v}).map bB:=aH fun a=>rfl
@[simp] theorem MS {l:List Key} {i:Int} {v:Int}:setRow (l.map bB) i 3 [.sc (.int .i64 v)]=(l.modify i.toNat fun x=>{x with c:=v}).map bB:=aH fun a=>rfl
@[simp] theorem MT {l:List Key} {i:Int} {v:Int}:setRow (l.map bB) i 4 [.sc (.int .i64 v)]=(l.modify i.toNat fun x=>{x with g:=v}).map bB:=aH fun a=>rfl
@[simp] theorem OM {l:List Key} {i:Int} {v0:Int} {v1:Int} {v2:Int} {v3:Int} {v4:Int}:setRow (l.map bB) i 0 [.sc (.int .i64 v0),.sc (.int .i64 v1),.sc (.int .i64 v2),.sc (.int .i64 v3),.sc (.int .i64 v4)]=(l.modify i.toNat fun _=>⟨v0,v1,v2,v3,v4⟩).map bB:=aH fun a=>rfl
@[simp] theorem L4 {l:List Ef} {i:Int} {v:Int}:setRow (l.map vm) i 0 [.sc (.int .i64 v)]=(l.modify i.toNat fun x=>{x with id:=v}).map vm:=aH fun a=>rfl
@[simp] theorem L5 {l:List Ef} {i:Int} {v:Int}:setRow (l.map vm) i 1 [.sc (.int .i64 v)]=(l.modify i.toNat fun x=>{x with fr:=v}).map vm:=aH fun a=>rfl
@[simp] theorem ON {l:List Ef} {i:Int} {v0:Int} {v1:Int}:setRow (l.map vm) i 0 [.sc (.int .i64 v0),.sc (.int .i64 v1)]=(l.modify i.toNat fun _=>⟨v0,v1⟩).map vm:=aH fun a=>rfl
@[simp] theorem L6 {l:List Cell} {i:Int} {v:Int}:setRow (l.map oW) i 0 [.sc (.int .i64 v)]=(l.modify i.toNat fun x=>{x with g:=v}).map oW:=aH fun a=>rfl
@[simp] theorem L7 {l:List Cell} {i:Int} {v:Bool}:setRow (l.map oW) i 1 [.sc (.bool v)]=(l.modify i.toNat fun x=>{x with u:=v}).map oW:=aH fun a=>rfl
@[simp] theorem L8 {l:List Cell} {i:Int} {v:Int}:setRow (l.map oW) i 2 [.sc (.int .i64 v)]=(l.modify i.toNat fun x=>{x with n:=v}).map oW:=aH fun a=>rfl
@[simp] theorem NW {l:List Cell} {i:Int} {v0:Int} {v1:Bool} {v2:Int}:setRow (l.map oW) i 0 [.sc (.int .i64 v0),.sc (.bool v1),.sc (.int .i64 v2)]=(l.modify i.toNat fun _=>⟨v0,v1,v2⟩).map oW:=aH fun a=>rfl
@[simp] theorem Kl {l:List xy} {i:Int} {v:ByteArray}:setRow (l.map qq) i 0 [.sc (.string v)]=(l.modify i.toNat fun x=>{x with name:=v}).map qq:=aH fun a=>rfl
@[simp] theorem Lo {l:List xy} {i:Int} {v:Int}:setRow (l.map qq) i 1 [.sc (.int .i64 v)]=(l.modify i.toNat fun x=>{x with KQ:=v}).map qq:=aH fun a=>rfl
@[simp] theorem Km {l:List xy} {i:Int} {v:Int}:setRow (l.map qq) i 2 [.sc (.int .i64 v)]=(l.modify i.toNat fun x=>{x with size:=v}).map qq:=aH fun a=>rfl
@[simp] theorem L9 {l:List xy} {i:Int} {v:Bool}:setRow (l.map qq) i 3 [.sc (.bool v)]=(l.modify i.toNat fun x=>{x with fx:=v}).map qq:=aH fun a=>rfl
@[simp] theorem OO {l:List xy} {i:Int} {v0:ByteArray} {v1:Int} {v2:Int} {v3:Bool}:setRow (l.map qq) i 0 [.sc (.string v0),.sc (.int .i64 v1),.sc (.int .i64 v2),.sc (.bool v3)]=(l.modify i.toNat fun _=>⟨v0,v1,v2,v3⟩).map qq:=aH fun a=>rfl
@[simp] theorem Lq {l:List IN} {i:Int} {v:Int}:setRow (l.map Fl) i 0 [.sc (.int .i64 v)]=(l.modify i.toNat fun x=>{x with kind:=v}).map Fl:=aH fun a=>rfl
@[simp] theorem Lr {l:List IN} {i:Int} {v:ByteArray}:setRow (l.map Fl) i 1 [.sc (.string v)]=(l.modify i.toNat fun x=>{x with name:=v}).map Fl:=aH fun a=>rfl
@[simp] theorem MU {l:List IN} {i:Int} {v:ByteArray}:setRow (l.map Fl) i 2 [.sc (.string v)]=(l.modify i.toNat fun x=>{x with to:=v}).map Fl:=aH fun a=>rfl
@[simp] theorem NX {l:List IN} {i:Int} {v:Int}:setRow (l.map Fl) i 3 [.sc (.int .i64 v)]=(l.modify i.toNat fun x=>{x with a:=v}).map Fl:=aH fun a=>rfl
@[simp] theorem NY {l:List IN} {i:Int} {v:Int}:setRow (l.map Fl) i 4 [.sc (.int .i64 v)]=(l.modify i.toNat fun x=>{x with b:=v}).map Fl:=aH fun a=>rfl
@[simp] theorem PK {l:List IN} {i:Int} {v0:Int} {v1:ByteArray} {v2:ByteArray} {v3:Int} {v4:Int}:setRow (l.map Fl) i 0 [.sc (.int .i64 v0),.sc (.string v1),.sc (.string v2),.sc (.int .i64 v3),.sc (.int .i64 v4)]=(l.modify i.toNat fun _=>⟨v0,v1,v2,v3,v4⟩).map Fl:=aH fun a=>rfl
@[simp] theorem Kn {l:List Mp} {i:Int} {v:ByteArray}:setRow (l.map vn) i 0 [.sc (.string v)]=(l.modify i.toNat fun x=>{x with name:=v}).map vn:=aH fun a=>rfl
@[simp] theorem Ma {l:List Mp} {i:Int} {v:Bool}:setRow (l.map vn) i 1 [.sc (.bool v)]=(l.modify i.toNat fun x=>{x with fx:=v}).map vn:=aH fun a=>rfl
@[simp] theorem MV {l:List Mp} {i:Int} {v:List Int}:setRow (l.map vn) i 2 [.sub 1 (v.map sD)]=(l.modify i.toNat fun x=>{x with l:=v}).map vn:=aH fun a=>rfl
@[simp] theorem OP {l:List Mp} {i:Int} {v0:ByteArray} {v1:Bool} {v2:List Int}:setRow (l.map vn) i 0 [.sc (.string v0),.sc (.bool v1),.sub 1 (v2.map sD)]=(l.modify i.toNat fun _=>⟨v0,v1,v2⟩).map vn:=aH fun a=>rfl
@[simp] theorem OQ {l:List (Int)} {i:Int} {v:Int}:setRow (l.map sD) i 0 [.sc (.int .i64 v)]=(l.modify i.toNat fun _=>v).map sD:=aH fun a=>rfl
@[simp] theorem NZ {l:List (Int)} {i:Int} {v:Int}:setRow (l.map gR) i 0 [.sc (.int .u8 v)]=(l.modify i.toNat fun _=>v).map gR:=aH fun a=>rfl
@[simp] theorem N0 {l:List (Bool)} {i:Int} {v:Bool}:setRow (l.map Fk) i 0 [.sc (.bool v)]=(l.modify i.toNat fun _=>v).map Fk:=aH fun a=>rfl
@[simp] theorem OR {l:List (List Key)} {i:Int} {v:List Key}:setRow (l.map bg) i 0 [.sub 5 (v.map bB)]=(l.modify i.toNat fun _=>v).map bg:=aH fun a=>rfl
@[simp] theorem N3 {l:List (List (List Key))} {i:Int} {v:List (List Key)}:setRow (l.map yH) i 0 [.sub 1 (v.map bg)]=(l.modify i.toNat fun _=>v).map yH:=aH fun a=>rfl
end Go.T
namespace Go.T
theorem cU {α:Type} (l:List α) (P:Nat→Prop) (fin:P l.length) (step: ∀i a,i<l.length→l[i]?=some a→l.drop i=a::l.drop (i+1)→l.take (i+1)=l.take i++[a]→P (i+1)→P i):P 0:=by
 have: ∀k i,i+k=l.length→P i:=by
  intro k
  induction k with
  |zero=>intro i h;have:i=l.length:=by omega
         subst this;exact fin
  |succ k ih=>
   intro i h
   have hi:i<l.length:=by omega
   refine step i l[i] hi (aN hi) (Ab hi) ?_ (ih (i+1) aB);rw[List.take_add_one,aN hi];rfl
 exact this l.length 0 aB
def tot {α:Type} (w:α→Nat):List α→Nat
 |[]=>0
 |a::r=>w a+tot w r
theorem tX {α:Type} {w:α→Nat}: ∀{l:List α} {a:α},a∈l→w a≤tot w l
 |[],_,h=>by cases h
 |b::r,a,h=>by
  simp only[tot];rcases bC.1 h with rfl|h
  ·omega
  ·have:=tX (w:=w) h;omega
theorem BN {α:Type} {w:α→Nat} {l:List α} {i:Nat} {a:α} (h:l[i]?=some a):w a≤tot w l:=tX (c7 h)
def bF (s:List Key):Nat:=s.length
def yJ (n:List (List Key)):Nat:=n.length+tot bF n
end Go.T
namespace Go.T
section
variable {C : eZ} {f : FuncId} {vs : List TV}
theorem zJ {x b:Bool} (h:aq C f vs (vB x) []):aq C f vs (vB b) []↔b=x:=⟨fun h'=>by have:=(h.PI h').1;simpa using this,fun e=>e▸h⟩
theorem Gc {z:Nat} {x b:RR} (h:aq C f vs (.c (.sub z x)) []):aq C f vs (.c (.sub z b)) []↔b=x:=⟨fun h'=>by have:=(h.PI h').1;simpa using this,fun e=>e▸h⟩
end
def yK (a lo hi:Int):Bool:=decide (lo≤a∧a≤hi)
def cC (x:Key):Bool:=yK x.b 0 15&&yK x.a 1 60&&yK x.k 0 2&&(if x.k=1 then yK x.c 0 23&&yK x.g 0 999 else decide (x.c=0)&&decide (x.g=0))
def bn (x y:Key):Bool:=decide (x.b<y.b∨(x.b=y.b∧x.a<y.a))
def c8 (x y:Key):Bool:=decide (x.b=y.b∧x.a=y.a)
def iL (n:Nat) (f:Nat→Bool):Bool:=(List.range' 0 n).all f
theorem Ei {i n:Nat} (h:i<n):List.range' i (n-i)=i::List.range' (i+1) (n-(i+1)):=by
 obtain⟨k,hk⟩: ∃k,n-i=k+1:=⟨n-i-1,by omega⟩;rw[hk,show n-(i+1)=k by omega]
 rfl
theorem H6 (n:Nat) (P:Nat→Prop) (fin:P n) (step: ∀i,i<n→P (i+1)→P i):P 0:=by
 have: ∀k i,i+k=n→P i:=by
  intro k
  induction k with
  |zero=>intro i h;have:i=n:=by omega
         subst this;exact fin
  |succ k ih=>intro i h;exact step i aB (ih (i+1) aB)
 exact this n 0 aB
theorem Fm {α:Type} (f g:α→Bool): ∀l:List α,l.all (fun x=>f x&&g x)=(l.all f&&l.all g)
 |[]=>rfl
 |a::r=>by simp only[sS,Fm f g r];cases f a<;>cases g a<;>simp
theorem H7 (n:Nat) (f g:Nat→Bool):iL n (fun i=>f i&&g i)=(iL n f&&iL n g):=Fm f g _
theorem tY {n:Nat} {f:Nat→Bool}:iL n f=true↔ ∀i,i<n→f i=true:=by
 unfold iL;rw[List.all_eq_true]
 constructor
 ·intro h i hi;exact h i (by simp[List.mem_range'];exact hi)
 ·intro h i hi
  simp[List.mem_range'] at hi;exact h i hi
def Mb {α:Type} (l:List α) (f:α→Bool) (i:Nat):Bool:=match l[i]? with|some a=>f a|none=>true
def fh {α:Type} (l:List α) (f:α→α→Bool):Nat→Bool
 |0=>true
 |k+1=>match l[k]?,l[k+1]? with|some x,some y=>f x y|_,_=>true
theorem JD {α:Type} (l:List α) (f:α→Bool):iL l.length (Mb l f)=l.all f:=by
 rw[Bool.eq_iff_iff,tY,List.all_eq_true]
 constructor
 ·intro h a ha
  obtain⟨i,hi,rfl⟩:=List.getElem_of_mem ha;have:=h i hi;simpa [Mb,hi] using this
 ·intro h i hi
  simp only[Mb,aN hi];exact h _ (p0 hi)
def eI (l:List Key) (i:Nat):Bool:=Mb l cC i&&fh l bn i
def oX (l:List Key):Bool:=iL l.length (eI l)&&decide (l.length≤60)
theorem tZ (l:List Key):oX l=(l.all cC&&(iL l.length (fh l bn)&&decide (l.length≤60))):=by
 rw[←Bool.and_assoc,←JD,←H7];rfl
def mu:Key:=⟨0,0,0,0,0⟩
def setAt (l:List Key) (b a:Int):Option Key:=l.find? fun x=>decide (x.b=b∧x.a=a)
def bJ (k:Key):Bool→List Key→List Key
 |put,[]=>if put then [] else [k]
 |put,x::r=>(if !put&& !bn x k then [k] else [])++(if c8 x k then [] else [x])++bJ k (put|| !bn x k) r
def bT (l:List Key) (k:Key):List Key:=bJ k false l
theorem wo (k:Key): ∀(l:List Key) (put:Bool),(bJ k put l).length≤l.length+(if put then 0 else 1)
 |[],put=>by simp only[bJ];split<;>simp
 |x::r,put=>by
  have:=wo k r (put|| !bn x k);simp only[bJ,cM,dH]
  have h1:(if c8 x k then([]:List Key) else [x]).length≤1:=by split<;>simp
  revert h1
  generalize (if c8 x k then([]:List Key) else [x])=m;intro h1
  cases put<;>cases hk:bn x k<;>simp[hk] at this ⊢ <;>omega
theorem gy (l:List Key) (k:Key):(bT l k).length≤l.length+1:=by have:=wo k l false;simpa [bT] using this
def aG (old new:List Key):List Key:=new.foldl bT old
theorem jD: ∀(new old:List Key),(aG old new).length≤old.length+new.length
 |[],old=>by simp[aG]
 |x::r,old=>by
  have:=jD r (bT old x);have h2:=gy old x;simp only[aG,List.foldl_cons,dH] at this ⊢;omega
def fj (l:List Key):List Key:=l.filter fun k=> !decide (k.k=0)
def iH (n:List (List Key)):List Key:=n.foldl aG []
def ax (n:List (List Key)):List Key:=fj (iH n)
theorem oY: ∀(n:List (List Key)) (a:List Key),(n.foldl aG a).length≤a.length+tot bF n
 |[],a=>by simp[tot]
 |s::r,a=>by
  have:=oY r (aG a s);have h2:=jD s a;simp only[List.foldl_cons,tot,bF] at this ⊢;omega
theorem fy (n:List (List Key)):(ax n).length≤tot bF n:=by
 have h1:=oY n [];have h2:=Gt (fun k:Key=> !decide (k.k=0)) (iH n);simp only[List.length_nil,eJ] at h1;exact jW h2 h1
def aQ (n:List (List Key)):Nat:=tot bF n
def bO (n:List (List Key)):Bool:=n.all (fun s=>oX s&& !decide (s.length=0))&&decide (n.length≤3)&&decide (aQ n≤8)
def cH (l:List Key):List (List Key):=if l.length=0 then [] else [l]
def jM (t:Tree):List Key:=t.nodes.flatMap ax
def Ls (t:Tree) (b:Int):List Key:=(jM t).filter fun k=>decide (k.b=b)
def eP (b a:Int):Int:=bW (vl 64 b) a
def MW {α:Type} (p:α→Bool):List α→Int→Int
 |[],_=> -1
 |a::r,i=>if p a then i else MW p r (i+1)
def Ko (l:List Ef) (id:Int):Int:=MW (fun a=>decide (a.id=id)) l 0
def Kq (l:List Ef):Nat→Int→List Int
 |0,_=>[]
 |n+1,id=>if Ko l id<0 then [] else id::(match jL l (Ko l id) with|some a=>Kq l n a.fr|none=>[])
def pathOf (l:List Ef) (id:Int):List Int:=Kq l (l.length+1) id
def OS (l:List Int) (n:Int):Bool:=l.any fun a=>decide (a=n)
def MX (path:List Int):Key×Bool→Key→Key×Bool:=fun p k=>if OS path k.a&&(!p.2||decide (p.1.a<k.a)) then(k,true) else p
def near (keys:List Key) (path:List Int):Key×Bool:=keys.foldl (MX path) (mu,false)
def Fo (t:Tree) (l:List Ef) (b id:Int):Key×Bool:=near (Ls t b) (pathOf l id)
abbrev IP (p:Key×Bool):TV:= .tu [(1,[iI p.1.b,iI p.1.a,iI p.1.k,iI p.1.c,iI p.1.g]),(0,[iB p.2])]
def cellAt (l:List Cell) (i gen:Int):Int×Bool:=match jL l i with
 |none=>(0,false)
 |some c=>if c.u=true∧c.g=gen then(c.n,true) else(0,false)
@[simp] theorem rA {l:List Key} {b a k c g:Int}:List.append (l.map bB) [[iI b,iI a,iI k,iI c,iI g]]=(l++[(⟨b,a,k,c,g⟩:Key)]).map bB:=by simp[bB]
@[simp] theorem N4 {l:List Int} {b:Int}:List.append (l.map sD) [[iI b]]=(l++[b]).map sD:=by simp[sD]
@[simp] theorem MY {l:List Int} {b:Int}:List.append (l.map gR) [[.sc (.int .u8 b)]]=(l++[b]).map gR:=by simp[gR]
@[simp] theorem N5 {l:List Ef} {b a:Int}:List.append (l.map vm) [[iI b,iI a]]=(l++[(⟨b,a⟩:Ef)]).map vm:=by simp[vm]
@[simp] theorem N6 {l:List xy} {s:ByteArray} {b a:Int} {q:Bool}:List.append (l.map qq) [[iS s,iI b,iI a,iB q]]=(l++[(⟨s,b,a,q⟩:xy)]).map qq:=by simp[qq]
@[simp] theorem N7 {l:List (List Key)} {s:List Key}:List.append (l.map bg) [[.sub 5 (s.map bB)]]=(l++[s]).map bg:=by simp[bg]
@[simp] theorem MZ {l:List (List (List Key))} {s:List (List Key)}:List.append (l.map yH) [[.sub 1 (s.map bg)]]=(l++[s]).map yH:=by simp[yH]
@[simp] theorem N8 {l:List Mp} {s:ByteArray} {f:Bool} {r:List Int}:List.append (l.map vn) [[iS s,iB f,.sub 1 (r.map sD)]]=(l++[(⟨s,f,r⟩:Mp)]).map vn:=by simp[vn]
@[simp] theorem M0 {α:Type} {e:α→List TC} {l m:List α}:List.append (l.map e) (m.map e)=(l++m).map e:=by simp
@[simp] theorem M3:([]:RR)=([]:List Key).map bB↔True:=by simp
@[simp] theorem dP {α:Type} (l:List α):Nat.succ (List.length l)=l.length+1:=rfl
theorem iA (b a k c g:Int):cT [[iI b,iI a,iI k,iI c,iI g]]=true:=jy [⟨b,a,k,c,g⟩]
theorem Ej (b a:Int):cT [[iI b,iI a]]=true:=AP [⟨b,a⟩]
theorem Ek (s:ByteArray) (b a:Int) (q:Bool):cT [[iS s,iI b,iI a,iB q]]=true:=AQ [⟨s,b,a,q⟩]
attribute [simp] iA Ej Ek
@[simp] theorem ew (k:Key):(⟨k.b,k.a,k.k,k.c,k.g⟩:Key)=k:=rfl
@[simp] theorem iY (k:Ef):(⟨k.id,k.fr⟩:Ef)=k:=rfl
@[simp] theorem gz (k:Cell):(⟨k.g,k.u,k.n⟩:Cell)=k:=rfl
@[simp] theorem iZ (k:xy):(⟨k.name,k.KQ,k.size,k.fx⟩:xy)=k:=rfl
@[simp] theorem ja (k:Mp):(⟨k.name,k.fx,k.l⟩:Mp)=k:=rfl
@[simp] theorem lu (k:IN):(⟨k.kind,k.name,k.to,k.a,k.b⟩:IN)=k:=rfl
theorem jb {n b:Nat} (h:n*b≤140737488355328∧n≤140737488355328):fits n b=true:=by rw[Jx];exact Gv h
end Go.T
namespace Go.T
def bf (s:List Key):Bool:=oX s&& !decide (s.length=0)
theorem AS (n:List (List Key)):bO n=(n.all bf&&(decide (n.length≤3)&&decide (aQ n≤8))):=by
 unfold bO;rw[Bool.and_assoc];rfl
def H8 (cv:List Int) (i:Nat) (x:Int):Bool:=match cv[i]? with
 |some lo=> !decide (x<lo)&&(match cv[i+1]? with|some hi=>decide (x<hi)|none=>true)
 |none=>true
def AT (cv:List Int) (i:Nat) (k:Key):Bool:=H8 cv i (eP k.b k.a)
def Gd (cv:List Int) (i:Nat) (s:List Key):Bool:=s.all (AT cv i)
def Db (t:Tree) (i:Nat):Bool:=fh t.cv (fun x y=>decide (x<y)) i&&(match t.nodes[i]? with
 |some n=>bO n&&((decide (i=0)|| !decide ((ax n).length=0))&&n.all (Gd t.cv i))
 |none=>true)
def H9 (t:Tree):Bool:=yK t.nodes.length 1 20&&(decide (t.cv.length=t.nodes.length)&&((match t.cv[0]? with|some x=>decide (x=0)|none=>true)&&(iL t.nodes.length (Db t)&&decide ((jM t).length≤60))))
def JE (p:MM) (i b:Int):Int:=match jL p.PB i with
 |none=>0
 |some v=>if 0≤b∧b<v.size then(if(Fo p.t p.J4 b v.KQ).2=true∧(Fo p.t p.J4 b v.KQ).1.k=1 then(cellAt p.cells (Fo p.t p.J4 b v.KQ).1.c (Fo p.t p.J4 b v.KQ).1.g).1 else 0) else 0
end Go.T
namespace Go.T
def blocks (p:MM) (i:Nat) (k:Nat):List Int:=(List.range k).map fun b:Nat=>JE p i b
def oF (l:List Key) (b a:Int):Key×Bool:=match setAt l b a with|some k=>(k,true)|none=>(mu,false)
def dF (n:List (List Key)) (b a:Int):Nat→Key×Bool
 |0=>(mu,false)
 |k+1=>match n[k]? with
  |some s=>if(oF s b a).2=true then(if(oF s b a).1.k=0 then(mu,false) else oF s b a) else dF n b a k
  |none=>(mu,false)
def ua (f:Int→Bool) (l:List Int):Nat→Int
 |0=> -1
 |k+1=>match l[k]? with
  |some x=>if f x=true then(k:Int) else ua f l k
  |none=> -1
def Fq (t:Tree) (b a:Int):Int:=ua (fun x=>decide (x≤eP b a)) t.cv t.cv.length
def Ia (t:Tree) (b a:Int):Key×Bool:=match jL t.nodes (Fq t b a) with
 |some n=>dF n b a n.length
 |none=>(mu,false)
def newNode (l:List Key):List (List Key):=if l.length=0 then [] else [l]
def lz (n:List (List Key)):List (List Key):=newNode (ax n)
end Go.T
namespace Go.T
end Go.T
namespace Go.T
theorem Ib (x:Int):0≤p6 .and .i64 x 255∧p6 .and .i64 x 255≤255:=by
 have h:p6 .and .i64 x 255=Go.IntKind.i64.wrap (((BitVec.ofInt 64 x&&&BitVec.ofInt 64 255).toNat:Nat):Int):=by unfold p6;rfl
 have hle:(BitVec.ofInt 64 x&&&BitVec.ofInt 64 255).toNat≤255:=by
  rw[BitVec.toNat_and];exact jW Nat.and_le_right (by decide)
 rw[h,Go.IntKind.wrap_i64];omega
abbrev OT (b:List Int) (i h:Int):List TC:=[.sub 1 (b.map gR),.sc (.int .i64 i),.sc (.int .i64 h)]
abbrev BO (b:List Int) (i h:Int):TV:= .bx (OT b i h)
def Dr (b:List Int) (P:TV→Prop) (r:TV) (fs:List TV):Prop:= ∃i h,0≤i∧fs=[BO b i h]∧P r
theorem Dc {x n:Int} (h0:0≤x) (hn:0<n):0≤x.tmod n∧x.tmod n<n:=⟨Int.tmod_nonneg _ h0,Int.tmod_lt_of_pos _ hn⟩
end Go.T
namespace Go.T
def Kr (v u:xy):Bool:=Cl u.name v.name||Dy u.name v.name
theorem Dd: ∀(x y z:List UInt8),Op.bytesLess x y=true→Op.bytesLess y z=true→Op.bytesLess x z=true
 |x,y,[],_,h=>by cases y<;>simp[Op.bytesLess] at h
 |x,[],c::z,h,_=>by cases x<;>simp[Op.bytesLess] at h
 |[],_::_,_::_,_,_=>by simp[Op.bytesLess]
 |a::x,b::y,c::z,h1,h2=>by
  simp only[Op.bytesLess,Bool.or_eq_true,cL,decide_eq_true_eq,beq_iff_eq] at h1 h2 ⊢;rcases h1 with h1|⟨rfl,h1⟩
  ·rcases h2 with h2|⟨rfl,h2⟩
   ·exact .inl (UInt8.lt_trans h1 h2)
   ·exact .inl h1
  ·rcases h2 with h2|⟨rfl,h2⟩
   ·exact .inl h2
   ·exact .inr ⟨rfl,Dd x y z h1 h2⟩
theorem AU {a b c:ByteArray} (h1:Cl a b=true) (h2:Cl b c=true):Cl a c=true:=by
 unfold Cl at*;exact Dd _ _ _ h1 h2
def qt:List xy→Prop
 |[]=>True
 |[_]=>True
 |a::b::r=>Cl a.name b.name=true∧qt (b::r)
theorem Ic {v a b:xy} (h:Cl a.name b.name=true) (hb:Kr v b=true):Kr v a=true:=by
 unfold Kr at*;rw[Bool.or_eq_true] at*;rcases hb with hb|hb
 ·exact .inl (AU h hb)
 ·have:b.name.toList=v.name.toList:=by
   unfold Dy at hb;exact eq_of_beq hb
  unfold Cl at h ⊢;rw[←this];exact .inl h
theorem qt.tail {a:xy} {l:List xy} (h:qt (a::l)):qt l:=by
 cases l with
 |nil=>trivial
 |cons b r=>exact h.2
theorem qt.cut {v:xy}: ∀{l:List xy} {k:Nat},qt l→k≤l.length→(∀u∈l.drop k,Kr v u=false)→(∀u,0<k→l[k-1]?=some u→Kr v u=true)→(l.takeWhile (Kr v)).length=k
 |[],k,_,hk,_,_=>by simp at hk;simp[hk]
 |a::l,0,_,_,h1,_=>by
  have:=h1 a (.head _);simp[this]
 |a::l,k+1,hr,hk,h1,h2=>by
  have ih:=qt.cut (v:=v) (l:=l) (k:=k) hr.tail (by simpa using hk) (fun u hu=>h1 u (by simpa using hu)) fun u h0 hu=>by
   obtain⟨j,rfl⟩: ∃j,k=j+1:=⟨k-1,by omega⟩;exact h2 u aB (by simpa using hu)
  have ha:Kr v a=true:=by
   cases k with
   |zero=>exact h2 a aB rfl
   |succ k=>
    cases l with
    |nil=>simp at hk
    |cons b r=>
     refine Ic hr.1 ?_;rw[List.takeWhile_cons] at ih
     cases hb:Kr v b with
     |true=>rfl
     |false=>rw[hb] at ih;simp at ih
  rw[List.takeWhile_cons,aO ha,dH,ih]
theorem qt.modify {f:xy→xy} (hf: ∀u,(f u).name=u.name): ∀{l:List xy} (i:Nat),qt l→qt (l.modify i f)
 |[],i,h=>by cases i<;>exact h
 |[a],0,_=>trivial
 |[a],i+1,_=>by cases i<;>trivial
 |a::b::r,0,h=>by
  show qt (f a::b::r);exact⟨by rw[hf];exact h.1,h.2⟩
 |a::b::r,1,h=>by
  show qt (a::f b::r);refine⟨by rw[hf];exact h.1,?_⟩;exact qt.modify hf (l:=b::r) 0 h.2
 |a::b::r,i+2,h=>⟨h.1,qt.modify hf (l:=b::r) (i+1) h.2⟩
end Go.T
namespace Go.T
def Qk (m u:Mp):Bool:= !(Cl u.name m.name||Dy u.name m.name)
def JF (l:List Mp) (m:Mp):Nat→Nat
 |0=>0
 |k+1=>match l[k]? with
  |some u=>if Qk m u=true then JF l m k else k+1
  |none=>k+1
theorem Fs (l:List Mp) (m:Mp): ∀k,JF l m k≤k
 |0=>bH _
 |k+1=>by
  unfold JF
  split
  ·split
   ·exact Nat.le_succ_of_le (Fs l m k)
   ·exact bH _
  ·exact bH _
def Ie {α:Type} (l:List α) (k:Nat) (x:α):List α:=l.take k++x::l.drop k
def Ig (l:List Mp) (m:Mp):List Mp:=Ie l (JF l m l.length) m
theorem Ih (l:List Mp) (m:Mp):(Ig l m).length=l.length+1:=by
 have:=Fs l m l.length;unfold Ig Ie;rw[cM,dH,gW,oQ];omega
theorem Ii {l:List Mp} {m x:Mp} (h:x∈Ig l m):x∈l∨x=m:=by
 unfold Ig Ie at h;rcases List.mem_append.1 h with h|h
 ·exact .inl (vR h)
 ·rcases bC.1 h with h|h
  ·exact .inr h
  ·exact .inl (xE h)
def BP (l l':List Mp):Prop:=l'.length≤l.length+1∧ ∀B:Nat,12≤B→(∀x∈l,x.l.length≤B)→ ∀x∈l',x.l.length≤B
theorem BP.refl (l:List Mp):BP l l:=⟨Nat.le_succ _,fun _ _ h=>h⟩
theorem BP.put {l:List Mp} {m:Mp} (h: ∀B:Nat,12≤B→(∀x∈l,x.l.length≤B)→m.l.length≤B):BP l (Ig l m):=
 ⟨Nat.le_of_eq (Ih l m),fun B hB hl x hx=>(Ii hx).elim (hl x) fun e=>by rw[e];exact h B hB hl⟩
end Go.T
namespace Go.T
abbrev Ge (x:List (List Key)×Bool):TV:= .tu [(1,[.sub 1 (x.1.map bg)]),(0,[iB x.2])]
def sE (s:List Key) (k:Key):Bool:=(oF s k.b k.a).2||decide (s.length<4)
def c6 (n:List (List Key)) (k:Key):List (List Key):=match n[n.length-1]? with
 |none=>n++[[k]]
 |some s=>if sE s k=true then n.set (n.length-1) (bT s k) else n++[[k]]
def bu (n:List (List Key)) (k:Key):List Key:=fj (bT (ax n) k)
def bU (n:List (List Key)) (k:Key):List (List Key)×Bool:=
 if bO (c6 n k)=true then(c6 n k,true) else if 8<(bu n k).length then(n,false) else if bO (cH (bu n k))=true then(cH (bu n k),true) else(n,false)
theorem uc (n:List (List Key)) (k:Key):(bu n k).length≤tot bF n+1:=by
 have h1:=fy n;have h2:=gy (ax n) k;have h3:(bu n k).length≤(bT (ax n) k).length:=Gt _ _;omega
theorem De {α:Type} (w:α→Nat) (l:List α) (a:α):tot w (l++[a])=tot w l+w a:=by
 induction l with
 |nil=>simp[tot]
 |cons b r ih=>simp only[sU,tot,ih];omega
theorem Df {α:Type} (w:α→Nat) (c:Nat): ∀(l:List α) (i:Nat) (a a':α),l[i]?=some a→w a'≤w a+c→tot w (l.set i a')≤tot w l+c
 |[],i,a,a',h,_=>by simp at h
 |b::r,0,a,a',h,hw=>by
  simp only[bL,aE] at h;subst h;simp only[List.set_cons_zero,tot];omega
 |b::r,i+1,a,a',h,hw=>by
  have:=Df w c r i a a' (by simpa using h) hw;simp only[List.set_cons_succ,tot];omega
theorem yL (n:List (List Key)) (k:Key):(c6 n k).length≤n.length+1:=by
 unfold c6
 split
 ·rw[cM];simp
 ·split
  ·rw[List.length_set];omega
  ·rw[cM];simp
theorem yM (n:List (List Key)) (k:Key):tot bF (c6 n k)≤tot bF n+1:=by
 unfold c6
 split
 ·rw[De];exact bH _
 ·rename_i s hs
  split
  ·exact Df bF 1 _ _ s _ hs (by have:=gy s k;unfold bF;omega)
  ·rw[De];exact bH _
theorem qu (l:List Key):(cH l).length≤1:=by
 unfold cH
 split<;>simp
theorem wq (l:List Key):tot bF (cH l)≤l.length:=by
 unfold cH
 split
 ·simp[tot]
 ·simp[tot,bF]
end Go.T
namespace Go.T
def jz (x y:Key):Prop:=x.b<y.b∨(x.b=y.b∧x.a<y.a)
theorem jz.trans {x y z:Key} (h1:jz x y) (h2:jz y z):jz x z:=by unfold jz at*;omega
theorem jN {x y:Key}:bn x y=true↔jz x y:=by unfold bn jz;simp
theorem jc {x y:Key}:c8 x y=true↔x.b=y.b∧x.a=y.a:=by unfold c8;simp
theorem ud {k y:Key}: ∀{l:List Key},y∈bJ k true l→y∈l
 |[],h=>by simp[bJ] at h
 |x::r,h=>by
  simp only[bJ,z8,Bool.false_and,sQ,if_false,lO,Bool.true_or] at h;rcases List.mem_append.1 h with h|h
  ·split at h
   ·cases h
   ·rw[eG.1 h];exact .head _
  ·exact .tail _ (ud h)
theorem yN {k y:Key}: ∀{l:List Key} {put:Bool},y∈bJ k put l→y∈l∨y=k
 |[],put,h=>by
  simp only[bJ] at h
  split at h
  ·cases h
  ·exact .inr (eG.1 h)
 |x::r,put,h=>by
  simp only[bJ] at h;rcases List.mem_append.1 h with h|h
  ·rcases List.mem_append.1 h with h|h
   ·split at h
    ·exact .inr (eG.1 h)
    ·cases h
   ·split at h
    ·cases h
    ·exact .inl (by rw[eG.1 h];exact .head _)
  ·exact(yN h).imp (.tail _) id
theorem rB {k:Key}: ∀{l:List Key},l.Pairwise jz→(bJ k true l).Pairwise jz
 |[],_=>by simp[bJ]
 |x::r,h=>by
  obtain⟨h1,h2⟩:=List.pairwise_cons.1 h;simp only[bJ,z8,Bool.false_and,sQ,if_false,lO,Bool.true_or]
  split
  ·exact rB h2
  ·exact List.pairwise_cons.2 ⟨fun y hy=>h1 y (ud hy),rB h2⟩
theorem AV {k:Key}: ∀{l:List Key},l.Pairwise jz→(bJ k false l).Pairwise jz
 |[],_=>by simp[bJ]
 |x::r,h=>by
  obtain⟨h1,h2⟩:=List.pairwise_cons.1 h
  cases hk:bn x k with
  |true=>
   have hlt:=jN.1 hk
   have NN:c8 x k=false:=by
    cases hs:c8 x k with
    |false=>rfl
    |true=>have:=jc.1 hs;unfold jz at hlt;omega
   simp only[bJ,hk,NN,Bool.not_false,z8,fC,Bool.and_false,sQ,if_false,lO,Bool.or_false,xB];refine List.pairwise_cons.2 ⟨fun y hy=> ?_,AV h2⟩;rcases yN hy with hy|rfl
   ·exact h1 y hy
   ·exact hlt
  |false=>
   have hge: ¬jz x k:=fun h=>by rw[jN.2 h] at hk;cases hk
   simp only[bJ,hk,Bool.not_false,fC,if_true,Bool.or_true]
   have hr: ∀y∈bJ k true r,jz k y:=fun y hy=>by
    have:=h1 y (ud hy);unfold jz at*;omega
   split
   ·exact List.pairwise_cons.2 ⟨hr,rB h2⟩
   ·rename_i NN
    refine List.pairwise_cons.2 ⟨fun y hy=> ?_,List.pairwise_cons.2 ⟨fun y hy=>h1 y (ud hy),rB h2⟩⟩;rcases bC.1 hy with rfl|hy
    ·have: ¬(y.b=k.b∧y.a=k.a):=fun h=>NN (jc.2 h)
     unfold jz at*;omega
    ·exact hr y hy
theorem mw {l:List Key} {k:Key} (h:l.Pairwise jz):(bT l k).Pairwise jz:=AV h
theorem yO {l:List Key} {k y:Key} (h:y∈bT l k):y∈l∨y=k:=yN h
theorem oG: ∀(new:List Key) {old:List Key},old.Pairwise jz→(aG old new).Pairwise jz
 |[],_,h=>h
 |x::r,_,h=>oG r (mw h)
theorem AW {y:Key}: ∀{new old:List Key},y∈aG old new→y∈old∨y∈new
 |[],_,h=> .inl h
 |x::r,old,h=>by
  have h:y∈aG (bT old x) r:=h;rcases AW h with h|h
  ·exact(yO h).imp id fun e=>by rw[e];exact .head _
  ·exact .inr (.tail _ h)
theorem sF: ∀(n:List (List Key)) {acc:List Key},acc.Pairwise jz→(n.foldl aG acc).Pairwise jz
 |[],_,h=>h
 |s::r,_,h=>sF r (oG s h)
theorem AX {y:Key}: ∀{n:List (List Key)} {acc:List Key},y∈n.foldl aG acc→y∈acc∨ ∃s∈n,y∈s
 |[],_,h=> .inl h
 |s::r,acc,h=>by
  rcases AX (n:=r) h with h|⟨s',h1,h2⟩
  ·exact(AW h).imp id fun h=>⟨s,.head _,h⟩
  ·exact .inr ⟨s',.tail _ h1,h2⟩
theorem dI (n:List (List Key)):(ax n).Pairwise jz:=(sF n .nil).sublist List.filter_sublist
theorem gJ {n:List (List Key)} {y:Key} (h:y∈ax n): ∃s∈n,y∈s:=by
 rcases AX (List.mem_filter.1 h).1 with h|h
 ·cases h
 ·exact h
theorem m0 (n:List (List Key)) (k:Key):(bu n k).Pairwise jz:=(mw (dI n)).sublist List.filter_sublist
theorem BQ {n:List (List Key)} {k y:Key} (h:y∈bu n k):y=k∨ ∃s∈n,y∈s:=
 (yO (List.mem_filter.1 h).1).elim (fun h=> .inr (gJ h)) .inl
theorem Ij {l:List Key} (h1:l.Pairwise jz) (h2: ∀y∈l,cC y=true) (h3:l.length≤60):oX l=true:=by
 rw[tZ];simp only[cL,decide_eq_true_eq];refine⟨List.all_eq_true.2 h2,tY.2 fun i hi=> ?_,h3⟩
 cases i with
 |zero=>rfl
 |succ k=>
  simp only[fh];rw[aN (by omega:k<l.length),aN hi];exact jN.2 (List.pairwise_iff_getElem.1 h1 k (k+1) aB hi aB)
theorem jO {n:List (List Key)} (h:bO n=true) {s:List Key} (hs:s∈n) {y:Key} (hy:y∈s):cC y=true:=by
 unfold bO at h;simp only[cL] at h;have:=List.all_eq_true.1 h.1.1 s hs;simp only[cL] at this;have h2:=this.1;rw[tZ] at h2;simp only[cL] at h2;exact List.all_eq_true.1 h2.1 y hy
theorem sG {l:List Key} (h1:l.Pairwise jz) (h2: ∀y∈l,cC y=true) (h3:l.length≤8):bO (cH l)=true:=by
 unfold cH
 split
 ·decide
 ·rename_i h0
  unfold bO;have:=Ij h1 h2 aB;have Ru:l≠[]:=fun e=>h0 (by rw[e];rfl);simp[this,Ru,aQ,tot,bF,h3]
theorem Dg {n:List (List Key)} {k:Key} (h:bO n=true) (hk:cC k=true): ∀y∈bu n k,cC y=true:=fun y hy=>by
 rcases BQ hy with rfl|⟨s,h1,h2⟩
 ·exact hk
 ·exact jO h h1 h2
theorem El {n:List (List Key)} {k:Key} (h:bO n=true) (hk:cC k=true) (hp:(bU n k).2=false):8<(bu n k).length∧bU n k=(n,false):=by
 have hn:=sG (m0 n k) (Dg h hk);unfold bU at hp ⊢
 split at hp
 ·cases hp
 ·rename_i h1
  split at hp
  ·rename_i h2
   exact⟨h2,by rw[aD h1,aO h2]⟩
  ·rename_i h2
   rw[aO (hn aB)] at hp
   cases hp
end Go.T
namespace Go.T
def gw (x y:Int):Int:=p6 .or .i64 (KR .i64 (vT .i64 x) 8) (vT .i64 y)
end Go.T
namespace Go.T
def Ks (t:Tree) (i c:Nat) (cv:List Int) (nodes:List (List (List Key))):Tree:=⟨t.cv.take i++cv++t.cv.drop (i+c),t.nodes.take i++nodes++t.nodes.drop (i+c)⟩
def m6 (t:Tree) (i:Nat):List Key:=ax (t.nodes.getD i [])
def ue (t:Tree):Nat→Nat→Option Nat
 |0,_=>none
 |d+1,i=>if i+1<t.nodes.length then(if(m6 t i).length+(m6 t (i+1)).length≤6 then some i else ue t d (i+1)) else none
def Ik (t:Tree):Option Nat:=ue t t.nodes.length 0
def uf (t:Tree) (i:Nat):Tree:=Ks t i 2 [t.cv.getD i 0] [cH (m6 t i++m6 t (i+1))]
theorem wu {t:Tree}: ∀{d i j:Nat},ue t d i=some j→i≤j∧j+1<t.nodes.length∧(m6 t j).length+(m6 t (j+1)).length≤6
 |0,i,j,h=>by cases h
 |d+1,i,j,h=>by
  unfold ue at h
  split at h
  ·split at h
   ·cases h;exact⟨bH _,by assumption,by assumption⟩
   ·have:=wu h;exact⟨by omega,this.2⟩
  ·cases h
theorem Gf {t:Tree} {j:Nat} (h:Ik t=some j):j+1<t.nodes.length∧(m6 t j).length+(m6 t (j+1)).length≤6:=(wu h).2
end Go.T
namespace Go.T
theorem kJ {n:List (List Key)} (h:bO n=true):n.length≤3∧tot bF n≤8:=by
 unfold bO aQ at h;simp only[cL,decide_eq_true_eq] at h;exact⟨h.1.2,h.2⟩
end Go.T
namespace Go.T
theorem Il {α:Type} {l:List α} {i:Nat} {a b:α} (ha:l[i]?=some a) (hb:l[i+1]?=some b):l=l.take i++a::b::l.drop (i+2):=by
 obtain⟨h1,e1⟩:=List.getElem?_eq_some_iff.1 ha;obtain⟨h2,e2⟩:=List.getElem?_eq_some_iff.1 hb
 conv=>lhs;rw[←EF i l]
 rw[Ab h1,Ab h2,e1,e2]
theorem rC {t:Tree} {i:Nat} {a:List (List Key)} (h:t.nodes[i]?=some a):m6 t i=ax a:=by unfold m6;rw[xC,h];rfl
theorem yP {k:Key} (h:cC k=true):0≤k.b∧k.b≤15∧1≤k.a∧k.a≤60∧0≤k.k∧k.k≤2:=by
 simp only[cC,yK,cL,decide_eq_true_eq] at h;omega
theorem JG {b a:Int} (h: -1000≤b∧b≤1000∧ -1000≤a∧a≤1000):eP b a=64*b+a:=by
 unfold eP;rw[JC aB,bR aB]
theorem yQ {k:Key} (h:cC k=true):eP k.b k.a=64*k.b+k.a:=by
 have:=yP h;exact JG aB
end Go.T
namespace Go.T
end Go.T
namespace Go.T
end Go.T
namespace Go.T
def vo (b a:Int) (x:Key):Bool:=decide (x.b=b∧x.a=a)
def look (l:List Key) (b a:Int):Option Key:=l.find? (vo b a)
theorem Em (l:List Key) (b a:Int):setAt l b a=look l b a:=rfl
theorem nG (l m:List Key) (b a:Int):look (l++m) b a=(look l b a).or (look m b a):=by unfold look;rw[List.find?_append]
theorem ef (x:Key) (l:List Key) (b a:Int):look (x::l) b a=if x.b=b∧x.a=a then some x else look l b a:=by
 unfold look;rw[List.find?_cons]
 by_cases h:x.b=b∧x.a=a
 ·rw[aO h];simp[vo,h]
 ·rw[aD h];simp[vo,h]
theorem yR {k:Key} {b a:Int} (h: ¬(k.b=b∧k.a=a)): ∀(l:List Key) (put:Bool),look (bJ k put l) b a=look l b a
 |[],put=>by
  unfold bJ
  cases put with
  |true=>rfl
  |false=>simp only[sQ,if_false];rw[ef,aD h]
 |x::r,put=>by
  have ih:=yR h r (put|| !bn x k);simp only[bJ,nG];rw[ih,ef]
  have h1:look (if(!put&& !bn x k)=true then [k] else []) b a=none:=by
   split
   ·rw[ef,aD h];rfl
   ·rfl
  rw[h1]
  by_cases hs:c8 x k=true
  ·have:=jc.1 hs
   rw[aO hs,aD aB]
   rfl
  ·rw[aD hs,ef]
   by_cases hx:x.b=b∧x.a=a
   ·rw[aO hx,aO hx];rfl
   ·rw[aD hx,aD hx];rfl
theorem Ft {k:Key}: ∀l:List Key,l.Pairwise jz→look (bJ k false l) k.b k.a=some k
 |[],_=>by simp only[bJ,sQ,if_false];rw[ef,aO ⟨rfl,rfl⟩]
 |x::r,hp=>by
  obtain⟨h1,h2⟩:=List.pairwise_cons.1 hp
  cases hk:bn x k with
  |true=>
   have hlt:=jN.1 hk
   have NN:c8 x k=false:=by
    cases hs:c8 x k with
    |false=>rfl
    |true=>have:=jc.1 hs;unfold jz at hlt;omega
   simp only[bJ,hk,NN,Bool.not_false,z8,fC,Bool.and_false,sQ,if_false,lO,Bool.or_false,xB];rw[nG,Ft r h2,ef,aD (by unfold jz at hlt;omega)];rfl
  |false=>
   simp only[bJ,hk,Bool.not_false,fC,if_true,Bool.or_true];rw[nG,nG,ef,aO ⟨rfl,rfl⟩];rfl
theorem qv {l:List Key} {k:Key} (h:l.Pairwise jz) (b a:Int):look (bT l k) b a=if k.b=b∧k.a=a then some k else look l b a:=by
 unfold bT
 by_cases hs:k.b=b∧k.a=a
 ·rw[aO hs,←hs.1,←hs.2];exact Ft l h
 ·rw[aD hs];exact yR hs l false
theorem AY {l:List Key} {b a:Int} {x:Key} (h:look l b a=some x):x∈l∧x.b=b∧x.a=a:=by
 unfold look at h;have h1:=List.find?_some h;unfold vo at h1;exact⟨List.mem_of_find?_eq_some h,by simpa using h1⟩
theorem yS {l:List Key} (h:l.Pairwise jz) {x:Key} (hx:x∈l):look l x.b x.a=some x:=by
 induction l with
 |nil=>cases hx
 |cons y r ih=>
  obtain⟨h1,h2⟩:=List.pairwise_cons.1 h;rw[ef];rcases bC.1 hx with rfl|hx
  ·rw[aO ⟨rfl,rfl⟩]
  ·have:=h1 x hx
   rw[aD (by unfold jz at this;omega)];exact ih h2 hx
theorem rD {l:List Key} {b a:Int} (h: ∀x∈l,¬(x.b=b∧x.a=a)):look l b a=none:=by
 unfold look;rw[List.find?_eq_none];intro x hx hs;unfold vo at hs;exact h x hx (by simpa using hs)
theorem sH: ∀(new:List Key) {old:List Key},old.Pairwise jz→new.Pairwise jz→ ∀b a,look (aG old new) b a=(look new b a).or (look old b a)
 |[],old,_,_,b,a=>rfl
 |x::r,old,ho,hn,b,a=>by
  obtain⟨h1,h2⟩:=List.pairwise_cons.1 hn;have ih:=sH r (mw (k:=x) ho) h2 b a;show look (aG (bT old x) r) b a=_;rw[ih,qv ho,ef]
  by_cases hs:x.b=b∧x.a=a
  ·rw[aO hs,aO hs]
   have hr:look r b a=none:=rD fun y hy h=>by
    have:=h1 y hy;unfold jz at this;omega
   rw[hr];rfl
  ·rw[aD hs,aD hs]
theorem wz {l:List Key} (h:l.Pairwise jz) (p:Key→Bool) (b a:Int):look (l.filter p) b a=(look l b a).filter p:=by
 induction l with
 |nil=>rfl
 |cons x r ih=>
  obtain⟨h1,h2⟩:=List.pairwise_cons.1 h;rw[ef]
  by_cases hp:p x=true
  ·rw[List.filter_cons_of_pos hp,ef,ih h2]
   by_cases hs:x.b=b∧x.a=a
   ·rw[aO hs,aO hs];simp[Option.filter,hp]
   ·rw[aD hs,aD hs]
  ·rw[List.filter_cons_of_neg hp,ih h2]
   by_cases hs:x.b=b∧x.a=a
   ·rw[aO hs]
    have hr:look r b a=none:=rD fun y hy h=>by
     have:=h1 y hy;unfold jz at this;omega
    rw[hr];simp[Option.filter,hp]
   ·rw[aD hs]
theorem Dh: ∀{l m:List Key},l.Pairwise jz→m.Pairwise jz→(∀x,x∈l↔x∈m)→l=m
 |[],[],_,_,_=>rfl
 |[],y::m,_,_,h=>by have:=(h y).2 (.head _);cases this
 |x::l,[],_,_,h=>by have:=(h x).1 (.head _);cases this
 |x::l,y::m,hl,hm,h=>by
  obtain⟨h1,h2⟩:=List.pairwise_cons.1 hl;obtain⟨h3,h4⟩:=List.pairwise_cons.1 hm
  have hxy:x=y:=by
   rcases bC.1 ((h x).1 (.head _)) with e|e
   ·exact e
   ·rcases bC.1 ((h y).2 (.head _)) with e2|e2
    ·exact e2.symm
    ·have a1:=h3 x e
     have a2:=h1 y e2;unfold jz at a1 a2;omega
  subst hxy
  have:l=m:=Dh h2 h4 fun z=>by
   constructor
   ·intro hz
    rcases bC.1 ((h z).1 (.tail _ hz)) with e|e
    ·subst e;have:=h1 z hz;unfold jz at this;omega
    ·exact e
   ·intro hz
    rcases bC.1 ((h z).2 (.tail _ hz)) with e|e
    ·subst e;have:=h3 z hz;unfold jz at this;omega
    ·exact e
  rw[this]
theorem Di {l m:List Key} (hl:l.Pairwise jz) (hm:m.Pairwise jz) (h: ∀b a,look l b a=look m b a):l=m:=
 Dh hl hm fun x=>⟨fun hx=>by have:=yS hl hx;rw[h] at this;exact(AY this).1,fun hx=>by have:=yS hm hx;rw[←h] at this;exact(AY this).1⟩
def wA (n:List (List Key)):Prop:= ∀s∈n,s.Pairwise jz
theorem En {l:List Key} (h:oX l=true):l.Pairwise jz:=by
 rw[tZ] at h;simp only[cL] at h;have hp:=tY.1 h.2.1
 have key: ∀(l:List Key),(∀i,i<l.length→fh l bn i=true)→l.Pairwise jz:=by
  intro l
  induction l with
  |nil=>intro _;exact .nil
  |cons x r ih=>
   intro hq
   have hr:=ih fun i hi=>by
    have:=hq (i+1) sP
    cases i with
    |zero=>rfl
    |succ i=>simpa [fh] using this
   refine List.pairwise_cons.2 ⟨?_,hr⟩
   cases r with
   |nil=>intro y hy;cases hy
   |cons z r=>
    have hxz:jz x z:=by have:=hq 1 dK;simp only[fh,bL,jh] at this;exact jN.1 this
    intro y hy;rcases bC.1 hy with rfl|hy
    ·exact hxz
    ·exact hxz.trans ((List.pairwise_cons.1 hr).1 y hy)
 exact key l hp
theorem fk {n:List (List Key)} (h:bO n=true):wA n:=fun s hs=>by
 unfold bO at h;simp only[cL] at h;have:=List.all_eq_true.1 h.1.1 s hs;simp only[cL] at this;exact En this.1
def j8:List (List Key)→Int→Int→Option Key
 |[],_,_=>none
 |s::r,b,a=>(j8 r b a).or (look s b a)
theorem yT: ∀(n:List (List Key)) {acc:List Key},acc.Pairwise jz→wA n→ ∀b a,look (n.foldl aG acc) b a=(j8 n b a).or (look acc b a)
 |[],acc,_,_,b,a=>rfl
 |s::r,acc,ha,hn,b,a=>by
  have hs:=hn s (.head _);have ih:=yT r (oG s ha) (fun t ht=>hn t (.tail _ ht)) b a;show look (r.foldl aG (aG acc s)) b a=_;rw[ih,sH s ha hs];show _=((j8 r b a).or (look s b a)).or (look acc b a);rw[Option.or_assoc]
def gK (k:Key):Bool:= !decide (k.k=0)
theorem rE {n:List (List Key)} (h:wA n) (b a:Int):look (ax n) b a=(j8 n b a).filter gK:=by
 have hr:(iH n).Pairwise jz:=sF n .nil;have e:=wz hr gK b a;have e2:=yT n .nil h b a;show look ((iH n).filter gK) b a=_;rw[e];show Option.filter gK (look (n.foldl aG []) b a)=_;rw[e2];show Option.filter gK ((j8 n b a).or none)=_;rw[Option.or_none]
def yU:Option Key→Key×Bool
 |some k=>(k,true)
 |none=>(mu,false)
theorem oH (n:List (List Key)) (s:List Key) (b a:Int):j8 (n++[s]) b a=(look s b a).or (j8 n b a):=by
 induction n with
 |nil=>simp[j8]
 |cons t r ih=>simp only[sU,j8,ih,Option.or_assoc]
theorem rV (n:List (List Key)) (b a:Int): ∀k,k≤n.length→dF n b a k=yU ((j8 (n.take k) b a).filter gK)
 |0,_=>rfl
 |k+1,h=>by
  have ih:=rV n b a k aB
  have hk:k<n.length:=by omega
  unfold dF;rw[aN hk,List.take_add_one,aN hk];simp only[Option.toList];rw[oH];unfold oF;rw[Em]
  cases hl:look n[k] b a with
  |none=>simp only[sQ,if_false];rw[ih];rfl
  |some x=>
   simp only[if_true,Option.some_or]
   by_cases hx:x.k=0
   ·rw[aO hx];simp[Option.filter,gK,hx,yU]
   ·rw[aD hx];simp[Option.filter,gK,hx,yU]
theorem mz {n:List (List Key)} (h:wA n) (b a:Int):dF n b a n.length=yU (look (ax n) b a):=by
 rw[rV n b a n.length (bH _),Gu,rE h]
end Go.T
namespace Go.T
theorem Gg {l:List Key} (h:l.Pairwise jz):aG [] l=l:=
 Di (oG l .nil) h fun b a=>by rw[sH l .nil h];show(look l b a).or none=_;rw[Option.or_none]
theorem ug {l:List Key} (h:l.Pairwise jz) (hn: ∀x∈l,¬x.k=0):ax (cH l)=l:=by
 unfold cH
 split
 ·rename_i h0
  rw[List.length_eq_zero_iff.1 h0];rfl
 ·show fj (aG [] l)=l
  rw[Gg h];unfold fj;rw[List.filter_eq_self];intro x hx;simpa using hn x hx
theorem vp {n:List (List Key)} {x:Key} (hx:x∈ax n): ¬x.k=0:=by
 have:=(List.mem_filter.1 hx).2;simpa using this
theorem Gh {n:List (List Key)} {k x:Key} (hx:x∈bu n k): ¬x.k=0:=by
 have:=(List.mem_filter.1 hx).2;simpa using this
theorem Im {n:List (List Key)} (k:Key) (h:wA n) (b a:Int):j8 (c6 n k) b a=if k.b=b∧k.a=a then some k else j8 n b a:=by
 have hone: ∀m:List (List Key),j8 (m++[[k]]) b a=if k.b=b∧k.a=a then some k else j8 m b a:=fun m=>by
  rw[oH,ef]
  by_cases hs:k.b=b∧k.a=a
  ·rw[aO hs,aO hs];rfl
  ·rw[aD hs,aD hs];rfl
 unfold c6
 cases hl:n[n.length-1]? with
 |none=>exact hone n
 |some s=>
  simp only[]
  split
  ·obtain⟨hlt,hs⟩:=List.getElem?_eq_some_iff.1 hl
   have hpos:0<n.length:=by omega
   have e1:n=n.take (n.length-1)++[s]:=by
    conv=>lhs;rw[←EF (n.length-1) n]
    rw[Ab hlt,hs,vP aB]
   have e2:n.set (n.length-1) (bT s k)=n.take (n.length-1)++[bT s k]:=by
    rw[List.set_eq_take_append_cons_drop,aO hlt,vP aB]
   rw[e2,oH,qv (h s (by rw[←hs];exact p0 hlt))]
   conv=>rhs;rw[e1]
   rw[oH]
   by_cases hs:k.b=b∧k.a=a
   ·rw[aO hs,aO hs];rfl
   ·rw[aD hs,aD hs]
  ·exact hone n
theorem AZ {n:List (List Key)} (k:Key) (h:wA n) (b a:Int):look (bu n k) b a=(if k.b=b∧k.a=a then some k else j8 n b a).filter gK:=by
 have hr:=dI n;show look ((bT (ax n) k).filter gK) b a=_;rw[wz (mw hr),qv hr]
 by_cases hs:k.b=b∧k.a=a
 ·rw[aO hs,aO hs]
 ·rw[aD hs,aD hs,rE h]
  cases j8 n b a with
  |none=>rfl
  |some x=>by_cases hx:gK x=true<;>simp[Option.filter,hx]
theorem JH {n:List (List Key)} (k:Key) (h:wA n) (h2:wA (c6 n k)):ax (c6 n k)=bu n k:=
 Di (dI _) (m0 n k) fun b a=>by rw[rE h2,Im k h,AZ k h]
theorem BR {n:List (List Key)} {k:Key} (h:bO n=true) (hp:(bU n k).2=true):ax (bU n k).1=bu n k∧bO (bU n k).1=true:=by
 have hr:=fk h;unfold bU at hp ⊢
 split
 ·rename_i h1
  exact⟨JH k hr (fk h1),h1⟩
 ·rename_i h1
  rw[aD h1] at hp
  split
  ·rename_i h2;rw[aO h2] at hp;cases hp
  ·rename_i h2
   rw[aD h2] at hp
   split
   ·rename_i h3
    exact⟨ug (m0 n k) fun x hx=>Gh hx,h3⟩
   ·rename_i h3;rw[aD h3] at hp;cases hp
theorem Eo {n:List (List Key)} {k:Key} (h:bO n=true) (hp:(bU n k).2=true) (b a:Int):
 dF (bU n k).1 b a (bU n k).1.length=if k.b=b∧k.a=a then(if k.k=0 then(mu,false) else(k,true)) else dF n b a n.length:=by
 obtain⟨h1,h2⟩:=BR h hp;rw[mz (fk h2),h1,AZ k (fk h)]
 by_cases hs:k.b=b∧k.a=a
 ·rw[aO hs,aO hs]
  by_cases hk:k.k=0
  ·rw[aO hk];simp[Option.filter,gK,hk,yU]
  ·rw[aD hk];simp[Option.filter,gK,hk,yU]
 ·rw[aD hs,aD hs,mz (fk h),rE (fk h)]
theorem Dj {n:List (List Key)} (h:bO n=true) {x:Key} (hx:x∈ax n):dF n x.b x.a n.length=(x,true):=by
 rw[mz (fk h),yS (dI n) hx];rfl
theorem BS {n:List (List Key)} {k:Key} (h:bO n=true) (hk:cC k=true) (hp:(bU n k).2=false):8≤(ax n).length∧(bU n k).1=n:=by
 obtain⟨h1,h2⟩:=El h hk hp;have h3:(bu n k).length≤(bT (ax n) k).length:=Gt _ _;have h4:=gy (ax n) k;exact⟨by omega,by rw[h2]⟩
theorem zK (n:List (List Key)):ax (lz n)=ax n:=ug (dI n) fun x hx=>vp hx
theorem Dk {n:List (List Key)} (h:bO n=true):bO (lz n)=true∧(lz n).length≤1:=by
 have h1:=kJ h;have h2:=fy n;refine⟨sG (dI n) (fun y hy=> ?_) aB,qu _⟩;obtain⟨s,hs,hy⟩:=gJ hy;exact jO h hs hy
end Go.T
namespace Go.T
structure nH (t:Tree):Prop where
 len:t.cv.length=t.nodes.length
 low0:t.cv[0]?=some 0
 rise: ∀i x y,t.cv[i]?=some x→t.cv[i+1]?=some y→x<y
 ok: ∀n∈t.nodes,bO n=true
 lo: ∀(i:Nat) (n:List (List Key)) (x:Int),t.nodes[i]?=some n→t.cv[i]?=some x→ ∀s∈n,∀k:Key,k∈s→x≤eP k.b k.a
 hi: ∀(i:Nat) (n:List (List Key)) (x:Int),t.nodes[i]?=some n→t.cv[i+1]?=some x→ ∀s∈n,∀k:Key,k∈s→eP k.b k.a<x
theorem nH.mono {t:Tree} (h:nH t): ∀(d i:Nat) (x y:Int),t.cv[i]?=some x→t.cv[i+d+1]?=some y→x<y
 |0,i,x,y,hx,hy=>h.rise i x y hx hy
 |d+1,i,x,y,hx,hy=>by
  obtain⟨hlt,_⟩:=List.getElem?_eq_some_iff.1 hy;have hm:t.cv[i+d+1]?=some t.cv[i+d+1]:=aN aB;have h1:=h.mono d i x _ hx hm;have h2:=h.rise (i+d+1) _ y hm (by rw[show i+d+1+1=i+(d+1)+1 from by omega];exact hy);omega
theorem nH.lt {t:Tree} (h:nH t) {i j:Nat} {x y:Int} (hij:i<j) (hx:t.cv[i]?=some x) (hy:t.cv[j]?=some y):x<y:=
 h.mono (j-i-1) i x y hx (by rw[show i+(j-i-1)+1=j from by omega];exact hy)
theorem nH.key {t:Tree} (h:nH t) {i:Nat} {n:List (List Key)} (hn:t.nodes[i]?=some n) {x:Key} (hx:x∈ax n):cC x=true:=by
 obtain⟨s,hs,hy⟩:=gJ hx;exact jO (h.ok n (c7 hn)) hs hy
theorem Io {x y:Key} (hx:cC x=true) (hy:cC y=true):eP x.b x.a<eP y.b y.a↔jz x y:=by
 have h1:=yP hx;have h2:=yP hy;rw[yQ hx,yQ hy];unfold jz;omega
theorem uh {f:Int→Bool} {l:List Int}: ∀(n:Nat),n≤l.length→(ua f l n= -1∧ ∀j x,j<n→l[j]?=some x→f x=false)∨ ∃i:Nat,ua f l n=i∧i<n∧(∃x,l[i]?=some x∧f x=true)∧ ∀j x,i<j→j<n→l[j]?=some x→f x=false
 |0,_=> .inl ⟨rfl,fun j x h=>by omega⟩
 |n+1,h=>by
  have hn:n<l.length:=by omega
  unfold ua;rw[aN hn];simp only[]
  cases hf:f l[n] with
  |true=>exact .inr ⟨n,by simp,by omega,⟨_,aN hn,hf⟩,fun j x h1 h2=>by omega⟩
  |false=>
   rw[aD dK];rcases uh (f:=f) (l:=l) n aB with⟨h1,h2⟩|⟨i,h1,h2,h3,h4⟩
   ·refine .inl ⟨h1,fun j x hj hx=> ?_⟩
    by_cases hjn:j=n
    ·subst hjn;rw[aN hn] at hx;cases hx;exact hf
    ·exact h2 j x aB hx
   ·refine .inr ⟨i,h1,by omega,h3,fun j x hij hj hx=> ?_⟩
    by_cases hjn:j=n
    ·subst hjn;rw[aN hn] at hx;cases hx;exact hf
    ·exact h4 j x hij aB hx
theorem nH.JI {t:Tree} (h:nH t) {i:Nat} {x:Int} {b a:Int} (hx:t.cv[i]?=some x) (hlo:x≤eP b a) (hhi: ∀j y,i<j→t.cv[j]?=some y→eP b a<y):
 ∀(j:Nat) (n:List (List Key)),t.nodes[j]?=some n→ ¬j=i→look (ax n) b a=none:=by
 intro j n hn hne;refine rD fun k hk hs=> ?_
 have hj:j<t.cv.length:=by rw[h.len];exact(List.getElem?_eq_some_iff.1 hn).1
 obtain⟨s,A6,vO⟩:=gJ hk;have h1:=h.lo j n t.cv[j] hn (aN hj) s A6 k vO;rw[hs.1,hs.2] at h1
 by_cases hji:j<i
 ·have Ms:j+1<t.cv.length:=by have:=(List.getElem?_eq_some_iff.1 hx).1;omega
  have h2:=h.hi j n t.cv[j+1] hn (aN Ms) s A6 k vO;rw[hs.1,hs.2] at h2
  by_cases he:j+1=i
  ·subst he;rw[aN Ms] at hx;cases hx;omega
  ·have:=h.lt (i:=j+1) (j:=i) aB (aN Ms) hx
   omega
 ·have:=hhi j _ aB (aN hj)
  omega
theorem A4 {b a:Int}: ∀(l:List (List (List Key))) (i:Nat) (n:List (List Key)),l[i]?=some n→(∀j m,l[j]?=some m→ ¬j=i→look (ax m) b a=none)→look (l.flatMap ax) b a=look (ax n) b a
 |[],i,n,h,_=>by simp at h
 |m::r,0,n,h,hn=>by
  simp only[bL,aE] at h;subst h;rw[List.flatMap_cons,nG]
  have:look (r.flatMap ax) b a=none:=rD fun x hx hs=>by
   obtain⟨q,hq,hx⟩:=List.mem_flatMap.1 hx;obtain⟨j,hj⟩:=List.mem_iff_getElem?.1 hq;have:=hn (j+1) q (by simpa using hj) aB;unfold look at this;rw[List.find?_eq_none] at this;exact this x hx (by unfold vo;simpa using hs)
  rw[this,Option.or_none]
 |m::r,i+1,n,h,hn=>by
  rw[List.flatMap_cons,nG,hn 0 m rfl aB];have:=A4 r i n (by simpa using h) fun j q hj hne=>hn (j+1) q (by simpa using hj) aB;rw[this];rfl
theorem nH.find {t:Tree} (h:nH t) {b a:Int} (hs:0≤eP b a):Ia t b a=yU (look (jM t) b a):=by
 unfold Ia Fq;rcases uh (f:=fun x=>decide (x≤eP b a)) (l:=t.cv) t.cv.length (bH _) with⟨_,h2⟩|⟨i,h1,h2,⟨x,hx,hf⟩,h4⟩
 ·have hpos:=(List.getElem?_eq_some_iff.1 h.low0).1
  have:=h2 0 0 hpos h.low0;simp only[decide_eq_false_iff_not] at this;omega
 ·rw[h1,bE]
  have hlo:x≤eP b a:=sW hf
  have hi:i<t.nodes.length:=by rw[←h.len];exact h2
  have hn:t.nodes[i]?=some t.nodes[i]:=aN hi;rw[hn];simp only[]
  have hno:=h.JI hx hlo fun j y hij hy=>by
   have:=h4 j y hij (List.getElem?_eq_some_iff.1 hy).1 hy;simp only[decide_eq_false_iff_not] at this;omega
  rw[mz (fk (h.ok _ (p0 hi)))];unfold jM;rw[A4 t.nodes i t.nodes[i] hn hno]
end Go.T
namespace Go.T
abbrev Nd:=List (List Key)
def below (x:Int):Option Int→Prop
 |none=>True
 |some y=>x<y
def Ep (l:List Int) (hi:Option Int):Option Int:=match l with|[]=>hi|y::_=>some y
def BT (x:Int) (hi:Option Int) (n:Nd):Prop:=bO n=true∧below x hi∧ ∀s∈n,∀k:Key,k∈s→x≤eP k.b k.a∧below (eP k.b k.a) hi
def TR (hi:Option Int):List Int→List Nd→Prop
 |[],[]=>True
 |x::xs,n::ns=>BT x (Ep xs hi) n∧TR hi xs ns
 |_,_=>False
theorem Fu (l m:List Int) (hi:Option Int):Ep (l++m) hi=Ep l (Ep m hi):=by cases l<;>rfl
theorem qw (l:List Int):Ep l none=l[0]?:=by cases l<;>rfl
theorem mA {x y:Int} {o:Option Int} (h:x≤y) (h2:below y o):below x o:=by
 cases o with
 |none=>trivial
 |some z=>have:y<z:=h2;show x<z;omega
theorem TR.app {hi:Option Int} {l2:List Int} {n2:List Nd} (h2:TR hi l2 n2): ∀{l:List Int} {n:List Nd},TR (Ep l2 hi) l n→TR hi (l++l2) (n++n2)
 |[],[],_=>h2
 |x::xs,n::ns,h=>⟨by show BT x (Ep (xs++l2) hi) n;rw[Fu];exact h.1,TR.app h2 h.2⟩
 |[],_::_,h=>h.elim
 |_::_,[],h=>h.elim
theorem TR.split {hi:Option Int} {l2:List Int} {n2:List Nd}: ∀{l:List Int} {n:List Nd},l.length=n.length→TR hi (l++l2) (n++n2)→TR (Ep l2 hi) l n∧TR hi l2 n2
 |[],[],_,h=>⟨trivial,h⟩
 |x::xs,n::ns,hl,h=>by
  have h:BT x (Ep (xs++l2) hi) n∧TR hi (xs++l2) (ns++n2):=h;rw[Fu] at h;have:=TR.split (by simpa using hl) h.2;exact⟨⟨h.1,this.1⟩,this.2⟩
 |[],_::_,hl,_=>by simp at hl
 |_::_,[],hl,_=>by simp at hl
theorem BT.mono {x:Int} {n:Nd} {o o':Option Int} (hm: ∀y,below y o→below y o') (h:BT x o n):BT x o' n:=
 ⟨h.1,hm _ h.2.1,fun s hs k hk=>⟨(h.2.2 s hs k hk).1,hm _ (h.2.2 s hs k hk).2⟩⟩
theorem TR.mono {o o':Option Int} (hm: ∀y,below y o→below y o'): ∀{l:List Int} {n:List Nd},TR o l n→TR o' l n
 |[],[],_=>trivial
 |[x],[n],h=>⟨BT.mono hm h.1,trivial⟩
 |x::y::xs,n::ns,h=>⟨h.1,TR.mono hm h.2⟩
 |[x],n::m::ns,h=>h.2.elim
 |[],_::_,h=>h.elim
 |_::_,[],h=>h.elim
theorem TR.len {hi:Option Int}: ∀{l:List Int} {n:List Nd},TR hi l n→l.length=n.length
 |[],[],_=>rfl
 |x::xs,n::ns,h=>by simp[TR.len h.2]
 |[],_::_,h=>h.elim
 |_::_,[],h=>h.elim
theorem TR.at {hi:Option Int}: ∀{l:List Int} {n:List Nd},TR hi l n→ ∀(i:Nat) (x:Int) (m:Nd),l[i]?=some x→n[i]?=some m→BT x (Ep (l.drop (i+1)) hi) m
 |[],[],_,i,x,m,h1,_=>by simp at h1
 |x::xs,n::ns,h,0,y,m,h1,h2=>by
  simp only[bL,aE] at h1 h2;subst h1 h2;exact h.1
 |x::xs,n::ns,h,i+1,y,m,h1,h2=>TR.at h.2 i y m (by simpa using h1) (by simpa using h2)
 |[],_::_,h,_,_,_,_,_=>h.elim
 |_::_,[],h,_,_,_,_,_=>h.elim
theorem TR.head {hi:Option Int}: ∀{l:List Int} {n:List Nd},TR hi l n→ ∀x,l[0]?=some x→below x hi
 |[],_,_,x,hx=>by cases hx
 |[y],[n],h,x,hx=>by
  simp only[bL,aE] at hx;subst hx;exact h.1.2.1
 |y::z::r,n::ns,h,x,hx=>by
  simp only[bL,aE] at hx;subst hx;exact mA (Int.le_of_lt h.1.2.1) (TR.head h.2 z rfl)
 |[_],_::_::_,h,_,_=>h.2.elim
 |_::_,[],h,_,_=>h.elim
theorem lA (l:List Int) (i:Nat):(l.drop i)[0]?=l[i]?:=by rw[iC];rfl
theorem TR.of {t:Tree} (h:nH t): ∀(d i:Nat),i+d=t.nodes.length→TR none (t.cv.drop i) (t.nodes.drop i)
 |0,i,hd=>by
  have:=h.len;rw[vP aB,vP aB];trivial
 |d+1,i,hd=>by
  have hl:=h.len
  have h1:i<t.cv.length:=by omega
  have h2:i<t.nodes.length:=by omega
  have e1:t.cv[i]?=some t.cv[i]:=aN h1;have e2:t.nodes[i]?=some t.nodes[i]:=aN h2;rw[Ab h1,Ab h2];refine⟨⟨h.ok _ (p0 h2),?_,fun s hs k hk=>⟨h.lo i _ _ e2 e1 s hs k hk,?_⟩⟩,TR.of h d (i+1) aB⟩
  ·rw[qw,lA]
   cases hy:t.cv[i+1]? with
   |none=>trivial
   |some y=>exact h.rise i _ y e1 hy
  ·rw[qw,lA]
   cases hy:t.cv[i+1]? with
   |none=>trivial
   |some y=>exact h.hi i _ y e2 hy s hs k hk
theorem TR.tree {l:List Int} {n:List Nd} (h:TR none l n) (h0:l[0]?=some 0):nH ⟨l,n⟩:=by
 have hl:=h.len
 have gt: ∀(i:Nat) (x y:Int),l[i]?=some x→l[i+1]?=some y→ ∃m,n[i]?=some m∧BT x (some y) m:=fun i x y hx hy=>by
  obtain⟨h1,_⟩:=List.getElem?_eq_some_iff.1 hx;have e2:n[i]?=some n[i]:=aN aB;have:=h.at i x _ hx e2;rw[qw,lA,hy] at this;exact⟨_,e2,this⟩
 refine⟨hl,h0,fun i x y hx hy=> ?_,fun m hm=> ?_,fun i m x hm hx=> ?_,fun i m y hm hy=> ?_⟩
 ·obtain⟨m,_,h1⟩:=gt i x y hx hy
  exact h1.2.1
 ·obtain⟨i,hi⟩:=List.mem_iff_getElem?.1 hm
  obtain⟨h1,_⟩:=List.getElem?_eq_some_iff.1 hi;have h1:i<n.length:=h1;exact(h.at i _ m (aN aB) hi).1
 ·exact fun s hs k hk=>((h.at i x m hx hm).2.2 s hs k hk).1
 ·intro s hs k hk
  obtain⟨h1,_⟩:=List.getElem?_eq_some_iff.1 hm;have h1:i<n.length:=h1;have:=((h.at i _ m (aN aB) hm).2.2 s hs k hk).2;have hy:l[i+1]?=some y:=hy;rw[qw,lA,hy] at this;exact this
def NE (l:List Nd):Prop:= ∀n∈l.tail,¬ax n=[]
theorem Lt (m:Nd):NE [m]:=fun n hn=>by simp at hn
structure rW (t:Tree):Prop where
 tr:TR none t.cv t.nodes
 z:t.cv[0]?=some 0
 ne:NE t.nodes
theorem rW.r {t:Tree} (h:rW t):nH t:=h.tr.tree h.z
theorem Dl {α:Type} {l:List α} {a:α} {i:Nat} (h0:0<i) (h:l[i]?=some a):a∈l.tail:=by
 cases l with
 |nil=>simp at h
 |cons b r=>
  cases i with
  |zero=>omega
  |succ i=>exact c7 (i:=i) (by simpa using h)
theorem rW.ok {t:Tree} (h:rW t) (RO:t.nodes.length≤20) (Rv:(jM t).length≤60):H9 t=true:=by
 have hr:=h.r;have hl:=hr.len;have h1:=(List.getElem?_eq_some_iff.1 h.z).1;unfold H9 yK;rw[h.z];simp only[cL,decide_eq_true_eq];refine⟨by omega,hl,trivial,tY.2 fun i hi=> ?_,Rv⟩;unfold Db;have e2:t.nodes[i]?=some t.nodes[i]:=aN hi;rw[e2];simp only[cL,Bool.or_eq_true,decide_eq_true_eq,oP,decide_eq_false_iff_not];refine⟨?_,hr.ok _ (p0 hi),?_,List.all_eq_true.2 fun s hs=>List.all_eq_true.2 fun k hk=> ?_⟩
 ·cases i with
  |zero=>rfl
  |succ i=>
   have a1:t.cv[i]?=some t.cv[i]:=aN aB;have a2:t.cv[i+1]?=some t.cv[i+1]:=aN aB;simp only[fh,a1,a2,decide_eq_true_eq];exact hr.rise i _ _ a1 a2
 ·by_cases h0:i=0
  ·exact .inl h0
  ·exact .inr fun e=>h.ne _ (Dl aB e2) (List.length_eq_zero_iff.1 e)
 ·unfold AT H8
  have a1:t.cv[i]?=some t.cv[i]:=aN aB;rw[a1];simp only[cL,oP,decide_eq_false_iff_not];have h3:=hr.lo i _ _ e2 a1 s hs k hk;refine⟨by omega,?_⟩
  cases hy:t.cv[i+1]? with
  |none=>rfl
  |some y=>simp only[decide_eq_true_eq];exact hr.hi i _ y e2 hy s hs k hk
theorem JJ {l:List Key} {s:List Key} (h:s∈cH l) {k:Key} (hk:k∈s):k∈l:=by
 unfold cH at h
 split at h
 ·cases h
 ·rw[eG.1 h] at hk;exact hk
theorem rW.OU {t:Tree} (h:rW t) {A A1 A2 C:List Int} {N N1 N2 M:List Nd} (e1:t.cv=A++A1++C) (e2:t.nodes=N++N1++M) (hl:A.length=N.length) (wB:A1.length=N1.length) {x:Int} (hx:A1[0]?=some x)
 (h2:TR (Ep C none) A2 N2) (h0:A2[0]?=some x∨(A2=[]∧ ¬A=[])) (hn:NE N2) (hn2: ¬A=[]→ ∀n∈N2,¬ax n=[]):rW ⟨A++A2++C,N++N2++M⟩:=by
 obtain⟨tr,z,ne⟩:=h;rw[e1,e2,rK,rK] at tr;obtain⟨t1,t2⟩:=TR.split hl tr;obtain⟨t3,t4⟩:=TR.split wB t2
 have Rw:Ep (A1++C) none=some x:=by
  cases A1 with
  |nil=>cases hx
  |cons a r=>simpa [Ep] using hx
 rw[Rw] at t1;rw[e2] at ne;rw[e1] at z;have Rx:below x (Ep C none):=t3.head x hx;refine⟨?_,?_,?_⟩
 ·show TR none (A++A2++C) (N++N2++M)
  rw[rK,rK];refine TR.app (TR.app t4 h2) (t1.mono fun y hy=> ?_);have hy:y<x:=hy;rcases h0 with h0|⟨h0,_⟩
  ·cases A2 with
   |nil=>cases h0
   |cons a r=>simp only[bL,aE] at h0;subst h0;exact hy
  ·subst h0;exact mA (Int.le_of_lt hy) Rx
 ·show(A++A2++C)[0]?=some 0
  cases A with
  |cons a r=>simpa using z
  |nil=>
   rcases h0 with h0|⟨_,h0⟩
   ·cases A1 with
    |nil=>cases hx
    |cons a r=>
     cases A2 with
     |nil=>cases h0
     |cons b s=>
      simp only[lO,sU,bL,aE] at z hx h0 ⊢;omega
   ·exact absurd rfl h0
 ·show NE (N++N2++M)
  have hM: ∀n∈M,(¬N1=[])→ ¬ax n=[]:=fun n hm h1=>ne n (by
   cases N with
   |cons a r=>simp[hm]
   |nil=>
    cases N1 with
    |nil=>exact absurd rfl h1
    |cons b s=>simp[hm])
  have Qg: ¬N1=[]:=fun e=>by
   subst e;rw[List.length_eq_zero_iff.1 wB] at hx;cases hx
  intro n hnm
  cases N with
  |cons a r=>
   have hA: ¬A=[]:=fun e=>by rw[e] at hl;simp at hl
   simp only[sU,List.tail_cons,List.mem_append] at hnm;rcases hnm with(hnm|hnm)|hnm
   ·exact ne n (by simp[hnm])
   ·exact hn2 hA n hnm
   ·exact hM n hnm Qg
  |nil=>
   have hA:A=[]:=List.length_eq_zero_iff.1 (by simpa using hl)
   cases N2 with
   |nil=>
    rcases h0 with h0|⟨_,h0⟩
    ·rw[List.length_eq_zero_iff.1 h2.len] at h0;cases h0
    ·exact absurd hA h0
   |cons b s=>
    simp only[lO,sU,List.tail_cons,List.mem_append] at hnm;rcases hnm with hnm|hnm
    ·exact hn n hnm
    ·exact hM n hnm Qg
theorem rW.step {t:Tree} (h:rW t) {i:Nat} (hp:Ik t=some i):rW (uf t i)∧jM (uf t i)=jM t:=by
 obtain⟨h1,h2⟩:=Gf hp;have hr:=h.r;have hl:=hr.len;have a1:t.nodes[i]?=some t.nodes[i]:=aN aB;have a2:t.nodes[i+1]?=some t.nodes[i+1]:=aN h1;have b1:t.cv[i]?=some t.cv[i]:=aN aB;have b2:t.cv[i+1]?=some t.cv[i+1]:=aN aB;have en:=Il a1 a2;have el:=Il b1 b2;generalize ha:t.nodes[i]=a at*;generalize hb:t.nodes[i+1]=b at*;generalize hx:t.cv[i]=x at*;generalize hy:t.cv[i+1]=y at*;rw[rC a1,rC a2] at h2
 have e1:uf t i=⟨t.cv.take i++[x]++t.cv.drop (i+2),t.nodes.take i++[cH (ax a++ax b)]++t.nodes.drop (i+2)⟩:=by
  unfold uf Ks;rw[rC a1,rC a2,xC,b1];rfl
 have el':t.cv=t.cv.take i++[x,y]++t.cv.drop (i+2):=by simpa using el
 have en':t.nodes=t.nodes.take i++[a,b]++t.nodes.drop (i+2):=by simpa using en
 have hlen:(t.cv.take i).length=(t.nodes.take i).length:=by simp[hl]
 have na:=h.tr.at i x a b1 a1;have nb:=h.tr.at (i+1) y b b2 a2;rw[qw,lA,b2] at na
 have hka: ∀k∈ax a,cC k=true∧x≤eP k.b k.a∧eP k.b k.a<y:=fun k hk=>by
  obtain⟨s,hs,hk⟩:=gJ hk;exact⟨jO na.1 hs hk,na.2.2 s hs k hk⟩
 have Mm: ∀k∈ax b,cC k=true∧y≤eP k.b k.a∧below (eP k.b k.a) (Ep (t.cv.drop (i+1+1)) none):=fun k hk=>by
  obtain⟨s,hs,hk⟩:=gJ hk;exact⟨jO nb.1 hs hk,nb.2.2 s hs k hk⟩
 have hxy:x<y:=na.2.1
 have IM:(ax a++ax b).Pairwise jz:=List.pairwise_append.2 ⟨dI a,dI b,fun u hu v hv=>by
  have:=hka u hu;have h4:=Mm v hv
  exact(Io this.1 h4.1).1 aB⟩
 refine⟨?_,?_⟩
 ·rw[e1]
  refine h.OU el' en' hlen rfl (x:=x) rfl (A2:=[x]) (N2:=[cH (ax a++ax b)]) ⟨⟨sG IM (fun k hk=> ?_) (by rw[cM];omega),?_,fun s hs k hk=> ?_⟩,trivial⟩ (.inl rfl) (Lt _) fun hA n hn=> ?_
  ·rcases List.mem_append.1 hk with hk|hk
   ·exact(hka k hk).1
   ·exact(Mm k hk).1
  ·exact mA (Int.le_of_lt hxy) nb.2.1
  ·rcases List.mem_append.1 (JJ hs hk) with hk|hk
   ·exact⟨(hka k hk).2.1,mA (Int.le_of_lt (hka k hk).2.2) nb.2.1⟩
   ·exact⟨by have:=(Mm k hk).2.1;omega,(Mm k hk).2.2⟩
  ·rw[eG.1 hn,ug IM fun u hu=>by
    rcases List.mem_append.1 hu with hu|hu<;>exact vp hu]
   have hi:0<i:=Nat.pos_of_ne_zero fun e=>hA (by subst e;rfl);have:=h.ne a (Dl hi a1);intro e;exact this (List.append_eq_nil_iff.1 e).1
 ·rw[e1]
  unfold jM
  conv=>rhs;rw[en']
  simp only[List.flatMap_append,List.flatMap_cons,List.flatMap_nil,kM]
  rw[ug IM fun u hu=>by
     rcases List.mem_append.1 hu with hu|hu<;>exact vp hu]
end Go.T
namespace Go.T
end Go.T
namespace Go.T
end Go.T
namespace Go.T
theorem Ip (n:Nd):ax (lz n)=ax n:=zK n
theorem qt.lt: ∀{l:List xy},qt l→l.Pairwise fun a b=>Cl a.name b.name=true
 |[],_=> .nil
 |[a],_=>by simp
 |a::b::r,h=>by
  have ih:=qt.lt (l:=b::r) h.2;refine List.pairwise_cons.2 ⟨fun c hc=> ?_,ih⟩;rcases bC.1 hc with rfl|hc
  ·exact h.1
  ·exact AU h.1 ((List.pairwise_cons.1 ih).1 c hc)
end Go.T
namespace Go.T
set_option maxRecDepth 100000
end Go.T
namespace Go.T
theorem Iq {b a k c g:Int} (hb:0≤b∧b≤15) (ha:1≤a∧a≤60) (hk:0≤k∧k≤2) (h:(k=1∧0≤c∧c≤23∧0≤g∧g≤999)∨(¬k=1∧c=0∧g=0)):cC ⟨b,a,k,c,g⟩=true:=by
 unfold cC yK;simp only[cL,decide_eq_true_eq];refine⟨⟨⟨hb,ha⟩,hk⟩,?_⟩;rcases h with⟨h1,h2⟩|⟨h1,h2⟩
 ·rw[aO h1];simp only[cL,decide_eq_true_eq];omega
 ·rw[aD h1];simp only[cL,decide_eq_true_eq];exact h2
theorem qx {n:List (List Key)} (h:bO n=true) (k:Key):bO (bU n k).1=true:=by
 unfold bU
 repeat' split
 all_goals first|assumption|exact h
theorem Er {n:List (List Key)} (h:bO n=true):yJ n≤11:=by
 have:=kJ h;unfold yJ;omega
end Go.T
namespace Go.T
variable {C : eZ} {f : FuncId} {vs : List TV} {b : List Int}
theorem vq {P:Int→Prop} {K:Int→RR→Int→Int→Prop} (h:cN C f vs (Dr b fun r=> ∃x,r=vI x∧P x)) (k: ∀x i h,0≤i→P x→K x (b.map gR) i h):
 ∃(n:Int) (l:List (List TC)) (n2 n3:Int),aq C f vs (TV.c (TC.sc (Value.int IntKind.i64 n))) [TV.bx [TC.sub 1 l,TC.sc (Value.int IntKind.i64 n2),TC.sc (Value.int IntKind.i64 n3)]]∧K n l n2 n3:=by
 obtain⟨_,_,hr,i,h',hi,rfl,x,rfl,hx⟩:=h;exact⟨x,_,i,h',hr,k x i h' hi hx⟩
theorem Es {P:Key→Prop} {K:Int→Int→Int→Int→Int→RR→Int→Int→Prop} (h:cN C f vs (Dr b fun r=> ∃x,r=TV.ag (bB x)∧P x)) (k: ∀x i h,0≤i→P x→K x.b x.a x.k x.c x.g (b.map gR) i h):
 ∃(m1 m2 m3 m4 m5:Int) (l:List (List TC)) (n2 n3:Int),aq C f vs (TV.ag [TC.sc (Value.int IntKind.i64 m1),TC.sc (Value.int IntKind.i64 m2),TC.sc (Value.int IntKind.i64 m3),TC.sc (Value.int IntKind.i64 m4),TC.sc (Value.int IntKind.i64 m5)]) [TV.bx [TC.sub 1 l,TC.sc (Value.int IntKind.i64 n2),TC.sc (Value.int IntKind.i64 n3)]]∧K m1 m2 m3 m4 m5 l n2 n3:=by
 obtain⟨_,_,hr,i,h',hi,rfl,x,rfl,hx⟩:=h;exact⟨x.b,x.a,x.k,x.c,x.g,_,i,h',hr,k x i h' hi hx⟩
theorem JK {P:List (List Key)→Prop} {K:RR→RR→Int→Int→Prop} (h:cN C f vs (Dr b fun r=> ∃x:List (List Key),r=TV.ag [TC.sub 1 (x.map bg)]∧P x)) (k: ∀(x:List (List Key)) i h,0≤i→P x→K (x.map bg) (b.map gR) i h):
 ∃(l0 l:List (List TC)) (n2 n3:Int),aq C f vs (TV.ag [TC.sub 1 l0]) [TV.bx [TC.sub 1 l,TC.sc (Value.int IntKind.i64 n2),TC.sc (Value.int IntKind.i64 n3)]]∧K l0 l n2 n3:=by
 obtain⟨_,_,hr,i,h',hi,rfl,x,rfl,hx⟩:=h;exact⟨_,_,i,h',hr,k x i h' hi hx⟩
theorem Lu {K:RR→Int→Int→Prop} (h:cN C f vs (fun r fs=>fs=[]∧ ∃h,r=BO b 0 h)) (k: ∀h,K (b.map gR) 0 h):
 ∃(l:List (List TC)) (n2 n3:Int),aq C f vs (TV.bx [TC.sub 1 l,TC.sc (Value.int IntKind.i64 n2),TC.sc (Value.int IntKind.i64 n3)]) []∧K l n2 n3:=by
 obtain⟨_,_,hr,rfl,x,rfl⟩:=h;exact⟨_,_,_,hr,k x⟩
theorem BU {P:TV→Prop} {r:TV} {i h:Int} (hi:0≤i) (hP:P r):Dr b P r [TV.bx [TC.sub 1 (b.map gR),TC.sc (Value.int IntKind.i64 i),TC.sc (Value.int IntKind.i64 h)]]:=⟨i,h,hi,rfl,hP⟩
end Go.T
