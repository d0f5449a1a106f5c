import Derived.Test.YtlkjkfidmkdchaaT5
set_option linter.all false
namespace Go.T
def Qn (cf:Cf):Prop:= ∀f vs r fs r' fs',cf f vs r fs→cf f vs r' fs'→r=r'∧fs=fs'
def Sk (lp:Lp):Prop:= ∀f i c st (Q Q':TX→TS→Prop),lp f i c st Q→lp f i c st Q'→ ∃x s,Q x s∧Q' x s
theorem j6 {R:Type} {cf:Cf} {lp:Lp} (hc:Qn cf) (hl:Sk lp) {Q Q':R→Prop}: ∀(e:Ev R),e.holds cf lp Q→e.holds cf lp Q'→ ∃r,Q r∧Q' r
 | .fail,h,_=>h.elim
 | .ret r,h,h'=>⟨r,h,h'⟩
 | .test b k,h,h'=>j6 hc hl (k b) h h'
 | .row rows i k,⟨c,h1,h2⟩,⟨c',AO,Ml⟩=>by
   rw[h1] at AO;cases AO;exact j6 hc hl (k c) h2 Ml
 | .byte rows i k,⟨c,h1,h2⟩,⟨c',AO,Ml⟩=>by
   rw[h1] at AO;cases AO;exact j6 hc hl (k c) h2 Ml
 | .bytes rows k,⟨c,h1,h2⟩,⟨c',AO,Ml⟩=>by
   rw[h1] at AO;cases AO;exact j6 hc hl (k c) h2 Ml
 | .call f vs k,⟨r,fs,h1,h2⟩,⟨r',fs',AO,Ml⟩=>by
   obtain⟨rfl,rfl⟩:=hc _ _ _ _ _ _ h1 AO;exact j6 hc hl (k r fs) h2 Ml
 | .loop f i c st k,h,h'=>by
   obtain⟨x,s,h1,h2⟩:=hl _ _ _ _ _ _ h h';exact j6 hc hl (k x s) h1 h2
 | .both a b,⟨r,h1,h2,h3⟩,⟨r',AO,Ml,Pz⟩=>by
   obtain⟨r0,e1,e2⟩:=j6 hc hl a h1 AO;subst e1 e2;exact⟨_,h3,Pz⟩
section
variable {C : ic}
theorem Jy {cf:Cf} {lp:Lp} (hc:Qn cf) (hl:Sk lp) {fx:List Nat} {f i:Nat} {c:Code} {Q Q':TX→TS→Prop}: ∀(n:Nat) (st:TS),iter C cf lp fx f i c Q n st→iter C cf lp fx f i c Q' n st→ ∃x s,Q x s∧Q' x s
 |0,_,h,_=>h.elim
 |n+1,st,h,h'=>by
  obtain⟨⟨x,s⟩,h1,h2⟩:=j6 hc hl _ h h'
  cases x with
  |norm=>
   simp only at h1 h2;rw[mg] at h1 h2;exact Jy hc hl n _ h1 h2
  |ex id=>exact⟨_,_,h1,h2⟩
  |ret=>exact⟨_,_,h1,h2⟩
theorem LU {cf:Cf} (hc:Qn cf) (k:Nat) (fx:List Nat): ∀n,Sk (Kl C cf k fx n)
 |0=>fun _ _ _ _ _ _ h _=>h.elim
 |n+1=>fun f i c st Q Q' h h'=>Jy hc (LU hc k fx n) k st h h'
theorem Bo: ∀k,Qn (fc C k)
 |0=>fun _ _ _ _ _ _ h _=>h.elim
 |k+1=>fun f vs r fs r' fs' h h'=>by
  unfold fc at h h'
  cases hx:C.ext f with
  |some p=>rw[hx] at h h';have h:p vs=some (r,fs):=h;have h':p vs=some (r',fs'):=h';rw[h] at h';cases h';exact⟨rfl,rfl⟩
  |none=>
  rw[hx] at h h';simp only at h h';obtain⟨p,h1,h2⟩:=j6 (Bo k) (LU (Bo k) k _ 4) _ h h';rw[h1] at h2
  cases h2
  exact⟨rfl,rfl⟩
theorem au.Vs {f:FuncId} {vs:List TV} {r r':TV} {fs fs':List TV} (h:au C f vs r fs) (h':au C f vs r' fs'):r'=r∧fs'=fs:=by
 obtain⟨k,h⟩:=h;obtain⟨k',h'⟩:=h';obtain⟨h1,h2⟩:=Bo (max k k') _ _ _ _ _ _ (iO (F7 _ _) h) (iO (Nat.le_max_right _ _) h');exact⟨h1.symm,h2.symm⟩
end
def iG {α:Type} (l:List α) (i:Int):Option α:=if 0≤i then l[i.toNat]? else none
theorem aL {α:Type} (l:List α) (i:Nat):iG l (i:Int)=l[i]?:=by
 unfold iG;rw[bg (Int.natCast_nonneg i),r7]
theorem lN {α:Type} {l:List α} {i:Int} (h0:0≤i) (h1:i<l.length): ∃a,iG l i=some a:=by
 unfold iG;rw[bg h0];exact⟨_,aV ay⟩
theorem sC {α:Type} {l:List α} {i:Int} (h: ¬(0≤i∧i<l.length)):iG l i=none:=by
 unfold iG
 split
 ·exact Le ay
 ·rfl
theorem bA {α:Type} (e:α→List TC) (l:List α) (i:Int):rowAt (l.map e) i=(iG l i).map e:=by
 unfold rowAt iG
 split
 ·rw[gv]
 ·rfl
theorem vV {α:Type} {l:List α} {i:Int} {a:α} (h:iG l i=some a):a∈l:=by
 unfold iG at h
 split at h
 ·exact ew h
 ·cases h
def oJ {α:Type} (l:List α) (i:Int) (a:α):List α:=l.set i.toNat a
theorem qz {α:Type} (l:List α) (i:Int) (a:α):(oJ l i a).length=l.length:=by unfold oJ;simp
theorem nF {α:Type} {e:α→List TC} {l:List α} {i:Int} {a a':α} {f:Nat} {cs:List TC} (h:iG l i=some a) (he:(e a).take f++cs++(e a).drop (f+cs.length)=e a'):setRow (l.map e) i f cs=(oJ l i a').map e:=by
 unfold iG at h
 split at h
 ·unfold setRow oJ
  rw[gv,h];simp only[ij,he,List.map_set]
 ·cases h
@[simp] theorem dB {α:Type} (e:α→List TC) (l:List α) (a b:Int):av (l.map e) a b=((l.take b.toNat).drop a.toNat).map e:=by
  unfold av;rw[←IF,←DH]
theorem pG {rows:List (List TC)} (h: ∀r∈rows,∀c∈r,∃v,c= .sc v):cQ rows=true:=by
 unfold cQ;rw[List.all_eq_true];intro r hr;rw[List.all_eq_true];intro c hc;obtain⟨v,rfl⟩:=h r hr c hc
 rfl
@[simp] theorem Vt (s:ByteArray):(ByteArray.data s).1.length=s.size:=rfl
@[simp] theorem zR (l h n:Int):fq l h n=decide (0≤l∧l≤h∧h≤n):=by unfold fq;rfl
end Go.T
namespace Go.T
structure Key where
 b:Int
 a:Int
 k:Int
 c:Int
 g:Int
 deriving DecidableEq
structure KT where
 id:Int
 fr:Int
 deriving DecidableEq
structure Cell where
 g:Int
 u:Bool
 n:Int
 deriving DecidableEq
structure DD where
 name:ByteArray
 RI:Int
 size:Int
 fx:Bool
structure Mp where
 name:ByteArray
 fx:Bool
 l:List Int
structure Tree where
 ak:List Int
 nodes:List (List (List Key))
structure TD where
 t:Tree
 Q3:List KT
 cells:List Cell
 Wi:List DD
 next:Int
structure Px where
 kind:Int
 name:ByteArray
 to:ByteArray
 a:Int
 b:Int
abbrev iI (n:Int):TC:= .sc (.int .i64 n)
abbrev iB (b:Bool):TC:= .sc (.bool b)
abbrev iS (s:ByteArray):TC:= .sc (.string s)
abbrev cI (n:Int):CE:= .sc (.int .i64 n)
abbrev cB (b:Bool):CE:= .sc (.bool b)
abbrev aH (a b:Int):Int:=Kb .i64 a b
abbrev dh (a b:Int):Int:=DK .i64 a b
abbrev yx (a b:Int):Int:=Kd .i64 a b
theorem bh {a b:Int} (h: -9223372036854775808≤a+b∧a+b≤9223372036854775807):aH a b=a+b:=Qk h
theorem eA {a b:Int} (h: -9223372036854775808≤a-b∧a-b≤9223372036854775807):dh a b=a-b:=Ql h
theorem Qo {a b:Int} (h: -9223372036854775808≤a*b∧a*b≤9223372036854775807):yx a b=a*b:=HH h
abbrev RR:=List (List TC)
abbrev QV:=TV→List TV→Prop
abbrev QX:=TX→TS→Prop
abbrev sI:Sh:= .int .i64
abbrev sB:Sh:= .bool
abbrev hz:Hint:= .z
abbrev hb:Hint→Hint→Hint:= .br
abbrev hr:List Sh→Hint→Hint:= .row
abbrev hc:Cn→List Cn→Hint→Hint:= .call
def cA (n:Int):List TC:=[.sc (.int .i64 n)]
def hJ (n:Int):List TC:=[.sc (.int .u8 n)]
def LV (n:Bool):List TC:=[.sc (.bool n)]
def bf (x:Key):List TC:=[.sc (.int .i64 x.b),.sc (.int .i64 x.a),.sc (.int .i64 x.k),.sc (.int .i64 x.c),.sc (.int .i64 x.g)]
def Bp (x:KT):List TC:=[.sc (.int .i64 x.id),.sc (.int .i64 x.fr)]
def ug (x:Cell):List TC:=[.sc (.int .i64 x.g),.sc (.bool x.u),.sc (.int .i64 x.n)]
def vW (x:DD):List TC:=[.sc (.string x.name),.sc (.int .i64 x.RI),.sc (.int .i64 x.size),.sc (.bool x.fx)]
def LW (x:Px):List TC:=[.sc (.int .i64 x.kind),.sc (.string x.name),.sc (.string x.to),.sc (.int .i64 x.a),.sc (.int .i64 x.b)]
def Bq (x:Mp):List TC:=[.sc (.string x.name),.sc (.bool x.fx),.sub 1 (x.l.map cA)]
def OH (x:List Int):List TC:=[.sub 1 (x.map hJ)]
def bH (x:List Key):List TC:=[.sub 5 (x.map bf)]
def bD (x:List (List Key)):List TC:=[.sub 1 (x.map bH)]
abbrev GF (t:Tree):List TC:=[.sub 1 (t.ak.map cA),.sub 1 (t.nodes.map bD)]
abbrev vI (n:Int):TV:= .c (.sc (.int .i64 n))
abbrev vB (b:Bool):TV:= .c (.sc (.bool b))
abbrev vS (s:ByteArray):TV:= .c (.sc (.string s))
abbrev Ex (l:List Int):TV:= .c (.sub 1 (l.map cA))
abbrev pH (l:List Int):TV:= .c (.sub 1 (l.map hJ))
abbrev cD (l:List Key):TV:= .c (.sub 5 (l.map bf))
abbrev OI (l:List (List (List Key))):TV:= .c (.sub 1 (l.map bD))
abbrev yy (k:Key):TV:= .ag [.sc (.int .i64 k.b),.sc (.int .i64 k.a),.sc (.int .i64 k.k),.sc (.int .i64 k.c),.sc (.int .i64 k.g)]
abbrev dL (n:List (List Key)):TV:= .ag [.sub 1 (n.map bH)]
abbrev cr (t:Tree):TV:= .ag (GF t)
section
variable {i : Int}
@[simp] theorem tG {l:List Int} {K:Int→Prop}:(∃n,rowAt (l.map cA) i=some [.sc (.int .i64 n)]∧K n)↔ ∃a,iG l i=some a∧K a:=by
  rw[bA]
  constructor
  ·rintro⟨n,h,hK⟩
   obtain⟨a,ha,h⟩:=Option.map_eq_some_iff.1 h;unfold cA at h;cases h;exact⟨_,ha,hK⟩
  ·rintro⟨a,ha,hK⟩
   exact⟨_,by rw[ha];rfl,hK⟩
@[simp] theorem UL {l:List Int} {K:Int→Prop}:(∃n,rowAt (l.map hJ) i=some [.sc (.int .u8 n)]∧K n)↔ ∃a,iG l i=some a∧K a:=by
  rw[bA]
  constructor
  ·rintro⟨n,h,hK⟩
   obtain⟨a,ha,h⟩:=Option.map_eq_some_iff.1 h;unfold hJ at h;cases h;exact⟨_,ha,hK⟩
  ·rintro⟨a,ha,hK⟩
   exact⟨_,by rw[ha];rfl,hK⟩
@[simp] theorem UM {l:List Bool} {K:Bool→Prop}:(∃n,rowAt (l.map LV) i=some [.sc (.bool n)]∧K n)↔ ∃a,iG l i=some a∧K a:=by
  rw[bA]
  constructor
  ·rintro⟨n,h,hK⟩
   obtain⟨a,ha,h⟩:=Option.map_eq_some_iff.1 h;unfold LV at h;cases h;exact⟨_,ha,hK⟩
  ·rintro⟨a,ha,hK⟩
   exact⟨_,by rw[ha];rfl,hK⟩
@[simp] theorem mo {l:List Key} {K:Int→Int→Int→Int→Int→Prop}:(∃b a k c g,rowAt (l.map bf) i=some [.sc (.int .i64 b),.sc (.int .i64 a),.sc (.int .i64 k),.sc (.int .i64 c),.sc (.int .i64 g)]∧K b a k c g)↔ ∃x,iG l i=some x∧K x.b x.a x.k x.c x.g:=by
  rw[bA]
  constructor
  ·rintro⟨_,_,_,_,_,h,hK⟩
   obtain⟨a,ha,h⟩:=Option.map_eq_some_iff.1 h;unfold bf at h;cases h;exact⟨_,ha,hK⟩
  ·rintro⟨a,ha,hK⟩
   exact⟨_,_,_,_,_,by rw[ha];rfl,hK⟩
@[simp] theorem Vu {l:List KT} {K:Int→Int→Prop}:(∃b a,rowAt (l.map Bp) i=some [.sc (.int .i64 b),.sc (.int .i64 a)]∧K b a)↔ ∃x,iG l i=some x∧K x.id x.fr:=by
  rw[bA]
  constructor
  ·rintro⟨_,_,h,hK⟩
   obtain⟨a,ha,h⟩:=Option.map_eq_some_iff.1 h;unfold Bp at h;cases h;exact⟨_,ha,hK⟩
  ·rintro⟨a,ha,hK⟩
   exact⟨_,_,by rw[ha];rfl,hK⟩
@[simp] theorem UN {l:List Cell} {K:Int→Bool→Int→Prop}:(∃g u n,rowAt (l.map ug) i=some [.sc (.int .i64 g),.sc (.bool u),.sc (.int .i64 n)]∧K g u n)↔ ∃x,iG l i=some x∧K x.g x.u x.n:=by
  rw[bA]
  constructor
  ·rintro⟨_,_,_,h,hK⟩
   obtain⟨a,ha,h⟩:=Option.map_eq_some_iff.1 h;unfold ug at h;cases h;exact⟨_,ha,hK⟩
  ·rintro⟨a,ha,hK⟩
   exact⟨_,_,_,by rw[ha];rfl,hK⟩
@[simp] theorem Vv {l:List DD} {K:ByteArray→Int→Int→Bool→Prop}:(∃s a z f,rowAt (l.map vW) i=some [.sc (.string s),.sc (.int .i64 a),.sc (.int .i64 z),.sc (.bool f)]∧K s a z f)↔ ∃x,iG l i=some x∧K x.name x.RI x.size x.fx:=by
  rw[bA]
  constructor
  ·rintro⟨_,_,_,_,h,hK⟩
   obtain⟨a,ha,h⟩:=Option.map_eq_some_iff.1 h;unfold vW at h;cases h;exact⟨_,ha,hK⟩
  ·rintro⟨a,ha,hK⟩
   exact⟨_,_,_,_,by rw[ha];rfl,hK⟩
@[simp] theorem Wt {l:List Px} {K:Int→ByteArray→ByteArray→Int→Int→Prop}:(∃k s t a b,rowAt (l.map LW) i=some [.sc (.int .i64 k),.sc (.string s),.sc (.string t),.sc (.int .i64 a),.sc (.int .i64 b)]∧K k s t a b)↔ ∃x,iG l i=some x∧K x.kind x.name x.to x.a x.b:=by
  rw[bA]
  constructor
  ·rintro⟨_,_,_,_,_,h,hK⟩
   obtain⟨a,ha,h⟩:=Option.map_eq_some_iff.1 h;unfold LW at h;cases h;exact⟨_,ha,hK⟩
  ·rintro⟨a,ha,hK⟩
   exact⟨_,_,_,_,_,by rw[ha];rfl,hK⟩
@[simp] theorem Vw {l:List Mp} {K:ByteArray→Bool→List (List TC)→Prop}:(∃s f r,rowAt (l.map Bq) i=some [.sc (.string s),.sc (.bool f),.sub 1 r]∧K s f r)↔ ∃x,iG l i=some x∧K x.name x.fx (x.l.map cA):=by
  rw[bA]
  constructor
  ·rintro⟨_,_,_,h,hK⟩
   obtain⟨a,ha,h⟩:=Option.map_eq_some_iff.1 h;unfold Bq at h;cases h;exact⟨_,ha,hK⟩
  ·rintro⟨a,ha,hK⟩
   exact⟨_,_,_,by rw[ha];rfl,hK⟩
@[simp] theorem pI {l:List (List Key)} {K:List (List TC)→Prop}:(∃r,rowAt (l.map bH) i=some [.sub 5 r]∧K r)↔ ∃x,iG l i=some x∧K (x.map bf):=by
  rw[bA]
  constructor
  ·rintro⟨_,h,hK⟩
   obtain⟨a,ha,h⟩:=Option.map_eq_some_iff.1 h;unfold bH at h;cases h;exact⟨_,ha,hK⟩
  ·rintro⟨a,ha,hK⟩
   exact⟨_,by rw[ha];rfl,hK⟩
@[simp] theorem mq {l:List (List (List Key))} {K:List (List TC)→Prop}:(∃r,rowAt (l.map bD) i=some [.sub 1 r]∧K r)↔ ∃x,iG l i=some x∧K (x.map bH):=by
  rw[bA]
  constructor
  ·rintro⟨_,h,hK⟩
   obtain⟨a,ha,h⟩:=Option.map_eq_some_iff.1 h;unfold bD at h;cases h;exact⟨_,ha,hK⟩
  ·rintro⟨a,ha,hK⟩
   exact⟨_,by rw[ha];rfl,hK⟩
@[simp] theorem TF {l:List (List Int)} {K:List (List TC)→Prop}:(∃r,rowAt (l.map OH) i=some [.sub 1 r]∧K r)↔ ∃x,iG l i=some x∧K (x.map hJ):=by
  rw[bA]
  constructor
  ·rintro⟨_,h,hK⟩
   obtain⟨a,ha,h⟩:=Option.map_eq_some_iff.1 h;unfold OH at h;cases h;exact⟨_,ha,hK⟩
  ·rintro⟨a,ha,hK⟩
   exact⟨_,by rw[ha];rfl,hK⟩
end
@[simp] theorem natAdd (a b:Nat):Nat.add a b=a+b:=rfl
@[simp] theorem LX {α:Type} (a b:List α):List.append a b=a++b:=rfl
theorem jk (l:List Int):cQ (l.map cA)=true:=pG fun r hr c hc=>by
 obtain⟨a,_,rfl⟩:=List.mem_map.1 hr;unfold cA at hc;simp only[fo] at hc;exact⟨_,hc⟩
theorem KU (l:List Int):cQ (l.map hJ)=true:=pG fun r hr c hc=>by
 obtain⟨a,_,rfl⟩:=List.mem_map.1 hr;unfold hJ at hc;simp only[fo] at hc;exact⟨_,hc⟩
theorem gD (l:List Key):cQ (l.map bf)=true:=pG fun r hr c hc=>by
 obtain⟨a,_,rfl⟩:=List.mem_map.1 hr;unfold bf at hc;simp only[cz,List.not_mem_nil,or_false] at hc;rcases hc with h|h|h|h|h<;>exact⟨_,h⟩
theorem GG (l:List KT):cQ (l.map Bp)=true:=pG fun r hr c hc=>by
 obtain⟨a,_,rfl⟩:=List.mem_map.1 hr;unfold Bp at hc;simp only[cz,List.not_mem_nil,or_false] at hc;rcases hc with h|h<;>exact⟨_,h⟩
theorem KV (l:List Cell):cQ (l.map ug)=true:=pG fun r hr c hc=>by
 obtain⟨a,_,rfl⟩:=List.mem_map.1 hr;unfold ug at hc;simp only[cz,List.not_mem_nil,or_false] at hc;rcases hc with h|h|h<;>exact⟨_,h⟩
theorem GH (l:List DD):cQ (l.map vW)=true:=pG fun r hr c hc=>by
 obtain⟨a,_,rfl⟩:=List.mem_map.1 hr;unfold vW at hc;simp only[cz,List.not_mem_nil,or_false] at hc;rcases hc with h|h|h|h<;>exact⟨_,h⟩
@[simp] theorem Vx (v:Value):cQ [[.sc v]]=true:=pG fun r hr c hc=>by
  simp only[fo] at hr;subst hr;simp only[fo] at hc;exact⟨_,hc⟩
attribute [simp] jk KU gD GG KV GH
end Go.T
namespace Go.T
theorem GI {α:Type} (g:α→α): ∀(l:List α) (i:Nat) (a:α),l[i]?=some a→l.modify i g=l.set i (g a)
 |[],i,a,h=>by simp at h
 |x::r,0,a,h=>by simp only[cR,aY] at h;subst h;rfl
 |x::r,i+1,a,h=>by
  simp only[mI] at h;rw[List.modify_succ_cons,List.set_cons_succ,GI g r i a h]
theorem bI {α:Type} {e:α→List TC} {l:List α} {i:Int} {f:Nat} {cs:List TC} {g:α→α} (he: ∀a,(e a).take f++cs++(e a).drop (f+cs.length)=e (g a)):setRow (l.map e) i f cs=(l.modify i.toNat g).map e:=by
 unfold setRow;rw[gv]
 cases h:l[i.toNat]? with
 |none=>
  have:l.length≤i.toNat:=List.getElem?_eq_none_iff.1 h;simp only[Option.map_none];rw[List.modify_eq_self this]
 |some a=>
  simp only[ij];rw[he,GI g l _ a h,List.map_set]
@[simp] theorem TG {l:List Key} {i:Int} {v:Int}:setRow (l.map bf) i 0 [.sc (.int .i64 v)]=(l.modify i.toNat fun x=>{x with b:=v}).map bf:=bI fun a=>rfl
@[simp] theorem TH {l:List Key} {i:Int} {v:Int}:setRow (l.map bf) i 1 [.sc (.int .i64 v)]=(l.modify i.toNat fun x=>{x with a:=v}).map bf:=bI fun a=>rfl
@[simp] theorem TJ {l:List Key} {i:Int} {v:Int}:setRow (l.map bf) i 2 [.sc (.int .i64 v)]=(l.modify i.toNat fun x=>{x with k:=v}).map bf:=bI fun a=>rfl
@[simp] theorem TK {l:List Key} {i:Int} {v:Int}:setRow (l.map bf) i 3 [.sc (.int .i64 v)]=(l.modify i.toNat fun x=>{x with c:=v}).map bf:=bI fun a=>rfl
@[simp] theorem TL {l:List Key} {i:Int} {v:Int}:setRow (l.map bf) i 4 [.sc (.int .i64 v)]=(l.modify i.toNat fun x=>{x with g:=v}).map bf:=bI fun a=>rfl
@[simp] theorem Vy {l:List Key} {i:Int} {v0:Int} {v1:Int} {v2:Int} {v3:Int} {v4:Int}:setRow (l.map bf) i 0 [.sc (.int .i64 v0),.sc (.int .i64 v1),.sc (.int .i64 v2),.sc (.int .i64 v3),.sc (.int .i64 v4)]=(l.modify i.toNat fun _=>⟨v0,v1,v2,v3,v4⟩).map bf:=bI fun a=>rfl
@[simp] theorem SZ {l:List KT} {i:Int} {v:Int}:setRow (l.map Bp) i 0 [.sc (.int .i64 v)]=(l.modify i.toNat fun x=>{x with id:=v}).map Bp:=bI fun a=>rfl
@[simp] theorem S0 {l:List KT} {i:Int} {v:Int}:setRow (l.map Bp) i 1 [.sc (.int .i64 v)]=(l.modify i.toNat fun x=>{x with fr:=v}).map Bp:=bI fun a=>rfl
@[simp] theorem Vz {l:List KT} {i:Int} {v0:Int} {v1:Int}:setRow (l.map Bp) i 0 [.sc (.int .i64 v0),.sc (.int .i64 v1)]=(l.modify i.toNat fun _=>⟨v0,v1⟩).map Bp:=bI fun a=>rfl
@[simp] theorem S1 {l:List Cell} {i:Int} {v:Int}:setRow (l.map ug) i 0 [.sc (.int .i64 v)]=(l.modify i.toNat fun x=>{x with g:=v}).map ug:=bI fun a=>rfl
@[simp] theorem S2 {l:List Cell} {i:Int} {v:Bool}:setRow (l.map ug) i 1 [.sc (.bool v)]=(l.modify i.toNat fun x=>{x with u:=v}).map ug:=bI fun a=>rfl
@[simp] theorem S3 {l:List Cell} {i:Int} {v:Int}:setRow (l.map ug) i 2 [.sc (.int .i64 v)]=(l.modify i.toNat fun x=>{x with n:=v}).map ug:=bI fun a=>rfl
@[simp] theorem UO {l:List Cell} {i:Int} {v0:Int} {v1:Bool} {v2:Int}:setRow (l.map ug) i 0 [.sc (.int .i64 v0),.sc (.bool v1),.sc (.int .i64 v2)]=(l.modify i.toNat fun _=>⟨v0,v1,v2⟩).map ug:=bI fun a=>rfl
@[simp] theorem Rj {l:List DD} {i:Int} {v:ByteArray}:setRow (l.map vW) i 0 [.sc (.string v)]=(l.modify i.toNat fun x=>{x with name:=v}).map vW:=bI fun a=>rfl
@[simp] theorem Sl {l:List DD} {i:Int} {v:Int}:setRow (l.map vW) i 1 [.sc (.int .i64 v)]=(l.modify i.toNat fun x=>{x with RI:=v}).map vW:=bI fun a=>rfl
@[simp] theorem Rk {l:List DD} {i:Int} {v:Int}:setRow (l.map vW) i 2 [.sc (.int .i64 v)]=(l.modify i.toNat fun x=>{x with size:=v}).map vW:=bI fun a=>rfl
@[simp] theorem S4 {l:List DD} {i:Int} {v:Bool}:setRow (l.map vW) i 3 [.sc (.bool v)]=(l.modify i.toNat fun x=>{x with fx:=v}).map vW:=bI fun a=>rfl
@[simp] theorem VA {l:List DD} {i:Int} {v0:ByteArray} {v1:Int} {v2:Int} {v3:Bool}:setRow (l.map vW) i 0 [.sc (.string v0),.sc (.int .i64 v1),.sc (.int .i64 v2),.sc (.bool v3)]=(l.modify i.toNat fun _=>⟨v0,v1,v2,v3⟩).map vW:=bI fun a=>rfl
@[simp] theorem Sm {l:List Px} {i:Int} {v:Int}:setRow (l.map LW) i 0 [.sc (.int .i64 v)]=(l.modify i.toNat fun x=>{x with kind:=v}).map LW:=bI fun a=>rfl
@[simp] theorem Sn {l:List Px} {i:Int} {v:ByteArray}:setRow (l.map LW) i 1 [.sc (.string v)]=(l.modify i.toNat fun x=>{x with name:=v}).map LW:=bI fun a=>rfl
@[simp] theorem TM {l:List Px} {i:Int} {v:ByteArray}:setRow (l.map LW) i 2 [.sc (.string v)]=(l.modify i.toNat fun x=>{x with to:=v}).map LW:=bI fun a=>rfl
@[simp] theorem UP {l:List Px} {i:Int} {v:Int}:setRow (l.map LW) i 3 [.sc (.int .i64 v)]=(l.modify i.toNat fun x=>{x with a:=v}).map LW:=bI fun a=>rfl
@[simp] theorem UQ {l:List Px} {i:Int} {v:Int}:setRow (l.map LW) i 4 [.sc (.int .i64 v)]=(l.modify i.toNat fun x=>{x with b:=v}).map LW:=bI fun a=>rfl
@[simp] theorem Wu {l:List Px} {i:Int} {v0:Int} {v1:ByteArray} {v2:ByteArray} {v3:Int} {v4:Int}:setRow (l.map LW) i 0 [.sc (.int .i64 v0),.sc (.string v1),.sc (.string v2),.sc (.int .i64 v3),.sc (.int .i64 v4)]=(l.modify i.toNat fun _=>⟨v0,v1,v2,v3,v4⟩).map LW:=bI fun a=>rfl
@[simp] theorem Rl {l:List Mp} {i:Int} {v:ByteArray}:setRow (l.map Bq) i 0 [.sc (.string v)]=(l.modify i.toNat fun x=>{x with name:=v}).map Bq:=bI fun a=>rfl
@[simp] theorem S5 {l:List Mp} {i:Int} {v:Bool}:setRow (l.map Bq) i 1 [.sc (.bool v)]=(l.modify i.toNat fun x=>{x with fx:=v}).map Bq:=bI fun a=>rfl
@[simp] theorem TN {l:List Mp} {i:Int} {v:List Int}:setRow (l.map Bq) i 2 [.sub 1 (v.map cA)]=(l.modify i.toNat fun x=>{x with l:=v}).map Bq:=bI fun a=>rfl
@[simp] theorem VB {l:List Mp} {i:Int} {v0:ByteArray} {v1:Bool} {v2:List Int}:setRow (l.map Bq) i 0 [.sc (.string v0),.sc (.bool v1),.sub 1 (v2.map cA)]=(l.modify i.toNat fun _=>⟨v0,v1,v2⟩).map Bq:=bI fun a=>rfl
@[simp] theorem VC {l:List (Int)} {i:Int} {v:Int}:setRow (l.map cA) i 0 [.sc (.int .i64 v)]=(l.modify i.toNat fun _=>v).map cA:=bI fun a=>rfl
@[simp] theorem UR {l:List (Int)} {i:Int} {v:Int}:setRow (l.map hJ) i 0 [.sc (.int .u8 v)]=(l.modify i.toNat fun _=>v).map hJ:=bI fun a=>rfl
@[simp] theorem US {l:List (Bool)} {i:Int} {v:Bool}:setRow (l.map LV) i 0 [.sc (.bool v)]=(l.modify i.toNat fun _=>v).map LV:=bI fun a=>rfl
@[simp] theorem VD {l:List (List Key)} {i:Int} {v:List Key}:setRow (l.map bH) i 0 [.sub 5 (v.map bf)]=(l.modify i.toNat fun _=>v).map bH:=bI fun a=>rfl
@[simp] theorem LY {l:List (List (List Key))} {i:Int} {v:List (List Key)}:setRow (l.map bD) i 0 [.sub 1 (v.map bH)]=(l.modify i.toNat fun _=>v).map bD:=bI fun a=>rfl
end Go.T
namespace Go.T
theorem cK {α:Type} (l:List α) (P:Nat→Prop) (fin:P l.length) (step: ∀i a,i<l.length→l[i]?=some a→l.drop i=a::l.drop (i+1)→l.take (i+1)=l.take i++[a]→P (i+1)→P i):P 0:=by
 have: ∀k i,i+k=l.length→P i:=by
  intro k
  induction k with
  |zero=>intro i h;have:i=l.length:=by omega
         subst this;exact fin
  |succ k ih=>
   intro i h
   have hi:i<l.length:=by omega
   refine step i l[i] hi (aV hi) (vq hi) ?_ (ih (i+1) ay);rw[List.take_add_one,aV hi];rfl
 exact this l.length 0 ay
def tot {α:Type} (w:α→Nat):List α→Nat
 |[]=>0
 |a::r=>w a+tot w r
theorem kW {α:Type} {w:α→Nat}: ∀{l:List α} {a:α},a∈l→w a≤tot w l
 |[],_,h=>by cases h
 |b::r,a,h=>by
  simp only[tot];rcases cz.1 h with rfl|h
  ·omega
  ·have:=kW (w:=w) h;omega
theorem gQ {α:Type} {w:α→Nat} {l:List α} {i:Nat} {a:α} (h:l[i]?=some a):w a≤tot w l:=kW (ew h)
def bu (s:List Key):Nat:=s.length
def ax (n:List (List Key)):Nat:=n.length+tot bu n
def oK (n:List (List (List Key))):Nat:=n.length+tot ax n
def bX (t:Tree):Nat:=t.ak.length+oK t.nodes
end Go.T
namespace Go.T
section
variable {C : ic} {f : FuncId} {vs : List TV}
theorem Br {x b:Bool} (h:au C f vs (vB x) []):au C f vs (vB b) []↔b=x:=⟨fun h'=>by have:=(h.Vs h').1;simpa using this,fun e=>e▸h⟩
theorem So {x b:Int} (h:au C f vs (vI x) []):au C f vs (vI b) []↔b=x:=⟨fun h'=>by have:=(h.Vs h').1;simpa using this,fun e=>e▸h⟩
theorem MU {z:Nat} {x b:RR} (h:au C f vs (.c (.sub z x)) []):au C f vs (.c (.sub z b)) []↔b=x:=⟨fun h'=>by have:=(h.Vs h').1;simpa using this,fun e=>e▸h⟩
end
def vY (a lo hi:Int):Bool:=decide (lo≤a∧a≤hi)
def cH (x:Key):Bool:=vY x.b 0 15&&vY x.a 1 60&&vY x.k 0 2&&(if x.k=1 then vY x.c 0 23&&vY x.g 0 999 else decide (x.c=0)&&decide (x.g=0))
def ct (x y:Key):Bool:=decide (x.b<y.b∨(x.b=y.b∧x.a<y.a))
def fK (x y:Key):Bool:=decide (x.b=y.b∧x.a=y.a)
def gz (n:Nat) (f:Nat→Bool):Bool:=(List.range' 0 n).all f
theorem yz {i n:Nat} (h:i<n):List.range' i (n-i)=i::List.range' (i+1) (n-(i+1)):=by
 obtain⟨k,hk⟩: ∃k,n-i=k+1:=⟨n-i-1,by omega⟩;rw[hk,show n-(i+1)=k by omega]
 rfl
theorem Ey (n:Nat) (P:Nat→Prop) (fin:P n) (step: ∀i,i<n→P (i+1)→P i):P 0:=by
 have: ∀k i,i+k=n→P i:=by
  intro k
  induction k with
  |zero=>intro i h;have:i=n:=by omega
         subst this;exact fin
  |succ k ih=>intro i h;exact step i ay (ih (i+1) ay)
 exact this n 0 ay
theorem LZ {α:Type} (f g:α→Bool): ∀l:List α,l.all (fun x=>f x&&g x)=(l.all f&&l.all g)
 |[]=>rfl
 |a::r=>by simp only[oY,LZ f g r];cases f a<;>cases g a<;>simp
theorem OJ (n:Nat) (f g:Nat→Bool):gz n (fun i=>f i&&g i)=(gz n f&&gz n g):=LZ f g _
theorem vZ {n:Nat} {f:Nat→Bool}:gz n f=true↔ ∀i,i<n→f i=true:=by
 unfold gz;rw[List.all_eq_true]
 constructor
 ·intro h i hi;exact h i (by simp[List.mem_range'];exact hi)
 ·intro h i hi
  simp[List.mem_range'] at hi;exact h i hi
def S6 {α:Type} (l:List α) (f:α→Bool) (i:Nat):Bool:=match l[i]? with|some a=>f a|none=>true
def gj {α:Type} (l:List α) (f:α→α→Bool):Nat→Bool
 |0=>true
 |k+1=>match l[k]?,l[k+1]? with|some x,some y=>f x y|_,_=>true
theorem Qp {α:Type} (l:List α) (f:α→Bool):gz l.length (S6 l f)=l.all f:=by
 rw[Bool.eq_iff_iff,vZ,List.all_eq_true]
 constructor
 ·intro h a ha
  obtain⟨i,hi,rfl⟩:=List.getElem_of_mem ha;have:=h i hi;simpa [S6,hi] using this
 ·intro h i hi
  simp only[S6,aV hi];exact h _ (oe hi)
def ie (l:List Key) (i:Nat):Bool:=S6 l cH i&&gj l ct i
def uh (l:List Key):Bool:=gz l.length (ie l)&&decide (l.length≤60)
theorem zS (l:List Key):uh l=(l.all cH&&(gz l.length (gj l ct)&&decide (l.length≤60))):=by
 rw[←Bool.and_assoc,←Qp,←OJ];rfl
def dw:Key:=⟨0,0,0,0,0⟩
def setAt (l:List Key) (b a:Int):Option Key:=l.find? fun x=>decide (x.b=b∧x.a=a)
def cO (k:Key):Bool→List Key→List Key
 |put,[]=>if put then [] else [k]
 |put,x::r=>(if !put&& !ct x k then [k] else [])++(if fK x k then [] else [x])++cO k (put|| !ct x k) r
def bY (l:List Key) (k:Key):List Key:=cO k false l
theorem Cb (k:Key): ∀(l:List Key) (put:Bool),(cO k put l).length≤l.length+(if put then 0 else 1)
 |[],put=>by simp only[cO];split<;>simp
 |x::r,put=>by
  have:=Cb k r (put|| !ct x k);simp only[cO,cT,e8]
  have h1:(if fK x k then([]:List Key) else [x]).length≤1:=by split<;>simp
  revert h1
  generalize (if fK x k then([]:List Key) else [x])=m;intro h1
  cases put<;>cases hk:ct x k<;>simp[hk] at this ⊢ <;>omega
theorem fA (l:List Key) (k:Key):(bY l k).length≤l.length+1:=by have:=Cb k l false;simpa [bY] using this
def bE (old new:List Key):List Key:=new.foldl bY old
theorem nq: ∀(new old:List Key),(bE old new).length≤old.length+new.length
 |[],old=>by simp[bE]
 |x::r,old=>by
  have:=nq r (bY old x);have h2:=fA old x;simp only[bE,List.foldl_cons,e8] at this ⊢;omega
def ff (l:List Key):List Key:=l.filter fun k=> !decide (k.k=0)
def lO (n:List (List Key)):List Key:=n.foldl bE []
def an (n:List (List Key)):List Key:=ff (lO n)
theorem uj: ∀(n:List (List Key)) (a:List Key),(n.foldl bE a).length≤a.length+tot bu n
 |[],a=>by simp[tot]
 |s::r,a=>by
  have:=uj r (bE a s);have h2:=nq s a;simp only[List.foldl_cons,tot,bu] at this ⊢;omega
theorem bR (n:List (List Key)):(an n).length≤tot bu n:=by
 have h1:=uj n [];have h2:=IE (fun k:Key=> !decide (k.k=0)) (lO n);simp only[List.length_nil,ig] at h1;exact og h2 h1
def bP (n:List (List Key)):Nat:=tot bu n
def cE (n:List (List Key)):Bool:=n.all (fun s=>uh s&& !decide (s.length=0))&&decide (n.length≤3)&&decide (bP n≤8)
def bG (l:List Key):List (List Key):=if l.length=0 then [] else [l]
def aA (t:Tree):List Key:=t.nodes.flatMap an
theorem zT: ∀(l:List (List (List Key))),(l.flatMap an).length≤tot ax l
 |[]=>by simp[tot]
 |n::r=>by
  have:=zT r;have h2:=bR n;simp only[List.flatMap_cons,cT,tot,ax];omega
theorem zU (t:Tree):(aA t).length≤bX t:=by
 have:=zT t.nodes;unfold aA bX oK;omega
def Sp (t:Tree) (b:Int):List Key:=(aA t).filter fun k=>decide (k.b=b)
def bM (b a:Int):Int:=aH (yx 64 b) a
def TO {α:Type} (p:α→Bool):List α→Int→Int
 |[],_=> -1
 |a::r,i=>if p a then i else TO p r (i+1)
def Rm (l:List KT) (id:Int):Int:=TO (fun a=>decide (a.id=id)) l 0
def Rn (l:List KT):Nat→Int→List Int
 |0,_=>[]
 |n+1,id=>if Rm l id<0 then [] else id::(match iG l (Rm l id) with|some a=>Rn l n a.fr|none=>[])
def pathOf (l:List KT) (id:Int):List Int:=Rn l (l.length+1) id
def VE (l:List Int) (n:Int):Bool:=l.any fun a=>decide (a=n)
def TP (path:List Int):Key×Bool→Key→Key×Bool:=fun p k=>if VE path k.a&&(!p.2||decide (p.1.a<k.a)) then(k,true) else p
def near (keys:List Key) (path:List Int):Key×Bool:=keys.foldl (TP path) (dw,false)
def L0 (t:Tree) (l:List KT) (b id:Int):Key×Bool:=near (Sp t b) (pathOf l id)
abbrev Na (p:Key×Bool):TV:= .tu [(1,[iI p.1.b,iI p.1.a,iI p.1.k,iI p.1.c,iI p.1.g]),(0,[iB p.2])]
def cellAt (l:List Cell) (i gen:Int):Int×Bool:=match iG l i with
 |none=>(0,false)
 |some c=>if c.u=true∧c.g=gen then(c.n,true) else(0,false)
@[simp] theorem xo {l:List Key} {b a k c g:Int}:List.append (l.map bf) [[iI b,iI a,iI k,iI c,iI g]]=(l++[(⟨b,a,k,c,g⟩:Key)]).map bf:=by simp[bf]
@[simp] theorem UT {l:List Int} {b:Int}:List.append (l.map cA) [[iI b]]=(l++[b]).map cA:=by simp[cA]
@[simp] theorem TQ {l:List Int} {b:Int}:List.append (l.map hJ) [[.sc (.int .u8 b)]]=(l++[b]).map hJ:=by simp[hJ]
@[simp] theorem UU {l:List KT} {b a:Int}:List.append (l.map Bp) [[iI b,iI a]]=(l++[(⟨b,a⟩:KT)]).map Bp:=by simp[Bp]
@[simp] theorem UW {l:List DD} {s:ByteArray} {b a:Int} {q:Bool}:List.append (l.map vW) [[iS s,iI b,iI a,iB q]]=(l++[(⟨s,b,a,q⟩:DD)]).map vW:=by simp[vW]
@[simp] theorem UX {l:List (List Key)} {s:List Key}:List.append (l.map bH) [[.sub 5 (s.map bf)]]=(l++[s]).map bH:=by simp[bH]
@[simp] theorem Jz {l:List (List (List Key))} {s:List (List Key)}:List.append (l.map bD) [[.sub 1 (s.map bH)]]=(l++[s]).map bD:=by simp[bD]
@[simp] theorem UY {l:List Mp} {s:ByteArray} {f:Bool} {r:List Int}:List.append (l.map Bq) [[iS s,iB f,.sub 1 (r.map cA)]]=(l++[(⟨s,f,r⟩:Mp)]).map Bq:=by simp[Bq]
@[simp] theorem ja {α:Type} {e:α→List TC} {l m:List α}:List.append (l.map e) (m.map e)=(l++m).map e:=by simp
@[simp] theorem TT:([]:RR)=([]:List Key).map bf↔True:=by simp
@[simp] theorem fh {α:Type} (l:List α):Nat.succ (List.length l)=l.length+1:=rfl
theorem lH (b a k c g:Int):cQ [[iI b,iI a,iI k,iI c,iI g]]=true:=gD [⟨b,a,k,c,g⟩]
theorem KW (b a:Int):cQ [[iI b,iI a]]=true:=GG [⟨b,a⟩]
theorem KX (s:ByteArray) (b a:Int) (q:Bool):cQ [[iS s,iI b,iI a,iB q]]=true:=GH [⟨s,b,a,q⟩]
attribute [simp] lH KW KX
@[simp] theorem fP (k:Key):(⟨k.b,k.a,k.k,k.c,k.g⟩:Key)=k:=rfl
@[simp] theorem j7 (k:KT):(⟨k.id,k.fr⟩:KT)=k:=rfl
@[simp] theorem iz (k:Cell):(⟨k.g,k.u,k.n⟩:Cell)=k:=rfl
@[simp] theorem j8 (k:DD):(⟨k.name,k.RI,k.size,k.fx⟩:DD)=k:=rfl
@[simp] theorem j9 (k:Mp):(⟨k.name,k.fx,k.l⟩:Mp)=k:=rfl
@[simp] theorem mZ (k:Px):(⟨k.kind,k.name,k.to,k.a,k.b⟩:Px)=k:=rfl
theorem c7 {n b:Nat} (h:n*b≤140737488355328∧n≤140737488355328):fits n b=true:=by rw[Qj];exact zf h
end Go.T
namespace Go.T
def cg (s:List Key):Bool:=uh s&& !decide (s.length=0)
theorem GJ (n:List (List Key)):cE n=(n.all cg&&(decide (n.length≤3)&&decide (bP n≤8))):=by
 unfold cE;rw[Bool.and_assoc];rfl
def yA (ak:List Int) (i:Nat) (x:Int):Bool:=match ak[i]? with
 |some lo=> !decide (x<lo)&&(match ak[i+1]? with|some hi=>decide (x<hi)|none=>true)
 |none=>true
def dU (ak:List Int) (i:Nat) (k:Key):Bool:=yA ak i (bM k.b k.a)
def bF (ak:List Int) (i:Nat) (s:List Key):Bool:=s.all (dU ak i)
def bN (t:Tree) (i:Nat):Bool:=gj t.ak (fun x y=>decide (x<y)) i&&(match t.nodes[i]? with
 |some n=>cE n&&((decide (i=0)|| !decide ((an n).length=0))&&n.all (bF t.ak i))
 |none=>true)
def cN (t:Tree):Bool:=vY t.nodes.length 1 20&&(decide (t.ak.length=t.nodes.length)&&((match t.ak[0]? with|some x=>decide (x=0)|none=>true)&&(gz t.nodes.length (bN t)&&decide ((aA t).length≤60))))
def Qq (p:TD) (i b:Int):Int:=match iG p.Wi i with
 |none=>0
 |some v=>if 0≤b∧b<v.size then(if(L0 p.t p.Q3 b v.RI).2=true∧(L0 p.t p.Q3 b v.RI).1.k=1 then(cellAt p.cells (L0 p.t p.Q3 b v.RI).1.c (L0 p.t p.Q3 b v.RI).1.g).1 else 0) else 0
end Go.T
namespace Go.T
def blocks (p:TD) (i:Nat) (k:Nat):List Int:=(List.range k).map fun b:Nat=>Qq p i b
def rQ (l:List Key) (b a:Int):Key×Bool:=match setAt l b a with|some k=>(k,true)|none=>(dw,false)
def gl (n:List (List Key)) (b a:Int):Nat→Key×Bool
 |0=>(dw,false)
 |k+1=>match n[k]? with
  |some s=>if(rQ s b a).2=true then(if(rQ s b a).1.k=0 then(dw,false) else rQ s b a) else gl n b a k
  |none=>(dw,false)
def jB (f:Int→Bool) (l:List Int):Nat→Int
 |0=> -1
 |k+1=>match l[k]? with
  |some x=>if f x=true then(k:Int) else jB f l k
  |none=> -1
def dQ (t:Tree) (b a:Int):Int:=jB (fun x=>decide (x≤bM b a)) t.ak t.ak.length
def Bs (t:Tree) (b a:Int):Key×Bool:=match iG t.nodes (dQ t b a) with
 |some n=>gl n b a n.length
 |none=>(dw,false)
def newNode (l:List Key):List (List Key):=if l.length=0 then [] else [l]
def mu (n:List (List Key)):List (List Key):=newNode (an n)
def sD (t:Tree) (i:Int):Tree:=match iG t.nodes i with
 |none=>t
 |some n=>⟨t.ak,t.nodes.modify i.toNat (fun _=>mu n)⟩
theorem Ez {α:Type} {w:α→Nat} {f:α→α}: ∀{l:List α} {i:Nat},(∀a,l[i]?=some a→w (f a)≤w a)→tot w (l.modify i f)≤tot w l
 |[],i,h=>by cases i<;>exact cc _
 |a::r,0,h=>by
  rw[List.modify_zero_cons];have:=h a rfl;simp only[tot];omega
 |a::r,i+1,h=>by
  rw[List.modify_succ_cons];have:=Ez (l:=r) (i:=i) (w:=w) (f:=f) fun b hb=>h b (by simpa using hb);simp only[tot];omega
theorem JA (n:List (List Key)):ax (mu n)≤ax n:=by
 have h1:=bR n;unfold mu newNode
 split
 ·exact vv _
 ·rename_i h
  have h2:ax [an n]=1+((an n).length+0):=rfl;have h3:ax n=n.length+tot bu n:=rfl
  cases n with
  |nil=>exact absurd rfl h
  |cons s r=>rw[h2,h3,e8];omega
theorem JB (t:Tree) (i:Int):bX (sD t i)≤bX t:=by
 unfold sD
 split
 ·exact cc _
 ·rename_i n hn
  have hi:0≤i∧i<t.nodes.length:=Classical.byContradiction fun h=>by rw[sC h] at hn;cases hn
  obtain⟨k,rfl⟩: ∃k:Nat,i=k:=⟨i.toNat,by omega⟩;rw[aL] at hn
  have:=Ez (w:=ax) (f:=fun _=>mu n) (l:=t.nodes) (i:=k) fun a ha=>by
   rw[hn] at ha
   cases ha
   exact JA n
  have e1:bX t=t.ak.length+(t.nodes.length+tot ax t.nodes):=rfl;have e2:bX ⟨t.ak,t.nodes.modify ((k:Int)).toNat (fun _=>mu n)⟩=t.ak.length+((t.nodes.modify ((k:Int)).toNat (fun _=>mu n)).length+tot ax (t.nodes.modify ((k:Int)).toNat (fun _=>mu n))):=rfl;rw[e1,e2,Tl,r7];omega
end Go.T
namespace Go.T
end Go.T
namespace Go.T
theorem OK (x:Int):0≤vw .and .i64 x 255∧vw .and .i64 x 255≤255:=by
 have h:vw .and .i64 x 255=Go.IntKind.i64.wrap (((BitVec.ofInt 64 x&&&BitVec.ofInt 64 255).toNat:Nat):Int):=by unfold vw;rfl
 have hle:(BitVec.ofInt 64 x&&&BitVec.ofInt 64 255).toNat≤255:=by
  rw[BitVec.toNat_and];exact og Nat.and_le_right (by decide)
 rw[h,Go.IntKind.wrap_i64];omega
abbrev VF (b:List Int) (i h:Int):List TC:=[.sub 1 (b.map hJ),.sc (.int .i64 i),.sc (.int .i64 h)]
abbrev oL (b:List Int) (i h:Int):TV:= .bx (VF b i h)
def Dr (b:List Int) (P:TV→Prop) (r:TV) (fs:List TV):Prop:= ∃i h,0≤i∧fs=[oL b i h]∧P r
theorem JC {x n:Int} (h0:0≤x) (hn:0<n):0≤x.tmod n∧x.tmod n<n:=⟨Int.tmod_nonneg _ h0,Int.tmod_lt_of_pos _ hn⟩
theorem OL {α:Type} {l:List α} {i:Int} {a:α} (h:iG l i=some a):0≤i∧i<l.length:=by
 unfold iG at h
 split at h
 ·have:=(List.getElem?_eq_some_iff.1 h).1;omega
 ·cases h
end Go.T
namespace Go.T
def Ro (v u:DD):Bool:=IG u.name v.name||Ka u.name v.name
theorem JD: ∀(x y z:List UInt8),Op.bytesLess x y=true→Op.bytesLess y z=true→Op.bytesLess x z=true
 |x,y,[],_,h=>by cases y<;>simp[Op.bytesLess] at h
 |x,[],c::z,h,_=>by cases x<;>simp[Op.bytesLess] at h
 |[],_::_,_::_,_,_=>by simp[Op.bytesLess]
 |a::x,b::y,c::z,h1,h2=>by
  simp only[Op.bytesLess,Bool.or_eq_true,dm,decide_eq_true_eq,beq_iff_eq] at h1 h2 ⊢;rcases h1 with h1|⟨rfl,h1⟩
  ·rcases h2 with h2|⟨rfl,h2⟩
   ·exact .inl (UInt8.lt_trans h1 h2)
   ·exact .inl h1
  ·rcases h2 with h2|⟨rfl,h2⟩
   ·exact .inl h2
   ·exact .inr ⟨rfl,JD x y z h1 h2⟩
theorem GK {a b c:ByteArray} (h1:IG a b=true) (h2:IG b c=true):IG a c=true:=by
 unfold IG at*;exact JD _ _ _ h1 h2
def v7:List DD→Prop
 |[]=>True
 |[_]=>True
 |a::b::r=>IG a.name b.name=true∧v7 (b::r)
theorem OM {v a b:DD} (h:IG a.name b.name=true) (hb:Ro v b=true):Ro v a=true:=by
 unfold Ro at*;rw[Bool.or_eq_true] at*;rcases hb with hb|hb
 ·exact .inl (GK h hb)
 ·have:b.name.toList=v.name.toList:=by
   unfold Ka at hb;exact eq_of_beq hb
  unfold IG at h ⊢;rw[←this];exact .inl h
theorem v7.tail {a:DD} {l:List DD} (h:v7 (a::l)):v7 l:=by
 cases l with
 |nil=>trivial
 |cons b r=>exact h.2
theorem v7.cut {v:DD}: ∀{l:List DD} {k:Nat},v7 l→k≤l.length→(∀u∈l.drop k,Ro v u=false)→(∀u,0<k→l[k-1]?=some u→Ro v u=true)→(l.takeWhile (Ro v)).length=k
 |[],k,_,hk,_,_=>by simp at hk;simp[hk]
 |a::l,0,_,_,h1,_=>by
  have:=h1 a (.head _);simp[this]
 |a::l,k+1,hr,hk,h1,h2=>by
  have ih:=v7.cut (v:=v) (l:=l) (k:=k) hr.tail (by simpa using hk) (fun u hu=>h1 u (by simpa using hu)) fun u h0 hu=>by
   obtain⟨j,rfl⟩: ∃j,k=j+1:=⟨k-1,by omega⟩;exact h2 u ay (by simpa using hu)
  have ha:Ro v a=true:=by
   cases k with
   |zero=>exact h2 a ay rfl
   |succ k=>
    cases l with
    |nil=>simp at hk
    |cons b r=>
     refine OM hr.1 ?_;rw[List.takeWhile_cons] at ih
     cases hb:Ro v b with
     |true=>rfl
     |false=>rw[hb] at ih;simp at ih
  rw[List.takeWhile_cons,bg ha,e8,ih]
theorem v7.modify {f:DD→DD} (hf: ∀u,(f u).name=u.name): ∀{l:List DD} (i:Nat),v7 l→v7 (l.modify i f)
 |[],i,h=>by cases i<;>exact h
 |[a],0,_=>trivial
 |[a],i+1,_=>by cases i<;>trivial
 |a::b::r,0,h=>by
  show v7 (f a::b::r);exact⟨by rw[hf];exact h.1,h.2⟩
 |a::b::r,1,h=>by
  show v7 (a::f b::r);refine⟨by rw[hf];exact h.1,?_⟩;exact v7.modify hf (l:=b::r) 0 h.2
 |a::b::r,i+2,h=>⟨h.1,v7.modify hf (l:=b::r) (i+1) h.2⟩
end Go.T
namespace Go.T
def WY (m u:Mp):Bool:= !(IG u.name m.name||Ka u.name m.name)
def Qs (l:List Mp) (m:Mp):Nat→Nat
 |0=>0
 |k+1=>match l[k]? with
  |some u=>if WY m u=true then Qs l m k else k+1
  |none=>k+1
theorem L3 (l:List Mp) (m:Mp): ∀k,Qs l m k≤k
 |0=>cc _
 |k+1=>by
  unfold Qs
  split
  ·split
   ·exact Nat.le_succ_of_le (L3 l m k)
   ·exact cc _
  ·exact cc _
def ON {α:Type} (l:List α) (k:Nat) (x:α):List α:=l.take k++x::l.drop k
def OO (l:List Mp) (m:Mp):List Mp:=ON l (Qs l m l.length) m
theorem OP (l:List Mp) (m:Mp):(OO l m).length=l.length+1:=by
 have:=L3 l m l.length;unfold OO ON;rw[cT,e8,e9,jy];omega
theorem OQ {l:List Mp} {m x:Mp} (h:x∈OO l m):x∈l∨x=m:=by
 unfold OO ON at h;rcases List.mem_append.1 h with h|h
 ·exact .inl (r8 h)
 ·rcases cz.1 h with h|h
  ·exact .inr h
  ·exact .inl (vu h)
def HJ (l l':List Mp):Prop:=l'.length≤l.length+1∧ ∀B:Nat,12≤B→(∀x∈l,x.l.length≤B)→ ∀x∈l',x.l.length≤B
theorem HJ.refl (l:List Mp):HJ l l:=⟨Nat.le_succ _,fun _ _ h=>h⟩
theorem HJ.put {l:List Mp} {m:Mp} (h: ∀B:Nat,12≤B→(∀x∈l,x.l.length≤B)→m.l.length≤B):HJ l (OO l m):=
 ⟨Nat.le_of_eq (OP l m),fun B hB hl x hx=>(OQ hx).elim (hl x) fun e=>by rw[e];exact h B hB hl⟩
end Go.T
namespace Go.T
abbrev MV (x:List (List Key)×Bool):TV:= .tu [(1,[.sub 1 (x.1.map bH)]),(0,[iB x.2])]
def yB (s:List Key) (k:Key):Bool:=(rQ s k.b k.a).2||decide (s.length<4)
def eu (n:List (List Key)) (k:Key):List (List Key):=match n[n.length-1]? with
 |none=>n++[[k]]
 |some s=>if yB s k=true then n.set (n.length-1) (bY s k) else n++[[k]]
def bB (n:List (List Key)) (k:Key):List Key:=ff (bY (an n) k)
def bw (n:List (List Key)) (k:Key):List (List Key)×Bool:=
 if cE (eu n k)=true then(eu n k,true) else if 8<(bB n k).length then(n,false) else if cE (bG (bB n k))=true then(bG (bB n k),true) else(n,false)
theorem iR (n:List (List Key)) (k:Key):(bB n k).length≤tot bu n+1:=by
 have h1:=bR n;have h2:=fA (an n) k;have h3:(bB n k).length≤(bY (an n) k).length:=IE _ _;omega
theorem JE {α:Type} (w:α→Nat) (l:List α) (a:α):tot w (l++[a])=tot w l+w a:=by
 induction l with
 |nil=>simp[tot]
 |cons b r ih=>simp only[xF,tot,ih];omega
theorem JF {α:Type} (w:α→Nat) (c:Nat): ∀(l:List α) (i:Nat) (a a':α),l[i]?=some a→w a'≤w a+c→tot w (l.set i a')≤tot w l+c
 |[],i,a,a',h,_=>by simp at h
 |b::r,0,a,a',h,hw=>by
  simp only[cR,aY] at h;subst h;simp only[List.set_cons_zero,tot];omega
 |b::r,i+1,a,a',h,hw=>by
  have:=JF w c r i a a' (by simpa using h) hw;simp only[List.set_cons_succ,tot];omega
theorem yC (n:List (List Key)) (k:Key):(eu n k).length≤n.length+1:=by
 unfold eu
 split
 ·rw[cT];simp
 ·split
  ·rw[List.length_set];omega
  ·rw[cT];simp
theorem yD (n:List (List Key)) (k:Key):tot bu (eu n k)≤tot bu n+1:=by
 unfold eu
 split
 ·rw[JE];exact cc _
 ·rename_i s hs
  split
  ·exact JF bu 1 _ _ s _ hs (by have:=fA s k;unfold bu;omega)
  ·rw[JE];exact cc _
theorem qA (l:List Key):(bG l).length≤1:=by
 unfold bG
 split<;>simp
theorem qB (l:List Key):tot bu (bG l)≤l.length:=by
 unfold bG
 split
 ·simp[tot]
 ·simp[tot,bu]
theorem v8 (n:List (List Key)) (k:Key):(bw n k).1.length≤n.length+1:=by
 have h1:=yC n k;have h2:=qA (bB n k);unfold bw
 repeat' split
 all_goals simp only[];omega
theorem we (n:List (List Key)) (k:Key):tot bu (bw n k).1≤tot bu n+1:=by
 have h1:=yD n k;have h2:=qB (bB n k);have h3:=iR n k;unfold bw
 repeat' split
 all_goals simp only[];omega
end Go.T
namespace Go.T
def mE (x y:Key):Prop:=x.b<y.b∨(x.b=y.b∧x.a<y.a)
theorem mE.trans {x y z:Key} (h1:mE x y) (h2:mE y z):mE x z:=by unfold mE at*;omega
theorem nG {x y:Key}:ct x y=true↔mE x y:=by unfold ct mE;simp
theorem oM {x y:Key}:fK x y=true↔x.b=y.b∧x.a=y.a:=by unfold fK;simp
theorem zV {k y:Key}: ∀{l:List Key},y∈cO k true l→y∈l
 |[],h=>by simp[cO] at h
 |x::r,h=>by
  simp only[cO,F6,Bool.false_and,zc,if_false,qc,Bool.true_or] at h;rcases List.mem_append.1 h with h|h
  ·split at h
   ·cases h
   ·rw[fo.1 h];exact .head _
  ·exact .tail _ (zV h)
theorem EA {k y:Key}: ∀{l:List Key} {put:Bool},y∈cO k put l→y∈l∨y=k
 |[],put,h=>by
  simp only[cO] at h
  split at h
  ·cases h
  ·exact .inr (fo.1 h)
 |x::r,put,h=>by
  simp only[cO] at h;rcases List.mem_append.1 h with h|h
  ·rcases List.mem_append.1 h with h|h
   ·split at h
    ·exact .inr (fo.1 h)
    ·cases h
   ·split at h
    ·cases h
    ·exact .inl (by rw[fo.1 h];exact .head _)
  ·exact(EA h).imp (.tail _) id
theorem xp {k:Key}: ∀{l:List Key},l.Pairwise mE→(cO k true l).Pairwise mE
 |[],_=>by simp[cO]
 |x::r,h=>by
  obtain⟨h1,h2⟩:=List.pairwise_cons.1 h;simp only[cO,F6,Bool.false_and,zc,if_false,qc,Bool.true_or]
  split
  ·exact xp h2
  ·exact List.pairwise_cons.2 ⟨fun y hy=>h1 y (zV hy),xp h2⟩
theorem GL {k:Key}: ∀{l:List Key},l.Pairwise mE→(cO k false l).Pairwise mE
 |[],_=>by simp[cO]
 |x::r,h=>by
  obtain⟨h1,h2⟩:=List.pairwise_cons.1 h
  cases hk:ct x k with
  |true=>
   have hlt:=nG.1 hk
   have UD:fK x k=false:=by
    cases hs:fK x k with
    |false=>rfl
    |true=>have:=oM.1 hs;unfold mE at hlt;omega
   simp only[cO,hk,UD,Bool.not_false,F6,fR,Bool.and_false,zc,if_false,qc,Bool.or_false,DG];refine List.pairwise_cons.2 ⟨fun y hy=> ?_,GL h2⟩;rcases EA hy with hy|rfl
   ·exact h1 y hy
   ·exact hlt
  |false=>
   have hge: ¬mE x k:=fun h=>by rw[nG.2 h] at hk;cases hk
   simp only[cO,hk,Bool.not_false,fR,if_true,Bool.or_true]
   have hr: ∀y∈cO k true r,mE k y:=fun y hy=>by
    have:=h1 y (zV hy);unfold mE at*;omega
   split
   ·exact List.pairwise_cons.2 ⟨hr,xp h2⟩
   ·rename_i UD
    refine List.pairwise_cons.2 ⟨fun y hy=> ?_,List.pairwise_cons.2 ⟨fun y hy=>h1 y (zV hy),xp h2⟩⟩;rcases cz.1 hy with rfl|hy
    ·have: ¬(y.b=k.b∧y.a=k.a):=fun h=>UD (oM.2 h)
     unfold mE at*;omega
    ·exact hr y hy
theorem lP {l:List Key} {k:Key} (h:l.Pairwise mE):(bY l k).Pairwise mE:=GL h
theorem yE {l:List Key} {k y:Key} (h:y∈bY l k):y∈l∨y=k:=EA h
theorem tH: ∀(new:List Key) {old:List Key},old.Pairwise mE→(bE old new).Pairwise mE
 |[],_,h=>h
 |x::r,_,h=>tH r (lP h)
theorem GM {y:Key}: ∀{new old:List Key},y∈bE old new→y∈old∨y∈new
 |[],_,h=> .inl h
 |x::r,old,h=>by
  have h:y∈bE (bY old x) r:=h;rcases GM h with h|h
  ·exact(yE h).imp id fun e=>by rw[e];exact .head _
  ·exact .inr (.tail _ h)
theorem yF: ∀(n:List (List Key)) {acc:List Key},acc.Pairwise mE→(n.foldl bE acc).Pairwise mE
 |[],_,h=>h
 |s::r,_,h=>yF r (tH s h)
theorem GN {y:Key}: ∀{n:List (List Key)} {acc:List Key},y∈n.foldl bE acc→y∈acc∨ ∃s∈n,y∈s
 |[],_,h=> .inl h
 |s::r,acc,h=>by
  rcases GN (n:=r) h with h|⟨s',h1,h2⟩
  ·exact(GM h).imp id fun h=>⟨s,.head _,h⟩
  ·exact .inr ⟨s',.tail _ h1,h2⟩
theorem jl (n:List (List Key)):(an n).Pairwise mE:=(yF n .nil).sublist List.filter_sublist
theorem iT {n:List (List Key)} {y:Key} (h:y∈an n): ∃s∈n,y∈s:=by
 rcases GN (List.mem_filter.1 h).1 with h|h
 ·cases h
 ·exact h
theorem nr (n:List (List Key)) (k:Key):(bB n k).Pairwise mE:=(lP (jl n)).sublist List.filter_sublist
theorem tI {n:List (List Key)} {k y:Key} (h:y∈bB n k):y=k∨ ∃s∈n,y∈s:=
 (yE (List.mem_filter.1 h).1).elim (fun h=> .inr (iT h)) .inl
theorem OR {l:List Key} (h1:l.Pairwise mE) (h2: ∀y∈l,cH y=true) (h3:l.length≤60):uh l=true:=by
 rw[zS];simp only[dm,decide_eq_true_eq];refine⟨List.all_eq_true.2 h2,vZ.2 fun i hi=> ?_,h3⟩
 cases i with
 |zero=>rfl
 |succ k=>
  simp only[gj];rw[aV (by omega:k<l.length),aV hi];exact nG.2 (List.pairwise_iff_getElem.1 h1 k (k+1) ay hi ay)
theorem nH {n:List (List Key)} (h:cE n=true) {s:List Key} (hs:s∈n) {y:Key} (hy:y∈s):cH y=true:=by
 unfold cE at h;simp only[dm] at h;have:=List.all_eq_true.1 h.1.1 s hs;simp only[dm] at this;have h2:=this.1;rw[zS] at h2;simp only[dm] at h2;exact List.all_eq_true.1 h2.1 y hy
theorem tJ {l:List Key} (h1:l.Pairwise mE) (h2: ∀y∈l,cH y=true) (h3:l.length≤8):cE (bG l)=true:=by
 unfold bG
 split
 ·decide
 ·rename_i h0
  unfold cE;have:=OR h1 h2 ay;have X3:l≠[]:=fun e=>h0 (by rw[e];rfl);simp[this,X3,bP,tot,bu,h3]
theorem JG {n:List (List Key)} {k:Key} (h:cE n=true) (hk:cH k=true): ∀y∈bB n k,cH y=true:=fun y hy=>by
 rcases tI hy with rfl|⟨s,h1,h2⟩
 ·exact hk
 ·exact nH h h1 h2
theorem yG {n:List (List Key)} {k:Key} (h:cE n=true) (hk:cH k=true) (hp:(bw n k).2=false):8<(bB n k).length∧bw n k=(n,false):=by
 have hn:=tJ (nr n k) (JG h hk);unfold bw at hp ⊢
 split at hp
 ·cases hp
 ·rename_i h1
  split at hp
  ·rename_i h2
   exact⟨h2,by rw[aR h1,bg h2]⟩
  ·rename_i h2
   rw[bg (hn ay)] at hp
   cases hp
end Go.T
namespace Go.T
def gw (x y:Int):Int:=vw .or .i64 (RL .i64 (BX .i64 x) 8) (BX .i64 y)
end Go.T
namespace Go.T
abbrev sV (x:Tree×Bool):TV:= .tu [(1,GF x.1),(0,[iB x.2])]
def ia (t:Tree) (i c:Nat) (ak:List Int) (nodes:List (List (List Key))):Tree:=⟨t.ak.take i++ak++t.ak.drop (i+c),t.nodes.take i++nodes++t.nodes.drop (i+c)⟩
def fj (t:Tree) (i:Nat):List Key:=an (t.nodes.getD i [])
def kN (t:Tree):Nat→Nat→Option Nat
 |0,_=>none
 |d+1,i=>if i+1<t.nodes.length then(if(fj t i).length+(fj t (i+1)).length≤6 then some i else kN t d (i+1)) else none
def g7 (t:Tree):Option Nat:=kN t t.nodes.length 0
def cF (t:Tree) (i:Nat):Tree:=ia t i 2 [t.ak.getD i 0] [bG (fj t i++fj t (i+1))]
def fM:Nat→Tree→Tree
 |0,t=>t
 |n+1,t=>match g7 t with
  |none=>t
  |some i=>fM n (cF t i)
theorem Cc {t:Tree}: ∀{d i j:Nat},kN t d i=some j→i≤j∧j+1<t.nodes.length∧(fj t j).length+(fj t (j+1)).length≤6
 |0,i,j,h=>by cases h
 |d+1,i,j,h=>by
  unfold kN at h
  split at h
  ·split at h
   ·cases h;exact⟨cc _,by assumption,by assumption⟩
   ·have:=Cc h;exact⟨by omega,this.2⟩
  ·cases h
theorem lQ {t:Tree} {j:Nat} (h:g7 t=some j):j+1<t.nodes.length∧(fj t j).length+(fj t (j+1)).length≤6:=(Cc h).2
theorem wg (t:Tree) (i c:Nat) (ak:List Int) (nodes:List (List (List Key))) (h:i+c≤t.nodes.length):(ia t i c ak nodes).nodes.length+c=t.nodes.length+nodes.length:=by
 unfold ia;simp only[cT,e9,jy];omega
theorem yH (t:Tree) (i c:Nat) (ak:List Int) (nodes:List (List (List Key))) (h:i+c≤t.ak.length):(ia t i c ak nodes).ak.length+c=t.ak.length+ak.length:=by
 unfold ia;simp only[cT,e9,jy];omega
theorem oN {t:Tree} {i:Nat} (h:i+1<t.nodes.length):(cF t i).nodes.length+1=t.nodes.length:=by
 have:=wg t i 2 [t.ak.getD i 0] [bG (fj t i++fj t (i+1))] ay;unfold cF;simp only[kG] at this;omega
def eP (t:Tree) (i:Nat) (k:Key):Tree:=
 if(bw (t.nodes.getD i []) k).2=true then
  (if 0<i∧(an (bw (t.nodes.getD i []) k).1).length=0 then ia t i 1 [] [] else ia t i 1 [t.ak.getD i 0] [(bw (t.nodes.getD i []) k).1])
 else ia t i 1 [t.ak.getD i 0,bM ((bB (t.nodes.getD i []) k).getD (((bB (t.nodes.getD i []) k).length+1)/2) dw).b ((bB (t.nodes.getD i []) k).getD (((bB (t.nodes.getD i []) k).length+1)/2) dw).a]
  [bG ((bB (t.nodes.getD i []) k).take (((bB (t.nodes.getD i []) k).length+1)/2)),bG ((bB (t.nodes.getD i []) k).drop (((bB (t.nodes.getD i []) k).length+1)/2))]
def bk (t:Tree) (k:Key):Tree×Bool:=
 if cN t=true∧cH k=true then(if cN (fM (eP t (dQ t k.b k.a).toNat k).nodes.length (eP t (dQ t k.b k.a).toNat k))=true then(fM (eP t (dQ t k.b k.a).toNat k).nodes.length (eP t (dQ t k.b k.a).toNat k),true) else(t,false)) else(t,false)
end Go.T
namespace Go.T
theorem OS {α:Type} (w:α→Nat) (c:Nat): ∀l:List α,(∀a∈l,w a≤c)→tot w l≤c*l.length
 |[],_=>by simp[tot]
 |a::r,h=>by
  have h1:=h a (.head _);have h2:=OS w c r fun b hb=>h b (.tail _ hb);simp only[tot,e8,Nat.mul_add];omega
theorem jm {n:List (List Key)} (h:cE n=true):n.length≤3∧tot bu n≤8:=by
 unfold cE bP at h;simp only[dm,decide_eq_true_eq] at h;exact⟨h.1.2,h.2⟩
theorem xq {t:Tree} (h:cN t=true) {i:Nat} (hi:i<t.nodes.length):bN t i=true:=by
 unfold cN at h;simp only[dm] at h;exact vZ.1 h.2.2.2.1 i hi
theorem jW {t:Tree} (h:cN t=true) {n:List (List Key)} (hn:n∈t.nodes):cE n=true:=by
 obtain⟨i,hi,rfl⟩:=List.getElem_of_mem hn;have:=xq h hi;unfold bN at this;rw[aV hi] at this;simp only[dm] at this;exact this.2.1
theorem iU {t:Tree} (h:cN t=true):1≤t.nodes.length∧t.nodes.length≤20∧t.ak.length=t.nodes.length:=by
 unfold cN vY at h;simp only[dm,decide_eq_true_eq] at h;omega
theorem EB {t:Tree} (h:cN t=true):t.ak[0]?=some 0:=by
 have hl:=iU h;unfold cN at h;simp only[dm] at h
 have h0:0<t.ak.length:=by omega
 have:=h.2.2.1;rw[aV h0] at this ⊢;simp only[decide_eq_true_eq] at this;rw[this]
theorem yI {t:Tree} (h:cN t=true):tot ax t.nodes≤220:=by
 have h1:=OS ax 11 t.nodes fun n hn=>by
  have:=jm (jW h hn);unfold ax;omega
 have h2:=iU h;omega
theorem Bt {t:Tree} (h:cN t=true):bX t≤260:=by
 have h1:=yI h;have h2:=iU h;unfold bX oK;omega
theorem EC {t:Tree} {k:Key} (h:(bk t k).2=true):cN (bk t k).1=true:=by
 unfold bk at h ⊢
 split
 ·split
  ·assumption
  ·rename_i h1 h2;rw[bg h1,aR h2] at h;cases h
 ·rename_i h1;rw[aR h1] at h;cases h
theorem yJ {t:Tree} {k:Key} (h:(bk t k).2=false):(bk t k).1=t:=by
 unfold bk at h ⊢
 split
 ·split
  ·rename_i h1 h2;rw[bg h1,bg h2] at h;cases h
  ·rfl
 ·rfl
theorem KY (t:Tree) (k:Key):bX (bk t k).1≤max (bX t) 260:=by
 cases h:(bk t k).2 with
 |true=>have:=Bt (EC h);omega
 |false=>rw[yJ h];omega
end Go.T
namespace Go.T
theorem qC {α:Type} (w:α→Nat): ∀l m:List α,tot w (l++m)=tot w l+tot w m
 |[],m=>by simp[tot]
 |a::l,m=>by simp only[xF,tot,qC w l m];omega
theorem KZ {α:Type} {l:List α} {i:Nat} {a b:α} (ha:l[i]?=some a) (hb:l[i+1]?=some b):l=l.take i++a::b::l.drop (i+2):=by
 obtain⟨h1,e1⟩:=List.getElem?_eq_some_iff.1 ha;obtain⟨h2,e2⟩:=List.getElem?_eq_some_iff.1 hb
 conv=>lhs;rw[←xH i l]
 rw[vq h1,vq h2,e1,e2]
theorem yK (l:List Key):ax (bG l)≤l.length+1:=by
 have h1:=qA l;have h2:=qB l;unfold ax;omega
theorem dV {t:Tree} {i:Nat} {a:List (List Key)} (h:t.nodes[i]?=some a):fj t i=an a:=by unfold fj;rw[ki,h];rfl
theorem pJ (n:Nat) (t:Tree):fM (n+1) t=match g7 t with|none=>t|some i=>fM n (cF t i):=rfl
theorem wh {t:Tree} {i:Nat} (h:i+1<t.nodes.length):tot ax (cF t i).nodes+(cF t i).nodes.length≤tot ax t.nodes+t.nodes.length:=by
 obtain⟨a,ha⟩: ∃a,t.nodes[i]?=some a:=⟨_,aV ay⟩;obtain⟨b,hb⟩: ∃b,t.nodes[i+1]?=some b:=⟨_,aV h⟩;have hl:=oN h;have hs:=congrArg (tot ax) (KZ ha hb);rw[qC] at hs;simp only[tot] at hs;have la:=bR a;have lb:=bR b;have hn:=yK (fj t i++fj t (i+1));rw[cT,dV ha,dV hb] at hn
 have e:tot ax (cF t i).nodes=tot ax (t.nodes.take i)+ax (bG (an a++an b))+tot ax (t.nodes.drop (i+2)):=by
  unfold cF ia;simp only[];rw[qC,qC,dV ha,dV hb];simp[tot]
 have sa:ax a=a.length+tot bu a:=rfl;have sb:ax b=b.length+tot bu b:=rfl;omega
theorem K0 {n:Nat} {t:Tree} (h:g7 t=none):fM n t=t:=by
 cases n with
 |zero=>rfl
 |succ n=>rw[pJ,h]
theorem xQ {t:Tree} {i:Nat} (h:i+1<t.nodes.length) (hl:t.ak.length=t.nodes.length):(cF t i).ak.length=(cF t i).nodes.length:=by
 have h1:=yH t i 2 [t.ak.getD i 0] [bG (fj t i++fj t (i+1))] ay;have h2:=wg t i 2 [t.ak.getD i 0] [bG (fj t i++fj t (i+1))] ay;simp only[kG] at h1 h2;unfold cF;omega
theorem JH: ∀(n:Nat) (t:Tree),t.ak.length=t.nodes.length→tot ax (fM n t).nodes+(fM n t).nodes.length≤tot ax t.nodes+t.nodes.length∧(fM n t).ak.length=(fM n t).nodes.length
 |0,t,h=>⟨cc _,h⟩
 |n+1,t,h=>by
  rw[pJ]
  cases hp:g7 t with
  |none=>exact⟨cc _,h⟩
  |some i=>
   have hlt:=(lQ hp).1;have h1:=wh hlt;have h2:=JH n (cF t i) (xQ hlt h);exact⟨by simp only[];omega,h2.2⟩
theorem wj {k:Key} (h:cH k=true):0≤k.b∧k.b≤15∧1≤k.a∧k.a≤60∧0≤k.k∧k.k≤2:=by
 simp only[cH,vY,dm,decide_eq_true_eq] at h;omega
theorem Qu {b a:Int} (h: -1000≤b∧b≤1000∧ -1000≤a∧a≤1000):bM b a=64*b+a:=by
 unfold bM;rw[Qo ay,bh ay]
theorem tK {k:Key} (h:cH k=true):bM k.b k.a=64*k.b+k.a:=by
 have:=wj h;exact Qu ay
theorem ED {f:Int→Bool} {l:List Int} {x:Int} (h0:l[0]?=some x) (hx:f x=true): ∀n:Nat,0<n→n≤l.length→ ∃j:Nat,jB f l n=j∧j<n
 |0,h,_=>by omega
 |n+1,_,hn=>by
  unfold jB;rw[aV ay];simp only[]
  split
  ·exact⟨n,rfl,by omega⟩
  ·rename_i hf
   cases n with
   |zero=>
    rw[aV ay] at h0
    cases h0;exact absurd hx hf
   |succ n=>
    obtain⟨j,h1,h2⟩:=ED h0 hx (n+1) ay ay;exact⟨j,h1,by omega⟩
theorem EE {t:Tree} {k:Key} (h:cN t=true) (hk:cH k=true): ∃j:Nat,dQ t k.b k.a=j∧j<t.nodes.length:=by
 have h1:=iU h;have h2:=wj hk;have h3:=tK hk;unfold dQ;have:=ED (f:=fun x=>decide (x≤bM k.b k.a)) (EB h) (by simp only[decide_eq_true_eq];omega) t.ak.length ay (cc _);rw[h1.2.2] at this ⊢;exact this
theorem JI (n:List (List Key)) (k:Key):ax (bw n k).1≤ax n+2:=by
 have h1:=v8 n k;have h2:=we n k;unfold ax;omega
theorem MW (t:Tree) (i c:Nat) (ak:List Int) (nodes:List (List (List Key))):tot ax (ia t i c ak nodes).nodes≤tot ax t.nodes+tot ax nodes:=by
 have h:tot ax (t.nodes.take i++t.nodes.drop i)=tot ax t.nodes:=by rw[xH]
 have h2:tot ax (t.nodes.drop (i+c))≤tot ax (t.nodes.drop i):=by
  rw[←List.drop_drop]
  have h3:tot ax ((t.nodes.drop i).take c++(t.nodes.drop i).drop c)=tot ax (t.nodes.drop i):=by rw[xH]
  rw[qC] at h3;omega
 unfold ia;simp only[qC] at h ⊢;omega
theorem Qv {t:Tree} {i:Nat} {k:Key} (hl:t.ak.length=t.nodes.length) (hi:i<t.nodes.length) (ht: ∀n∈t.nodes,tot bu n≤8∧n.length≤3):
 tot ax (eP t i k).nodes≤tot ax t.nodes+40∧(eP t i k).nodes.length≤t.nodes.length+1∧(eP t i k).ak.length=(eP t i k).nodes.length:=by
 have hn:=ht t.nodes[i] (oe hi)
 have hg:t.nodes.getD i []=t.nodes[i]:=by rw[ki,aV hi];rfl
 have hp:=JI t.nodes[i] k;have hk:=iR t.nodes[i] k;have hz:ax t.nodes[i]=t.nodes[i].length+tot bu t.nodes[i]:=rfl;unfold eP;rw[hg];generalize bB t.nodes[i] k=l at*;have e1:=yK (l.take ((l.length+1)/2));have e2:=yK (l.drop ((l.length+1)/2));rw[e9] at e1;rw[jy] at e2
 have key: ∀(ak:List Int) (nodes:List (List (List Key))),ak.length=nodes.length→nodes.length≤2→tot ax nodes≤40→tot ax (ia t i 1 ak nodes).nodes≤tot ax t.nodes+40∧(ia t i 1 ak nodes).nodes.length≤t.nodes.length+1∧(ia t i 1 ak nodes).ak.length=(ia t i 1 ak nodes).nodes.length:=by
  intro ak nodes h1 h2 h3;have h4:=MW t i 1 ak nodes;have h5:=wg t i 1 ak nodes ay;have h6:=yH t i 1 ak nodes ay;omega
 split
 ·split
  ·exact key _ _ rfl cY (by simp[tot])
  ·exact key _ _ rfl cY (by simp only[tot];omega)
 ·exact key _ _ rfl cY (by simp only[tot];omega)
theorem HK {t:Tree} (h:cN t=true): ∀n∈t.nodes,tot bu n≤8∧n.length≤3:=fun n hn=>by
 have:=jm (jW h hn);omega
theorem JJ {t:Tree} {i:Nat} {k:Key} (h:cN t=true) (hi:i<t.nodes.length):
 tot ax (eP t i k).nodes+(eP t i k).nodes.length≤300∧(eP t i k).ak.length=(eP t i k).nodes.length∧bX (fM (eP t i k).nodes.length (eP t i k))≤600:=by
 have h1:=iU h;have h2:=yI h;have h3:=Qv (k:=k) h1.2.2 hi (HK h);have h4:=JH (eP t i k).nodes.length (eP t i k) h3.2.2;refine⟨by omega,h3.2.2,?_⟩;unfold bX oK;omega
theorem HL {n:Nat} (h:8<n):(n+1)/2<n:=by omega
end Go.T
namespace Go.T
end Go.T
namespace Go.T
end Go.T
namespace Go.T
def yL (b a:Int) (x:Key):Bool:=decide (x.b=b∧x.a=a)
def look (l:List Key) (b a:Int):Option Key:=l.find? (yL b a)
theorem K1 (l:List Key) (b a:Int):setAt l b a=look l b a:=rfl
theorem kO (l m:List Key) (b a:Int):look (l++m) b a=(look l b a).or (look m b a):=by unfold look;rw[List.find?_append]
theorem gE (x:Key) (l:List Key) (b a:Int):look (x::l) b a=if x.b=b∧x.a=a then some x else look l b a:=by
 unfold look;rw[List.find?_cons]
 by_cases h:x.b=b∧x.a=a
 ·rw[bg h];simp[yL,h]
 ·rw[aR h];simp[yL,h]
theorem EF {k:Key} {b a:Int} (h: ¬(k.b=b∧k.a=a)): ∀(l:List Key) (put:Bool),look (cO k put l) b a=look l b a
 |[],put=>by
  unfold cO
  cases put with
  |true=>rfl
  |false=>simp only[zc,if_false];rw[gE,aR h]
 |x::r,put=>by
  have ih:=EF h r (put|| !ct x k);simp only[cO,kO];rw[ih,gE]
  have h1:look (if(!put&& !ct x k)=true then [k] else []) b a=none:=by
   split
   ·rw[gE,aR h];rfl
   ·rfl
  rw[h1]
  by_cases hs:fK x k=true
  ·have:=oM.1 hs
   rw[bg hs,aR ay]
   rfl
  ·rw[aR hs,gE]
   by_cases hx:x.b=b∧x.a=a
   ·rw[bg hx,bg hx];rfl
   ·rw[aR hx,aR hx];rfl
theorem L4 {k:Key}: ∀l:List Key,l.Pairwise mE→look (cO k false l) k.b k.a=some k
 |[],_=>by simp only[cO,zc,if_false];rw[gE,bg ⟨rfl,rfl⟩]
 |x::r,hp=>by
  obtain⟨h1,h2⟩:=List.pairwise_cons.1 hp
  cases hk:ct x k with
  |true=>
   have hlt:=nG.1 hk
   have UD:fK x k=false:=by
    cases hs:fK x k with
    |false=>rfl
    |true=>have:=oM.1 hs;unfold mE at hlt;omega
   simp only[cO,hk,UD,Bool.not_false,F6,fR,Bool.and_false,zc,if_false,qc,Bool.or_false,DG];rw[kO,L4 r h2,gE,aR (by unfold mE at hlt;omega)];rfl
  |false=>
   simp only[cO,hk,Bool.not_false,fR,if_true,Bool.or_true];rw[kO,kO,gE,bg ⟨rfl,rfl⟩];rfl
theorem qD {l:List Key} {k:Key} (h:l.Pairwise mE) (b a:Int):look (bY l k) b a=if k.b=b∧k.a=a then some k else look l b a:=by
 unfold bY
 by_cases hs:k.b=b∧k.a=a
 ·rw[bg hs,←hs.1,←hs.2];exact L4 l h
 ·rw[aR hs];exact EF hs l false
theorem Bu {l:List Key} {b a:Int} {x:Key} (h:look l b a=some x):x∈l∧x.b=b∧x.a=a:=by
 unfold look at h;have h1:=List.find?_some h;unfold yL at h1;exact⟨List.mem_of_find?_eq_some h,by simpa using h1⟩
theorem JK {l:List Key} (h:l.Pairwise mE) {x:Key} (hx:x∈l):look l x.b x.a=some x:=by
 induction l with
 |nil=>cases hx
 |cons y r ih=>
  obtain⟨h1,h2⟩:=List.pairwise_cons.1 h;rw[gE];rcases cz.1 hx with rfl|hx
  ·rw[bg ⟨rfl,rfl⟩]
  ·have:=h1 x hx
   rw[aR (by unfold mE at this;omega)];exact ih h2 hx
theorem sE {l:List Key} {b a:Int} (h: ∀x∈l,¬(x.b=b∧x.a=a)):look l b a=none:=by
 unfold look;rw[List.find?_eq_none];intro x hx hs;unfold yL at hs;exact h x hx (by simpa using hs)
theorem yM: ∀(new:List Key) {old:List Key},old.Pairwise mE→new.Pairwise mE→ ∀b a,look (bE old new) b a=(look new b a).or (look old b a)
 |[],old,_,_,b,a=>rfl
 |x::r,old,ho,hn,b,a=>by
  obtain⟨h1,h2⟩:=List.pairwise_cons.1 hn;have ih:=yM r (lP (k:=x) ho) h2 b a;show look (bE (bY old x) r) b a=_;rw[ih,qD ho,gE]
  by_cases hs:x.b=b∧x.a=a
  ·rw[bg hs,bg hs]
   have hr:look r b a=none:=sE fun y hy h=>by
    have:=h1 y hy;unfold mE at this;omega
   rw[hr];rfl
  ·rw[aR hs,aR hs]
theorem wk {l:List Key} (h:l.Pairwise mE) (p:Key→Bool) (b a:Int):look (l.filter p) b a=(look l b a).filter p:=by
 induction l with
 |nil=>rfl
 |cons x r ih=>
  obtain⟨h1,h2⟩:=List.pairwise_cons.1 h;rw[gE]
  by_cases hp:p x=true
  ·rw[List.filter_cons_of_pos hp,gE,ih h2]
   by_cases hs:x.b=b∧x.a=a
   ·rw[bg hs,bg hs];simp[Option.filter,hp]
   ·rw[aR hs,aR hs]
  ·rw[List.filter_cons_of_neg hp,ih h2]
   by_cases hs:x.b=b∧x.a=a
   ·rw[bg hs]
    have hr:look r b a=none:=sE fun y hy h=>by
     have:=h1 y hy;unfold mE at this;omega
    rw[hr];simp[Option.filter,hp]
   ·rw[aR hs]
theorem JL: ∀{l m:List Key},l.Pairwise mE→m.Pairwise mE→(∀x,x∈l↔x∈m)→l=m
 |[],[],_,_,_=>rfl
 |[],y::m,_,_,h=>by have:=(h y).2 (.head _);cases this
 |x::l,[],_,_,h=>by have:=(h x).1 (.head _);cases this
 |x::l,y::m,hl,hm,h=>by
  obtain⟨h1,h2⟩:=List.pairwise_cons.1 hl;obtain⟨h3,h4⟩:=List.pairwise_cons.1 hm
  have hxy:x=y:=by
   rcases cz.1 ((h x).1 (.head _)) with e|e
   ·exact e
   ·rcases cz.1 ((h y).2 (.head _)) with e2|e2
    ·exact e2.symm
    ·have a1:=h3 x e
     have a2:=h1 y e2;unfold mE at a1 a2;omega
  subst hxy
  have:l=m:=JL h2 h4 fun z=>by
   constructor
   ·intro hz
    rcases cz.1 ((h z).1 (.tail _ hz)) with e|e
    ·subst e;have:=h1 z hz;unfold mE at this;omega
    ·exact e
   ·intro hz
    rcases cz.1 ((h z).2 (.tail _ hz)) with e|e
    ·subst e;have:=h3 z hz;unfold mE at this;omega
    ·exact e
  rw[this]
theorem EG {l m:List Key} (hl:l.Pairwise mE) (hm:m.Pairwise mE) (h: ∀b a,look l b a=look m b a):l=m:=
 JL hl hm fun x=>⟨fun hx=>by have:=JK hl hx;rw[h] at this;exact(Bu this).1,fun hx=>by have:=JK hm hx;rw[←h] at this;exact(Bu this).1⟩
def Cd (n:List (List Key)):Prop:= ∀s∈n,s.Pairwise mE
theorem K2 {l:List Key} (h:uh l=true):l.Pairwise mE:=by
 rw[zS] at h;simp only[dm] at h;have hp:=vZ.1 h.2.1
 have key: ∀(l:List Key),(∀i,i<l.length→gj l ct i=true)→l.Pairwise mE:=by
  intro l
  induction l with
  |nil=>intro _;exact .nil
  |cons x r ih=>
   intro hq
   have hr:=ih fun i hi=>by
    have:=hq (i+1) mD
    cases i with
    |zero=>rfl
    |succ i=>simpa [gj] using this
   refine List.pairwise_cons.2 ⟨?_,hr⟩
   cases r with
   |nil=>intro y hy;cases hy
   |cons z r=>
    have hxz:mE x z:=by have:=hq 1 cY;simp only[gj,cR,mI] at this;exact nG.1 this
    intro y hy;rcases cz.1 hy with rfl|hy
    ·exact hxz
    ·exact hxz.trans ((List.pairwise_cons.1 hr).1 y hy)
 exact key l hp
theorem nI {n:List (List Key)} (h:cE n=true):Cd n:=fun s hs=>by
 unfold cE at h;simp only[dm] at h;have:=List.all_eq_true.1 h.1.1 s hs;simp only[dm] at this;exact K2 this.1
def oy:List (List Key)→Int→Int→Option Key
 |[],_,_=>none
 |s::r,b,a=>(oy r b a).or (look s b a)
theorem EH: ∀(n:List (List Key)) {acc:List Key},acc.Pairwise mE→Cd n→ ∀b a,look (n.foldl bE acc) b a=(oy n b a).or (look acc b a)
 |[],acc,_,_,b,a=>rfl
 |s::r,acc,ha,hn,b,a=>by
  have hs:=hn s (.head _);have ih:=EH r (tH s ha) (fun t ht=>hn t (.tail _ ht)) b a;show look (r.foldl bE (bE acc s)) b a=_;rw[ih,yM s ha hs];show _=((oy r b a).or (look s b a)).or (look acc b a);rw[Option.or_assoc]
def jC (k:Key):Bool:= !decide (k.k=0)
theorem xu {n:List (List Key)} (h:Cd n) (b a:Int):look (an n) b a=(oy n b a).filter jC:=by
 have hr:(lO n).Pairwise mE:=yF n .nil;have e:=wk hr jC b a;have e2:=EH n .nil h b a;show look ((lO n).filter jC) b a=_;rw[e];show Option.filter jC (look (n.foldl bE []) b a)=_;rw[e2];show Option.filter jC ((oy n b a).or none)=_;rw[Option.or_none]
def JM:Option Key→Key×Bool
 |some k=>(k,true)
 |none=>(dw,false)
theorem tL (n:List (List Key)) (s:List Key) (b a:Int):oy (n++[s]) b a=(look s b a).or (oy n b a):=by
 induction n with
 |nil=>simp[oy]
 |cons t r ih=>simp only[xF,oy,ih,Option.or_assoc]
theorem xR (n:List (List Key)) (b a:Int): ∀k,k≤n.length→gl n b a k=JM ((oy (n.take k) b a).filter jC)
 |0,_=>rfl
 |k+1,h=>by
  have ih:=xR n b a k ay
  have hk:k<n.length:=by omega
  unfold gl;rw[aV hk,List.take_add_one,aV hk];simp only[Option.toList];rw[tL];unfold rQ;rw[K1]
  cases hl:look n[k] b a with
  |none=>simp only[zc,if_false];rw[ih];rfl
  |some x=>
   simp only[if_true,Option.some_or]
   by_cases hx:x.k=0
   ·rw[bg hx];simp[Option.filter,jC,hx,JM]
   ·rw[aR hx];simp[Option.filter,jC,hx,JM]
theorem JN {n:List (List Key)} (h:Cd n) (b a:Int):gl n b a n.length=JM (look (an n) b a):=by
 rw[xR n b a n.length (cc _),tZ,xu h]
end Go.T
namespace Go.T
theorem MX {l:List Key} (h:l.Pairwise mE):bE [] l=l:=
 EG (tH l .nil) h fun b a=>by rw[yM l .nil h];show(look l b a).or none=_;rw[Option.or_none]
theorem wm {l:List Key} (h:l.Pairwise mE) (hn: ∀x∈l,¬x.k=0):an (bG l)=l:=by
 unfold bG
 split
 ·rename_i h0
  rw[List.length_eq_zero_iff.1 h0];rfl
 ·show ff (bE [] l)=l
  rw[MX h];unfold ff;rw[List.filter_eq_self];intro x hx;simpa using hn x hx
theorem Bv {n:List (List Key)} {x:Key} (hx:x∈an n): ¬x.k=0:=by
 have:=(List.mem_filter.1 hx).2;simpa using this
theorem GO {n:List (List Key)} {k x:Key} (hx:x∈bB n k): ¬x.k=0:=by
 have:=(List.mem_filter.1 hx).2;simpa using this
theorem OT {n:List (List Key)} (k:Key) (h:Cd n) (b a:Int):oy (eu n k) b a=if k.b=b∧k.a=a then some k else oy n b a:=by
 have hone: ∀m:List (List Key),oy (m++[[k]]) b a=if k.b=b∧k.a=a then some k else oy m b a:=fun m=>by
  rw[tL,gE]
  by_cases hs:k.b=b∧k.a=a
  ·rw[bg hs,bg hs];rfl
  ·rw[aR hs,aR hs];rfl
 unfold eu
 cases hl:n[n.length-1]? with
 |none=>exact hone n
 |some s=>
  simp only[]
  split
  ·obtain⟨hlt,hs⟩:=List.getElem?_eq_some_iff.1 hl
   have hpos:0<n.length:=by omega
   have e1:n=n.take (n.length-1)++[s]:=by
    conv=>lhs;rw[←xH (n.length-1) n]
    rw[vq hlt,hs,zd ay]
   have e2:n.set (n.length-1) (bY s k)=n.take (n.length-1)++[bY s k]:=by
    rw[List.set_eq_take_append_cons_drop,bg hlt,zd ay]
   rw[e2,tL,qD (h s (by rw[←hs];exact oe hlt))]
   conv=>rhs;rw[e1]
   rw[tL]
   by_cases hs:k.b=b∧k.a=a
   ·rw[bg hs,bg hs];rfl
   ·rw[aR hs,aR hs]
  ·exact hone n
theorem GP {n:List (List Key)} (k:Key) (h:Cd n) (b a:Int):look (bB n k) b a=(if k.b=b∧k.a=a then some k else oy n b a).filter jC:=by
 have hr:=jl n;show look ((bY (an n) k).filter jC) b a=_;rw[wk (lP hr),qD hr]
 by_cases hs:k.b=b∧k.a=a
 ·rw[bg hs,bg hs]
 ·rw[aR hs,aR hs,xu h]
  cases oy n b a with
  |none=>rfl
  |some x=>by_cases hx:jC x=true<;>simp[Option.filter,hx]
theorem Qw {n:List (List Key)} (k:Key) (h:Cd n) (h2:Cd (eu n k)):an (eu n k)=bB n k:=
 EG (jl _) (nr n k) fun b a=>by rw[xu h2,OT k h,GP k h]
theorem HM {n:List (List Key)} {k:Key} (h:cE n=true) (hp:(bw n k).2=true):an (bw n k).1=bB n k∧cE (bw n k).1=true:=by
 have hr:=nI h;unfold bw at hp ⊢
 split
 ·rename_i h1
  exact⟨Qw k hr (nI h1),h1⟩
 ·rename_i h1
  rw[aR h1] at hp
  split
  ·rename_i h2;rw[bg h2] at hp;cases hp
  ·rename_i h2
   rw[aR h2] at hp
   split
   ·rename_i h3
    exact⟨wm (nr n k) fun x hx=>GO hx,h3⟩
   ·rename_i h3;rw[aR h3] at hp;cases hp
end Go.T
namespace Go.T
structure lR (t:Tree):Prop where
 len:t.ak.length=t.nodes.length
 low0:t.ak[0]?=some 0
 rise: ∀i x y,t.ak[i]?=some x→t.ak[i+1]?=some y→x<y
 ok: ∀n∈t.nodes,cE n=true
 lo: ∀(i:Nat) (n:List (List Key)) (x:Int),t.nodes[i]?=some n→t.ak[i]?=some x→ ∀s∈n,∀k:Key,k∈s→x≤bM k.b k.a
 hi: ∀(i:Nat) (n:List (List Key)) (x:Int),t.nodes[i]?=some n→t.ak[i+1]?=some x→ ∀s∈n,∀k:Key,k∈s→bM k.b k.a<x
theorem OU {t:Tree} (h:cN t=true):lR t:=by
 have hl:=iU h;have Mh: ∀i n,t.nodes[i]?=some n→bN t i=true:=fun i n hn=>xq h (List.getElem?_eq_some_iff.1 hn).1
 have hsp: ∀(i:Nat) (n:List (List Key)),t.nodes[i]?=some n→ ∀s∈n,∀k:Key,k∈s→yA t.ak i (bM k.b k.a)=true:=by
  intro i n hn s hs k hk;have:=Mh i n hn;unfold bN at this;rw[hn] at this;simp only[dm] at this;have h1:=List.all_eq_true.1 this.2.2.2 s hs;unfold bF at h1;exact List.all_eq_true.1 h1 k hk
 refine⟨hl.2.2,EB h,?_,fun n hn=>jW h hn,?_,?_⟩
 ·intro i x y hx hy
  obtain⟨hi,_⟩:=List.getElem?_eq_some_iff.1 hy;have:=xq h (i:=i+1) ay;unfold bN at this;simp only[dm,gj,hx,hy,decide_eq_true_eq] at this;exact this.1
 ·intro i n x hn hx s hs k hk
  have:=hsp i n hn s hs k hk;unfold yA at this;rw[hx] at this;simp only[dm,qb,decide_eq_false_iff_not] at this;omega
 ·intro i n x hn hx s hs k hk
  have:=hsp i n hn s hs k hk;obtain⟨hi,_⟩:=List.getElem?_eq_some_iff.1 hn;unfold yA at this;rw[aV (by omega:i<t.ak.length),hx] at this;simp only[dm,decide_eq_true_eq] at this;exact this.2
theorem lR.mono {t:Tree} (h:lR t): ∀(d i:Nat) (x y:Int),t.ak[i]?=some x→t.ak[i+d+1]?=some y→x<y
 |0,i,x,y,hx,hy=>h.rise i x y hx hy
 |d+1,i,x,y,hx,hy=>by
  obtain⟨hlt,_⟩:=List.getElem?_eq_some_iff.1 hy;have hm:t.ak[i+d+1]?=some t.ak[i+d+1]:=aV ay;have h1:=h.mono d i x _ hx hm;have h2:=h.rise (i+d+1) _ y hm (by rw[show i+d+1+1=i+(d+1)+1 from by omega];exact hy);omega
theorem lR.lt {t:Tree} (h:lR t) {i j:Nat} {x y:Int} (hij:i<j) (hx:t.ak[i]?=some x) (hy:t.ak[j]?=some y):x<y:=
 h.mono (j-i-1) i x y hx (by rw[show i+(j-i-1)+1=j from by omega];exact hy)
theorem lR.key {t:Tree} (h:lR t) {i:Nat} {n:List (List Key)} (hn:t.nodes[i]?=some n) {x:Key} (hx:x∈an n):cH x=true:=by
 obtain⟨s,hs,hy⟩:=iT hx;exact nH (h.ok n (ew hn)) hs hy
theorem zW {x y:Key} (hx:cH x=true) (hy:cH y=true):bM x.b x.a<bM y.b y.a↔mE x y:=by
 have h1:=wj hx;have h2:=wj hy;rw[tK hx,tK hy];unfold mE;omega
def pK (t:Tree) (i:Nat):List Key:=(t.nodes.drop i).flatMap an
theorem xS {t:Tree} {i:Nat} {n:List (List Key)} (hn:t.nodes[i]?=some n):pK t i=an n++pK t (i+1):=by
 obtain⟨hi,he⟩:=List.getElem?_eq_some_iff.1 hn;unfold pK;rw[vq hi,he,List.flatMap_cons]
theorem oO {t:Tree} {i:Nat} (h:t.nodes.length≤i):pK t i=[]:=by
 unfold pK;rw[zd h];rfl
theorem lR.L5 {t:Tree} (h:lR t): ∀(d i:Nat),i+d=t.nodes.length→ ∀x,t.ak[i]?=some x→ ∀k∈pK t i,cH k=true∧x≤bM k.b k.a
 |0,i,hd,x,hx,k,hk=>by rw[oO ay] at hk;cases hk
 |d+1,i,hd,x,hx,k,hk=>by
  have hn:t.nodes[i]?=some t.nodes[i]:=aV ay;rw[xS hn] at hk;rcases List.mem_append.1 hk with hk|hk
  ·refine⟨h.key hn hk,?_⟩
   obtain⟨s,hs,hk⟩:=iT hk;exact h.lo i _ x hn hx s hs k hk
  ·cases hm:t.ak[i+1]? with
   |none=>
    have hl:=h.len
    have: ¬i+1<t.ak.length:=fun hlt=>by rw[aV hlt] at hm;cases hm
    rw[oO ay] at hk;cases hk
   |some y=>
    obtain⟨h1,h2⟩:=h.L5 d (i+1) ay y hm k hk;have:=h.rise i x y hx hm;exact⟨h1,by omega⟩
theorem lR.GQ {t:Tree} (h:lR t): ∀(d i:Nat),i+d=t.nodes.length→(pK t i).Pairwise mE
 |0,i,hd=>by rw[oO ay];exact .nil
 |d+1,i,hd=>by
  have hn:t.nodes[i]?=some t.nodes[i]:=aV ay;rw[xS hn];refine List.pairwise_append.2 ⟨jl _,h.GQ d (i+1) ay,fun x hx y hy=> ?_⟩
  cases hm:t.ak[i+1]? with
  |none=>
   have hl:=h.len
   have: ¬i+1<t.ak.length:=fun hlt=>by rw[aV hlt] at hm;cases hm
   rw[oO ay] at hy;cases hy
  |some z=>
   obtain⟨h1,h2⟩:=h.L5 d (i+1) ay z hm y hy;have X4:=h.key hn hx;obtain⟨s,hs,hx⟩:=iT hx;have h3:=h.hi i _ z hn hm s hs x hx;exact(zW X4 h1).1 ay
theorem lR.xw {t:Tree} (h:lR t):(aA t).Pairwise mE:=h.GQ t.nodes.length 0 ay
theorem tM {f:Int→Bool} {l:List Int}: ∀(n:Nat),n≤l.length→(jB f l n= -1∧ ∀j x,j<n→l[j]?=some x→f x=false)∨ ∃i:Nat,jB f l n=i∧i<n∧(∃x,l[i]?=some x∧f x=true)∧ ∀j x,i<j→j<n→l[j]?=some x→f x=false
 |0,_=> .inl ⟨rfl,fun j x h=>by omega⟩
 |n+1,h=>by
  have hn:n<l.length:=by omega
  unfold jB;rw[aV hn];simp only[]
  cases hf:f l[n] with
  |true=>exact .inr ⟨n,by simp,by omega,⟨_,aV hn,hf⟩,fun j x h1 h2=>by omega⟩
  |false=>
   rw[aR cY];rcases tM (f:=f) (l:=l) n ay with⟨h1,h2⟩|⟨i,h1,h2,h3,h4⟩
   ·refine .inl ⟨h1,fun j x hj hx=> ?_⟩
    by_cases hjn:j=n
    ·subst hjn;rw[aV hn] at hx;cases hx;exact hf
    ·exact h2 j x ay hx
   ·refine .inr ⟨i,h1,by omega,h3,fun j x hij hj hx=> ?_⟩
    by_cases hjn:j=n
    ·subst hjn;rw[aV hn] at hx;cases hx;exact hf
    ·exact h4 j x hij ay hx
theorem lR.L6 {t:Tree} (h:lR t) {i:Nat} {x:Int} {b a:Int} (hx:t.ak[i]?=some x) (hlo:x≤bM b a) (hhi: ∀j y,i<j→t.ak[j]?=some y→bM b a<y):
 ∀(j:Nat) (n:List (List Key)),t.nodes[j]?=some n→ ¬j=i→look (an n) b a=none:=by
 intro j n hn hne;refine sE fun k hk hs=> ?_
 have hj:j<t.ak.length:=by rw[h.len];exact(List.getElem?_eq_some_iff.1 hn).1
 obtain⟨s,J8,y9⟩:=iT hk;have h1:=h.lo j n t.ak[j] hn (aV hj) s J8 k y9;rw[hs.1,hs.2] at h1
 by_cases hji:j<i
 ·have RJ:j+1<t.ak.length:=by have:=(List.getElem?_eq_some_iff.1 hx).1;omega
  have h2:=h.hi j n t.ak[j+1] hn (aV RJ) s J8 k y9;rw[hs.1,hs.2] at h2
  by_cases he:j+1=i
  ·subst he;rw[aV RJ] at hx;cases hx;omega
  ·have:=h.lt (i:=j+1) (j:=i) ay (aV RJ) hx
   omega
 ·have:=hhi j _ ay (aV hj)
  omega
theorem GR {b a:Int}: ∀(l:List (List (List Key))) (i:Nat) (n:List (List Key)),l[i]?=some n→(∀j m,l[j]?=some m→ ¬j=i→look (an m) b a=none)→look (l.flatMap an) b a=look (an n) b a
 |[],i,n,h,_=>by simp at h
 |m::r,0,n,h,hn=>by
  simp only[cR,aY] at h;subst h;rw[List.flatMap_cons,kO]
  have:look (r.flatMap an) b a=none:=sE fun x hx hs=>by
   obtain⟨q,hq,hx⟩:=List.mem_flatMap.1 hx;obtain⟨j,hj⟩:=List.mem_iff_getElem?.1 hq;have:=hn (j+1) q (by simpa using hj) ay;unfold look at this;rw[List.find?_eq_none] at this;exact this x hx (by unfold yL;simpa using hs)
  rw[this,Option.or_none]
 |m::r,i+1,n,h,hn=>by
  rw[List.flatMap_cons,kO,hn 0 m rfl ay];have:=GR r i n (by simpa using h) fun j q hj hne=>hn (j+1) q (by simpa using hj) ay;rw[this];rfl
theorem lR.find {t:Tree} (h:lR t) {b a:Int} (hs:0≤bM b a):Bs t b a=JM (look (aA t) b a):=by
 unfold Bs dQ;rcases tM (f:=fun x=>decide (x≤bM b a)) (l:=t.ak) t.ak.length (cc _) with⟨_,h2⟩|⟨i,h1,h2,⟨x,hx,hf⟩,h4⟩
 ·have hpos:=(List.getElem?_eq_some_iff.1 h.low0).1
  have:=h2 0 0 hpos h.low0;simp only[decide_eq_false_iff_not] at this;omega
 ·rw[h1,aL]
  have hlo:x≤bM b a:=uc hf
  have hi:i<t.nodes.length:=by rw[←h.len];exact h2
  have hn:t.nodes[i]?=some t.nodes[i]:=aV hi;rw[hn];simp only[]
  have hno:=h.L6 hx hlo fun j y hij hy=>by
   have:=h4 j y hij (List.getElem?_eq_some_iff.1 hy).1 hy;simp only[decide_eq_false_iff_not] at this;omega
  rw[JN (nI (h.ok _ (oe hi)))];unfold aA;rw[GR t.nodes i t.nodes[i] hn hno]
end Go.T
namespace Go.T
abbrev Nd:=List (List Key)
def below (x:Int):Option Int→Prop
 |none=>True
 |some y=>x<y
def HN (l:List Int) (hi:Option Int):Option Int:=match l with|[]=>hi|y::_=>some y
def HO (x:Int) (hi:Option Int) (n:Nd):Prop:=cE n=true∧below x hi∧ ∀s∈n,∀k:Key,k∈s→x≤bM k.b k.a∧below (bM k.b k.a) hi
def TR (hi:Option Int):List Int→List Nd→Prop
 |[],[]=>True
 |x::xs,n::ns=>HO x (HN xs hi) n∧TR hi xs ns
 |_,_=>False
theorem L7 (l m:List Int) (hi:Option Int):HN (l++m) hi=HN l (HN m hi):=by cases l<;>rfl
theorem sF (l:List Int):HN l none=l[0]?:=by cases l<;>rfl
theorem nJ {x y:Int} {o:Option Int} (h:x≤y) (h2:below y o):below x o:=by
 cases o with
 |none=>trivial
 |some z=>have:y<z:=h2;show x<z;omega
theorem TR.app {hi:Option Int} {l2:List Int} {n2:List Nd} (h2:TR hi l2 n2): ∀{l:List Int} {n:List Nd},TR (HN l2 hi) l n→TR hi (l++l2) (n++n2)
 |[],[],_=>h2
 |x::xs,n::ns,h=>⟨by show HO x (HN (xs++l2) hi) n;rw[L7];exact h.1,TR.app h2 h.2⟩
 |[],_::_,h=>h.elim
 |_::_,[],h=>h.elim
theorem TR.split {hi:Option Int} {l2:List Int} {n2:List Nd}: ∀{l:List Int} {n:List Nd},l.length=n.length→TR hi (l++l2) (n++n2)→TR (HN l2 hi) l n∧TR hi l2 n2
 |[],[],_,h=>⟨trivial,h⟩
 |x::xs,n::ns,hl,h=>by
  have h:HO x (HN (xs++l2) hi) n∧TR hi (xs++l2) (ns++n2):=h;rw[L7] at h;have:=TR.split (by simpa using hl) h.2;exact⟨⟨h.1,this.1⟩,this.2⟩
 |[],_::_,hl,_=>by simp at hl
 |_::_,[],hl,_=>by simp at hl
theorem HO.mono {x:Int} {n:Nd} {o o':Option Int} (hm: ∀y,below y o→below y o') (h:HO x o n):HO x o' n:=
 ⟨h.1,hm _ h.2.1,fun s hs k hk=>⟨(h.2.2 s hs k hk).1,hm _ (h.2.2 s hs k hk).2⟩⟩
theorem TR.mono {o o':Option Int} (hm: ∀y,below y o→below y o'): ∀{l:List Int} {n:List Nd},TR o l n→TR o' l n
 |[],[],_=>trivial
 |[x],[n],h=>⟨HO.mono hm h.1,trivial⟩
 |x::y::xs,n::ns,h=>⟨h.1,TR.mono hm h.2⟩
 |[x],n::m::ns,h=>h.2.elim
 |[],_::_,h=>h.elim
 |_::_,[],h=>h.elim
theorem TR.len {hi:Option Int}: ∀{l:List Int} {n:List Nd},TR hi l n→l.length=n.length
 |[],[],_=>rfl
 |x::xs,n::ns,h=>by simp[TR.len h.2]
 |[],_::_,h=>h.elim
 |_::_,[],h=>h.elim
theorem TR.at {hi:Option Int}: ∀{l:List Int} {n:List Nd},TR hi l n→ ∀(i:Nat) (x:Int) (m:Nd),l[i]?=some x→n[i]?=some m→HO x (HN (l.drop (i+1)) hi) m
 |[],[],_,i,x,m,h1,_=>by simp at h1
 |x::xs,n::ns,h,0,y,m,h1,h2=>by
  simp only[cR,aY] at h1 h2;subst h1 h2;exact h.1
 |x::xs,n::ns,h,i+1,y,m,h1,h2=>TR.at h.2 i y m (by simpa using h1) (by simpa using h2)
 |[],_::_,h,_,_,_,_,_=>h.elim
 |_::_,[],h,_,_,_,_,_=>h.elim
theorem TR.head {hi:Option Int}: ∀{l:List Int} {n:List Nd},TR hi l n→ ∀x,l[0]?=some x→below x hi
 |[],_,_,x,hx=>by cases hx
 |[y],[n],h,x,hx=>by
  simp only[cR,aY] at hx;subst hx;exact h.1.2.1
 |y::z::r,n::ns,h,x,hx=>by
  simp only[cR,aY] at hx;subst hx;exact nJ (Int.le_of_lt h.1.2.1) (TR.head h.2 z rfl)
 |[_],_::_::_,h,_,_=>h.2.elim
 |_::_,[],h,_,_=>h.elim
theorem m0 (l:List Int) (i:Nat):(l.drop i)[0]?=l[i]?:=by rw[kE];rfl
theorem TR.of {t:Tree} (h:lR t): ∀(d i:Nat),i+d=t.nodes.length→TR none (t.ak.drop i) (t.nodes.drop i)
 |0,i,hd=>by
  have:=h.len;rw[zd ay,zd ay];trivial
 |d+1,i,hd=>by
  have hl:=h.len
  have h1:i<t.ak.length:=by omega
  have h2:i<t.nodes.length:=by omega
  have e1:t.ak[i]?=some t.ak[i]:=aV h1;have e2:t.nodes[i]?=some t.nodes[i]:=aV h2;rw[vq h1,vq h2];refine⟨⟨h.ok _ (oe h2),?_,fun s hs k hk=>⟨h.lo i _ _ e2 e1 s hs k hk,?_⟩⟩,TR.of h d (i+1) ay⟩
  ·rw[sF,m0]
   cases hy:t.ak[i+1]? with
   |none=>trivial
   |some y=>exact h.rise i _ y e1 hy
  ·rw[sF,m0]
   cases hy:t.ak[i+1]? with
   |none=>trivial
   |some y=>exact h.hi i _ y e2 hy s hs k hk
theorem TR.tree {l:List Int} {n:List Nd} (h:TR none l n) (h0:l[0]?=some 0):lR ⟨l,n⟩:=by
 have hl:=h.len
 have gt: ∀(i:Nat) (x y:Int),l[i]?=some x→l[i+1]?=some y→ ∃m,n[i]?=some m∧HO x (some y) m:=fun i x y hx hy=>by
  obtain⟨h1,_⟩:=List.getElem?_eq_some_iff.1 hx;have e2:n[i]?=some n[i]:=aV ay;have:=h.at i x _ hx e2;rw[sF,m0,hy] at this;exact⟨_,e2,this⟩
 refine⟨hl,h0,fun i x y hx hy=> ?_,fun m hm=> ?_,fun i m x hm hx=> ?_,fun i m y hm hy=> ?_⟩
 ·obtain⟨m,_,h1⟩:=gt i x y hx hy
  exact h1.2.1
 ·obtain⟨i,hi⟩:=List.mem_iff_getElem?.1 hm
  obtain⟨h1,_⟩:=List.getElem?_eq_some_iff.1 hi;have h1:i<n.length:=h1;exact(h.at i _ m (aV ay) hi).1
 ·exact fun s hs k hk=>((h.at i x m hx hm).2.2 s hs k hk).1
 ·intro s hs k hk
  obtain⟨h1,_⟩:=List.getElem?_eq_some_iff.1 hm;have h1:i<n.length:=h1;have:=((h.at i _ m (aV ay) hm).2.2 s hs k hk).2;have hy:l[i+1]?=some y:=hy;rw[sF,m0,hy] at this;exact this
def NE (l:List Nd):Prop:= ∀n∈l.tail,¬an n=[]
theorem Sq:NE []:=fun n hn=>by simp at hn
theorem OV (m:Nd):NE [m]:=fun n hn=>by simp at hn
structure mK (t:Tree):Prop where
 tr:TR none t.ak t.nodes
 z:t.ak[0]?=some 0
 ne:NE t.nodes
theorem mK.r {t:Tree} (h:mK t):lR t:=h.tr.tree h.z
theorem OW {α:Type} {l:List α} {a:α} (h:a∈l.tail): ∃i:Nat,0<i∧l[i]?=some a:=by
 obtain⟨i,hi⟩:=List.mem_iff_getElem?.1 h;refine⟨i+1,by omega,?_⟩
 cases l with
 |nil=>simp at hi
 |cons b r=>simpa using hi
theorem JO {α:Type} {l:List α} {a:α} {i:Nat} (h0:0<i) (h:l[i]?=some a):a∈l.tail:=by
 cases l with
 |nil=>simp at h
 |cons b r=>
  cases i with
  |zero=>omega
  |succ i=>exact ew (i:=i) (by simpa using h)
theorem OX {t:Tree} (h:cN t=true):mK t:=by
 have hr:=OU h;refine⟨by have:=TR.of hr t.nodes.length 0 ay;simpa using this,hr.low0,fun n hn=> ?_⟩;obtain⟨i,h0,hi⟩:=OW hn;have:=xq h (List.getElem?_eq_some_iff.1 hi).1;unfold bN at this;rw[hi] at this;simp only[dm,Bool.or_eq_true,decide_eq_true_eq,qb,decide_eq_false_iff_not] at this;rcases this.2.2.1 with h1|h1
 ·omega
 ·exact fun e=>h1 (by rw[e];rfl)
theorem mK.ok {t:Tree} (h:mK t) (Yu:t.nodes.length≤20) (Tj:(aA t).length≤60):cN t=true:=by
 have hr:=h.r;have hl:=hr.len;have h1:=(List.getElem?_eq_some_iff.1 h.z).1;unfold cN vY;rw[h.z];simp only[dm,decide_eq_true_eq];refine⟨by omega,hl,trivial,vZ.2 fun i hi=> ?_,Tj⟩;unfold bN;have e2:t.nodes[i]?=some t.nodes[i]:=aV hi;rw[e2];simp only[dm,Bool.or_eq_true,decide_eq_true_eq,qb,decide_eq_false_iff_not];refine⟨?_,hr.ok _ (oe hi),?_,List.all_eq_true.2 fun s hs=>List.all_eq_true.2 fun k hk=> ?_⟩
 ·cases i with
  |zero=>rfl
  |succ i=>
   have a1:t.ak[i]?=some t.ak[i]:=aV ay;have a2:t.ak[i+1]?=some t.ak[i+1]:=aV ay;simp only[gj,a1,a2,decide_eq_true_eq];exact hr.rise i _ _ a1 a2
 ·by_cases h0:i=0
  ·exact .inl h0
  ·exact .inr fun e=>h.ne _ (JO ay e2) (List.length_eq_zero_iff.1 e)
 ·unfold dU yA
  have a1:t.ak[i]?=some t.ak[i]:=aV ay;rw[a1];simp only[dm,qb,decide_eq_false_iff_not];have h3:=hr.lo i _ _ e2 a1 s hs k hk;refine⟨by omega,?_⟩
  cases hy:t.ak[i+1]? with
  |none=>rfl
  |some y=>simp only[decide_eq_true_eq];exact hr.hi i _ y e2 hy s hs k hk
theorem JP: ∀{l:List Nd},(∀(j:Nat) (a b:Nd),l[j]?=some a→l[j+1]?=some b→6<(an a).length+(an b).length)→7*(l.length/2)≤(l.flatMap an).length
 |[],_=>by simp
 |[a],_=>by simp
 |a::b::r,h=>by
  have h1:=h 0 a b rfl rfl;have h2:=JP (l:=r) fun j x y hx hy=>h (j+2) x y (by simpa using hx) (by simpa using hy);simp only[List.flatMap_cons,cT,e8];omega
theorem xT {t:Tree}: ∀{d i:Nat},i+d=t.nodes.length→kN t d i=none→ ∀j,i≤j→j+1<t.nodes.length→6<(fj t j).length+(fj t (j+1)).length
 |0,i,hd,_,j,h1,h2=>by omega
 |d+1,i,hd,h,j,h1,h2=>by
  unfold kN at h
  split at h
  ·split at h
   ·cases h
   ·by_cases hij:i=j
    ·subst hij;omega
    ·exact xT ay h j ay h2
  ·omega
theorem OY {t:Tree} (h:g7 t=none) (Tj:(aA t).length≤60):t.nodes.length≤20:=by
 have:=JP (l:=t.nodes) fun j a b ha hb=>by
  have h1:=(List.getElem?_eq_some_iff.1 hb).1;have:=xT (t:=t) (d:=t.nodes.length) (i:=0) ay h j ay h1
  rwa [dV ha,dV hb] at this
 unfold aA at Tj;omega
theorem OZ {α:Type} {l:List α} {i:Nat} {a:α} (h:l[i]?=some a):l=l.take i++a::l.drop (i+1):=by
 obtain⟨h1,e⟩:=List.getElem?_eq_some_iff.1 h
 conv=>lhs;rw[←xH i l]
 rw[vq h1,e]
theorem xx {l:List Key} {s:List Key} (h:s∈bG l) {k:Key} (hk:k∈s):k∈l:=by
 unfold bG at h
 split at h
 ·cases h
 ·rw[fo.1 h] at hk;exact hk
theorem mK.TU {t:Tree} (h:mK t) {A A1 A2 C:List Int} {N N1 N2 M:List Nd} (e1:t.ak=A++A1++C) (e2:t.nodes=N++N1++M) (hl:A.length=N.length) (Ci:A1.length=N1.length) {x:Int} (hx:A1[0]?=some x)
 (h2:TR (HN C none) A2 N2) (h0:A2[0]?=some x∨(A2=[]∧ ¬A=[])) (hn:NE N2) (hn2: ¬A=[]→ ∀n∈N2,¬an n=[]):mK ⟨A++A2++C,N++N2++M⟩:=by
 obtain⟨tr,z,ne⟩:=h;rw[e1,e2,tY,tY] at tr;obtain⟨t1,t2⟩:=TR.split hl tr;obtain⟨t3,t4⟩:=TR.split Ci t2
 have X5:HN (A1++C) none=some x:=by
  cases A1 with
  |nil=>cases hx
  |cons a r=>simpa [HN] using hx
 rw[X5] at t1;rw[e2] at ne;rw[e1] at z;have X6:below x (HN C none):=t3.head x hx;refine⟨?_,?_,?_⟩
 ·show TR none (A++A2++C) (N++N2++M)
  rw[tY,tY];refine TR.app (TR.app t4 h2) (t1.mono fun y hy=> ?_);have hy:y<x:=hy;rcases h0 with h0|⟨h0,_⟩
  ·cases A2 with
   |nil=>cases h0
   |cons a r=>simp only[cR,aY] at h0;subst h0;exact hy
  ·subst h0;exact nJ (Int.le_of_lt hy) X6
 ·show(A++A2++C)[0]?=some 0
  cases A with
  |cons a r=>simpa using z
  |nil=>
   rcases h0 with h0|⟨_,h0⟩
   ·cases A1 with
    |nil=>cases hx
    |cons a r=>
     cases A2 with
     |nil=>cases h0
     |cons b s=>
      simp only[qc,xF,cR,aY] at z hx h0 ⊢;omega
   ·exact absurd rfl h0
 ·show NE (N++N2++M)
  have hM: ∀n∈M,(¬N1=[])→ ¬an n=[]:=fun n hm h1=>ne n (by
   cases N with
   |cons a r=>simp[hm]
   |nil=>
    cases N1 with
    |nil=>exact absurd rfl h1
    |cons b s=>simp[hm])
  have WW: ¬N1=[]:=fun e=>by
   subst e;rw[List.length_eq_zero_iff.1 Ci] at hx;cases hx
  intro n hnm
  cases N with
  |cons a r=>
   have hA: ¬A=[]:=fun e=>by rw[e] at hl;simp at hl
   simp only[xF,List.tail_cons,List.mem_append] at hnm;rcases hnm with(hnm|hnm)|hnm
   ·exact ne n (by simp[hnm])
   ·exact hn2 hA n hnm
   ·exact hM n hnm WW
  |nil=>
   have hA:A=[]:=List.length_eq_zero_iff.1 (by simpa using hl)
   cases N2 with
   |nil=>
    rcases h0 with h0|⟨_,h0⟩
    ·rw[List.length_eq_zero_iff.1 h2.len] at h0;cases h0
    ·exact absurd hA h0
   |cons b s=>
    simp only[qc,xF,List.tail_cons,List.mem_append] at hnm;rcases hnm with hnm|hnm
    ·exact hn n hnm
    ·exact hM n hnm WW
theorem mK.step {t:Tree} (h:mK t) {i:Nat} (hp:g7 t=some i):mK (cF t i)∧aA (cF t i)=aA t:=by
 obtain⟨h1,h2⟩:=lQ hp;have hr:=h.r;have hl:=hr.len;have a1:t.nodes[i]?=some t.nodes[i]:=aV ay;have a2:t.nodes[i+1]?=some t.nodes[i+1]:=aV h1;have b1:t.ak[i]?=some t.ak[i]:=aV ay;have b2:t.ak[i+1]?=some t.ak[i+1]:=aV ay;have en:=KZ a1 a2;have el:=KZ b1 b2;generalize ha:t.nodes[i]=a at*;generalize hb:t.nodes[i+1]=b at*;generalize hx:t.ak[i]=x at*;generalize hy:t.ak[i+1]=y at*;rw[dV a1,dV a2] at h2
 have e1:cF t i=⟨t.ak.take i++[x]++t.ak.drop (i+2),t.nodes.take i++[bG (an a++an b)]++t.nodes.drop (i+2)⟩:=by
  unfold cF ia;rw[dV a1,dV a2,ki,b1];rfl
 have el':t.ak=t.ak.take i++[x,y]++t.ak.drop (i+2):=by simpa using el
 have en':t.nodes=t.nodes.take i++[a,b]++t.nodes.drop (i+2):=by simpa using en
 have hlen:(t.ak.take i).length=(t.nodes.take i).length:=by simp[hl]
 have na:=h.tr.at i x a b1 a1;have nb:=h.tr.at (i+1) y b b2 a2;rw[sF,m0,b2] at na
 have hka: ∀k∈an a,cH k=true∧x≤bM k.b k.a∧bM k.b k.a<y:=fun k hk=>by
  obtain⟨s,hs,hk⟩:=iT hk;exact⟨nH na.1 hs hk,na.2.2 s hs k hk⟩
 have Te: ∀k∈an b,cH k=true∧y≤bM k.b k.a∧below (bM k.b k.a) (HN (t.ak.drop (i+1+1)) none):=fun k hk=>by
  obtain⟨s,hs,hk⟩:=iT hk;exact⟨nH nb.1 hs hk,nb.2.2 s hs k hk⟩
 have hxy:x<y:=na.2.1
 have J6:(an a++an b).Pairwise mE:=List.pairwise_append.2 ⟨jl a,jl b,fun u hu v hv=>by
  have:=hka u hu;have h4:=Te v hv
  exact(zW this.1 h4.1).1 ay⟩
 refine⟨?_,?_⟩
 ·rw[e1]
  refine h.TU el' en' hlen rfl (x:=x) rfl (A2:=[x]) (N2:=[bG (an a++an b)]) ⟨⟨tJ J6 (fun k hk=> ?_) (by rw[cT];omega),?_,fun s hs k hk=> ?_⟩,trivial⟩ (.inl rfl) (OV _) fun hA n hn=> ?_
  ·rcases List.mem_append.1 hk with hk|hk
   ·exact(hka k hk).1
   ·exact(Te k hk).1
  ·exact nJ (Int.le_of_lt hxy) nb.2.1
  ·rcases List.mem_append.1 (xx hs hk) with hk|hk
   ·exact⟨(hka k hk).2.1,nJ (Int.le_of_lt (hka k hk).2.2) nb.2.1⟩
   ·exact⟨by have:=(Te k hk).2.1;omega,(Te k hk).2.2⟩
  ·rw[fo.1 hn,wm J6 fun u hu=>by
    rcases List.mem_append.1 hu with hu|hu<;>exact Bv hu]
   have hi:0<i:=Nat.pos_of_ne_zero fun e=>hA (by subst e;rfl);have:=h.ne a (JO hi a1);intro e;exact this (List.append_eq_nil_iff.1 e).1
 ·rw[e1]
  unfold aA
  conv=>rhs;rw[en']
  simp only[List.flatMap_append,List.flatMap_cons,List.flatMap_nil,mH]
  rw[wm J6 fun u hu=>by
     rcases List.mem_append.1 hu with hu|hu<;>exact Bv hu]
theorem mK.join: ∀(n:Nat) {t:Tree},mK t→t.nodes.length≤n→mK (fM n t)∧aA (fM n t)=aA t∧g7 (fM n t)=none
 |0,t,h,hn=>⟨h,rfl,by
    have:t.nodes.length=0:=by omega
    show g7 t=none
    unfold g7;rw[this];rfl⟩
 |n+1,t,h,hn=>by
  rw[pJ]
  cases hp:g7 t with
  |none=>exact⟨h,rfl,hp⟩
  |some i=>
   obtain⟨h1,h2⟩:=h.step hp;have h3:=oN (lQ hp).1;obtain⟨h4,h5,h6⟩:=mK.join n h1 ay;exact⟨h4,h5.trans h2,h6⟩
theorem JQ {n:Nd} {k y:Key} {s:List Key} (hs:s∈(bw n k).1) (hy:y∈s):y=k∨ ∃s∈n,y∈s:=by
 have hin:s∈eu n k→y=k∨ ∃s∈n,y∈s:=fun hs=>by
  unfold eu at hs
  split at hs
  ·rcases List.mem_append.1 hs with hs|hs
   ·exact .inr ⟨s,hs,hy⟩
   ·rw[fo.1 hs] at hy;exact .inl (fo.1 hy)
  ·rename_i s0 h0
   split at hs
   ·rcases List.mem_or_eq_of_mem_set hs with hs|hs
    ·exact .inr ⟨s,hs,hy⟩
    ·rw[hs] at hy
     rcases yE hy with hy|hy
     ·exact .inr ⟨s0,ew h0,hy⟩
     ·exact .inl hy
   ·rcases List.mem_append.1 hs with hs|hs
    ·exact .inr ⟨s,hs,hy⟩
    ·rw[fo.1 hs] at hy;exact .inl (fo.1 hy)
 unfold bw at hs
 split at hs
 ·exact hin hs
 ·split at hs
  ·exact .inr ⟨s,hs,hy⟩
  ·split at hs
   ·exact tI (xx hs hy)
   ·exact .inr ⟨s,hs,hy⟩
theorem GS {b a:Int} {l:List Nd} (h: ∀q∈l,look (an q) b a=none):look (l.flatMap an) b a=none:=sE fun x hx hs=>by
 obtain⟨q,hq,hx⟩:=List.mem_flatMap.1 hx;have:=h q hq;unfold look at this;rw[List.find?_eq_none] at this;exact this x hx (by unfold yL;simpa using hs)
theorem Fw {t:Tree} {x:Key} (h:x∈aA t): ¬x.k=0:=by
 obtain⟨n,_,hx⟩:=List.mem_flatMap.1 h;exact Bv hx
theorem HP {t:Tree} (b a:Int):(look (aA t) b a).filter jC=look (aA t) b a:=by
 cases h:look (aA t) b a with
 |none=>rfl
 |some x=>
  have:=Fw (Bu h).1;simp[Option.filter,jC,this]
theorem MY {t:Tree} {k:Key} (h:cN t=true) (hk:cH k=true):mK (eP t (dQ t k.b k.a).toNat k)∧aA (eP t (dQ t k.b k.a).toNat k)=ff (bY (aA t) k):=by
 have hw:=OX h;have hr:=hw.r;have hl:=hr.len
 have nL:0≤bM k.b k.a:=by have:=wj hk;rw[tK hk];omega
 unfold dQ;rcases tM (f:=fun x=>decide (x≤bM k.b k.a)) (l:=t.ak) t.ak.length (cc _) with⟨_,h2⟩|⟨i,h1,h2,⟨x,hx,hf⟩,h4⟩
 ·have hpos:=(List.getElem?_eq_some_iff.1 hr.low0).1
  have:=h2 0 0 hpos hr.low0;simp only[decide_eq_false_iff_not] at this;omega
 rw[h1];simp only[r7];have hlo:x≤bM k.b k.a:=uc hf
 have hhi: ∀j y,i<j→t.ak[j]?=some y→bM k.b k.a<y:=fun j y hij hy=>by
  have:=h4 j y hij (List.getElem?_eq_some_iff.1 hy).1 hy;simp only[decide_eq_false_iff_not] at this;omega
 have hi:i<t.nodes.length:=by omega
 have hn:t.nodes[i]?=some t.nodes[i]:=aV hi;generalize hne:t.nodes[i]=n at*
 have el:t.ak=t.ak.take i++[x]++t.ak.drop (i+1):=by simpa using OZ hx
 have en:t.nodes=t.nodes.take i++[n]++t.nodes.drop (i+1):=by simpa using OZ hn
 have nd:=hw.tr.at i x n hx hn
 have hkn:below (bM k.b k.a) (HN (t.ak.drop (i+1)) none):=by
  rw[sF,m0]
  cases hy:t.ak[i+1]? with
  |none=>trivial
  |some y=>exact hhi (i+1) y ay hy
 have hlen:(t.ak.take i).length=(t.nodes.take i).length:=by simp[hl]
 have hgd:t.nodes.getD i []=n:=by rw[ki,hn];rfl
 have X7:t.ak.getD i 0=x:=by rw[ki,hx];rfl
 have hin: ∀y:Key,(y=k∨ ∃s∈n,y∈s)→cH y=true∧x≤bM y.b y.a∧below (bM y.b y.a) (HN (t.ak.drop (i+1)) none):=fun y hy=>by
  rcases hy with rfl|⟨s,hs,hy⟩
  ·exact⟨hk,hlo,hkn⟩
  ·exact⟨nH nd.1 hs hy,nd.2.2 s hs y hy⟩
 have mid: ∃(A2:List Int) (N2:List Nd),eP t i k=⟨t.ak.take i++A2++t.ak.drop (i+1),t.nodes.take i++N2++t.nodes.drop (i+1)⟩∧TR (HN (t.ak.drop (i+1)) none) A2 N2∧(A2[0]?=some x∨(A2=[]∧ ¬t.ak.take i=[]))∧NE N2∧(¬t.ak.take i=[]→ ∀m∈N2,¬an m=[])∧N2.flatMap an=bB n k:=by
  unfold eP;rw[hgd,X7]
  cases hp:(bw n k).2 with
  |true=>
   obtain⟨k1,k2⟩:=HM nd.1 hp;rw[bg rfl];have hA: ¬t.ak.take i=[]→0<i:=fun hA=>Nat.pos_of_ne_zero fun e=>hA (by subst e;rfl)
   by_cases hz:0<i∧(an (bw n k).1).length=0
   ·rw[bg hz]
    refine⟨[],[],rfl,trivial,.inr ⟨rfl,fun e=> ?_⟩,Sq,fun _ m hm=>(by cases hm),?_⟩
    ·have h5:(t.ak.take i).length=i:=by rw[e9];omega
     rw[e] at h5;have h6:=hz.1;have h7:0=i:=h5;omega
    ·rw[←k1,List.length_eq_zero_iff.1 hz.2];rfl
   ·rw[aR hz]
    refine⟨[x],[(bw n k).1],rfl,⟨⟨k2,nJ hlo hkn,fun s hs y hy=>(hin y (JQ hs hy)).2⟩,trivial⟩,.inl rfl,OV _,fun X8 m hm=> ?_,by simp[k1]⟩;rw[fo.1 hm];exact fun e=>hz ⟨hA X8,by rw[e];rfl⟩
  |false=>
   obtain⟨h8,_⟩:=yG nd.1 hk hp;rw[aR cY];have J6:=nr n k;have hall: ∀y∈bB n k,(y=k∨ ∃s∈n,y∈s)∧ ¬y.k=0:=fun y hy=>⟨tI hy,GO hy⟩
   have h9:(bB n k).length≤9:=by
    have h5:=iR n k;have h6:=jm nd.1;omega
   generalize bB n k=L at*;have hh:=HL h8;generalize RK:(L.length+1)/2=AN at*;have hg:L[AN]?=some L[AN]:=aV hh
   have X9:L.getD AN dw=L[AN]:=by rw[ki,hg];rfl
   rw[X9];generalize hm:L[AN]=m at*;have hsplit:=OZ hg
   have J5:L.drop AN=m::L.drop (AN+1):=by rw[vq hh,hm]
   have PF:(L.take AN++L.drop AN).Pairwise mE:=by rw[xH];exact J6
   obtain⟨p1,p2,p3⟩:=List.pairwise_append.1 PF;have Wj:m∈L:=ew hg;have ok1: ∀y∈L,cH y=true∧x≤bM y.b y.a∧below (bM y.b y.a) (HN (t.ak.drop (i+1)) none):=fun y hy=>hin y (hall y hy).1;have lt1: ∀y∈L.take AN,bM y.b y.a<bM m.b m.a:=fun y hy=>(zW (ok1 y (r8 hy)).1 (ok1 m Wj).1).2 (p3 y hy m (by rw[J5];exact .head _))
   have le2: ∀y∈L.drop AN,bM m.b m.a≤bM y.b y.a:=fun y hy=>by
    rw[J5] at hy p2;rcases cz.1 hy with rfl|hy
    ·exact Int.le_refl _
    ·have:=(zW (ok1 m Wj).1 (ok1 y (vu hy)).1).2 ((List.pairwise_cons.1 p2).1 y hy)
     omega
   have k1:an (bG (L.take AN))=L.take AN:=wm p1 fun y hy=>(hall y (r8 hy)).2;have k2:an (bG (L.drop AN))=L.drop AN:=wm p2 fun y hy=>(hall y (vu hy)).2
   have l1:(L.take AN).length=AN:=by rw[e9];omega
   have l2:(L.drop AN).length=L.length-AN:=jy
   have hpos:0<AN:=by omega
   have q1: ∃y,y∈L.take AN:=⟨(L.take AN)[0]'ay,oe _⟩
   have Ya:x<bM m.b m.a:=by
    obtain⟨y,hy⟩:=q1;have h5:=lt1 y hy;have h6:=(ok1 y (r8 hy)).2.1;omega
   have ne1: ¬an (bG (L.take AN))=[]:=fun e=>by rw[k1] at e;have:=congrArg List.length e;rw[l1] at this;simp at this;omega
   have ne2: ¬an (bG (L.drop AN))=[]:=fun e=>by rw[k2] at e;have:=congrArg List.length e;rw[l2] at this;simp at this;omega
   refine⟨[x,bM m.b m.a],[bG (L.take AN),bG (L.drop AN)],rfl,⟨⟨tJ p1 (fun y hy=>(ok1 y (r8 hy)).1) ay,Ya,fun s hs y hy=>⟨(ok1 y (r8 (xx hs hy))).2.1,lt1 y (xx hs hy)⟩⟩,⟨tJ p2 (fun y hy=>(ok1 y (vu hy)).1) ay,(ok1 m Wj).2.2,fun s hs y hy=>⟨le2 y (xx hs hy),(ok1 y (vu (xx hs hy))).2.2⟩⟩,trivial⟩,.inl rfl,fun q hq=> ?_,fun _ q hq=> ?_,?_⟩
   ·simp only[List.tail_cons,fo] at hq
    rw[hq];exact ne2
   ·simp only[cz,List.not_mem_nil,or_false] at hq
    rcases hq with rfl|rfl
    ·exact ne1
    ·exact ne2
   ·simp only[List.flatMap_cons,List.flatMap_nil,mH,k1,k2,xH]
 obtain⟨A2,N2,e0,m1,m2,m3,m4,m5⟩:=mid
 have hW:mK (eP t i k):=by
  rw[e0];exact hw.TU el en hlen rfl (x:=x) rfl m1 m2 m3 m4
 refine⟨hW,EG hW.r.xw ((lP hr.xw).sublist List.filter_sublist) fun b a=> ?_⟩
 have e3:aA (eP t i k)=(t.nodes.take i).flatMap an++bB n k++(t.nodes.drop (i+1)).flatMap an:=by
  rw[e0];unfold aA;simp only[List.flatMap_append,m5]
 have e4:aA t=(t.nodes.take i).flatMap an++an n++(t.nodes.drop (i+1)).flatMap an:=by
  unfold aA
  conv=>lhs;rw[en]
  simp only[List.flatMap_append,List.flatMap_cons,List.flatMap_nil,mH]
 show look (aA (eP t i k)) b a=look ((bY (aA t) k).filter jC) b a;rw[wk (lP hr.xw),qD hr.xw,e3,kO,kO,GP k (nI nd.1)]
 by_cases hs:k.b=b∧k.a=a
 ·obtain⟨rfl,rfl⟩:=hs
  rw[bg ⟨rfl,rfl⟩,bg ⟨rfl,rfl⟩];have hno:=hr.L6 hx hlo hhi
  have f1:look ((t.nodes.take i).flatMap an) k.b k.a=none:=GS fun q hq=>by
   obtain⟨j,hj⟩:=List.mem_iff_getElem?.1 hq
   have RJ:j<i:=by have:=(List.getElem?_eq_some_iff.1 hj).1;rw[e9] at this;omega
   rw[List.getElem?_take_of_lt RJ] at hj;exact hno j q hj ay
  have f2:look ((t.nodes.drop (i+1)).flatMap an) k.b k.a=none:=GS fun q hq=>by
   obtain⟨j,hj⟩:=List.mem_iff_getElem?.1 hq;rw[kE] at hj;exact hno (i+1+j) q hj ay
  rw[f1,f2,Option.none_or,Option.or_none]
 ·rw[aR hs,aR hs,HP,←xu (nI nd.1),e4,kO,kO]
theorem EI {t:Tree} {k:Key} (h:cN t=true) (hk:cH k=true):mK (fM (eP t (dQ t k.b k.a).toNat k).nodes.length (eP t (dQ t k.b k.a).toNat k))∧aA (fM (eP t (dQ t k.b k.a).toNat k).nodes.length (eP t (dQ t k.b k.a).toNat k))=ff (bY (aA t) k)∧
 ((ff (bY (aA t) k)).length≤60→cN (fM (eP t (dQ t k.b k.a).toNat k).nodes.length (eP t (dQ t k.b k.a).toNat k))=true):=by
 obtain⟨h1,h2⟩:=MY h hk;obtain⟨h3,h4,h5⟩:=h1.join _ (cc _);rw[h2] at h4;exact⟨h3,h4,fun Tj=>h3.ok (OY h5 (by rw[h4];exact Tj)) (by rw[h4];exact Tj)⟩
theorem HQ {t:Tree} {k:Key} (h:cN t=true) (hk:cH k=true) (hp:(bk t k).2=true):aA (bk t k).1=ff (bY (aA t) k):=by
 unfold bk at hp ⊢;rw[bg ⟨h,hk⟩] at hp ⊢
 split
 ·exact(EI h hk).2.1
 ·rename_i h1;rw[aR h1] at hp;cases hp
end Go.T
namespace Go.T
end Go.T
namespace Go.T
end Go.T
namespace Go.T
theorem v7.lt: ∀{l:List DD},v7 l→l.Pairwise fun a b=>IG a.name b.name=true
 |[],_=> .nil
 |[a],_=>by simp
 |a::b::r,h=>by
  have ih:=v7.lt (l:=b::r) h.2;refine List.pairwise_cons.2 ⟨fun c hc=> ?_,ih⟩;rcases cz.1 hc with rfl|hc
  ·exact h.1
  ·exact GK h.1 ((List.pairwise_cons.1 ih).1 c hc)
theorem K3:cN ⟨[0],[[]]⟩=true:=by decide+kernel
end Go.T
namespace Go.T
set_option maxRecDepth 100000
end Go.T
namespace Go.T
theorem O0 {b a k c g:Int} (hb:0≤b∧b≤15) (ha:1≤a∧a≤60) (hk:0≤k∧k≤2) (h:(k=1∧0≤c∧c≤23∧0≤g∧g≤999)∨(¬k=1∧c=0∧g=0)):cH ⟨b,a,k,c,g⟩=true:=by
 unfold cH vY;simp only[dm,decide_eq_true_eq];refine⟨⟨⟨hb,ha⟩,hk⟩,?_⟩;rcases h with⟨h1,h2⟩|⟨h1,h2⟩
 ·rw[bg h1];simp only[dm,decide_eq_true_eq];omega
 ·rw[aR h1];simp only[dm,decide_eq_true_eq];exact h2
theorem Qx {x:Key} (h:cH x=true) {b:Int} (hb:0≤b∧b≤15):cH ⟨b,x.a,x.k,x.c,x.g⟩=true:=by
 unfold cH vY at h ⊢;simp only[dm,decide_eq_true_eq] at h ⊢;exact⟨⟨⟨hb,h.1.1.2⟩,h.1.2⟩,h.2⟩
theorem Ce {n:List (List Key)} (h:cE n=true) (k:Key):cE (bw n k).1=true:=by
 unfold bw
 repeat' split
 all_goals first|assumption|exact h
theorem K4 {n:List (List Key)} (h:cE n=true):ax n≤11:=by
 have:=jm h;unfold ax;omega
theorem JR {t:Tree} (h:cN t=true) (k:Key):cN (bk t k).1=true:=by
 cases hp:(bk t k).2 with
 |true=>exact EC hp
 |false=>rw[yJ hp];exact h
theorem HR {t:Tree} {k:Key} (h:cN t=true) (hk:cH k=true):(aA (bk t k).1).length≤(aA t).length+1:=by
 cases hp:(bk t k).2 with
 |true=>
  rw[HQ h hk hp];have h3:(ff (bY (aA t) k)).length≤(bY (aA t) k).length:=IE _ _;have h4:=fA (aA t) k;omega
 |false=>rw[yJ hp];omega
end Go.T
namespace Go.T
variable {C : ic} {f : FuncId} {vs : List TV} {b : List Int}
theorem fQ {P:Int→Prop} {K:Int→RR→Int→Int→Prop} (h:bL C f vs (Dr b fun r=> ∃x,r=vI x∧P x)) (k: ∀x i h,0≤i→P x→K x (b.map hJ) i h):
 ∃(n:Int) (l:List (List TC)) (n2 n3:Int),au C f vs (TV.c (TC.sc (Value.int IntKind.i64 n))) [TV.bx [TC.sub 1 l,TC.sc (Value.int IntKind.i64 n2),TC.sc (Value.int IntKind.i64 n3)]]∧K n l n2 n3:=by
 obtain⟨_,_,hr,i,h',hi,rfl,x,rfl,hx⟩:=h;exact⟨x,_,i,h',hr,k x i h' hi hx⟩
theorem Qy {K:Bool→RR→Int→Int→Prop} (h:bL C f vs (Dr b fun r=> ∃x,r=vB x)) (k: ∀x i h,0≤i→K x (b.map hJ) i h):
 ∃(n:Bool) (l:List (List TC)) (n2 n3:Int),au C f vs (TV.c (TC.sc (Value.bool n))) [TV.bx [TC.sub 1 l,TC.sc (Value.int IntKind.i64 n2),TC.sc (Value.int IntKind.i64 n3)]]∧K n l n2 n3:=by
 obtain⟨_,_,hr,i,h',hi,rfl,x,rfl⟩:=h;exact⟨x,_,i,h',hr,k x i h' hi⟩
theorem rR {P:Key→Prop} {K:Int→Int→Int→Int→Int→RR→Int→Int→Prop} (h:bL C f vs (Dr b fun r=> ∃x,r=TV.ag (bf x)∧P x)) (k: ∀x i h,0≤i→P x→K x.b x.a x.k x.c x.g (b.map hJ) i h):
 ∃(m1 m2 m3 m4 m5:Int) (l:List (List TC)) (n2 n3:Int),au C f vs (TV.ag [TC.sc (Value.int IntKind.i64 m1),TC.sc (Value.int IntKind.i64 m2),TC.sc (Value.int IntKind.i64 m3),TC.sc (Value.int IntKind.i64 m4),TC.sc (Value.int IntKind.i64 m5)]) [TV.bx [TC.sub 1 l,TC.sc (Value.int IntKind.i64 n2),TC.sc (Value.int IntKind.i64 n3)]]∧K m1 m2 m3 m4 m5 l n2 n3:=by
 obtain⟨_,_,hr,i,h',hi,rfl,x,rfl,hx⟩:=h;exact⟨x.b,x.a,x.k,x.c,x.g,_,i,h',hr,k x i h' hi hx⟩
theorem L8 {α:Type} {e:α→List TC} {z:Nat} {P:List α→Prop} {K:RR→RR→Int→Int→Prop} (h:bL C f vs (Dr b fun r=> ∃x:List α,r=TV.c (TC.sub z (x.map e))∧P x)) (k: ∀(x:List α) i h,0≤i→P x→K (x.map e) (b.map hJ) i h):
 ∃(l0 l:List (List TC)) (n2 n3:Int),au C f vs (TV.c (TC.sub z l0)) [TV.bx [TC.sub 1 l,TC.sc (Value.int IntKind.i64 n2),TC.sc (Value.int IntKind.i64 n3)]]∧K l0 l n2 n3:=by
 obtain⟨_,_,hr,i,h',hi,rfl,x,rfl,hx⟩:=h;exact⟨_,_,i,h',hr,k x i h' hi hx⟩
theorem HS {P:List (List Key)→Prop} {K:RR→RR→Int→Int→Prop} (h:bL C f vs (Dr b fun r=> ∃x:List (List Key),r=TV.ag [TC.sub 1 (x.map bH)]∧P x)) (k: ∀(x:List (List Key)) i h,0≤i→P x→K (x.map bH) (b.map hJ) i h):
 ∃(l0 l:List (List TC)) (n2 n3:Int),au C f vs (TV.ag [TC.sub 1 l0]) [TV.bx [TC.sub 1 l,TC.sc (Value.int IntKind.i64 n2),TC.sc (Value.int IntKind.i64 n3)]]∧K l0 l n2 n3:=by
 obtain⟨_,_,hr,i,h',hi,rfl,x,rfl,hx⟩:=h;exact⟨_,_,i,h',hr,k x i h' hi hx⟩
theorem zY {P:Tree→Prop} {K:RR→RR→RR→Int→Int→Prop} (h:bL C f vs (Dr b fun r=> ∃x:Tree,r=cr x∧P x)) (k: ∀(x:Tree) i h,0≤i→P x→K (x.ak.map cA) (x.nodes.map bD) (b.map hJ) i h):
 ∃(l0 l1 l:List (List TC)) (n2 n3:Int),au C f vs (TV.ag [TC.sub 1 l0,TC.sub 1 l1]) [TV.bx [TC.sub 1 l,TC.sc (Value.int IntKind.i64 n2),TC.sc (Value.int IntKind.i64 n3)]]∧K l0 l1 l n2 n3:=by
 obtain⟨_,_,hr,i,h',hi,rfl,x,rfl,hx⟩:=h;exact⟨_,_,_,i,h',hr,k x i h' hi hx⟩
theorem EJ {K:RR→Int→Int→Prop} (h:bL C f vs (fun r fs=>fs=[]∧ ∃h,r=oL b 0 h)) (k: ∀h,K (b.map hJ) 0 h):
 ∃(l:List (List TC)) (n2 n3:Int),au C f vs (TV.bx [TC.sub 1 l,TC.sc (Value.int IntKind.i64 n2),TC.sc (Value.int IntKind.i64 n3)]) []∧K l n2 n3:=by
 obtain⟨_,_,hr,rfl,x,rfl⟩:=h;exact⟨_,_,_,hr,k x⟩
theorem fC {P:TV→Prop} {r:TV} {i h:Int} (hi:0≤i) (hP:P r):Dr b P r [TV.bx [TC.sub 1 (b.map hJ),TC.sc (Value.int IntKind.i64 i),TC.sc (Value.int IntKind.i64 h)]]:=⟨i,h,hi,rfl,hP⟩
end Go.T
