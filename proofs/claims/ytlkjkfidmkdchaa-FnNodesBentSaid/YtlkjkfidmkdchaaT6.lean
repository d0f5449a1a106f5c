import Derived.Test.YtlkjkfidmkdchaaT5
set_option linter.all false
namespace Go.T
def Kj (cf:Cf):Prop:= ∀f vs r fs r' fs',cf f vs r fs→cf f vs r' fs'→r=r'∧fs=fs'
def L5 (lp:Lp):Prop:= ∀f i c st (Q Q':TX→TS→Prop),lp f i c st Q→lp f i c st Q'→ ∃x s,Q x s∧Q' x s
theorem gQ {R:Type} {cf:Cf} {lp:Lp} (hc:Kj cf) (hl:L5 lp) {Q Q':R→Prop}: ∀(e:Ev R),e.holds cf lp Q→e.holds cf lp Q'→ ∃r,Q r∧Q' r
 | .fail,h,_=>h.elim
 | .ret r,h,h'=>⟨r,h,h'⟩
 | .test b k,h,h'=>gQ hc hl (k b) h h'
 | .row rows i k,⟨c,h1,h2⟩,⟨c',xb,Gn⟩=>by
   rw[h1] at xb;cases xb;exact gQ hc hl (k c) h2 Gn
 | .byte rows i k,⟨c,h1,h2⟩,⟨c',xb,Gn⟩=>by
   rw[h1] at xb;cases xb;exact gQ hc hl (k c) h2 Gn
 | .bytes rows k,⟨c,h1,h2⟩,⟨c',xb,Gn⟩=>by
   rw[h1] at xb;cases xb;exact gQ hc hl (k c) h2 Gn
 | .call f vs k,⟨r,fs,h1,h2⟩,⟨r',fs',xb,Gn⟩=>by
   obtain⟨rfl,rfl⟩:=hc _ _ _ _ _ _ h1 xb;exact gQ hc hl (k r fs) h2 Gn
 | .loop f i c st k,h,h'=>by
   obtain⟨x,s,h1,h2⟩:=hl _ _ _ _ _ _ h h';exact gQ hc hl (k x s) h1 h2
 | .both a b,⟨r,h1,h2,h3⟩,⟨r',xb,Gn,JA⟩=>by
   obtain⟨r0,e1,e2⟩:=gQ hc hl a h1 xb;subst e1 e2;exact⟨_,h3,JA⟩
section
variable {C : e7}
theorem DM {cf:Cf} {lp:Lp} (hc:Kj cf) (hl:L5 lp) {fx:List Nat} {f i:Nat} {c:Code} {Q Q':TX→TS→Prop}: ∀(n:Nat) (st:TS),iter C cf lp fx f i c Q n st→iter C cf lp fx f i c Q' n st→ ∃x s,Q x s∧Q' x s
 |0,_,h,_=>h.elim
 |n+1,st,h,h'=>by
  obtain⟨⟨x,s⟩,h1,h2⟩:=gQ hc hl _ h h'
  cases x with
  |norm=>
   simp only at h1 h2;rw[jd] at h1 h2;exact DM hc hl n _ h1 h2
  |ex id=>exact⟨_,_,h1,h2⟩
  |ret=>exact⟨_,_,h1,h2⟩
theorem F3 {cf:Cf} (hc:Kj cf) (k:Nat) (fx:List Nat): ∀n,L5 (Eo C cf k fx n)
 |0=>fun _ _ _ _ _ _ h _=>h.elim
 |n+1=>fun f i c st Q Q' h h'=>DM hc (F3 hc k fx n) k st h h'
theorem vR: ∀k,Kj (dz C k)
 |0=>fun _ _ _ _ _ _ h _=>h.elim
 |k+1=>fun f vs r fs r' fs' h h'=>by
  unfold dz at h h'
  cases hx:C.ext f with
  |some p=>rw[hx] at h h';have h:p vs=some (r,fs):=h;have h':p vs=some (r',fs'):=h';rw[h] at h';cases h';exact⟨rfl,rfl⟩
  |none=>
  rw[hx] at h h';simp only at h h';obtain⟨p,h1,h2⟩:=gQ (vR k) (F3 (vR k) k _ 4) _ h h';rw[h1] at h2
  cases h2
  exact⟨rfl,rfl⟩
theorem ak.Qp {f:FuncId} {vs:List TV} {r r':TV} {fs fs':List TV} (h:ak C f vs r fs) (h':ak C f vs r' fs'):r'=r∧fs'=fs:=by
 obtain⟨k,h⟩:=h;obtain⟨k',h'⟩:=h';obtain⟨h1,h2⟩:=vR (max k k') _ _ _ _ _ _ (fm (AK _ _) h) (fm (Nat.le_max_right _ _) h');exact⟨h1.symm,h2.symm⟩
end
def iH {α:Type} (l:List α) (i:Int):Option α:=if 0≤i then l[i.toNat]? else none
theorem bq {α:Type} (l:List α) (i:Nat):iH l (i:Int)=l[i]?:=by
 unfold iH;rw[aY (Int.natCast_nonneg i),Hh]
theorem Bm {α:Type} {l:List α} {i:Int} (h0:0≤i) (h1:i<l.length): ∃a,iH l i=some a:=by
 unfold iH;rw[aY h0];exact⟨_,aO az⟩
theorem bG {α:Type} (e:α→List TC) (l:List α) (i:Int):rowAt (l.map e) i=(iH l i).map e:=by
 unfold rowAt iH
 split
 ·rw[ei]
 ·rfl
theorem IT {α:Type} {l:List α} {i:Int} {a:α} (h:iH l i=some a):a∈l:=by
 unfold iH at h
 split at h
 ·exact dw h
 ·cases h
def vT {α:Type} (l:List α) (i:Int) (a:α):List α:=l.set i.toNat a
theorem wZ {α:Type} (l:List α) (i:Int) (a:α):(vT l i a).length=l.length:=by unfold vT;simp
theorem w4 {α:Type} {e:α→List TC} {l:List α} {i:Int} {a a':α} {f:Nat} {cs:List TC} (h:iH l i=some a) (he:(e a).take f++cs++(e a).drop (f+cs.length)=e a'):setRow (l.map e) i f cs=(vT l i a').map e:=by
 unfold iH at h
 split at h
 ·unfold setRow vT
  rw[ei,h];simp only[eL,he,List.map_set]
 ·cases h
@[simp] theorem K1 {α:Type} (e:α→List TC) (l:List α) (a b:Int):cF (l.map e) a b=((l.take b.toNat).drop a.toNat).map e:=by
  unfold cF;rw[←CV,←AJ]
theorem lO {rows:List (List TC)} (h: ∀r∈rows,∀c∈r,∃v,c= .sc v):cM rows=true:=by
 unfold cM;rw[List.all_eq_true];intro r hr;rw[List.all_eq_true];intro c hc;obtain⟨v,rfl⟩:=h r hr c hc
 rfl
@[simp] theorem Pn (s:ByteArray):(ByteArray.data s).1.length=s.size:=rfl
@[simp] theorem Ns (l h n:Int):AL l h n=decide (0≤l∧l≤h∧h≤n):=by unfold AL;rfl
end Go.T
namespace Go.T
structure Key where
 b:Int
 a:Int
 k:Int
 c:Int
 g:Int
 deriving DecidableEq
structure EY where
 id:Int
 fr:Int
 deriving DecidableEq
structure Cell where
 g:Int
 u:Bool
 n:Int
 deriving DecidableEq
structure yh where
 name:ByteArray
 Lt:Int
 size:Int
 fx:Bool
structure Mp where
 name:ByteArray
 fx:Bool
 l:List Int
structure Tree where
 cw:List Int
 nodes:List (List (List Key))
structure Nt where
 t:Tree
 KM:List EY
 cells:List Cell
 Qi:List yh
 next:Int
structure Jw where
 kind:Int
 name:ByteArray
 to:ByteArray
 a:Int
 b:Int
abbrev iI (n:Int):TC:= .sc (.int .i64 n)
abbrev iB (b:Bool):TC:= .sc (.bool b)
abbrev iS (s:ByteArray):TC:= .sc (.string s)
abbrev cI (n:Int):CE:= .sc (.int .i64 n)
abbrev cB (b:Bool):CE:= .sc (.bool b)
abbrev cP (a b:Int):Int:=Ef .i64 a b
abbrev cZ (a b:Int):Int:=yu .i64 a b
abbrev vU (a b:Int):Int:=Eg .i64 a b
theorem bQ {a b:Int} (h: -9223372036854775808≤a+b∧a+b≤9223372036854775807):cP a b=a+b:=Kg h
theorem gh {a b:Int} (h: -9223372036854775808≤a-b∧a-b≤9223372036854775807):cZ a b=a-b:=Kh h
theorem Kk {a b:Int} (h: -9223372036854775808≤a*b∧a*b≤9223372036854775807):vU a b=a*b:=Ce h
abbrev RR:=List (List TC)
abbrev QV:=TV→List TV→Prop
abbrev QX:=TX→TS→Prop
abbrev sI:Sh:= .int .i64
abbrev sB:Sh:= .bool
abbrev hz:Hint:= .z
abbrev hb:Hint→Hint→Hint:= .br
abbrev hr:List Sh→Hint→Hint:= .row
abbrev hc:CM→List CM→Hint→Hint:= .call
def tq (n:Int):List TC:=[.sc (.int .i64 n)]
def gi (n:Int):List TC:=[.sc (.int .u8 n)]
def F4 (n:Bool):List TC:=[.sc (.bool n)]
def aT (x:Key):List TC:=[.sc (.int .i64 x.b),.sc (.int .i64 x.a),.sc (.int .i64 x.k),.sc (.int .i64 x.c),.sc (.int .i64 x.g)]
def vV (x:EY):List TC:=[.sc (.int .i64 x.id),.sc (.int .i64 x.fr)]
def pG (x:Cell):List TC:=[.sc (.int .i64 x.g),.sc (.bool x.u),.sc (.int .i64 x.n)]
def qL (x:yh):List TC:=[.sc (.string x.name),.sc (.int .i64 x.Lt),.sc (.int .i64 x.size),.sc (.bool x.fx)]
def F5 (x:Jw):List TC:=[.sc (.int .i64 x.kind),.sc (.string x.name),.sc (.string x.to),.sc (.int .i64 x.a),.sc (.int .i64 x.b)]
def vW (x:Mp):List TC:=[.sc (.string x.name),.sc (.bool x.fx),.sub 1 (x.l.map tq)]
def IU (x:List Int):List TC:=[.sub 1 (x.map gi)]
def aZ (x:List Key):List TC:=[.sub 5 (x.map aT)]
def zk (x:List (List Key)):List TC:=[.sub 1 (x.map aZ)]
abbrev vI (n:Int):TV:= .c (.sc (.int .i64 n))
abbrev vB (b:Bool):TV:= .c (.sc (.bool b))
abbrev vS (s:ByteArray):TV:= .c (.sc (.string s))
abbrev Nu (l:List Int):TV:= .c (.sub 1 (l.map tq))
abbrev nw (l:List Int):TV:= .c (.sub 1 (l.map gi))
abbrev bR (l:List Key):TV:= .c (.sub 5 (l.map aT))
abbrev xh (k:Key):TV:= .ag [.sc (.int .i64 k.b),.sc (.int .i64 k.a),.sc (.int .i64 k.k),.sc (.int .i64 k.c),.sc (.int .i64 k.g)]
abbrev cQ (n:List (List Key)):TV:= .ag [.sub 1 (n.map aZ)]
section
variable {i : Int}
@[simp] theorem Po {l:List Int} {K:Int→Prop}:(∃n,rowAt (l.map tq) i=some [.sc (.int .i64 n)]∧K n)↔ ∃a,iH l i=some a∧K a:=by
  rw[bG]
  constructor
  ·rintro⟨n,h,hK⟩
   obtain⟨a,ha,h⟩:=Option.map_eq_some_iff.1 h;unfold tq at h;cases h;exact⟨_,ha,hK⟩
  ·rintro⟨a,ha,hK⟩
   exact⟨_,by rw[ha];rfl,hK⟩
@[simp] theorem OA {l:List Int} {K:Int→Prop}:(∃n,rowAt (l.map gi) i=some [.sc (.int .u8 n)]∧K n)↔ ∃a,iH l i=some a∧K a:=by
  rw[bG]
  constructor
  ·rintro⟨n,h,hK⟩
   obtain⟨a,ha,h⟩:=Option.map_eq_some_iff.1 h;unfold gi at h;cases h;exact⟨_,ha,hK⟩
  ·rintro⟨a,ha,hK⟩
   exact⟨_,by rw[ha];rfl,hK⟩
@[simp] theorem OC {l:List Bool} {K:Bool→Prop}:(∃n,rowAt (l.map F4) i=some [.sc (.bool n)]∧K n)↔ ∃a,iH l i=some a∧K a:=by
  rw[bG]
  constructor
  ·rintro⟨n,h,hK⟩
   obtain⟨a,ha,h⟩:=Option.map_eq_some_iff.1 h;unfold F4 at h;cases h;exact⟨_,ha,hK⟩
  ·rintro⟨a,ha,hK⟩
   exact⟨_,by rw[ha];rfl,hK⟩
@[simp] theorem ke {l:List Key} {K:Int→Int→Int→Int→Int→Prop}:(∃b a k c g,rowAt (l.map aT) i=some [.sc (.int .i64 b),.sc (.int .i64 a),.sc (.int .i64 k),.sc (.int .i64 c),.sc (.int .i64 g)]∧K b a k c g)↔ ∃x,iH l i=some x∧K x.b x.a x.k x.c x.g:=by
  rw[bG]
  constructor
  ·rintro⟨_,_,_,_,_,h,hK⟩
   obtain⟨a,ha,h⟩:=Option.map_eq_some_iff.1 h;unfold aT at h;cases h;exact⟨_,ha,hK⟩
  ·rintro⟨a,ha,hK⟩
   exact⟨_,_,_,_,_,by rw[ha];rfl,hK⟩
@[simp] theorem Pp {l:List EY} {K:Int→Int→Prop}:(∃b a,rowAt (l.map vV) i=some [.sc (.int .i64 b),.sc (.int .i64 a)]∧K b a)↔ ∃x,iH l i=some x∧K x.id x.fr:=by
  rw[bG]
  constructor
  ·rintro⟨_,_,h,hK⟩
   obtain⟨a,ha,h⟩:=Option.map_eq_some_iff.1 h;unfold vV at h;cases h;exact⟨_,ha,hK⟩
  ·rintro⟨a,ha,hK⟩
   exact⟨_,_,by rw[ha];rfl,hK⟩
@[simp] theorem OD {l:List Cell} {K:Int→Bool→Int→Prop}:(∃g u n,rowAt (l.map pG) i=some [.sc (.int .i64 g),.sc (.bool u),.sc (.int .i64 n)]∧K g u n)↔ ∃x,iH l i=some x∧K x.g x.u x.n:=by
  rw[bG]
  constructor
  ·rintro⟨_,_,_,h,hK⟩
   obtain⟨a,ha,h⟩:=Option.map_eq_some_iff.1 h;unfold pG at h;cases h;exact⟨_,ha,hK⟩
  ·rintro⟨a,ha,hK⟩
   exact⟨_,_,_,by rw[ha];rfl,hK⟩
@[simp] theorem Pq {l:List yh} {K:ByteArray→Int→Int→Bool→Prop}:(∃s a z f,rowAt (l.map qL) i=some [.sc (.string s),.sc (.int .i64 a),.sc (.int .i64 z),.sc (.bool f)]∧K s a z f)↔ ∃x,iH l i=some x∧K x.name x.Lt x.size x.fx:=by
  rw[bG]
  constructor
  ·rintro⟨_,_,_,_,h,hK⟩
   obtain⟨a,ha,h⟩:=Option.map_eq_some_iff.1 h;unfold qL at h;cases h;exact⟨_,ha,hK⟩
  ·rintro⟨a,ha,hK⟩
   exact⟨_,_,_,_,by rw[ha];rfl,hK⟩
@[simp] theorem Qq {l:List Jw} {K:Int→ByteArray→ByteArray→Int→Int→Prop}:(∃k s t a b,rowAt (l.map F5) i=some [.sc (.int .i64 k),.sc (.string s),.sc (.string t),.sc (.int .i64 a),.sc (.int .i64 b)]∧K k s t a b)↔ ∃x,iH l i=some x∧K x.kind x.name x.to x.a x.b:=by
  rw[bG]
  constructor
  ·rintro⟨_,_,_,_,_,h,hK⟩
   obtain⟨a,ha,h⟩:=Option.map_eq_some_iff.1 h;unfold F5 at h;cases h;exact⟨_,ha,hK⟩
  ·rintro⟨a,ha,hK⟩
   exact⟨_,_,_,_,_,by rw[ha];rfl,hK⟩
@[simp] theorem Pt {l:List Mp} {K:ByteArray→Bool→List (List TC)→Prop}:(∃s f r,rowAt (l.map vW) i=some [.sc (.string s),.sc (.bool f),.sub 1 r]∧K s f r)↔ ∃x,iH l i=some x∧K x.name x.fx (x.l.map tq):=by
  rw[bG]
  constructor
  ·rintro⟨_,_,_,h,hK⟩
   obtain⟨a,ha,h⟩:=Option.map_eq_some_iff.1 h;unfold vW at h;cases h;exact⟨_,ha,hK⟩
  ·rintro⟨a,ha,hK⟩
   exact⟨_,_,_,by rw[ha];rfl,hK⟩
@[simp] theorem lP {l:List (List Key)} {K:List (List TC)→Prop}:(∃r,rowAt (l.map aZ) i=some [.sub 5 r]∧K r)↔ ∃x,iH l i=some x∧K (x.map aT):=by
  rw[bG]
  constructor
  ·rintro⟨_,h,hK⟩
   obtain⟨a,ha,h⟩:=Option.map_eq_some_iff.1 h;unfold aZ at h;cases h;exact⟨_,ha,hK⟩
  ·rintro⟨a,ha,hK⟩
   exact⟨_,by rw[ha];rfl,hK⟩
@[simp] theorem OE {l:List (List (List Key))} {K:List (List TC)→Prop}:(∃r,rowAt (l.map zk) i=some [.sub 1 r]∧K r)↔ ∃x,iH l i=some x∧K (x.map aZ):=by
  rw[bG]
  constructor
  ·rintro⟨_,h,hK⟩
   obtain⟨a,ha,h⟩:=Option.map_eq_some_iff.1 h;unfold zk at h;cases h;exact⟨_,ha,hK⟩
  ·rintro⟨a,ha,hK⟩
   exact⟨_,by rw[ha];rfl,hK⟩
@[simp] theorem Nv {l:List (List Int)} {K:List (List TC)→Prop}:(∃r,rowAt (l.map IU) i=some [.sub 1 r]∧K r)↔ ∃x,iH l i=some x∧K (x.map gi):=by
  rw[bG]
  constructor
  ·rintro⟨_,h,hK⟩
   obtain⟨a,ha,h⟩:=Option.map_eq_some_iff.1 h;unfold IU at h;cases h;exact⟨_,ha,hK⟩
  ·rintro⟨a,ha,hK⟩
   exact⟨_,by rw[ha];rfl,hK⟩
end
@[simp] theorem natAdd (a b:Nat):Nat.add a b=a+b:=rfl
@[simp] theorem OF {α:Type} (a b:List α):List.append a b=a++b:=rfl
theorem GX (l:List Int):cM (l.map tq)=true:=lO fun r hr c hc=>by
 obtain⟨a,_,rfl⟩:=List.mem_map.1 hr;unfold tq at hc;simp only[eG] at hc;exact⟨_,hc⟩
theorem EZ (l:List Int):cM (l.map gi)=true:=lO fun r hr c hc=>by
 obtain⟨a,_,rfl⟩:=List.mem_map.1 hr;unfold gi at hc;simp only[eG] at hc;exact⟨_,hc⟩
theorem iQ (l:List Key):cM (l.map aT)=true:=lO fun r hr c hc=>by
 obtain⟨a,_,rfl⟩:=List.mem_map.1 hr;unfold aT at hc;simp only[bC,List.not_mem_nil,or_false] at hc;rcases hc with h|h|h|h|h<;>exact⟨_,h⟩
theorem Bn (l:List EY):cM (l.map vV)=true:=lO fun r hr c hc=>by
 obtain⟨a,_,rfl⟩:=List.mem_map.1 hr;unfold vV at hc;simp only[bC,List.not_mem_nil,or_false] at hc;rcases hc with h|h<;>exact⟨_,h⟩
theorem E0 (l:List Cell):cM (l.map pG)=true:=lO fun r hr c hc=>by
 obtain⟨a,_,rfl⟩:=List.mem_map.1 hr;unfold pG at hc;simp only[bC,List.not_mem_nil,or_false] at hc;rcases hc with h|h|h<;>exact⟨_,h⟩
theorem Bo (l:List yh):cM (l.map qL)=true:=lO fun r hr c hc=>by
 obtain⟨a,_,rfl⟩:=List.mem_map.1 hr;unfold qL at hc;simp only[bC,List.not_mem_nil,or_false] at hc;rcases hc with h|h|h|h<;>exact⟨_,h⟩
@[simp] theorem Pu (v:Value):cM [[.sc v]]=true:=lO fun r hr c hc=>by
  simp only[eG] at hr;subst hr;simp only[eG] at hc;exact⟨_,hc⟩
attribute [simp] GX EZ iQ Bn E0 Bo
end Go.T
namespace Go.T
theorem Bp {α:Type} (g:α→α): ∀(l:List α) (i:Nat) (a:α),l[i]?=some a→l.modify i g=l.set i (g a)
 |[],i,a,h=>by simp at h
 |x::r,0,a,h=>by simp only[bK,aE] at h;subst h;rfl
 |x::r,i+1,a,h=>by
  simp only[ju] at h;rw[List.modify_succ_cons,List.set_cons_succ,Bp g r i a h]
theorem aI {α:Type} {e:α→List TC} {l:List α} {i:Int} {f:Nat} {cs:List TC} {g:α→α} (he: ∀a,(e a).take f++cs++(e a).drop (f+cs.length)=e (g a)):setRow (l.map e) i f cs=(l.modify i.toNat g).map e:=by
 unfold setRow;rw[ei]
 cases h:l[i.toNat]? with
 |none=>
  have:l.length≤i.toNat:=List.getElem?_eq_none_iff.1 h;simp only[Option.map_none];rw[List.modify_eq_self this]
 |some a=>
  simp only[eL];rw[he,Bp g l _ a h,List.map_set]
@[simp] theorem Nw {l:List Key} {i:Int} {v:Int}:setRow (l.map aT) i 0 [.sc (.int .i64 v)]=(l.modify i.toNat fun x=>{x with b:=v}).map aT:=aI fun a=>rfl
@[simp] theorem Nx {l:List Key} {i:Int} {v:Int}:setRow (l.map aT) i 1 [.sc (.int .i64 v)]=(l.modify i.toNat fun x=>{x with a:=v}).map aT:=aI fun a=>rfl
@[simp] theorem Ny {l:List Key} {i:Int} {v:Int}:setRow (l.map aT) i 2 [.sc (.int .i64 v)]=(l.modify i.toNat fun x=>{x with k:=v}).map aT:=aI fun a=>rfl
@[simp] theorem Nz {l:List Key} {i:Int} {v:Int}:setRow (l.map aT) i 3 [.sc (.int .i64 v)]=(l.modify i.toNat fun x=>{x with c:=v}).map aT:=aI fun a=>rfl
@[simp] theorem NA {l:List Key} {i:Int} {v:Int}:setRow (l.map aT) i 4 [.sc (.int .i64 v)]=(l.modify i.toNat fun x=>{x with g:=v}).map aT:=aI fun a=>rfl
@[simp] theorem Pv {l:List Key} {i:Int} {v0:Int} {v1:Int} {v2:Int} {v3:Int} {v4:Int}:setRow (l.map aT) i 0 [.sc (.int .i64 v0),.sc (.int .i64 v1),.sc (.int .i64 v2),.sc (.int .i64 v3),.sc (.int .i64 v4)]=(l.modify i.toNat fun _=>⟨v0,v1,v2,v3,v4⟩).map aT:=aI fun a=>rfl
@[simp] theorem MH {l:List EY} {i:Int} {v:Int}:setRow (l.map vV) i 0 [.sc (.int .i64 v)]=(l.modify i.toNat fun x=>{x with id:=v}).map vV:=aI fun a=>rfl
@[simp] theorem MI {l:List EY} {i:Int} {v:Int}:setRow (l.map vV) i 1 [.sc (.int .i64 v)]=(l.modify i.toNat fun x=>{x with fr:=v}).map vV:=aI fun a=>rfl
@[simp] theorem Pw {l:List EY} {i:Int} {v0:Int} {v1:Int}:setRow (l.map vV) i 0 [.sc (.int .i64 v0),.sc (.int .i64 v1)]=(l.modify i.toNat fun _=>⟨v0,v1⟩).map vV:=aI fun a=>rfl
@[simp] theorem MJ {l:List Cell} {i:Int} {v:Int}:setRow (l.map pG) i 0 [.sc (.int .i64 v)]=(l.modify i.toNat fun x=>{x with g:=v}).map pG:=aI fun a=>rfl
@[simp] theorem MK {l:List Cell} {i:Int} {v:Bool}:setRow (l.map pG) i 1 [.sc (.bool v)]=(l.modify i.toNat fun x=>{x with u:=v}).map pG:=aI fun a=>rfl
@[simp] theorem ML {l:List Cell} {i:Int} {v:Int}:setRow (l.map pG) i 2 [.sc (.int .i64 v)]=(l.modify i.toNat fun x=>{x with n:=v}).map pG:=aI fun a=>rfl
@[simp] theorem OG {l:List Cell} {i:Int} {v0:Int} {v1:Bool} {v2:Int}:setRow (l.map pG) i 0 [.sc (.int .i64 v0),.sc (.bool v1),.sc (.int .i64 v2)]=(l.modify i.toNat fun _=>⟨v0,v1,v2⟩).map pG:=aI fun a=>rfl
@[simp] theorem K2 {l:List yh} {i:Int} {v:ByteArray}:setRow (l.map qL) i 0 [.sc (.string v)]=(l.modify i.toNat fun x=>{x with name:=v}).map qL:=aI fun a=>rfl
@[simp] theorem L6 {l:List yh} {i:Int} {v:Int}:setRow (l.map qL) i 1 [.sc (.int .i64 v)]=(l.modify i.toNat fun x=>{x with Lt:=v}).map qL:=aI fun a=>rfl
@[simp] theorem K3 {l:List yh} {i:Int} {v:Int}:setRow (l.map qL) i 2 [.sc (.int .i64 v)]=(l.modify i.toNat fun x=>{x with size:=v}).map qL:=aI fun a=>rfl
@[simp] theorem MM {l:List yh} {i:Int} {v:Bool}:setRow (l.map qL) i 3 [.sc (.bool v)]=(l.modify i.toNat fun x=>{x with fx:=v}).map qL:=aI fun a=>rfl
@[simp] theorem Px {l:List yh} {i:Int} {v0:ByteArray} {v1:Int} {v2:Int} {v3:Bool}:setRow (l.map qL) i 0 [.sc (.string v0),.sc (.int .i64 v1),.sc (.int .i64 v2),.sc (.bool v3)]=(l.modify i.toNat fun _=>⟨v0,v1,v2,v3⟩).map qL:=aI fun a=>rfl
@[simp] theorem L7 {l:List Jw} {i:Int} {v:Int}:setRow (l.map F5) i 0 [.sc (.int .i64 v)]=(l.modify i.toNat fun x=>{x with kind:=v}).map F5:=aI fun a=>rfl
@[simp] theorem L8 {l:List Jw} {i:Int} {v:ByteArray}:setRow (l.map F5) i 1 [.sc (.string v)]=(l.modify i.toNat fun x=>{x with name:=v}).map F5:=aI fun a=>rfl
@[simp] theorem NC {l:List Jw} {i:Int} {v:ByteArray}:setRow (l.map F5) i 2 [.sc (.string v)]=(l.modify i.toNat fun x=>{x with to:=v}).map F5:=aI fun a=>rfl
@[simp] theorem OH {l:List Jw} {i:Int} {v:Int}:setRow (l.map F5) i 3 [.sc (.int .i64 v)]=(l.modify i.toNat fun x=>{x with a:=v}).map F5:=aI fun a=>rfl
@[simp] theorem OI {l:List Jw} {i:Int} {v:Int}:setRow (l.map F5) i 4 [.sc (.int .i64 v)]=(l.modify i.toNat fun x=>{x with b:=v}).map F5:=aI fun a=>rfl
@[simp] theorem Qs {l:List Jw} {i:Int} {v0:Int} {v1:ByteArray} {v2:ByteArray} {v3:Int} {v4:Int}:setRow (l.map F5) i 0 [.sc (.int .i64 v0),.sc (.string v1),.sc (.string v2),.sc (.int .i64 v3),.sc (.int .i64 v4)]=(l.modify i.toNat fun _=>⟨v0,v1,v2,v3,v4⟩).map F5:=aI fun a=>rfl
@[simp] theorem K4 {l:List Mp} {i:Int} {v:ByteArray}:setRow (l.map vW) i 0 [.sc (.string v)]=(l.modify i.toNat fun x=>{x with name:=v}).map vW:=aI fun a=>rfl
@[simp] theorem MN {l:List Mp} {i:Int} {v:Bool}:setRow (l.map vW) i 1 [.sc (.bool v)]=(l.modify i.toNat fun x=>{x with fx:=v}).map vW:=aI fun a=>rfl
@[simp] theorem ND {l:List Mp} {i:Int} {v:List Int}:setRow (l.map vW) i 2 [.sub 1 (v.map tq)]=(l.modify i.toNat fun x=>{x with l:=v}).map vW:=aI fun a=>rfl
@[simp] theorem Py {l:List Mp} {i:Int} {v0:ByteArray} {v1:Bool} {v2:List Int}:setRow (l.map vW) i 0 [.sc (.string v0),.sc (.bool v1),.sub 1 (v2.map tq)]=(l.modify i.toNat fun _=>⟨v0,v1,v2⟩).map vW:=aI fun a=>rfl
@[simp] theorem Pz {l:List (Int)} {i:Int} {v:Int}:setRow (l.map tq) i 0 [.sc (.int .i64 v)]=(l.modify i.toNat fun _=>v).map tq:=aI fun a=>rfl
@[simp] theorem OJ {l:List (Int)} {i:Int} {v:Int}:setRow (l.map gi) i 0 [.sc (.int .u8 v)]=(l.modify i.toNat fun _=>v).map gi:=aI fun a=>rfl
@[simp] theorem OK {l:List (Bool)} {i:Int} {v:Bool}:setRow (l.map F4) i 0 [.sc (.bool v)]=(l.modify i.toNat fun _=>v).map F4:=aI fun a=>rfl
@[simp] theorem PA {l:List (List Key)} {i:Int} {v:List Key}:setRow (l.map aZ) i 0 [.sub 5 (v.map aT)]=(l.modify i.toNat fun _=>v).map aZ:=aI fun a=>rfl
@[simp] theorem OL {l:List (List (List Key))} {i:Int} {v:List (List Key)}:setRow (l.map zk) i 0 [.sub 1 (v.map aZ)]=(l.modify i.toNat fun _=>v).map zk:=aI fun a=>rfl
end Go.T
namespace Go.T
theorem dj {α:Type} (l:List α) (P:Nat→Prop) (fin:P l.length) (step: ∀i a,i<l.length→l[i]?=some a→l.drop i=a::l.drop (i+1)→l.take (i+1)=l.take i++[a]→P (i+1)→P i):P 0:=by
 have: ∀k i,i+k=l.length→P i:=by
  intro k
  induction k with
  |zero=>intro i h;have:i=l.length:=by omega
         subst this;exact fin
  |succ k ih=>
   intro i h
   have hi:i<l.length:=by omega
   refine step i l[i] hi (aO hi) (CU hi) ?_ (ih (i+1) az);rw[List.take_add_one,aO hi];rfl
 exact this l.length 0 az
def tot {α:Type} (w:α→Nat):List α→Nat
 |[]=>0
 |a::r=>w a+tot w r
theorem uJ {α:Type} {w:α→Nat}: ∀{l:List α} {a:α},a∈l→w a≤tot w l
 |[],_,h=>by cases h
 |b::r,a,h=>by
  simp only[tot];rcases bC.1 h with rfl|h
  ·omega
  ·have:=uJ (w:=w) h;omega
theorem Ch {α:Type} {w:α→Nat} {l:List α} {i:Nat} {a:α} (h:l[i]?=some a):w a≤tot w l:=uJ (dw h)
def bg (s:List Key):Nat:=s.length
def cT (n:List (List Key)):Nat:=n.length+tot bg n
end Go.T
namespace Go.T
section
variable {C : e7} {f : FuncId} {vs : List TV}
theorem Ai {x b:Bool} (h:ak C f vs (vB x) []):ak C f vs (vB b) []↔b=x:=⟨fun h'=>by have:=(h.Qp h').1;simpa using this,fun e=>e▸h⟩
theorem GY {z:Nat} {x b:RR} (h:ak C f vs (.c (.sub z x)) []):ak C f vs (.c (.sub z b)) []↔b=x:=⟨fun h'=>by have:=(h.Qp h').1;simpa using this,fun e=>e▸h⟩
end
def zl (a lo hi:Int):Bool:=decide (lo≤a∧a≤hi)
def c7 (x:Key):Bool:=zl x.b 0 15&&zl x.a 1 60&&zl x.k 0 2&&(if x.k=1 then zl x.c 0 23&&zl x.g 0 999 else decide (x.c=0)&&decide (x.g=0))
def bw (x y:Key):Bool:=decide (x.b<y.b∨(x.b=y.b∧x.a<y.a))
def dJ (x y:Key):Bool:=decide (x.b=y.b∧x.a=y.a)
def iV (n:Nat) (f:Nat→Bool):Bool:=(List.range' 0 n).all f
theorem E1 {i n:Nat} (h:i<n):List.range' i (n-i)=i::List.range' (i+1) (n-(i+1)):=by
 obtain⟨k,hk⟩: ∃k,n-i=k+1:=⟨n-i-1,by omega⟩;rw[hk,show n-(i+1)=k by omega]
 rfl
theorem IV (n:Nat) (P:Nat→Prop) (fin:P n) (step: ∀i,i<n→P (i+1)→P i):P 0:=by
 have: ∀k i,i+k=n→P i:=by
  intro k
  induction k with
  |zero=>intro i h;have:i=n:=by omega
         subst this;exact fin
  |succ k ih=>intro i h;exact step i az (ih (i+1) az)
 exact this n 0 az
theorem F6 {α:Type} (f g:α→Bool): ∀l:List α,l.all (fun x=>f x&&g x)=(l.all f&&l.all g)
 |[]=>rfl
 |a::r=>by simp only[tV,F6 f g r];cases f a<;>cases g a<;>simp
theorem IW (n:Nat) (f g:Nat→Bool):iV n (fun i=>f i&&g i)=(iV n f&&iV n g):=F6 f g _
theorem uK {n:Nat} {f:Nat→Bool}:iV n f=true↔ ∀i,i<n→f i=true:=by
 unfold iV;rw[List.all_eq_true]
 constructor
 ·intro h i hi;exact h i (by simp[List.mem_range'];exact hi)
 ·intro h i hi
  simp[List.mem_range'] at hi;exact h i hi
def MO {α:Type} (l:List α) (f:α→Bool) (i:Nat):Bool:=match l[i]? with|some a=>f a|none=>true
def fh {α:Type} (l:List α) (f:α→α→Bool):Nat→Bool
 |0=>true
 |k+1=>match l[k]?,l[k+1]? with|some x,some y=>f x y|_,_=>true
theorem Kl {α:Type} (l:List α) (f:α→Bool):iV l.length (MO l f)=l.all f:=by
 rw[Bool.eq_iff_iff,uK,List.all_eq_true]
 constructor
 ·intro h a ha
  obtain⟨i,hi,rfl⟩:=List.getElem_of_mem ha;have:=h i hi;simpa [MO,hi] using this
 ·intro h i hi
  simp only[MO,aO hi];exact h _ (qo hi)
def eJ (l:List Key) (i:Nat):Bool:=MO l c7 i&&fh l bw i
def pH (l:List Key):Bool:=iV l.length (eJ l)&&decide (l.length≤60)
theorem uL (l:List Key):pH l=(l.all c7&&(iV l.length (fh l bw)&&decide (l.length≤60))):=by
 rw[←Bool.and_assoc,←Kl,←IW];rfl
def oS:Key:=⟨0,0,0,0,0⟩
def setAt (l:List Key) (b a:Int):Option Key:=l.find? fun x=>decide (x.b=b∧x.a=a)
def bI (k:Key):Bool→List Key→List Key
 |put,[]=>if put then [] else [k]
 |put,x::r=>(if !put&& !bw x k then [k] else [])++(if dJ x k then [] else [x])++bI k (put|| !bw x k) r
def cj (l:List Key) (k:Key):List Key:=bI k false l
theorem w5 (k:Key): ∀(l:List Key) (put:Bool),(bI k put l).length≤l.length+(if put then 0 else 1)
 |[],put=>by simp only[bI];split<;>simp
 |x::r,put=>by
  have:=w5 k r (put|| !bw x k);simp only[bI,cE,dL]
  have h1:(if dJ x k then([]:List Key) else [x]).length≤1:=by split<;>simp
  revert h1
  generalize (if dJ x k then([]:List Key) else [x])=m;intro h1
  cases put<;>cases hk:bw x k<;>simp[hk] at this ⊢ <;>omega
theorem gG (l:List Key) (k:Key):(cj l k).length≤l.length+1:=by have:=w5 k l false;simpa [cj] using this
def aG (old new:List Key):List Key:=new.foldl cj old
theorem jR: ∀(new old:List Key),(aG old new).length≤old.length+new.length
 |[],old=>by simp[aG]
 |x::r,old=>by
  have:=jR r (cj old x);have h2:=gG old x;simp only[aG,List.foldl_cons,dL] at this ⊢;omega
def fj (l:List Key):List Key:=l.filter fun k=> !decide (k.k=0)
def iR (n:List (List Key)):List Key:=n.foldl aG []
def aC (n:List (List Key)):List Key:=fj (iR n)
theorem pI: ∀(n:List (List Key)) (a:List Key),(n.foldl aG a).length≤a.length+tot bg n
 |[],a=>by simp[tot]
 |s::r,a=>by
  have:=pI r (aG a s);have h2:=jR s a;simp only[List.foldl_cons,tot,bg] at this ⊢;omega
theorem fu (n:List (List Key)):(aC n).length≤tot bg n:=by
 have h1:=pI n [];have h2:=KO (fun k:Key=> !decide (k.k=0)) (iR n);simp only[List.length_nil,eK] at h1;exact kr h2 h1
def aR (n:List (List Key)):Nat:=tot bg n
def cK (n:List (List Key)):Bool:=n.all (fun s=>pH s&& !decide (s.length=0))&&decide (n.length≤3)&&decide (aR n≤8)
def cm (l:List Key):List (List Key):=if l.length=0 then [] else [l]
def j5 (t:Tree):List Key:=t.nodes.flatMap aC
def L9 (t:Tree) (b:Int):List Key:=(j5 t).filter fun k=>decide (k.b=b)
def eR (b a:Int):Int:=cP (vU 64 b) a
def NF {α:Type} (p:α→Bool):List α→Int→Int
 |[],_=> -1
 |a::r,i=>if p a then i else NF p r (i+1)
def K5 (l:List EY) (id:Int):Int:=NF (fun a=>decide (a.id=id)) l 0
def K6 (l:List EY):Nat→Int→List Int
 |0,_=>[]
 |n+1,id=>if K5 l id<0 then [] else id::(match iH l (K5 l id) with|some a=>K6 l n a.fr|none=>[])
def pathOf (l:List EY) (id:Int):List Int:=K6 l (l.length+1) id
def PB (l:List Int) (n:Int):Bool:=l.any fun a=>decide (a=n)
def NG (path:List Int):Key×Bool→Key→Key×Bool:=fun p k=>if PB path k.a&&(!p.2||decide (p.1.a<k.a)) then(k,true) else p
def near (keys:List Key) (path:List Int):Key×Bool:=keys.foldl (NG path) (oS,false)
def F7 (t:Tree) (l:List EY) (b id:Int):Key×Bool:=near (L9 t b) (pathOf l id)
abbrev Jx (p:Key×Bool):TV:= .tu [(1,[iI p.1.b,iI p.1.a,iI p.1.k,iI p.1.c,iI p.1.g]),(0,[iB p.2])]
def cellAt (l:List Cell) (i gen:Int):Int×Bool:=match iH l i with
 |none=>(0,false)
 |some c=>if c.u=true∧c.g=gen then(c.n,true) else(0,false)
@[simp] theorem rS {l:List Key} {b a k c g:Int}:List.append (l.map aT) [[iI b,iI a,iI k,iI c,iI g]]=(l++[(⟨b,a,k,c,g⟩:Key)]).map aT:=by simp[aT]
@[simp] theorem OM {l:List Int} {b:Int}:List.append (l.map tq) [[iI b]]=(l++[b]).map tq:=by simp[tq]
@[simp] theorem NH {l:List Int} {b:Int}:List.append (l.map gi) [[.sc (.int .u8 b)]]=(l++[b]).map gi:=by simp[gi]
@[simp] theorem ON {l:List EY} {b a:Int}:List.append (l.map vV) [[iI b,iI a]]=(l++[(⟨b,a⟩:EY)]).map vV:=by simp[vV]
@[simp] theorem OO {l:List yh} {s:ByteArray} {b a:Int} {q:Bool}:List.append (l.map qL) [[iS s,iI b,iI a,iB q]]=(l++[(⟨s,b,a,q⟩:yh)]).map qL:=by simp[qL]
@[simp] theorem OP {l:List (List Key)} {s:List Key}:List.append (l.map aZ) [[.sub 5 (s.map aT)]]=(l++[s]).map aZ:=by simp[aZ]
@[simp] theorem NI {l:List (List (List Key))} {s:List (List Key)}:List.append (l.map zk) [[.sub 1 (s.map aZ)]]=(l++[s]).map zk:=by simp[zk]
@[simp] theorem OQ {l:List Mp} {s:ByteArray} {f:Bool} {r:List Int}:List.append (l.map vW) [[iS s,iB f,.sub 1 (r.map tq)]]=(l++[(⟨s,f,r⟩:Mp)]).map vW:=by simp[vW]
@[simp] theorem NJ {α:Type} {e:α→List TC} {l m:List α}:List.append (l.map e) (m.map e)=(l++m).map e:=by simp
@[simp] theorem NK:([]:RR)=([]:List Key).map aT↔True:=by simp
@[simp] theorem dS {α:Type} (l:List α):Nat.succ (List.length l)=l.length+1:=rfl
theorem iJ (b a k c g:Int):cM [[iI b,iI a,iI k,iI c,iI g]]=true:=iQ [⟨b,a,k,c,g⟩]
theorem E2 (b a:Int):cM [[iI b,iI a]]=true:=Bn [⟨b,a⟩]
theorem E3 (s:ByteArray) (b a:Int) (q:Bool):cM [[iS s,iI b,iI a,iB q]]=true:=Bo [⟨s,b,a,q⟩]
attribute [simp] iJ E2 E3
@[simp] theorem ez (k:Key):(⟨k.b,k.a,k.k,k.c,k.g⟩:Key)=k:=rfl
@[simp] theorem jh (k:EY):(⟨k.id,k.fr⟩:EY)=k:=rfl
@[simp] theorem gH (k:Cell):(⟨k.g,k.u,k.n⟩:Cell)=k:=rfl
@[simp] theorem ji (k:yh):(⟨k.name,k.Lt,k.size,k.fx⟩:yh)=k:=rfl
@[simp] theorem jj (k:Mp):(⟨k.name,k.fx,k.l⟩:Mp)=k:=rfl
@[simp] theorem lQ (k:Jw):(⟨k.kind,k.name,k.to,k.a,k.b⟩:Jw)=k:=rfl
theorem gJ {n b:Nat} (h:n*b≤140737488355328∧n≤140737488355328):fits n b=true:=by rw[Kf];exact Hl h
end Go.T
namespace Go.T
def bk (s:List Key):Bool:=pH s&& !decide (s.length=0)
theorem Bq (n:List (List Key)):cK n=(n.all bk&&(decide (n.length≤3)&&decide (aR n≤8))):=by
 unfold cK;rw[Bool.and_assoc];rfl
def IX (cw:List Int) (i:Nat) (x:Int):Bool:=match cw[i]? with
 |some lo=> !decide (x<lo)&&(match cw[i+1]? with|some hi=>decide (x<hi)|none=>true)
 |none=>true
def Br (cw:List Int) (i:Nat) (k:Key):Bool:=IX cw i (eR k.b k.a)
def GZ (cw:List Int) (i:Nat) (s:List Key):Bool:=s.all (Br cw i)
def DN (t:Tree) (i:Nat):Bool:=fh t.cw (fun x y=>decide (x<y)) i&&(match t.nodes[i]? with
 |some n=>cK n&&((decide (i=0)|| !decide ((aC n).length=0))&&n.all (GZ t.cw i))
 |none=>true)
def IY (t:Tree):Bool:=zl t.nodes.length 1 20&&(decide (t.cw.length=t.nodes.length)&&((match t.cw[0]? with|some x=>decide (x=0)|none=>true)&&(iV t.nodes.length (DN t)&&decide ((j5 t).length≤60))))
def Km (p:Nt) (i b:Int):Int:=match iH p.Qi i with
 |none=>0
 |some v=>if 0≤b∧b<v.size then(if(F7 p.t p.KM b v.Lt).2=true∧(F7 p.t p.KM b v.Lt).1.k=1 then(cellAt p.cells (F7 p.t p.KM b v.Lt).1.c (F7 p.t p.KM b v.Lt).1.g).1 else 0) else 0
end Go.T
namespace Go.T
def blocks (p:Nt) (i:Nat) (k:Nat):List Int:=(List.range k).map fun b:Nat=>Km p i b
def ny (l:List Key) (b a:Int):Key×Bool:=match setAt l b a with|some k=>(k,true)|none=>(oS,false)
def dU (n:List (List Key)) (b a:Int):Nat→Key×Bool
 |0=>(oS,false)
 |k+1=>match n[k]? with
  |some s=>if(ny s b a).2=true then(if(ny s b a).1.k=0 then(oS,false) else ny s b a) else dU n b a k
  |none=>(oS,false)
def uM (f:Int→Bool) (l:List Int):Nat→Int
 |0=> -1
 |k+1=>match l[k]? with
  |some x=>if f x=true then(k:Int) else uM f l k
  |none=> -1
def F8 (t:Tree) (b a:Int):Int:=uM (fun x=>decide (x≤eR b a)) t.cw t.cw.length
def IZ (t:Tree) (b a:Int):Key×Bool:=match iH t.nodes (F8 t b a) with
 |some n=>dU n b a n.length
 |none=>(oS,false)
def newNode (l:List Key):List (List Key):=if l.length=0 then [] else [l]
def DO (n:List (List Key)):List (List Key):=newNode (aC n)
end Go.T
namespace Go.T
end Go.T
namespace Go.T
theorem I0 (x:Int):0≤qp .and .i64 x 255∧qp .and .i64 x 255≤255:=by
 have h:qp .and .i64 x 255=Go.IntKind.i64.wrap (((BitVec.ofInt 64 x&&&BitVec.ofInt 64 255).toNat:Nat):Int):=by unfold qp;rfl
 have hle:(BitVec.ofInt 64 x&&&BitVec.ofInt 64 255).toNat≤255:=by
  rw[BitVec.toNat_and];exact kr Nat.and_le_right (by decide)
 rw[h,Go.IntKind.wrap_i64];omega
abbrev PC (b:List Int) (i h:Int):List TC:=[.sub 1 (b.map gi),.sc (.int .i64 i),.sc (.int .i64 h)]
abbrev tw (b:List Int) (i h:Int):TV:= .bx (PC b i h)
def Dr (b:List Int) (P:TV→Prop) (r:TV) (fs:List TV):Prop:= ∃i h,0≤i∧fs=[tw b i h]∧P r
theorem DP {x n:Int} (h0:0≤x) (hn:0<n):0≤x.tmod n∧x.tmod n<n:=⟨Int.tmod_nonneg _ h0,Int.tmod_lt_of_pos _ hn⟩
end Go.T
namespace Go.T
def K7 (v u:yh):Bool:=CW u.name v.name||Ee u.name v.name
theorem DQ: ∀(x y z:List UInt8),Op.bytesLess x y=true→Op.bytesLess y z=true→Op.bytesLess x z=true
 |x,y,[],_,h=>by cases y<;>simp[Op.bytesLess] at h
 |x,[],c::z,h,_=>by cases x<;>simp[Op.bytesLess] at h
 |[],_::_,_::_,_,_=>by simp[Op.bytesLess]
 |a::x,b::y,c::z,h1,h2=>by
  simp only[Op.bytesLess,Bool.or_eq_true,cJ,decide_eq_true_eq,beq_iff_eq] at h1 h2 ⊢;rcases h1 with h1|⟨rfl,h1⟩
  ·rcases h2 with h2|⟨rfl,h2⟩
   ·exact .inl (UInt8.lt_trans h1 h2)
   ·exact .inl h1
  ·rcases h2 with h2|⟨rfl,h2⟩
   ·exact .inl h2
   ·exact .inr ⟨rfl,DQ x y z h1 h2⟩
theorem Bs {a b c:ByteArray} (h1:CW a b=true) (h2:CW b c=true):CW a c=true:=by
 unfold CW at*;exact DQ _ _ _ h1 h2
def qM:List yh→Prop
 |[]=>True
 |[_]=>True
 |a::b::r=>CW a.name b.name=true∧qM (b::r)
theorem I1 {v a b:yh} (h:CW a.name b.name=true) (hb:K7 v b=true):K7 v a=true:=by
 unfold K7 at*;rw[Bool.or_eq_true] at*;rcases hb with hb|hb
 ·exact .inl (Bs h hb)
 ·have:b.name.toList=v.name.toList:=by
   unfold Ee at hb;exact eq_of_beq hb
  unfold CW at h ⊢;rw[←this];exact .inl h
theorem qM.tail {a:yh} {l:List yh} (h:qM (a::l)):qM l:=by
 cases l with
 |nil=>trivial
 |cons b r=>exact h.2
theorem qM.cut {v:yh}: ∀{l:List yh} {k:Nat},qM l→k≤l.length→(∀u∈l.drop k,K7 v u=false)→(∀u,0<k→l[k-1]?=some u→K7 v u=true)→(l.takeWhile (K7 v)).length=k
 |[],k,_,hk,_,_=>by simp at hk;simp[hk]
 |a::l,0,_,_,h1,_=>by
  have:=h1 a (.head _);simp[this]
 |a::l,k+1,hr,hk,h1,h2=>by
  have ih:=qM.cut (v:=v) (l:=l) (k:=k) hr.tail (by simpa using hk) (fun u hu=>h1 u (by simpa using hu)) fun u h0 hu=>by
   obtain⟨j,rfl⟩: ∃j,k=j+1:=⟨k-1,by omega⟩;exact h2 u az (by simpa using hu)
  have ha:K7 v a=true:=by
   cases k with
   |zero=>exact h2 a az rfl
   |succ k=>
    cases l with
    |nil=>simp at hk
    |cons b r=>
     refine I1 hr.1 ?_;rw[List.takeWhile_cons] at ih
     cases hb:K7 v b with
     |true=>rfl
     |false=>rw[hb] at ih;simp at ih
  rw[List.takeWhile_cons,aY ha,dL,ih]
theorem qM.modify {f:yh→yh} (hf: ∀u,(f u).name=u.name): ∀{l:List yh} (i:Nat),qM l→qM (l.modify i f)
 |[],i,h=>by cases i<;>exact h
 |[a],0,_=>trivial
 |[a],i+1,_=>by cases i<;>trivial
 |a::b::r,0,h=>by
  show qM (f a::b::r);exact⟨by rw[hf];exact h.1,h.2⟩
 |a::b::r,1,h=>by
  show qM (a::f b::r);refine⟨by rw[hf];exact h.1,?_⟩;exact qM.modify hf (l:=b::r) 0 h.2
 |a::b::r,i+2,h=>⟨h.1,qM.modify hf (l:=b::r) (i+1) h.2⟩
end Go.T
namespace Go.T
def Q4 (m u:Mp):Bool:= !(CW u.name m.name||Ee u.name m.name)
def Kn (l:List Mp) (m:Mp):Nat→Nat
 |0=>0
 |k+1=>match l[k]? with
  |some u=>if Q4 m u=true then Kn l m k else k+1
  |none=>k+1
theorem F9 (l:List Mp) (m:Mp): ∀k,Kn l m k≤k
 |0=>bE _
 |k+1=>by
  unfold Kn
  split
  ·split
   ·exact Nat.le_succ_of_le (F9 l m k)
   ·exact bE _
  ·exact bE _
def I2 {α:Type} (l:List α) (k:Nat) (x:α):List α:=l.take k++x::l.drop k
def I3 (l:List Mp) (m:Mp):List Mp:=I2 l (Kn l m l.length) m
theorem I5 (l:List Mp) (m:Mp):(I3 l m).length=l.length+1:=by
 have:=F9 l m l.length;unfold I3 I2;rw[cE,dL,g7,pg];omega
theorem I6 {l:List Mp} {m x:Mp} (h:x∈I3 l m):x∈l∨x=m:=by
 unfold I3 I2 at h;rcases List.mem_append.1 h with h|h
 ·exact .inl (wJ h)
 ·rcases bC.1 h with h|h
  ·exact .inr h
  ·exact .inl (yp h)
def Ci (l l':List Mp):Prop:=l'.length≤l.length+1∧ ∀B:Nat,12≤B→(∀x∈l,x.l.length≤B)→ ∀x∈l',x.l.length≤B
theorem Ci.refl (l:List Mp):Ci l l:=⟨Nat.le_succ _,fun _ _ h=>h⟩
theorem Ci.put {l:List Mp} {m:Mp} (h: ∀B:Nat,12≤B→(∀x∈l,x.l.length≤B)→m.l.length≤B):Ci l (I3 l m):=
 ⟨Nat.le_of_eq (I5 l m),fun B hB hl x hx=>(I6 hx).elim (hl x) fun e=>by rw[e];exact h B hB hl⟩
end Go.T
namespace Go.T
abbrev G0 (x:List (List Key)×Bool):TV:= .tu [(1,[.sub 1 (x.1.map aZ)]),(0,[iB x.2])]
def tC (s:List Key) (k:Key):Bool:=(ny s k.b k.a).2||decide (s.length<4)
def dK (n:List (List Key)) (k:Key):List (List Key):=match n[n.length-1]? with
 |none=>n++[[k]]
 |some s=>if tC s k=true then n.set (n.length-1) (cj s k) else n++[[k]]
def bX (n:List (List Key)) (k:Key):List Key:=fj (cj (aC n) k)
def di (n:List (List Key)) (k:Key):List (List Key)×Bool:=
 if cK (dK n k)=true then(dK n k,true) else if 8<(bX n k).length then(n,false) else if cK (cm (bX n k))=true then(cm (bX n k),true) else(n,false)
theorem oT (n:List (List Key)) (k:Key):(bX n k).length≤tot bg n+1:=by
 have h1:=fu n;have h2:=gG (aC n) k;have h3:(bX n k).length≤(cj (aC n) k).length:=KO _ _;omega
theorem DR {α:Type} (w:α→Nat) (l:List α) (a:α):tot w (l++[a])=tot w l+w a:=by
 induction l with
 |nil=>simp[tot]
 |cons b r ih=>simp only[sk,tot,ih];omega
theorem DS {α:Type} (w:α→Nat) (c:Nat): ∀(l:List α) (i:Nat) (a a':α),l[i]?=some a→w a'≤w a+c→tot w (l.set i a')≤tot w l+c
 |[],i,a,a',h,_=>by simp at h
 |b::r,0,a,a',h,hw=>by
  simp only[bK,aE] at h;subst h;simp only[List.set_cons_zero,tot];omega
 |b::r,i+1,a,a',h,hw=>by
  have:=DS w c r i a a' (by simpa using h) hw;simp only[List.set_cons_succ,tot];omega
theorem tD (n:List (List Key)) (k:Key):(dK n k).length≤n.length+1:=by
 unfold dK
 split
 ·rw[cE];simp
 ·split
  ·rw[List.length_set];omega
  ·rw[cE];simp
theorem tE (n:List (List Key)) (k:Key):tot bg (dK n k)≤tot bg n+1:=by
 unfold dK
 split
 ·rw[DR];exact bE _
 ·rename_i s hs
  split
  ·exact DS bg 1 _ _ s _ hs (by have:=gG s k;unfold bg;omega)
  ·rw[DR];exact bE _
theorem mM (l:List Key):(cm l).length≤1:=by
 unfold cm
 split<;>simp
theorem mN (l:List Key):tot bg (cm l)≤l.length:=by
 unfold cm
 split
 ·simp[tot]
 ·simp[tot,bg]
theorem DT (n:List (List Key)) (k:Key):(di n k).1.length≤n.length+1:=by
 have h1:=tD n k;have h2:=mM (bX n k);unfold di
 repeat' split
 all_goals simp only[];omega
theorem DU (n:List (List Key)) (k:Key):tot bg (di n k).1≤tot bg n+1:=by
 have h1:=tE n k;have h2:=mN (bX n k);have h3:=oT n k;unfold di
 repeat' split
 all_goals simp only[];omega
end Go.T
namespace Go.T
def jS (x y:Key):Prop:=x.b<y.b∨(x.b=y.b∧x.a<y.a)
theorem jS.trans {x y z:Key} (h1:jS x y) (h2:jS y z):jS x z:=by unfold jS at*;omega
theorem j6 {x y:Key}:bw x y=true↔jS x y:=by unfold bw jS;simp
theorem kV {x y:Key}:dJ x y=true↔x.b=y.b∧x.a=y.a:=by unfold dJ;simp
theorem uN {k y:Key}: ∀{l:List Key},y∈bI k true l→y∈l
 |[],h=>by simp[bI] at h
 |x::r,h=>by
  simp only[bI,AG,Bool.false_and,tU,if_false,mj,Bool.true_or] at h;rcases List.mem_append.1 h with h|h
  ·split at h
   ·cases h
   ·rw[eG.1 h];exact .head _
  ·exact .tail _ (uN h)
theorem zm {k y:Key}: ∀{l:List Key} {put:Bool},y∈bI k put l→y∈l∨y=k
 |[],put,h=>by
  simp only[bI] at h
  split at h
  ·cases h
  ·exact .inr (eG.1 h)
 |x::r,put,h=>by
  simp only[bI] at h;rcases List.mem_append.1 h with h|h
  ·rcases List.mem_append.1 h with h|h
   ·split at h
    ·exact .inr (eG.1 h)
    ·cases h
   ·split at h
    ·cases h
    ·exact .inl (by rw[eG.1 h];exact .head _)
  ·exact(zm h).imp (.tail _) id
theorem rT {k:Key}: ∀{l:List Key},l.Pairwise jS→(bI k true l).Pairwise jS
 |[],_=>by simp[bI]
 |x::r,h=>by
  obtain⟨h1,h2⟩:=List.pairwise_cons.1 h;simp only[bI,AG,Bool.false_and,tU,if_false,mj,Bool.true_or]
  split
  ·exact rT h2
  ·exact List.pairwise_cons.2 ⟨fun y hy=>h1 y (uN hy),rT h2⟩
theorem Bt {k:Key}: ∀{l:List Key},l.Pairwise jS→(bI k false l).Pairwise jS
 |[],_=>by simp[bI]
 |x::r,h=>by
  obtain⟨h1,h2⟩:=List.pairwise_cons.1 h
  cases hk:bw x k with
  |true=>
   have hlt:=j6.1 hk
   have Ou:dJ x k=false:=by
    cases hs:dJ x k with
    |false=>rfl
    |true=>have:=kV.1 hs;unfold jS at hlt;omega
   simp only[bI,hk,Ou,Bool.not_false,AG,fA,Bool.and_false,tU,if_false,mj,Bool.or_false,yl];refine List.pairwise_cons.2 ⟨fun y hy=> ?_,Bt h2⟩;rcases zm hy with hy|rfl
   ·exact h1 y hy
   ·exact hlt
  |false=>
   have hge: ¬jS x k:=fun h=>by rw[j6.2 h] at hk;cases hk
   simp only[bI,hk,Bool.not_false,fA,if_true,Bool.or_true]
   have hr: ∀y∈bI k true r,jS k y:=fun y hy=>by
    have:=h1 y (uN hy);unfold jS at*;omega
   split
   ·exact List.pairwise_cons.2 ⟨hr,rT h2⟩
   ·rename_i Ou
    refine List.pairwise_cons.2 ⟨fun y hy=> ?_,List.pairwise_cons.2 ⟨fun y hy=>h1 y (uN hy),rT h2⟩⟩;rcases bC.1 hy with rfl|hy
    ·have: ¬(y.b=k.b∧y.a=k.a):=fun h=>Ou (kV.2 h)
     unfold jS at*;omega
    ·exact hr y hy
theorem w6 {l:List Key} {k:Key} (h:l.Pairwise jS):(cj l k).Pairwise jS:=Bt h
theorem E4 {l:List Key} {k y:Key} (h:y∈cj l k):y∈l∨y=k:=zm h
theorem oU: ∀(new:List Key) {old:List Key},old.Pairwise jS→(aG old new).Pairwise jS
 |[],_,h=>h
 |x::r,_,h=>oU r (w6 h)
theorem Bu {y:Key}: ∀{new old:List Key},y∈aG old new→y∈old∨y∈new
 |[],_,h=> .inl h
 |x::r,old,h=>by
  have h:y∈aG (cj old x) r:=h;rcases Bu h with h|h
  ·exact(E4 h).imp id fun e=>by rw[e];exact .head _
  ·exact .inr (.tail _ h)
theorem tF: ∀(n:List (List Key)) {acc:List Key},acc.Pairwise jS→(n.foldl aG acc).Pairwise jS
 |[],_,h=>h
 |s::r,_,h=>tF r (oU s h)
theorem Bv {y:Key}: ∀{n:List (List Key)} {acc:List Key},y∈n.foldl aG acc→y∈acc∨ ∃s∈n,y∈s
 |[],_,h=> .inl h
 |s::r,acc,h=>by
  rcases Bv (n:=r) h with h|⟨s',h1,h2⟩
  ·exact(Bu h).imp id fun h=>⟨s,.head _,h⟩
  ·exact .inr ⟨s',.tail _ h1,h2⟩
theorem sC (n:List (List Key)):(aC n).Pairwise jS:=(tF n .nil).sublist List.filter_sublist
theorem kW {n:List (List Key)} {y:Key} (h:y∈aC n): ∃s∈n,y∈s:=by
 rcases Bv (List.mem_filter.1 h).1 with h|h
 ·cases h
 ·exact h
theorem I7 {l:List Key} (h1:l.Pairwise jS) (h2: ∀y∈l,c7 y=true) (h3:l.length≤60):pH l=true:=by
 rw[uL];simp only[cJ,decide_eq_true_eq];refine⟨List.all_eq_true.2 h2,uK.2 fun i hi=> ?_,h3⟩
 cases i with
 |zero=>rfl
 |succ k=>
  simp only[fh];rw[aO (by omega:k<l.length),aO hi];exact j6.2 (List.pairwise_iff_getElem.1 h1 k (k+1) az hi az)
theorem qN {n:List (List Key)} (h:cK n=true) {s:List Key} (hs:s∈n) {y:Key} (hy:y∈s):c7 y=true:=by
 unfold cK at h;simp only[cJ] at h;have:=List.all_eq_true.1 h.1.1 s hs;simp only[cJ] at this;have h2:=this.1;rw[uL] at h2;simp only[cJ] at h2;exact List.all_eq_true.1 h2.1 y hy
theorem E5 {l:List Key} (h1:l.Pairwise jS) (h2: ∀y∈l,c7 y=true) (h3:l.length≤8):cK (cm l)=true:=by
 unfold cm
 split
 ·decide
 ·rename_i h0
  unfold cK;have:=I7 h1 h2 az;have Sa:l≠[]:=fun e=>h0 (by rw[e];rfl);simp[this,Sa,aR,tot,bg,h3]
end Go.T
namespace Go.T
def gw (x y:Int):Int:=qp .or .i64 (Lu .i64 (wL .i64 x) 8) (wL .i64 y)
end Go.T
namespace Go.T
def K8 (t:Tree) (i c:Nat) (cw:List Int) (nodes:List (List (List Key))):Tree:=⟨t.cw.take i++cw++t.cw.drop (i+c),t.nodes.take i++nodes++t.nodes.drop (i+c)⟩
def nB (t:Tree) (i:Nat):List Key:=aC (t.nodes.getD i [])
def uO (t:Tree):Nat→Nat→Option Nat
 |0,_=>none
 |d+1,i=>if i+1<t.nodes.length then(if(nB t i).length+(nB t (i+1)).length≤6 then some i else uO t d (i+1)) else none
def I8 (t:Tree):Option Nat:=uO t t.nodes.length 0
def uP (t:Tree) (i:Nat):Tree:=K8 t i 2 [t.cw.getD i 0] [cm (nB t i++nB t (i+1))]
theorem w7 {t:Tree}: ∀{d i j:Nat},uO t d i=some j→i≤j∧j+1<t.nodes.length∧(nB t j).length+(nB t (j+1)).length≤6
 |0,i,j,h=>by cases h
 |d+1,i,j,h=>by
  unfold uO at h
  split at h
  ·split at h
   ·cases h;exact⟨bE _,by assumption,by assumption⟩
   ·have:=w7 h;exact⟨by omega,this.2⟩
  ·cases h
theorem G1 {t:Tree} {j:Nat} (h:I8 t=some j):j+1<t.nodes.length∧(nB t j).length+(nB t (j+1)).length≤6:=(w7 h).2
end Go.T
namespace Go.T
theorem vY {n:List (List Key)} (h:cK n=true):n.length≤3∧tot bg n≤8:=by
 unfold cK aR at h;simp only[cJ,decide_eq_true_eq] at h;exact⟨h.1.2,h.2⟩
end Go.T
namespace Go.T
theorem Ga {α:Type} (w:α→Nat): ∀l m:List α,tot w (l++m)=tot w l+tot w m
 |[],m=>by simp[tot]
 |a::l,m=>by simp only[sk,tot,Ga w l m];omega
theorem I9 {α:Type} {l:List α} {i:Nat} {a b:α} (ha:l[i]?=some a) (hb:l[i+1]?=some b):l=l.take i++a::b::l.drop (i+2):=by
 obtain⟨h1,e1⟩:=List.getElem?_eq_some_iff.1 ha;obtain⟨h2,e2⟩:=List.getElem?_eq_some_iff.1 hb
 conv=>lhs;rw[←Hi i l]
 rw[CU h1,CU h2,e1,e2]
theorem zn (l:List Key):cT (cm l)≤l.length+1:=by
 have h1:=mM l;have h2:=mN l;unfold cT;omega
theorem rU {t:Tree} {i:Nat} {a:List (List Key)} (h:t.nodes[i]?=some a):nB t i=aC a:=by unfold nB;rw[ym,h];rfl
theorem zo {k:Key} (h:c7 k=true):0≤k.b∧k.b≤15∧1≤k.a∧k.a≤60∧0≤k.k∧k.k≤2:=by
 simp only[c7,zl,cJ,decide_eq_true_eq] at h;omega
theorem Ko {b a:Int} (h: -1000≤b∧b≤1000∧ -1000≤a∧a≤1000):eR b a=64*b+a:=by
 unfold eR;rw[Kk az,bQ az]
theorem zp {k:Key} (h:c7 k=true):eR k.b k.a=64*k.b+k.a:=by
 have:=zo h;exact Ko az
theorem DV (n:List (List Key)) (k:Key):cT (di n k).1≤cT n+2:=by
 have h1:=DT n k;have h2:=DU n k;unfold cT;omega
end Go.T
namespace Go.T
end Go.T
namespace Go.T
end Go.T
namespace Go.T
def vZ (b a:Int) (x:Key):Bool:=decide (x.b=b∧x.a=a)
def look (l:List Key) (b a:Int):Option Key:=l.find? (vZ b a)
theorem E6 (l:List Key) (b a:Int):setAt l b a=look l b a:=rfl
theorem nX (l m:List Key) (b a:Int):look (l++m) b a=(look l b a).or (look m b a):=by unfold look;rw[List.find?_append]
theorem eT (x:Key) (l:List Key) (b a:Int):look (x::l) b a=if x.b=b∧x.a=a then some x else look l b a:=by
 unfold look;rw[List.find?_cons]
 by_cases h:x.b=b∧x.a=a
 ·rw[aY h];simp[vZ,h]
 ·rw[aH h];simp[vZ,h]
theorem zu {k:Key} {b a:Int} (h: ¬(k.b=b∧k.a=a)): ∀(l:List Key) (put:Bool),look (bI k put l) b a=look l b a
 |[],put=>by
  unfold bI
  cases put with
  |true=>rfl
  |false=>simp only[tU,if_false];rw[eT,aH h]
 |x::r,put=>by
  have ih:=zu h r (put|| !bw x k);simp only[bI,nX];rw[ih,eT]
  have h1:look (if(!put&& !bw x k)=true then [k] else []) b a=none:=by
   split
   ·rw[eT,aH h];rfl
   ·rfl
  rw[h1]
  by_cases hs:dJ x k=true
  ·have:=kV.1 hs
   rw[aY hs,aH az]
   rfl
  ·rw[aH hs,eT]
   by_cases hx:x.b=b∧x.a=a
   ·rw[aY hx,aY hx];rfl
   ·rw[aH hx,aH hx];rfl
theorem Gb {k:Key}: ∀l:List Key,l.Pairwise jS→look (bI k false l) k.b k.a=some k
 |[],_=>by simp only[bI,tU,if_false];rw[eT,aY ⟨rfl,rfl⟩]
 |x::r,hp=>by
  obtain⟨h1,h2⟩:=List.pairwise_cons.1 hp
  cases hk:bw x k with
  |true=>
   have hlt:=j6.1 hk
   have Ou:dJ x k=false:=by
    cases hs:dJ x k with
    |false=>rfl
    |true=>have:=kV.1 hs;unfold jS at hlt;omega
   simp only[bI,hk,Ou,Bool.not_false,AG,fA,Bool.and_false,tU,if_false,mj,Bool.or_false,yl];rw[nX,Gb r h2,eT,aH (by unfold jS at hlt;omega)];rfl
  |false=>
   simp only[bI,hk,Bool.not_false,fA,if_true,Bool.or_true];rw[nX,nX,eT,aY ⟨rfl,rfl⟩];rfl
theorem DW {l:List Key} {k:Key} (h:l.Pairwise jS) (b a:Int):look (cj l k) b a=if k.b=b∧k.a=a then some k else look l b a:=by
 unfold cj
 by_cases hs:k.b=b∧k.a=a
 ·rw[aY hs,←hs.1,←hs.2];exact Gb l h
 ·rw[aH hs];exact zu hs l false
theorem Bw {l:List Key} {b a:Int} {x:Key} (h:look l b a=some x):x∈l∧x.b=b∧x.a=a:=by
 unfold look at h;have h1:=List.find?_some h;unfold vZ at h1;exact⟨List.mem_of_find?_eq_some h,by simpa using h1⟩
theorem DX {l:List Key} (h:l.Pairwise jS) {x:Key} (hx:x∈l):look l x.b x.a=some x:=by
 induction l with
 |nil=>cases hx
 |cons y r ih=>
  obtain⟨h1,h2⟩:=List.pairwise_cons.1 h;rw[eT];rcases bC.1 hx with rfl|hx
  ·rw[aY ⟨rfl,rfl⟩]
  ·have:=h1 x hx
   rw[aH (by unfold jS at this;omega)];exact ih h2 hx
theorem rV {l:List Key} {b a:Int} (h: ∀x∈l,¬(x.b=b∧x.a=a)):look l b a=none:=by
 unfold look;rw[List.find?_eq_none];intro x hx hs;unfold vZ at hs;exact h x hx (by simpa using hs)
theorem tG: ∀(new:List Key) {old:List Key},old.Pairwise jS→new.Pairwise jS→ ∀b a,look (aG old new) b a=(look new b a).or (look old b a)
 |[],old,_,_,b,a=>rfl
 |x::r,old,ho,hn,b,a=>by
  obtain⟨h1,h2⟩:=List.pairwise_cons.1 hn;have ih:=tG r (w6 (k:=x) ho) h2 b a;show look (aG (cj old x) r) b a=_;rw[ih,DW ho,eT]
  by_cases hs:x.b=b∧x.a=a
  ·rw[aY hs,aY hs]
   have hr:look r b a=none:=rV fun y hy h=>by
    have:=h1 y hy;unfold jS at this;omega
   rw[hr];rfl
  ·rw[aH hs,aH hs]
theorem DY {l:List Key} (h:l.Pairwise jS) (p:Key→Bool) (b a:Int):look (l.filter p) b a=(look l b a).filter p:=by
 induction l with
 |nil=>rfl
 |cons x r ih=>
  obtain⟨h1,h2⟩:=List.pairwise_cons.1 h;rw[eT]
  by_cases hp:p x=true
  ·rw[List.filter_cons_of_pos hp,eT,ih h2]
   by_cases hs:x.b=b∧x.a=a
   ·rw[aY hs,aY hs];simp[Option.filter,hp]
   ·rw[aH hs,aH hs]
  ·rw[List.filter_cons_of_neg hp,ih h2]
   by_cases hs:x.b=b∧x.a=a
   ·rw[aY hs]
    have hr:look r b a=none:=rV fun y hy h=>by
     have:=h1 y hy;unfold jS at this;omega
    rw[hr];simp[Option.filter,hp]
   ·rw[aH hs]
theorem DZ: ∀{l m:List Key},l.Pairwise jS→m.Pairwise jS→(∀x,x∈l↔x∈m)→l=m
 |[],[],_,_,_=>rfl
 |[],y::m,_,_,h=>by have:=(h y).2 (.head _);cases this
 |x::l,[],_,_,h=>by have:=(h x).1 (.head _);cases this
 |x::l,y::m,hl,hm,h=>by
  obtain⟨h1,h2⟩:=List.pairwise_cons.1 hl;obtain⟨h3,h4⟩:=List.pairwise_cons.1 hm
  have hxy:x=y:=by
   rcases bC.1 ((h x).1 (.head _)) with e|e
   ·exact e
   ·rcases bC.1 ((h y).2 (.head _)) with e2|e2
    ·exact e2.symm
    ·have a1:=h3 x e
     have a2:=h1 y e2;unfold jS at a1 a2;omega
  subst hxy
  have:l=m:=DZ h2 h4 fun z=>by
   constructor
   ·intro hz
    rcases bC.1 ((h z).1 (.tail _ hz)) with e|e
    ·subst e;have:=h1 z hz;unfold jS at this;omega
    ·exact e
   ·intro hz
    rcases bC.1 ((h z).2 (.tail _ hz)) with e|e
    ·subst e;have:=h3 z hz;unfold jS at this;omega
    ·exact e
  rw[this]
theorem Ja {l m:List Key} (hl:l.Pairwise jS) (hm:m.Pairwise jS) (h: ∀b a,look l b a=look m b a):l=m:=
 DZ hl hm fun x=>⟨fun hx=>by have:=DX hl hx;rw[h] at this;exact(Bw this).1,fun hx=>by have:=DX hm hx;rw[←h] at this;exact(Bw this).1⟩
def Gc (n:List (List Key)):Prop:= ∀s∈n,s.Pairwise jS
theorem E7 {l:List Key} (h:pH l=true):l.Pairwise jS:=by
 rw[uL] at h;simp only[cJ] at h;have hp:=uK.1 h.2.1
 have key: ∀(l:List Key),(∀i,i<l.length→fh l bw i=true)→l.Pairwise jS:=by
  intro l
  induction l with
  |nil=>intro _;exact .nil
  |cons x r ih=>
   intro hq
   have hr:=ih fun i hi=>by
    have:=hq (i+1) rZ
    cases i with
    |zero=>rfl
    |succ i=>simpa [fh] using this
   refine List.pairwise_cons.2 ⟨?_,hr⟩
   cases r with
   |nil=>intro y hy;cases hy
   |cons z r=>
    have hxz:jS x z:=by have:=hq 1 dh;simp only[fh,bK,ju] at this;exact j6.1 this
    intro y hy;rcases bC.1 hy with rfl|hy
    ·exact hxz
    ·exact hxz.trans ((List.pairwise_cons.1 hr).1 y hy)
 exact key l hp
theorem D0 {n:List (List Key)} (h:cK n=true):Gc n:=fun s hs=>by
 unfold cK at h;simp only[cJ] at h;have:=List.all_eq_true.1 h.1.1 s hs;simp only[cJ] at this;exact E7 this.1
def sD:List (List Key)→Int→Int→Option Key
 |[],_,_=>none
 |s::r,b,a=>(sD r b a).or (look s b a)
theorem zw: ∀(n:List (List Key)) {acc:List Key},acc.Pairwise jS→Gc n→ ∀b a,look (n.foldl aG acc) b a=(sD n b a).or (look acc b a)
 |[],acc,_,_,b,a=>rfl
 |s::r,acc,ha,hn,b,a=>by
  have hs:=hn s (.head _);have ih:=zw r (oU s ha) (fun t ht=>hn t (.tail _ ht)) b a;show look (r.foldl aG (aG acc s)) b a=_;rw[ih,tG s ha hs];show _=((sD r b a).or (look s b a)).or (look acc b a);rw[Option.or_assoc]
def mO (k:Key):Bool:= !decide (k.k=0)
theorem G2 {n:List (List Key)} (h:Gc n) (b a:Int):look (aC n) b a=(sD n b a).filter mO:=by
 have hr:(iR n).Pairwise jS:=tF n .nil;have e:=DY hr mO b a;have e2:=zw n .nil h b a;show look ((iR n).filter mO) b a=_;rw[e];show Option.filter mO (look (n.foldl aG []) b a)=_;rw[e2];show Option.filter mO ((sD n b a).or none)=_;rw[Option.or_none]
def D1:Option Key→Key×Bool
 |some k=>(k,true)
 |none=>(oS,false)
theorem E8 (n:List (List Key)) (s:List Key) (b a:Int):sD (n++[s]) b a=(look s b a).or (sD n b a):=by
 induction n with
 |nil=>simp[sD]
 |cons t r ih=>simp only[sk,sD,ih,Option.or_assoc]
theorem sE (n:List (List Key)) (b a:Int): ∀k,k≤n.length→dU n b a k=D1 ((sD (n.take k) b a).filter mO)
 |0,_=>rfl
 |k+1,h=>by
  have ih:=sE n b a k az
  have hk:k<n.length:=by omega
  unfold dU;rw[aO hk,List.take_add_one,aO hk];simp only[Option.toList];rw[E8];unfold ny;rw[E6]
  cases hl:look n[k] b a with
  |none=>simp only[tU,if_false];rw[ih];rfl
  |some x=>
   simp only[if_true,Option.some_or]
   by_cases hx:x.k=0
   ·rw[aY hx];simp[Option.filter,mO,hx,D1]
   ·rw[aH hx];simp[Option.filter,mO,hx,D1]
theorem D2 {n:List (List Key)} (h:Gc n) (b a:Int):dU n b a n.length=D1 (look (aC n) b a):=by
 rw[sE n b a n.length (bE _),Hj,G2 h]
end Go.T
namespace Go.T
theorem G3 {l:List Key} (h:l.Pairwise jS):aG [] l=l:=
 Ja (oU l .nil) h fun b a=>by rw[tG l .nil h];show(look l b a).or none=_;rw[Option.or_none]
theorem D3 {l:List Key} (h:l.Pairwise jS) (hn: ∀x∈l,¬x.k=0):aC (cm l)=l:=by
 unfold cm
 split
 ·rename_i h0
  rw[List.length_eq_zero_iff.1 h0];rfl
 ·show fj (aG [] l)=l
  rw[G3 h];unfold fj;rw[List.filter_eq_self];intro x hx;simpa using hn x hx
theorem Bx {n:List (List Key)} {x:Key} (hx:x∈aC n): ¬x.k=0:=by
 have:=(List.mem_filter.1 hx).2;simpa using this
end Go.T
namespace Go.T
structure nY (t:Tree):Prop where
 len:t.cw.length=t.nodes.length
 low0:t.cw[0]?=some 0
 rise: ∀i x y,t.cw[i]?=some x→t.cw[i+1]?=some y→x<y
 ok: ∀n∈t.nodes,cK n=true
 lo: ∀(i:Nat) (n:List (List Key)) (x:Int),t.nodes[i]?=some n→t.cw[i]?=some x→ ∀s∈n,∀k:Key,k∈s→x≤eR k.b k.a
 hi: ∀(i:Nat) (n:List (List Key)) (x:Int),t.nodes[i]?=some n→t.cw[i+1]?=some x→ ∀s∈n,∀k:Key,k∈s→eR k.b k.a<x
theorem nY.mono {t:Tree} (h:nY t): ∀(d i:Nat) (x y:Int),t.cw[i]?=some x→t.cw[i+d+1]?=some y→x<y
 |0,i,x,y,hx,hy=>h.rise i x y hx hy
 |d+1,i,x,y,hx,hy=>by
  obtain⟨hlt,_⟩:=List.getElem?_eq_some_iff.1 hy;have hm:t.cw[i+d+1]?=some t.cw[i+d+1]:=aO az;have h1:=h.mono d i x _ hx hm;have h2:=h.rise (i+d+1) _ y hm (by rw[show i+d+1+1=i+(d+1)+1 from by omega];exact hy);omega
theorem nY.lt {t:Tree} (h:nY t) {i j:Nat} {x y:Int} (hij:i<j) (hx:t.cw[i]?=some x) (hy:t.cw[j]?=some y):x<y:=
 h.mono (j-i-1) i x y hx (by rw[show i+(j-i-1)+1=j from by omega];exact hy)
theorem nY.key {t:Tree} (h:nY t) {i:Nat} {n:List (List Key)} (hn:t.nodes[i]?=some n) {x:Key} (hx:x∈aC n):c7 x=true:=by
 obtain⟨s,hs,hy⟩:=kW hx;exact qN (h.ok n (dw hn)) hs hy
theorem Jb {x y:Key} (hx:c7 x=true) (hy:c7 y=true):eR x.b x.a<eR y.b y.a↔jS x y:=by
 have h1:=zo hx;have h2:=zo hy;rw[zp hx,zp hy];unfold jS;omega
theorem uQ {f:Int→Bool} {l:List Int}: ∀(n:Nat),n≤l.length→(uM f l n= -1∧ ∀j x,j<n→l[j]?=some x→f x=false)∨ ∃i:Nat,uM f l n=i∧i<n∧(∃x,l[i]?=some x∧f x=true)∧ ∀j x,i<j→j<n→l[j]?=some x→f x=false
 |0,_=> .inl ⟨rfl,fun j x h=>by omega⟩
 |n+1,h=>by
  have hn:n<l.length:=by omega
  unfold uM;rw[aO hn];simp only[]
  cases hf:f l[n] with
  |true=>exact .inr ⟨n,by simp,by omega,⟨_,aO hn,hf⟩,fun j x h1 h2=>by omega⟩
  |false=>
   rw[aH dh];rcases uQ (f:=f) (l:=l) n az with⟨h1,h2⟩|⟨i,h1,h2,h3,h4⟩
   ·refine .inl ⟨h1,fun j x hj hx=> ?_⟩
    by_cases hjn:j=n
    ·subst hjn;rw[aO hn] at hx;cases hx;exact hf
    ·exact h2 j x az hx
   ·refine .inr ⟨i,h1,by omega,h3,fun j x hij hj hx=> ?_⟩
    by_cases hjn:j=n
    ·subst hjn;rw[aO hn] at hx;cases hx;exact hf
    ·exact h4 j x hij az hx
theorem nY.Kq {t:Tree} (h:nY t) {i:Nat} {x:Int} {b a:Int} (hx:t.cw[i]?=some x) (hlo:x≤eR b a) (hhi: ∀j y,i<j→t.cw[j]?=some y→eR b a<y):
 ∀(j:Nat) (n:List (List Key)),t.nodes[j]?=some n→ ¬j=i→look (aC n) b a=none:=by
 intro j n hn hne;refine rV fun k hk hs=> ?_
 have hj:j<t.cw.length:=by rw[h.len];exact(List.getElem?_eq_some_iff.1 hn).1
 obtain⟨s,Ed,wH⟩:=kW hk;have h1:=h.lo j n t.cw[j] hn (aO hj) s Ed k wH;rw[hs.1,hs.2] at h1
 by_cases hji:j<i
 ·have M6:j+1<t.cw.length:=by have:=(List.getElem?_eq_some_iff.1 hx).1;omega
  have h2:=h.hi j n t.cw[j+1] hn (aO M6) s Ed k wH;rw[hs.1,hs.2] at h2
  by_cases he:j+1=i
  ·subst he;rw[aO M6] at hx;cases hx;omega
  ·have:=h.lt (i:=j+1) (j:=i) az (aO M6) hx
   omega
 ·have:=hhi j _ az (aO hj)
  omega
theorem By {b a:Int}: ∀(l:List (List (List Key))) (i:Nat) (n:List (List Key)),l[i]?=some n→(∀j m,l[j]?=some m→ ¬j=i→look (aC m) b a=none)→look (l.flatMap aC) b a=look (aC n) b a
 |[],i,n,h,_=>by simp at h
 |m::r,0,n,h,hn=>by
  simp only[bK,aE] at h;subst h;rw[List.flatMap_cons,nX]
  have:look (r.flatMap aC) b a=none:=rV fun x hx hs=>by
   obtain⟨q,hq,hx⟩:=List.mem_flatMap.1 hx;obtain⟨j,hj⟩:=List.mem_iff_getElem?.1 hq;have:=hn (j+1) q (by simpa using hj) az;unfold look at this;rw[List.find?_eq_none] at this;exact this x hx (by unfold vZ;simpa using hs)
  rw[this,Option.or_none]
 |m::r,i+1,n,h,hn=>by
  rw[List.flatMap_cons,nX,hn 0 m rfl az];have:=By r i n (by simpa using h) fun j q hj hne=>hn (j+1) q (by simpa using hj) az;rw[this];rfl
theorem nY.find {t:Tree} (h:nY t) {b a:Int} (hs:0≤eR b a):IZ t b a=D1 (look (j5 t) b a):=by
 unfold IZ F8;rcases uQ (f:=fun x=>decide (x≤eR b a)) (l:=t.cw) t.cw.length (bE _) with⟨_,h2⟩|⟨i,h1,h2,⟨x,hx,hf⟩,h4⟩
 ·have hpos:=(List.getElem?_eq_some_iff.1 h.low0).1
  have:=h2 0 0 hpos h.low0;simp only[decide_eq_false_iff_not] at this;omega
 ·rw[h1,bq]
  have hlo:x≤eR b a:=tX hf
  have hi:i<t.nodes.length:=by rw[←h.len];exact h2
  have hn:t.nodes[i]?=some t.nodes[i]:=aO hi;rw[hn];simp only[]
  have hno:=h.Kq hx hlo fun j y hij hy=>by
   have:=h4 j y hij (List.getElem?_eq_some_iff.1 hy).1 hy;simp only[decide_eq_false_iff_not] at this;omega
  rw[D2 (D0 (h.ok _ (qo hi)))];unfold j5;rw[By t.nodes i t.nodes[i] hn hno]
end Go.T
namespace Go.T
abbrev Nd:=List (List Key)
def below (x:Int):Option Int→Prop
 |none=>True
 |some y=>x<y
def E9 (l:List Int) (hi:Option Int):Option Int:=match l with|[]=>hi|y::_=>some y
def Cj (x:Int) (hi:Option Int) (n:Nd):Prop:=cK n=true∧below x hi∧ ∀s∈n,∀k:Key,k∈s→x≤eR k.b k.a∧below (eR k.b k.a) hi
def TR (hi:Option Int):List Int→List Nd→Prop
 |[],[]=>True
 |x::xs,n::ns=>Cj x (E9 xs hi) n∧TR hi xs ns
 |_,_=>False
theorem Gd (l m:List Int) (hi:Option Int):E9 (l++m) hi=E9 l (E9 m hi):=by cases l<;>rfl
theorem qO (l:List Int):E9 l none=l[0]?:=by cases l<;>rfl
theorem mP {x y:Int} {o:Option Int} (h:x≤y) (h2:below y o):below x o:=by
 cases o with
 |none=>trivial
 |some z=>have:y<z:=h2;show x<z;omega
theorem TR.app {hi:Option Int} {l2:List Int} {n2:List Nd} (h2:TR hi l2 n2): ∀{l:List Int} {n:List Nd},TR (E9 l2 hi) l n→TR hi (l++l2) (n++n2)
 |[],[],_=>h2
 |x::xs,n::ns,h=>⟨by show Cj x (E9 (xs++l2) hi) n;rw[Gd];exact h.1,TR.app h2 h.2⟩
 |[],_::_,h=>h.elim
 |_::_,[],h=>h.elim
theorem TR.split {hi:Option Int} {l2:List Int} {n2:List Nd}: ∀{l:List Int} {n:List Nd},l.length=n.length→TR hi (l++l2) (n++n2)→TR (E9 l2 hi) l n∧TR hi l2 n2
 |[],[],_,h=>⟨trivial,h⟩
 |x::xs,n::ns,hl,h=>by
  have h:Cj x (E9 (xs++l2) hi) n∧TR hi (xs++l2) (ns++n2):=h;rw[Gd] at h;have:=TR.split (by simpa using hl) h.2;exact⟨⟨h.1,this.1⟩,this.2⟩
 |[],_::_,hl,_=>by simp at hl
 |_::_,[],hl,_=>by simp at hl
theorem Cj.mono {x:Int} {n:Nd} {o o':Option Int} (hm: ∀y,below y o→below y o') (h:Cj x o n):Cj x o' n:=
 ⟨h.1,hm _ h.2.1,fun s hs k hk=>⟨(h.2.2 s hs k hk).1,hm _ (h.2.2 s hs k hk).2⟩⟩
theorem TR.mono {o o':Option Int} (hm: ∀y,below y o→below y o'): ∀{l:List Int} {n:List Nd},TR o l n→TR o' l n
 |[],[],_=>trivial
 |[x],[n],h=>⟨Cj.mono hm h.1,trivial⟩
 |x::y::xs,n::ns,h=>⟨h.1,TR.mono hm h.2⟩
 |[x],n::m::ns,h=>h.2.elim
 |[],_::_,h=>h.elim
 |_::_,[],h=>h.elim
theorem TR.len {hi:Option Int}: ∀{l:List Int} {n:List Nd},TR hi l n→l.length=n.length
 |[],[],_=>rfl
 |x::xs,n::ns,h=>by simp[TR.len h.2]
 |[],_::_,h=>h.elim
 |_::_,[],h=>h.elim
theorem TR.at {hi:Option Int}: ∀{l:List Int} {n:List Nd},TR hi l n→ ∀(i:Nat) (x:Int) (m:Nd),l[i]?=some x→n[i]?=some m→Cj x (E9 (l.drop (i+1)) hi) m
 |[],[],_,i,x,m,h1,_=>by simp at h1
 |x::xs,n::ns,h,0,y,m,h1,h2=>by
  simp only[bK,aE] at h1 h2;subst h1 h2;exact h.1
 |x::xs,n::ns,h,i+1,y,m,h1,h2=>TR.at h.2 i y m (by simpa using h1) (by simpa using h2)
 |[],_::_,h,_,_,_,_,_=>h.elim
 |_::_,[],h,_,_,_,_,_=>h.elim
theorem TR.head {hi:Option Int}: ∀{l:List Int} {n:List Nd},TR hi l n→ ∀x,l[0]?=some x→below x hi
 |[],_,_,x,hx=>by cases hx
 |[y],[n],h,x,hx=>by
  simp only[bK,aE] at hx;subst hx;exact h.1.2.1
 |y::z::r,n::ns,h,x,hx=>by
  simp only[bK,aE] at hx;subst hx;exact mP (Int.le_of_lt h.1.2.1) (TR.head h.2 z rfl)
 |[_],_::_::_,h,_,_=>h.2.elim
 |_::_,[],h,_,_=>h.elim
theorem lR (l:List Int) (i:Nat):(l.drop i)[0]?=l[i]?:=by rw[iL];rfl
theorem TR.of {t:Tree} (h:nY t): ∀(d i:Nat),i+d=t.nodes.length→TR none (t.cw.drop i) (t.nodes.drop i)
 |0,i,hd=>by
  have:=h.len;rw[AI az,AI az];trivial
 |d+1,i,hd=>by
  have hl:=h.len
  have h1:i<t.cw.length:=by omega
  have h2:i<t.nodes.length:=by omega
  have e1:t.cw[i]?=some t.cw[i]:=aO h1;have e2:t.nodes[i]?=some t.nodes[i]:=aO h2;rw[CU h1,CU h2];refine⟨⟨h.ok _ (qo h2),?_,fun s hs k hk=>⟨h.lo i _ _ e2 e1 s hs k hk,?_⟩⟩,TR.of h d (i+1) az⟩
  ·rw[qO,lR]
   cases hy:t.cw[i+1]? with
   |none=>trivial
   |some y=>exact h.rise i _ y e1 hy
  ·rw[qO,lR]
   cases hy:t.cw[i+1]? with
   |none=>trivial
   |some y=>exact h.hi i _ y e2 hy s hs k hk
theorem TR.tree {l:List Int} {n:List Nd} (h:TR none l n) (h0:l[0]?=some 0):nY ⟨l,n⟩:=by
 have hl:=h.len
 have gt: ∀(i:Nat) (x y:Int),l[i]?=some x→l[i+1]?=some y→ ∃m,n[i]?=some m∧Cj x (some y) m:=fun i x y hx hy=>by
  obtain⟨h1,_⟩:=List.getElem?_eq_some_iff.1 hx;have e2:n[i]?=some n[i]:=aO az;have:=h.at i x _ hx e2;rw[qO,lR,hy] at this;exact⟨_,e2,this⟩
 refine⟨hl,h0,fun i x y hx hy=> ?_,fun m hm=> ?_,fun i m x hm hx=> ?_,fun i m y hm hy=> ?_⟩
 ·obtain⟨m,_,h1⟩:=gt i x y hx hy
  exact h1.2.1
 ·obtain⟨i,hi⟩:=List.mem_iff_getElem?.1 hm
  obtain⟨h1,_⟩:=List.getElem?_eq_some_iff.1 hi;have h1:i<n.length:=h1;exact(h.at i _ m (aO az) hi).1
 ·exact fun s hs k hk=>((h.at i x m hx hm).2.2 s hs k hk).1
 ·intro s hs k hk
  obtain⟨h1,_⟩:=List.getElem?_eq_some_iff.1 hm;have h1:i<n.length:=h1;have:=((h.at i _ m (aO az) hm).2.2 s hs k hk).2;have hy:l[i+1]?=some y:=hy;rw[qO,lR,hy] at this;exact this
def NE (l:List Nd):Prop:= ∀n∈l.tail,¬aC n=[]
theorem Ma (m:Nd):NE [m]:=fun n hn=>by simp at hn
structure sF (t:Tree):Prop where
 tr:TR none t.cw t.nodes
 z:t.cw[0]?=some 0
 ne:NE t.nodes
theorem sF.r {t:Tree} (h:sF t):nY t:=h.tr.tree h.z
theorem D4 {α:Type} {l:List α} {a:α} {i:Nat} (h0:0<i) (h:l[i]?=some a):a∈l.tail:=by
 cases l with
 |nil=>simp at h
 |cons b r=>
  cases i with
  |zero=>omega
  |succ i=>exact dw (i:=i) (by simpa using h)
theorem sF.ok {t:Tree} (h:sF t) (Su:t.nodes.length≤20) (Sb:(j5 t).length≤60):IY t=true:=by
 have hr:=h.r;have hl:=hr.len;have h1:=(List.getElem?_eq_some_iff.1 h.z).1;unfold IY zl;rw[h.z];simp only[cJ,decide_eq_true_eq];refine⟨by omega,hl,trivial,uK.2 fun i hi=> ?_,Sb⟩;unfold DN;have e2:t.nodes[i]?=some t.nodes[i]:=aO hi;rw[e2];simp only[cJ,Bool.or_eq_true,decide_eq_true_eq,o9,decide_eq_false_iff_not];refine⟨?_,hr.ok _ (qo hi),?_,List.all_eq_true.2 fun s hs=>List.all_eq_true.2 fun k hk=> ?_⟩
 ·cases i with
  |zero=>rfl
  |succ i=>
   have a1:t.cw[i]?=some t.cw[i]:=aO az;have a2:t.cw[i+1]?=some t.cw[i+1]:=aO az;simp only[fh,a1,a2,decide_eq_true_eq];exact hr.rise i _ _ a1 a2
 ·by_cases h0:i=0
  ·exact .inl h0
  ·exact .inr fun e=>h.ne _ (D4 az e2) (List.length_eq_zero_iff.1 e)
 ·unfold Br IX
  have a1:t.cw[i]?=some t.cw[i]:=aO az;rw[a1];simp only[cJ,o9,decide_eq_false_iff_not];have h3:=hr.lo i _ _ e2 a1 s hs k hk;refine⟨by omega,?_⟩
  cases hy:t.cw[i+1]? with
  |none=>rfl
  |some y=>simp only[decide_eq_true_eq];exact hr.hi i _ y e2 hy s hs k hk
theorem Kr {l:List Key} {s:List Key} (h:s∈cm l) {k:Key} (hk:k∈s):k∈l:=by
 unfold cm at h
 split at h
 ·cases h
 ·rw[eG.1 h] at hk;exact hk
theorem sF.PD {t:Tree} (h:sF t) {A A1 A2 C:List Int} {N N1 N2 M:List Nd} (e1:t.cw=A++A1++C) (e2:t.nodes=N++N1++M) (hl:A.length=N.length) (w9:A1.length=N1.length) {x:Int} (hx:A1[0]?=some x)
 (h2:TR (E9 C none) A2 N2) (h0:A2[0]?=some x∨(A2=[]∧ ¬A=[])) (hn:NE N2) (hn2: ¬A=[]→ ∀n∈N2,¬aC n=[]):sF ⟨A++A2++C,N++N2++M⟩:=by
 obtain⟨tr,z,ne⟩:=h;rw[e1,e2,sj,sj] at tr;obtain⟨t1,t2⟩:=TR.split hl tr;obtain⟨t3,t4⟩:=TR.split w9 t2
 have Sc:E9 (A1++C) none=some x:=by
  cases A1 with
  |nil=>cases hx
  |cons a r=>simpa [E9] using hx
 rw[Sc] at t1;rw[e2] at ne;rw[e1] at z;have Sd:below x (E9 C none):=t3.head x hx;refine⟨?_,?_,?_⟩
 ·show TR none (A++A2++C) (N++N2++M)
  rw[sj,sj];refine TR.app (TR.app t4 h2) (t1.mono fun y hy=> ?_);have hy:y<x:=hy;rcases h0 with h0|⟨h0,_⟩
  ·cases A2 with
   |nil=>cases h0
   |cons a r=>simp only[bK,aE] at h0;subst h0;exact hy
  ·subst h0;exact mP (Int.le_of_lt hy) Sd
 ·show(A++A2++C)[0]?=some 0
  cases A with
  |cons a r=>simpa using z
  |nil=>
   rcases h0 with h0|⟨_,h0⟩
   ·cases A1 with
    |nil=>cases hx
    |cons a r=>
     cases A2 with
     |nil=>cases h0
     |cons b s=>
      simp only[mj,sk,bK,aE] at z hx h0 ⊢;omega
   ·exact absurd rfl h0
 ·show NE (N++N2++M)
  have hM: ∀n∈M,(¬N1=[])→ ¬aC n=[]:=fun n hm h1=>ne n (by
   cases N with
   |cons a r=>simp[hm]
   |nil=>
    cases N1 with
    |nil=>exact absurd rfl h1
    |cons b s=>simp[hm])
  have Q1: ¬N1=[]:=fun e=>by
   subst e;rw[List.length_eq_zero_iff.1 w9] at hx;cases hx
  intro n hnm
  cases N with
  |cons a r=>
   have hA: ¬A=[]:=fun e=>by rw[e] at hl;simp at hl
   simp only[sk,List.tail_cons,List.mem_append] at hnm;rcases hnm with(hnm|hnm)|hnm
   ·exact ne n (by simp[hnm])
   ·exact hn2 hA n hnm
   ·exact hM n hnm Q1
  |nil=>
   have hA:A=[]:=List.length_eq_zero_iff.1 (by simpa using hl)
   cases N2 with
   |nil=>
    rcases h0 with h0|⟨_,h0⟩
    ·rw[List.length_eq_zero_iff.1 h2.len] at h0;cases h0
    ·exact absurd hA h0
   |cons b s=>
    simp only[mj,sk,List.tail_cons,List.mem_append] at hnm;rcases hnm with hnm|hnm
    ·exact hn n hnm
    ·exact hM n hnm Q1
theorem sF.step {t:Tree} (h:sF t) {i:Nat} (hp:I8 t=some i):sF (uP t i)∧j5 (uP t i)=j5 t:=by
 obtain⟨h1,h2⟩:=G1 hp;have hr:=h.r;have hl:=hr.len;have a1:t.nodes[i]?=some t.nodes[i]:=aO az;have a2:t.nodes[i+1]?=some t.nodes[i+1]:=aO h1;have b1:t.cw[i]?=some t.cw[i]:=aO az;have b2:t.cw[i+1]?=some t.cw[i+1]:=aO az;have en:=I9 a1 a2;have el:=I9 b1 b2;generalize ha:t.nodes[i]=a at*;generalize hb:t.nodes[i+1]=b at*;generalize hx:t.cw[i]=x at*;generalize hy:t.cw[i+1]=y at*;rw[rU a1,rU a2] at h2
 have e1:uP t i=⟨t.cw.take i++[x]++t.cw.drop (i+2),t.nodes.take i++[cm (aC a++aC b)]++t.nodes.drop (i+2)⟩:=by
  unfold uP K8;rw[rU a1,rU a2,ym,b1];rfl
 have el':t.cw=t.cw.take i++[x,y]++t.cw.drop (i+2):=by simpa using el
 have en':t.nodes=t.nodes.take i++[a,b]++t.nodes.drop (i+2):=by simpa using en
 have hlen:(t.cw.take i).length=(t.nodes.take i).length:=by simp[hl]
 have na:=h.tr.at i x a b1 a1;have nb:=h.tr.at (i+1) y b b2 a2;rw[qO,lR,b2] at na
 have hka: ∀k∈aC a,c7 k=true∧x≤eR k.b k.a∧eR k.b k.a<y:=fun k hk=>by
  obtain⟨s,hs,hk⟩:=kW hk;exact⟨qN na.1 hs hk,na.2.2 s hs k hk⟩
 have MZ: ∀k∈aC b,c7 k=true∧y≤eR k.b k.a∧below (eR k.b k.a) (E9 (t.cw.drop (i+1+1)) none):=fun k hk=>by
  obtain⟨s,hs,hk⟩:=kW hk;exact⟨qN nb.1 hs hk,nb.2.2 s hs k hk⟩
 have hxy:x<y:=na.2.1
 have Ju:(aC a++aC b).Pairwise jS:=List.pairwise_append.2 ⟨sC a,sC b,fun u hu v hv=>by
  have:=hka u hu;have h4:=MZ v hv
  exact(Jb this.1 h4.1).1 az⟩
 refine⟨?_,?_⟩
 ·rw[e1]
  refine h.PD el' en' hlen rfl (x:=x) rfl (A2:=[x]) (N2:=[cm (aC a++aC b)]) ⟨⟨E5 Ju (fun k hk=> ?_) (by rw[cE];omega),?_,fun s hs k hk=> ?_⟩,trivial⟩ (.inl rfl) (Ma _) fun hA n hn=> ?_
  ·rcases List.mem_append.1 hk with hk|hk
   ·exact(hka k hk).1
   ·exact(MZ k hk).1
  ·exact mP (Int.le_of_lt hxy) nb.2.1
  ·rcases List.mem_append.1 (Kr hs hk) with hk|hk
   ·exact⟨(hka k hk).2.1,mP (Int.le_of_lt (hka k hk).2.2) nb.2.1⟩
   ·exact⟨by have:=(MZ k hk).2.1;omega,(MZ k hk).2.2⟩
  ·rw[eG.1 hn,D3 Ju fun u hu=>by
    rcases List.mem_append.1 hu with hu|hu<;>exact Bx hu]
   have hi:0<i:=Nat.pos_of_ne_zero fun e=>hA (by subst e;rfl);have:=h.ne a (D4 hi a1);intro e;exact this (List.append_eq_nil_iff.1 e).1
 ·rw[e1]
  unfold j5
  conv=>rhs;rw[en']
  simp only[List.flatMap_append,List.flatMap_cons,List.flatMap_nil,lu]
  rw[D3 Ju fun u hu=>by
     rcases List.mem_append.1 hu with hu|hu<;>exact Bx hu]
end Go.T
namespace Go.T
end Go.T
namespace Go.T
end Go.T
namespace Go.T
theorem qM.lt: ∀{l:List yh},qM l→l.Pairwise fun a b=>CW a.name b.name=true
 |[],_=> .nil
 |[a],_=>by simp
 |a::b::r,h=>by
  have ih:=qM.lt (l:=b::r) h.2;refine List.pairwise_cons.2 ⟨fun c hc=> ?_,ih⟩;rcases bC.1 hc with rfl|hc
  ·exact h.1
  ·exact Bs h.1 ((List.pairwise_cons.1 ih).1 c hc)
end Go.T
namespace Go.T
set_option maxRecDepth 100000
end Go.T
namespace Go.T
theorem Jc {b a k c g:Int} (hb:0≤b∧b≤15) (ha:1≤a∧a≤60) (hk:0≤k∧k≤2) (h:(k=1∧0≤c∧c≤23∧0≤g∧g≤999)∨(¬k=1∧c=0∧g=0)):c7 ⟨b,a,k,c,g⟩=true:=by
 unfold c7 zl;simp only[cJ,decide_eq_true_eq];refine⟨⟨⟨hb,ha⟩,hk⟩,?_⟩;rcases h with⟨h1,h2⟩|⟨h1,h2⟩
 ·rw[aY h1];simp only[cJ,decide_eq_true_eq];omega
 ·rw[aH h1];simp only[cJ,decide_eq_true_eq];exact h2
theorem w8 {n:List (List Key)} (h:cK n=true) (k:Key):cK (di n k).1=true:=by
 unfold di
 repeat' split
 all_goals first|assumption|exact h
theorem Fa {n:List (List Key)} (h:cK n=true):cT n≤11:=by
 have:=vY h;unfold cT;omega
end Go.T
namespace Go.T
variable {C : e7} {f : FuncId} {vs : List TV} {b : List Int}
theorem gK {P:Int→Prop} {K:Int→RR→Int→Int→Prop} (h:bL C f vs (Dr b fun r=> ∃x,r=vI x∧P x)) (k: ∀x i h,0≤i→P x→K x (b.map gi) i h):
 ∃(n:Int) (l:List (List TC)) (n2 n3:Int),ak C f vs (TV.c (TC.sc (Value.int IntKind.i64 n))) [TV.bx [TC.sub 1 l,TC.sc (Value.int IntKind.i64 n2),TC.sc (Value.int IntKind.i64 n3)]]∧K n l n2 n3:=by
 obtain⟨_,_,hr,i,h',hi,rfl,x,rfl,hx⟩:=h;exact⟨x,_,i,h',hr,k x i h' hi hx⟩
theorem tH {P:Key→Prop} {K:Int→Int→Int→Int→Int→RR→Int→Int→Prop} (h:bL C f vs (Dr b fun r=> ∃x,r=TV.ag (aT x)∧P x)) (k: ∀x i h,0≤i→P x→K x.b x.a x.k x.c x.g (b.map gi) i h):
 ∃(m1 m2 m3 m4 m5:Int) (l:List (List TC)) (n2 n3:Int),ak C f vs (TV.ag [TC.sc (Value.int IntKind.i64 m1),TC.sc (Value.int IntKind.i64 m2),TC.sc (Value.int IntKind.i64 m3),TC.sc (Value.int IntKind.i64 m4),TC.sc (Value.int IntKind.i64 m5)]) [TV.bx [TC.sub 1 l,TC.sc (Value.int IntKind.i64 n2),TC.sc (Value.int IntKind.i64 n3)]]∧K m1 m2 m3 m4 m5 l n2 n3:=by
 obtain⟨_,_,hr,i,h',hi,rfl,x,rfl,hx⟩:=h;exact⟨x.b,x.a,x.k,x.c,x.g,_,i,h',hr,k x i h' hi hx⟩
theorem Ck {α:Type} {e:α→List TC} {z:Nat} {P:List α→Prop} {K:RR→RR→Int→Int→Prop} (h:bL C f vs (Dr b fun r=> ∃x:List α,r=TV.c (TC.sub z (x.map e))∧P x)) (k: ∀(x:List α) i h,0≤i→P x→K (x.map e) (b.map gi) i h):
 ∃(l0 l:List (List TC)) (n2 n3:Int),ak C f vs (TV.c (TC.sub z l0)) [TV.bx [TC.sub 1 l,TC.sc (Value.int IntKind.i64 n2),TC.sc (Value.int IntKind.i64 n3)]]∧K l0 l n2 n3:=by
 obtain⟨_,_,hr,i,h',hi,rfl,x,rfl,hx⟩:=h;exact⟨_,_,i,h',hr,k x i h' hi hx⟩
theorem rW {P:List (List Key)→Prop} {K:RR→RR→Int→Int→Prop} (h:bL C f vs (Dr b fun r=> ∃x:List (List Key),r=TV.ag [TC.sub 1 (x.map aZ)]∧P x)) (k: ∀(x:List (List Key)) i h,0≤i→P x→K (x.map aZ) (b.map gi) i h):
 ∃(l0 l:List (List TC)) (n2 n3:Int),ak C f vs (TV.ag [TC.sub 1 l0]) [TV.bx [TC.sub 1 l,TC.sc (Value.int IntKind.i64 n2),TC.sc (Value.int IntKind.i64 n3)]]∧K l0 l n2 n3:=by
 obtain⟨_,_,hr,i,h',hi,rfl,x,rfl,hx⟩:=h;exact⟨_,_,i,h',hr,k x i h' hi hx⟩
theorem v7 {K:RR→Int→Int→Prop} (h:bL C f vs (fun r fs=>fs=[]∧ ∃h,r=tw b 0 h)) (k: ∀h,K (b.map gi) 0 h):
 ∃(l:List (List TC)) (n2 n3:Int),ak C f vs (TV.bx [TC.sub 1 l,TC.sc (Value.int IntKind.i64 n2),TC.sc (Value.int IntKind.i64 n3)]) []∧K l n2 n3:=by
 obtain⟨_,_,hr,rfl,x,rfl⟩:=h;exact⟨_,_,_,hr,k x⟩
theorem fY {P:TV→Prop} {r:TV} {i h:Int} (hi:0≤i) (hP:P r):Dr b P r [TV.bx [TC.sub 1 (b.map gi),TC.sc (Value.int IntKind.i64 i),TC.sc (Value.int IntKind.i64 h)]]:=⟨i,h,hi,rfl,hP⟩
end Go.T
