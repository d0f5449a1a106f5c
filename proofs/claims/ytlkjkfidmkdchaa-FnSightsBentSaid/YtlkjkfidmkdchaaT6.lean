import Derived.Test.YtlkjkfidmkdchaaT5
set_option linter.all false
namespace Go.T
def PF (cf:Cf):Prop:= ∀f vs r fs r' fs',cf f vs r fs→cf f vs r' fs'→r=r'∧fs=fs'
def RJ (lp:Lp):Prop:= ∀f i c st (Q Q':TX→TS→Prop),lp f i c st Q→lp f i c st Q'→ ∃x s,Q x s∧Q' x s
theorem jV {R:Type} {cf:Cf} {lp:Lp} (hc:PF cf) (hl:RJ lp) {Q Q':R→Prop}: ∀(e:Ev R),e.holds cf lp Q→e.holds cf lp Q'→ ∃r,Q r∧Q' r
 | .fail,h,_=>h.elim
 | .ret r,h,h'=>⟨r,h,h'⟩
 | .test b k,h,h'=>jV hc hl (k b) h h'
 | .row rows i k,⟨c,h1,h2⟩,⟨c',zF,Lk⟩=>by
   rw[h1] at zF;cases zF;exact jV hc hl (k c) h2 Lk
 | .byte rows i k,⟨c,h1,h2⟩,⟨c',zF,Lk⟩=>by
   rw[h1] at zF;cases zF;exact jV hc hl (k c) h2 Lk
 | .bytes rows k,⟨c,h1,h2⟩,⟨c',zF,Lk⟩=>by
   rw[h1] at zF;cases zF;exact jV hc hl (k c) h2 Lk
 | .call f vs k,⟨r,fs,h1,h2⟩,⟨r',fs',zF,Lk⟩=>by
   obtain⟨rfl,rfl⟩:=hc _ _ _ _ _ _ h1 zF;exact jV hc hl (k r fs) h2 Lk
 | .loop f i c st k,h,h'=>by
   obtain⟨x,s,h1,h2⟩:=hl _ _ _ _ _ _ h h';exact jV hc hl (k x s) h1 h2
 | .both a b,⟨r,h1,h2,h3⟩,⟨r',zF,Lk,OL⟩=>by
   obtain⟨r0,e1,e2⟩:=jV hc hl a h1 zF;subst e1 e2;exact⟨_,h3,OL⟩
section
variable {C : g9}
theorem Iw {cf:Cf} {lp:Lp} (hc:PF cf) (hl:RJ lp) {fx:List Nat} {f i:Nat} {c:Code} {Q Q':TX→TS→Prop}: ∀(n:Nat) (st:TS),iter C cf lp fx f i c Q n st→iter C cf lp fx f i c Q' n st→ ∃x s,Q x s∧Q' x s
 |0,_,h,_=>h.elim
 |n+1,st,h,h'=>by
  obtain⟨⟨x,s⟩,h1,h2⟩:=jV hc hl _ h h'
  cases x with
  |norm=>
   simp only at h1 h2;rw[lP] at h1 h2;exact Iw hc hl n _ h1 h2
  |ex id=>exact⟨_,_,h1,h2⟩
  |ret=>exact⟨_,_,h1,h2⟩
theorem KW {cf:Cf} (hc:PF cf) (k:Nat) (fx:List Nat): ∀n,RJ (Jn C cf k fx n)
 |0=>fun _ _ _ _ _ _ h _=>h.elim
 |n+1=>fun f i c st Q Q' h h'=>Iw hc (KW hc k fx n) k st h h'
theorem Aj: ∀k,PF (eX C k)
 |0=>fun _ _ _ _ _ _ h _=>h.elim
 |k+1=>fun f vs r fs r' fs' h h'=>by
  unfold eX at h h'
  cases hx:C.ext f with
  |some p=>rw[hx] at h h';have h:p vs=some (r,fs):=h;have h':p vs=some (r',fs'):=h';rw[h] at h';cases h';exact⟨rfl,rfl⟩
  |none=>
  rw[hx] at h h';simp only at h h';obtain⟨p,h1,h2⟩:=jV (Aj k) (KW (Aj k) k _ 4) _ h h';rw[h1] at h2
  cases h2
  exact⟨rfl,rfl⟩
theorem aq.UJ {f:FuncId} {vs:List TV} {r r':TV} {fs fs':List TV} (h:aq C f vs r fs) (h':aq C f vs r' fs'):r'=r∧fs'=fs:=by
 obtain⟨k,h⟩:=h;obtain⟨k',h'⟩:=h';obtain⟨h1,h2⟩:=Aj (max k k') _ _ _ _ _ _ (iK (E0 _ _) h) (iK (Nat.le_max_right _ _) h');exact⟨h1.symm,h2.symm⟩
end
def jt {α:Type} (l:List α) (i:Int):Option α:=if 0≤i then l[i.toNat]? else none
theorem aW {α:Type} (l:List α) (i:Nat):jt l (i:Int)=l[i]?:=by
 unfold jt;rw[aY (Int.natCast_nonneg i),qM]
theorem oE {α:Type} {l:List α} {i:Int} (h0:0≤i) (h1:i<l.length): ∃a,jt l i=some a:=by
 unfold jt;rw[aY h0];exact⟨_,aX az⟩
theorem bA {α:Type} (e:α→List TC) (l:List α) (i:Int):rowAt (l.map e) i=(jt l i).map e:=by
 unfold rowAt jt
 split
 ·rw[gj]
 ·rfl
theorem NI {α:Type} {l:List α} {i:Int} {a:α} (h:jt l i=some a):a∈l:=by
 unfold jt at h
 split at h
 ·exact eK h
 ·cases h
def nE {α:Type} (l:List α) (i:Int) (a:α):List α:=l.set i.toNat a
theorem m7 {α:Type} (l:List α) (i:Int) (a:α):(nE l i a).length=l.length:=by unfold nE;simp
theorem m8 {α:Type} {e:α→List TC} {l:List α} {i:Int} {a a':α} {f:Nat} {cs:List TC} (h:jt l i=some a) (he:(e a).take f++cs++(e a).drop (f+cs.length)=e a'):setRow (l.map e) i f cs=(nE l i a').map e:=by
 unfold jt at h
 split at h
 ·unfold setRow nE
  rw[gj,h];simp only[ie,he,List.map_set]
 ·cases h
@[simp] theorem ee {α:Type} (e:α→List TC) (l:List α) (a b:Int):ay (l.map e) a b=((l.take b.toNat).drop a.toNat).map e:=by
  unfold ay;rw[←Hw,←EZ]
theorem oW {rows:List (List TC)} (h: ∀r∈rows,∀c∈r,∃v,c= .sc v):bL rows=true:=by
 unfold bL;rw[List.all_eq_true];intro r hr;rw[List.all_eq_true];intro c hc;obtain⟨v,rfl⟩:=h r hr c hc
 rfl
@[simp] theorem UK (s:ByteArray):(ByteArray.data s).1.length=s.size:=rfl
@[simp] theorem Ix (l h n:Int):fU l h n=decide (0≤l∧l≤h∧h≤n):=by unfold fU;rfl
end Go.T
namespace Go.T
structure Key where
 b:Int
 a:Int
 k:Int
 c:Int
 g:Int
 deriving DecidableEq
structure kg where
 id:Int
 fr:Int
 deriving DecidableEq
structure Cell where
 g:Int
 u:Bool
 n:Int
 deriving DecidableEq
structure Bp where
 name:ByteArray
 Qp:Int
 size:Int
 fx:Bool
structure Mp where
 name:ByteArray
 fx:Bool
 l:List Int
structure Tree where
 au:List Int
 nodes:List (List (List Key))
structure SY where
 t:Tree
 Qq:List kg
 cells:List Cell
 Vx:List Bp
 next:Int
structure OJ where
 kind:Int
 name:ByteArray
 to:ByteArray
 a:Int
 b:Int
abbrev iI (n:Int):TC:= .sc (.int .i64 n)
abbrev iB (b:Bool):TC:= .sc (.bool b)
abbrev iS (s:ByteArray):TC:= .sc (.string s)
abbrev cI (n:Int):CE:= .sc (.int .i64 n)
abbrev cB (b:Bool):CE:= .sc (.bool b)
abbrev aF (a b:Int):Int:=Je .i64 a b
abbrev gM (a b:Int):Int:=Cw .i64 a b
abbrev y6 (a b:Int):Int:=Jf .i64 a b
theorem aZ {a b:Int} (h: -9223372036854775808≤a+b∧a+b≤9223372036854775807):aF a b=a+b:=PC h
theorem lT {a b:Int} (h: -9223372036854775808≤a-b∧a-b≤9223372036854775807):gM a b=a-b:=PD h
theorem PG {a b:Int} (h: -9223372036854775808≤a*b∧a*b≤9223372036854775807):y6 a b=a*b:=Gz h
abbrev RR:=List (List TC)
abbrev QV:=TV→List TV→Prop
abbrev QX:=TX→TS→Prop
abbrev sI:Sh:= .int .i64
abbrev sB:Sh:= .bool
abbrev hz:Hint:= .z
abbrev hb:Hint→Hint→Hint:= .br
abbrev hr:List Sh→Hint→Hint:= .row
abbrev hc:ym→List ym→Hint→Hint:= .call
def c8 (n:Int):List TC:=[.sc (.int .i64 n)]
def gr (n:Int):List TC:=[.sc (.int .u8 n)]
def KX (n:Bool):List TC:=[.sc (.bool n)]
def bn (x:Key):List TC:=[.sc (.int .i64 x.b),.sc (.int .i64 x.a),.sc (.int .i64 x.k),.sc (.int .i64 x.c),.sc (.int .i64 x.g)]
def ef (x:kg):List TC:=[.sc (.int .i64 x.id),.sc (.int .i64 x.fr)]
def sN (x:Cell):List TC:=[.sc (.int .i64 x.g),.sc (.bool x.u),.sc (.int .i64 x.n)]
def vf (x:Bp):List TC:=[.sc (.string x.name),.sc (.int .i64 x.Qp),.sc (.int .i64 x.size),.sc (.bool x.fx)]
def KY (x:OJ):List TC:=[.sc (.int .i64 x.kind),.sc (.string x.name),.sc (.string x.to),.sc (.int .i64 x.a),.sc (.int .i64 x.b)]
def Ak (x:Mp):List TC:=[.sc (.string x.name),.sc (.bool x.fx),.sub 1 (x.l.map c8)]
def NJ (x:List Int):List TC:=[.sub 1 (x.map gr)]
def dr (x:List Key):List TC:=[.sub 5 (x.map bn)]
def cc (x:List (List Key)):List TC:=[.sub 1 (x.map dr)]
abbrev FB (t:Tree):List TC:=[.sub 1 (t.au.map c8),.sub 1 (t.nodes.map cc)]
abbrev vI (n:Int):TV:= .c (.sc (.int .i64 n))
abbrev vB (b:Bool):TV:= .c (.sc (.bool b))
abbrev vS (s:ByteArray):TV:= .c (.sc (.string s))
abbrev ru (l:List Int):TV:= .c (.sub 1 (l.map c8))
abbrev sg (l:List Int):TV:= .c (.sub 1 (l.map gr))
abbrev cj (l:List Key):TV:= .c (.sub 5 (l.map bn))
abbrev RK (l:List (List (List Key))):TV:= .c (.sub 1 (l.map cc))
abbrev m9 (l:List kg):TV:= .c (.sub 2 (l.map ef))
abbrev JV (k:Key):TV:= .ag [.sc (.int .i64 k.b),.sc (.int .i64 k.a),.sc (.int .i64 k.k),.sc (.int .i64 k.c),.sc (.int .i64 k.g)]
abbrev nc (n:List (List Key)):TV:= .ag [.sub 1 (n.map dr)]
abbrev dW (t:Tree):TV:= .ag (FB t)
section
variable {i : Int}
@[simp] theorem Al {l:List Int} {K:Int→Prop}:(∃n,rowAt (l.map c8) i=some [.sc (.int .i64 n)]∧K n)↔ ∃a,jt l i=some a∧K a:=by
  rw[bA]
  constructor
  ·rintro⟨n,h,hK⟩
   obtain⟨a,ha,h⟩:=Option.map_eq_some_iff.1 h;unfold c8 at h;cases h;exact⟨_,ha,hK⟩
  ·rintro⟨a,ha,hK⟩
   exact⟨_,by rw[ha];rfl,hK⟩
@[simp] theorem TZ {l:List Int} {K:Int→Prop}:(∃n,rowAt (l.map gr) i=some [.sc (.int .u8 n)]∧K n)↔ ∃a,jt l i=some a∧K a:=by
  rw[bA]
  constructor
  ·rintro⟨n,h,hK⟩
   obtain⟨a,ha,h⟩:=Option.map_eq_some_iff.1 h;unfold gr at h;cases h;exact⟨_,ha,hK⟩
  ·rintro⟨a,ha,hK⟩
   exact⟨_,by rw[ha];rfl,hK⟩
@[simp] theorem T2 {l:List Bool} {K:Bool→Prop}:(∃n,rowAt (l.map KX) i=some [.sc (.bool n)]∧K n)↔ ∃a,jt l i=some a∧K a:=by
  rw[bA]
  constructor
  ·rintro⟨n,h,hK⟩
   obtain⟨a,ha,h⟩:=Option.map_eq_some_iff.1 h;unfold KX at h;cases h;exact⟨_,ha,hK⟩
  ·rintro⟨a,ha,hK⟩
   exact⟨_,by rw[ha];rfl,hK⟩
@[simp] theorem lu {l:List Key} {K:Int→Int→Int→Int→Int→Prop}:(∃b a k c g,rowAt (l.map bn) i=some [.sc (.int .i64 b),.sc (.int .i64 a),.sc (.int .i64 k),.sc (.int .i64 c),.sc (.int .i64 g)]∧K b a k c g)↔ ∃x,jt l i=some x∧K x.b x.a x.k x.c x.g:=by
  rw[bA]
  constructor
  ·rintro⟨_,_,_,_,_,h,hK⟩
   obtain⟨a,ha,h⟩:=Option.map_eq_some_iff.1 h;unfold bn at h;cases h;exact⟨_,ha,hK⟩
  ·rintro⟨a,ha,hK⟩
   exact⟨_,_,_,_,_,by rw[ha];rfl,hK⟩
@[simp] theorem Dg {l:List kg} {K:Int→Int→Prop}:(∃b a,rowAt (l.map ef) i=some [.sc (.int .i64 b),.sc (.int .i64 a)]∧K b a)↔ ∃x,jt l i=some x∧K x.id x.fr:=by
  rw[bA]
  constructor
  ·rintro⟨_,_,h,hK⟩
   obtain⟨a,ha,h⟩:=Option.map_eq_some_iff.1 h;unfold ef at h;cases h;exact⟨_,ha,hK⟩
  ·rintro⟨a,ha,hK⟩
   exact⟨_,_,by rw[ha];rfl,hK⟩
@[simp] theorem T3 {l:List Cell} {K:Int→Bool→Int→Prop}:(∃g u n,rowAt (l.map sN) i=some [.sc (.int .i64 g),.sc (.bool u),.sc (.int .i64 n)]∧K g u n)↔ ∃x,jt l i=some x∧K x.g x.u x.n:=by
  rw[bA]
  constructor
  ·rintro⟨_,_,_,h,hK⟩
   obtain⟨a,ha,h⟩:=Option.map_eq_some_iff.1 h;unfold sN at h;cases h;exact⟨_,ha,hK⟩
  ·rintro⟨a,ha,hK⟩
   exact⟨_,_,_,by rw[ha];rfl,hK⟩
@[simp] theorem UL {l:List Bp} {K:ByteArray→Int→Int→Bool→Prop}:(∃s a z f,rowAt (l.map vf) i=some [.sc (.string s),.sc (.int .i64 a),.sc (.int .i64 z),.sc (.bool f)]∧K s a z f)↔ ∃x,jt l i=some x∧K x.name x.Qp x.size x.fx:=by
  rw[bA]
  constructor
  ·rintro⟨_,_,_,_,h,hK⟩
   obtain⟨a,ha,h⟩:=Option.map_eq_some_iff.1 h;unfold vf at h;cases h;exact⟨_,ha,hK⟩
  ·rintro⟨a,ha,hK⟩
   exact⟨_,_,_,_,by rw[ha];rfl,hK⟩
@[simp] theorem VG {l:List OJ} {K:Int→ByteArray→ByteArray→Int→Int→Prop}:(∃k s t a b,rowAt (l.map KY) i=some [.sc (.int .i64 k),.sc (.string s),.sc (.string t),.sc (.int .i64 a),.sc (.int .i64 b)]∧K k s t a b)↔ ∃x,jt l i=some x∧K x.kind x.name x.to x.a x.b:=by
  rw[bA]
  constructor
  ·rintro⟨_,_,_,_,_,h,hK⟩
   obtain⟨a,ha,h⟩:=Option.map_eq_some_iff.1 h;unfold KY at h;cases h;exact⟨_,ha,hK⟩
  ·rintro⟨a,ha,hK⟩
   exact⟨_,_,_,_,_,by rw[ha];rfl,hK⟩
@[simp] theorem UM {l:List Mp} {K:ByteArray→Bool→List (List TC)→Prop}:(∃s f r,rowAt (l.map Ak) i=some [.sc (.string s),.sc (.bool f),.sub 1 r]∧K s f r)↔ ∃x,jt l i=some x∧K x.name x.fx (x.l.map c8):=by
  rw[bA]
  constructor
  ·rintro⟨_,_,_,h,hK⟩
   obtain⟨a,ha,h⟩:=Option.map_eq_some_iff.1 h;unfold Ak at h;cases h;exact⟨_,ha,hK⟩
  ·rintro⟨a,ha,hK⟩
   exact⟨_,_,_,by rw[ha];rfl,hK⟩
@[simp] theorem Am {l:List (List Key)} {K:List (List TC)→Prop}:(∃r,rowAt (l.map dr) i=some [.sub 5 r]∧K r)↔ ∃x,jt l i=some x∧K (x.map bn):=by
  rw[bA]
  constructor
  ·rintro⟨_,h,hK⟩
   obtain⟨a,ha,h⟩:=Option.map_eq_some_iff.1 h;unfold dr at h;cases h;exact⟨_,ha,hK⟩
  ·rintro⟨a,ha,hK⟩
   exact⟨_,by rw[ha];rfl,hK⟩
@[simp] theorem Cp {l:List (List (List Key))} {K:List (List TC)→Prop}:(∃r,rowAt (l.map cc) i=some [.sub 1 r]∧K r)↔ ∃x,jt l i=some x∧K (x.map dr):=by
  rw[bA]
  constructor
  ·rintro⟨_,h,hK⟩
   obtain⟨a,ha,h⟩:=Option.map_eq_some_iff.1 h;unfold cc at h;cases h;exact⟨_,ha,hK⟩
  ·rintro⟨a,ha,hK⟩
   exact⟨_,by rw[ha];rfl,hK⟩
@[simp] theorem SZ {l:List (List Int)} {K:List (List TC)→Prop}:(∃r,rowAt (l.map NJ) i=some [.sub 1 r]∧K r)↔ ∃x,jt l i=some x∧K (x.map gr):=by
  rw[bA]
  constructor
  ·rintro⟨_,h,hK⟩
   obtain⟨a,ha,h⟩:=Option.map_eq_some_iff.1 h;unfold NJ at h;cases h;exact⟨_,ha,hK⟩
  ·rintro⟨a,ha,hK⟩
   exact⟨_,by rw[ha];rfl,hK⟩
end
@[simp] theorem natAdd (a b:Nat):Nat.add a b=a+b:=rfl
@[simp] theorem KZ {α:Type} (a b:List α):List.append a b=a++b:=rfl
theorem mK (l:List Int):bL (l.map c8)=true:=oW fun r hr c hc=>by
 obtain⟨a,_,rfl⟩:=List.mem_map.1 hr;unfold c8 at hc;simp only[fc] at hc;exact⟨_,hc⟩
theorem JW (l:List Int):bL (l.map gr)=true:=oW fun r hr c hc=>by
 obtain⟨a,_,rfl⟩:=List.mem_map.1 hr;unfold gr at hc;simp only[fc] at hc;exact⟨_,hc⟩
theorem jh (l:List Key):bL (l.map bn)=true:=oW fun r hr c hc=>by
 obtain⟨a,_,rfl⟩:=List.mem_map.1 hr;unfold bn at hc;simp only[bQ,List.not_mem_nil,or_false] at hc;rcases hc with h|h|h|h|h<;>exact⟨_,h⟩
theorem Ao (l:List kg):bL (l.map ef)=true:=oW fun r hr c hc=>by
 obtain⟨a,_,rfl⟩:=List.mem_map.1 hr;unfold ef at hc;simp only[bQ,List.not_mem_nil,or_false] at hc;rcases hc with h|h<;>exact⟨_,h⟩
theorem JX (l:List Cell):bL (l.map sN)=true:=oW fun r hr c hc=>by
 obtain⟨a,_,rfl⟩:=List.mem_map.1 hr;unfold sN at hc;simp only[bQ,List.not_mem_nil,or_false] at hc;rcases hc with h|h|h<;>exact⟨_,h⟩
theorem FC (l:List Bp):bL (l.map vf)=true:=oW fun r hr c hc=>by
 obtain⟨a,_,rfl⟩:=List.mem_map.1 hr;unfold vf at hc;simp only[bQ,List.not_mem_nil,or_false] at hc;rcases hc with h|h|h|h<;>exact⟨_,h⟩
@[simp] theorem NK (v:Value):bL [[.sc v]]=true:=oW fun r hr c hc=>by
  simp only[fc] at hr;subst hr;simp only[fc] at hc;exact⟨_,hc⟩
attribute [simp] mK JW jh Ao JX FC
end Go.T
namespace Go.T
theorem FD {α:Type} (g:α→α): ∀(l:List α) (i:Nat) (a:α),l[i]?=some a→l.modify i g=l.set i (g a)
 |[],i,a,h=>by simp at h
 |x::r,0,a,h=>by simp only[cw,aT] at h;subst h;rfl
 |x::r,i+1,a,h=>by
  simp only[mm] at h;rw[List.modify_succ_cons,List.set_cons_succ,FD g r i a h]
theorem bu {α:Type} {e:α→List TC} {l:List α} {i:Int} {f:Nat} {cs:List TC} {g:α→α} (he: ∀a,(e a).take f++cs++(e a).drop (f+cs.length)=e (g a)):setRow (l.map e) i f cs=(l.modify i.toNat g).map e:=by
 unfold setRow;rw[gj]
 cases h:l[i.toNat]? with
 |none=>
  have:l.length≤i.toNat:=List.getElem?_eq_none_iff.1 h;simp only[Option.map_none];rw[List.modify_eq_self this]
 |some a=>
  simp only[ie];rw[he,FD g l _ a h,List.map_set]
@[simp] theorem S0 {l:List Key} {i:Int} {v:Int}:setRow (l.map bn) i 0 [.sc (.int .i64 v)]=(l.modify i.toNat fun x=>{x with b:=v}).map bn:=bu fun a=>rfl
@[simp] theorem S1 {l:List Key} {i:Int} {v:Int}:setRow (l.map bn) i 1 [.sc (.int .i64 v)]=(l.modify i.toNat fun x=>{x with a:=v}).map bn:=bu fun a=>rfl
@[simp] theorem S2 {l:List Key} {i:Int} {v:Int}:setRow (l.map bn) i 2 [.sc (.int .i64 v)]=(l.modify i.toNat fun x=>{x with k:=v}).map bn:=bu fun a=>rfl
@[simp] theorem S3 {l:List Key} {i:Int} {v:Int}:setRow (l.map bn) i 3 [.sc (.int .i64 v)]=(l.modify i.toNat fun x=>{x with c:=v}).map bn:=bu fun a=>rfl
@[simp] theorem S4 {l:List Key} {i:Int} {v:Int}:setRow (l.map bn) i 4 [.sc (.int .i64 v)]=(l.modify i.toNat fun x=>{x with g:=v}).map bn:=bu fun a=>rfl
@[simp] theorem UN {l:List Key} {i:Int} {v0:Int} {v1:Int} {v2:Int} {v3:Int} {v4:Int}:setRow (l.map bn) i 0 [.sc (.int .i64 v0),.sc (.int .i64 v1),.sc (.int .i64 v2),.sc (.int .i64 v3),.sc (.int .i64 v4)]=(l.modify i.toNat fun _=>⟨v0,v1,v2,v3,v4⟩).map bn:=bu fun a=>rfl
@[simp] theorem Sj {l:List kg} {i:Int} {v:Int}:setRow (l.map ef) i 0 [.sc (.int .i64 v)]=(l.modify i.toNat fun x=>{x with id:=v}).map ef:=bu fun a=>rfl
@[simp] theorem Sk {l:List kg} {i:Int} {v:Int}:setRow (l.map ef) i 1 [.sc (.int .i64 v)]=(l.modify i.toNat fun x=>{x with fr:=v}).map ef:=bu fun a=>rfl
@[simp] theorem UO {l:List kg} {i:Int} {v0:Int} {v1:Int}:setRow (l.map ef) i 0 [.sc (.int .i64 v0),.sc (.int .i64 v1)]=(l.modify i.toNat fun _=>⟨v0,v1⟩).map ef:=bu fun a=>rfl
@[simp] theorem Sl {l:List Cell} {i:Int} {v:Int}:setRow (l.map sN) i 0 [.sc (.int .i64 v)]=(l.modify i.toNat fun x=>{x with g:=v}).map sN:=bu fun a=>rfl
@[simp] theorem Sm {l:List Cell} {i:Int} {v:Bool}:setRow (l.map sN) i 1 [.sc (.bool v)]=(l.modify i.toNat fun x=>{x with u:=v}).map sN:=bu fun a=>rfl
@[simp] theorem Sn {l:List Cell} {i:Int} {v:Int}:setRow (l.map sN) i 2 [.sc (.int .i64 v)]=(l.modify i.toNat fun x=>{x with n:=v}).map sN:=bu fun a=>rfl
@[simp] theorem T4 {l:List Cell} {i:Int} {v0:Int} {v1:Bool} {v2:Int}:setRow (l.map sN) i 0 [.sc (.int .i64 v0),.sc (.bool v1),.sc (.int .i64 v2)]=(l.modify i.toNat fun _=>⟨v0,v1,v2⟩).map sN:=bu fun a=>rfl
@[simp] theorem QH {l:List Bp} {i:Int} {v:ByteArray}:setRow (l.map vf) i 0 [.sc (.string v)]=(l.modify i.toNat fun x=>{x with name:=v}).map vf:=bu fun a=>rfl
@[simp] theorem RL {l:List Bp} {i:Int} {v:Int}:setRow (l.map vf) i 1 [.sc (.int .i64 v)]=(l.modify i.toNat fun x=>{x with Qp:=v}).map vf:=bu fun a=>rfl
@[simp] theorem QI {l:List Bp} {i:Int} {v:Int}:setRow (l.map vf) i 2 [.sc (.int .i64 v)]=(l.modify i.toNat fun x=>{x with size:=v}).map vf:=bu fun a=>rfl
@[simp] theorem So {l:List Bp} {i:Int} {v:Bool}:setRow (l.map vf) i 3 [.sc (.bool v)]=(l.modify i.toNat fun x=>{x with fx:=v}).map vf:=bu fun a=>rfl
@[simp] theorem UP {l:List Bp} {i:Int} {v0:ByteArray} {v1:Int} {v2:Int} {v3:Bool}:setRow (l.map vf) i 0 [.sc (.string v0),.sc (.int .i64 v1),.sc (.int .i64 v2),.sc (.bool v3)]=(l.modify i.toNat fun _=>⟨v0,v1,v2,v3⟩).map vf:=bu fun a=>rfl
@[simp] theorem RM {l:List OJ} {i:Int} {v:Int}:setRow (l.map KY) i 0 [.sc (.int .i64 v)]=(l.modify i.toNat fun x=>{x with kind:=v}).map KY:=bu fun a=>rfl
@[simp] theorem RN {l:List OJ} {i:Int} {v:ByteArray}:setRow (l.map KY) i 1 [.sc (.string v)]=(l.modify i.toNat fun x=>{x with name:=v}).map KY:=bu fun a=>rfl
@[simp] theorem S5 {l:List OJ} {i:Int} {v:ByteArray}:setRow (l.map KY) i 2 [.sc (.string v)]=(l.modify i.toNat fun x=>{x with to:=v}).map KY:=bu fun a=>rfl
@[simp] theorem T6 {l:List OJ} {i:Int} {v:Int}:setRow (l.map KY) i 3 [.sc (.int .i64 v)]=(l.modify i.toNat fun x=>{x with a:=v}).map KY:=bu fun a=>rfl
@[simp] theorem T7 {l:List OJ} {i:Int} {v:Int}:setRow (l.map KY) i 4 [.sc (.int .i64 v)]=(l.modify i.toNat fun x=>{x with b:=v}).map KY:=bu fun a=>rfl
@[simp] theorem VH {l:List OJ} {i:Int} {v0:Int} {v1:ByteArray} {v2:ByteArray} {v3:Int} {v4:Int}:setRow (l.map KY) i 0 [.sc (.int .i64 v0),.sc (.string v1),.sc (.string v2),.sc (.int .i64 v3),.sc (.int .i64 v4)]=(l.modify i.toNat fun _=>⟨v0,v1,v2,v3,v4⟩).map KY:=bu fun a=>rfl
@[simp] theorem QJ {l:List Mp} {i:Int} {v:ByteArray}:setRow (l.map Ak) i 0 [.sc (.string v)]=(l.modify i.toNat fun x=>{x with name:=v}).map Ak:=bu fun a=>rfl
@[simp] theorem Sp {l:List Mp} {i:Int} {v:Bool}:setRow (l.map Ak) i 1 [.sc (.bool v)]=(l.modify i.toNat fun x=>{x with fx:=v}).map Ak:=bu fun a=>rfl
@[simp] theorem S6 {l:List Mp} {i:Int} {v:List Int}:setRow (l.map Ak) i 2 [.sub 1 (v.map c8)]=(l.modify i.toNat fun x=>{x with l:=v}).map Ak:=bu fun a=>rfl
@[simp] theorem UQ {l:List Mp} {i:Int} {v0:ByteArray} {v1:Bool} {v2:List Int}:setRow (l.map Ak) i 0 [.sc (.string v0),.sc (.bool v1),.sub 1 (v2.map c8)]=(l.modify i.toNat fun _=>⟨v0,v1,v2⟩).map Ak:=bu fun a=>rfl
@[simp] theorem UR {l:List (Int)} {i:Int} {v:Int}:setRow (l.map c8) i 0 [.sc (.int .i64 v)]=(l.modify i.toNat fun _=>v).map c8:=bu fun a=>rfl
@[simp] theorem T8 {l:List (Int)} {i:Int} {v:Int}:setRow (l.map gr) i 0 [.sc (.int .u8 v)]=(l.modify i.toNat fun _=>v).map gr:=bu fun a=>rfl
@[simp] theorem T9 {l:List (Bool)} {i:Int} {v:Bool}:setRow (l.map KX) i 0 [.sc (.bool v)]=(l.modify i.toNat fun _=>v).map KX:=bu fun a=>rfl
@[simp] theorem US {l:List (List Key)} {i:Int} {v:List Key}:setRow (l.map dr) i 0 [.sub 5 (v.map bn)]=(l.modify i.toNat fun _=>v).map dr:=bu fun a=>rfl
@[simp] theorem Ua {l:List (List (List Key))} {i:Int} {v:List (List Key)}:setRow (l.map cc) i 0 [.sub 1 (v.map dr)]=(l.modify i.toNat fun _=>v).map cc:=bu fun a=>rfl
end Go.T
namespace Go.T
theorem ck {α:Type} (l:List α) (P:Nat→Prop) (fin:P l.length) (step: ∀i a,i<l.length→l[i]?=some a→l.drop i=a::l.drop (i+1)→l.take (i+1)=l.take i++[a]→P (i+1)→P i):P 0:=by
 have: ∀k i,i+k=l.length→P i:=by
  intro k
  induction k with
  |zero=>intro i h;have:i=l.length:=by omega
         subst this;exact fin
  |succ k ih=>
   intro i h
   have hi:i<l.length:=by omega
   refine step i l[i] hi (aX hi) (yp hi) ?_ (ih (i+1) az);rw[List.take_add_one,aX hi];rfl
 exact this l.length 0 az
def tot {α:Type} (w:α→Nat):List α→Nat
 |[]=>0
 |a::r=>w a+tot w r
theorem y7 {α:Type} {w:α→Nat}: ∀{l:List α} {a:α},a∈l→w a≤tot w l
 |[],_,h=>by cases h
 |b::r,a,h=>by
  simp only[tot];rcases bQ.1 h with rfl|h
  ·omega
  ·have:=y7 (w:=w) h;omega
theorem ou {α:Type} {w:α→Nat} {l:List α} {i:Nat} {a:α} (h:l[i]?=some a):w a≤tot w l:=y7 (eK h)
def bS (s:List Key):Nat:=s.length
def aJ (n:List (List Key)):Nat:=n.length+tot bS n
def ov (n:List (List (List Key))):Nat:=n.length+tot aJ n
def cO (t:Tree):Nat:=t.au.length+ov t.nodes
end Go.T
namespace Go.T
section
variable {C : g9} {f : FuncId} {vs : List TV}
theorem Dh {x b:Bool} (h:aq C f vs (vB x) []):aq C f vs (vB b) []↔b=x:=⟨fun h'=>by have:=(h.UJ h').1;simpa using this,fun e=>e▸h⟩
theorem RO {x b:Int} (h:aq C f vs (vI x) []):aq C f vs (vI b) []↔b=x:=⟨fun h'=>by have:=(h.UJ h').1;simpa using this,fun e=>e▸h⟩
theorem LX {z:Nat} {x b:RR} (h:aq C f vs (.c (.sub z x)) []):aq C f vs (.c (.sub z b)) []↔b=x:=⟨fun h'=>by have:=(h.UJ h').1;simpa using this,fun e=>e▸h⟩
end
def Cq (a lo hi:Int):Bool:=decide (lo≤a∧a≤hi)
def cT (x:Key):Bool:=Cq x.b 0 15&&Cq x.a 1 60&&Cq x.k 0 2&&(if x.k=1 then Cq x.c 0 23&&Cq x.g 0 999 else decide (x.c=0)&&decide (x.g=0))
def bX (x y:Key):Bool:=decide (x.b<y.b∨(x.b=y.b∧x.a<y.a))
def fF (x y:Key):Bool:=decide (x.b=y.b∧x.a=y.a)
def iV (n:Nat) (f:Nat→Bool):Bool:=(List.range' 0 n).all f
theorem Di {i n:Nat} (h:i<n):List.range' i (n-i)=i::List.range' (i+1) (n-(i+1)):=by
 obtain⟨k,hk⟩: ∃k,n-i=k+1:=⟨n-i-1,by omega⟩;rw[hk,show n-(i+1)=k by omega]
 rfl
theorem Iy (n:Nat) (P:Nat→Prop) (fin:P n) (step: ∀i,i<n→P (i+1)→P i):P 0:=by
 have: ∀k i,i+k=n→P i:=by
  intro k
  induction k with
  |zero=>intro i h;have:i=n:=by omega
         subst this;exact fin
  |succ k ih=>intro i h;exact step i az (ih (i+1) az)
 exact this n 0 az
theorem K0 {α:Type} (f g:α→Bool): ∀l:List α,l.all (fun x=>f x&&g x)=(l.all f&&l.all g)
 |[]=>rfl
 |a::r=>by simp only[uL,K0 f g r];cases f a<;>cases g a<;>simp
theorem NL (n:Nat) (f g:Nat→Bool):iV n (fun i=>f i&&g i)=(iV n f&&iV n g):=K0 f g _
theorem vg {n:Nat} {f:Nat→Bool}:iV n f=true↔ ∀i,i<n→f i=true:=by
 unfold iV;rw[List.all_eq_true]
 constructor
 ·intro h i hi;exact h i (by simp[List.mem_range'];exact hi)
 ·intro h i hi
  simp[List.mem_range'] at hi;exact h i hi
def QL {α:Type} (l:List α) (f:α→Bool) (i:Nat):Bool:=match l[i]? with|some a=>f a|none=>true
def gu {α:Type} (l:List α) (f:α→α→Bool):Nat→Bool
 |0=>true
 |k+1=>match l[k]?,l[k+1]? with|some x,some y=>f x y|_,_=>true
theorem PI {α:Type} (l:List α) (f:α→Bool):iV l.length (QL l f)=l.all f:=by
 rw[Bool.eq_iff_iff,vg,List.all_eq_true]
 constructor
 ·intro h a ha
  obtain⟨i,hi,rfl⟩:=List.getElem_of_mem ha;have:=h i hi;simpa [QL,hi] using this
 ·intro h i hi
  simp only[QL,aX hi];exact h _ (qN hi)
def PJ (l:List Key) (i:Nat):Bool:=QL l cT i&&gu l bX i
def y8 (l:List Key):Bool:=iV l.length (PJ l)&&decide (l.length≤60)
theorem y9 (l:List Key):y8 l=(l.all cT&&(iV l.length (gu l bX)&&decide (l.length≤60))):=by
 rw[←Bool.and_assoc,←PI,←NL];rfl
def dQ:Key:=⟨0,0,0,0,0⟩
def setAt (l:List Key) (b a:Int):Option Key:=l.find? fun x=>decide (x.b=b∧x.a=a)
def cu (k:Key):Bool→List Key→List Key
 |put,[]=>if put then [] else [k]
 |put,x::r=>(if !put&& !bX x k then [k] else [])++(if fF x k then [] else [x])++cu k (put|| !bX x k) r
def cm (l:List Key) (k:Key):List Key:=cu k false l
theorem Bd (k:Key): ∀(l:List Key) (put:Bool),(cu k put l).length≤l.length+(if put then 0 else 1)
 |[],put=>by simp only[cu];split<;>simp
 |x::r,put=>by
  have:=Bd k r (put|| !bX x k);simp only[cu,bZ,eB]
  have h1:(if fF x k then([]:List Key) else [x]).length≤1:=by split<;>simp
  revert h1
  generalize (if fF x k then([]:List Key) else [x])=m;intro h1
  cases put<;>cases hk:bX x k<;>simp[hk] at this ⊢ <;>omega
theorem gW (l:List Key) (k:Key):(cm l k).length≤l.length+1:=by have:=Bd k l false;simpa [cm] using this
def bq (old new:List Key):List Key:=new.foldl cm old
theorem mT: ∀(new old:List Key),(bq old new).length≤old.length+new.length
 |[],old=>by simp[bq]
 |x::r,old=>by
  have:=mT r (cm old x);have h2:=gW old x;simp only[bq,List.foldl_cons,eB] at this ⊢;omega
def fG (l:List Key):List Key:=l.filter fun k=> !decide (k.k=0)
def lD (n:List (List Key)):List Key:=n.foldl bq []
def an (n:List (List Key)):List Key:=fG (lD n)
theorem sO: ∀(n:List (List Key)) (a:List Key),(n.foldl bq a).length≤a.length+tot bS n
 |[],a=>by simp[tot]
 |s::r,a=>by
  have:=sO r (bq a s);have h2:=mT s a;simp only[List.foldl_cons,tot,bS] at this ⊢;omega
theorem cM (n:List (List Key)):(an n).length≤tot bS n:=by
 have h1:=sO n [];have h2:=Hv (fun k:Key=> !decide (k.k=0)) (lD n);simp only[List.length_nil,ic] at h1;exact nP h2 h1
def cR (n:List (List Key)):Nat:=tot bS n
def dw (n:List (List Key)):Bool:=n.all (fun s=>y8 s&& !decide (s.length=0))&&decide (n.length≤3)&&decide (cR n≤8)
def bJ (l:List Key):List (List Key):=if l.length=0 then [] else [l]
def av (t:Tree):List Key:=t.nodes.flatMap an
theorem zc: ∀(l:List (List (List Key))),(l.flatMap an).length≤tot aJ l
 |[]=>by simp[tot]
 |n::r=>by
  have:=zc r;have h2:=cM n;simp only[List.flatMap_cons,bZ,tot,aJ];omega
theorem jW (t:Tree):(av t).length≤cO t:=by
 have:=zc t.nodes;unfold av cO ov;omega
def dI (t:Tree) (b:Int):List Key:=(av t).filter fun k=>decide (k.b=b)
theorem xP (t:Tree) (b:Int):(dI t b).length≤(av t).length:=Hv _ _
def bI (b a:Int):Int:=aF (y6 64 b) a
def jX {α:Type} (p:α→Bool):List α→Int→Int
 |[],_=> -1
 |a::r,i=>if p a then i else jX p r (i+1)
theorem Iz {α:Type} (p:α→Bool): ∀(l:List α) (i:Int),0≤i→decide (0≤jX p l i)=l.any p
 |[],i,_=>by simp[jX]
 |a::r,i,h=>by
  by_cases hp:p a=true
  ·simp[jX,hp,h]
  ·have:=Iz p r (i+1) az
   simp only[jX,aO hp,List.any_cons];rw[this];simp[hp]
theorem FE {α:Type} (p:α→Bool): ∀(l:List α) (i:Int),0≤i→(jX p l i= -1∧ ∀a∈l,p a=false)∨ ∃(j:Nat) (a:α),jX p l i=i+j∧l[j]?=some a∧p a=true∧j<l.length∧ ∀k,k<j→ ∀b,l[k]?=some b→p b=false
 |[],i,_=> .inl ⟨rfl,fun a h=>by cases h⟩
 |a::r,i,h=>by
  simp only[jX]
  cases hp:p a with
  |true=>exact .inr ⟨0,a,by simp,rfl,hp,by simp,fun k hk=>by omega⟩
  |false=>
   rcases FE p r (i+1) az with⟨h1,h2⟩|⟨j,b,h1,h2,h3,h4,h5⟩
   ·refine .inl ⟨by simpa using h1,fun b hb=> ?_⟩
    rcases bQ.1 hb with rfl|hb
    ·exact hp
    ·exact h2 b hb
   ·refine .inr ⟨j+1,b,by simp[h1];omega,h2,h3,by simp;omega,fun k hk c hc=> ?_⟩
    cases k with
    |zero=>simp at hc;rw[←hc];exact hp
    |succ k=>exact h5 k az c hc
theorem NM {α:Type} (p:α→Bool) (l:List α) (h: ¬jX p l 0<0): ∃a,jt l (jX p l 0)=some a∧p a=true:=by
 rcases FE p l 0 az with⟨h1,_⟩|⟨j,a,h1,h2,h3,_⟩
 ·omega
 ·refine⟨a,?_,h3⟩
  rw[h1,Int.zero_add,aW];exact h2
def jx (l:List kg) (id:Int):Int:=jX (fun a=>decide (a.id=id)) l 0
theorem FF (l:List kg) (id:Int) (h: ¬jx l id<0): ∃a,jt l (jx l id)=some a∧a.id=id:=by
 obtain⟨a,h1,h2⟩:=NM _ l h;exact⟨a,h1,oI h2⟩
def vh (l:List kg):Nat→Int→List Int
 |0,_=>[]
 |n+1,id=>if jx l id<0 then [] else id::(match jt l (jx l id) with|some a=>vh l n a.fr|none=>[])
def pathOf (l:List kg) (id:Int):List Int:=vh l (l.length+1) id
theorem FG (l:List kg): ∀(n:Nat) (id:Int),(vh l n id).length≤n
 |0,_=>by simp[vh]
 |n+1,id=>by
  simp only[vh]
  split
  ·simp
  ·split
   ·have:=FG l n
    simp only[eB];rename_i a _;have:=this a.fr;omega
   ·simp
theorem si (l:List kg) (id:Int):(pathOf l id).length≤l.length+1:=FG l _ id
def zd (l:List Int) (n:Int):Bool:=l.any fun a=>decide (a=n)
def ze (path:List Int):Key×Bool→Key→Key×Bool:=fun p k=>if zd path k.a&&(!p.2||decide (p.1.a<k.a)) then(k,true) else p
def near (keys:List Key) (path:List Int):Key×Bool:=keys.foldl (ze path) (dQ,false)
def xb (t:Tree) (l:List kg) (b id:Int):Key×Bool:=near (dI t b) (pathOf l id)
def wF (t:Tree) (l:List kg) (b id:Int):Key×Bool:=near (dI t b) ((pathOf l id).drop 1)
theorem NN (keys:List Key):near keys []=(dQ,false):=by
 unfold near
 suffices ∀(l:List Key),l.foldl (ze []) (dQ,false)=(dQ,false) from this keys
 intro l
 induction l with
 |nil=>rfl
 |cons a r ih=>simpa [ze,zd] using ih
def K1 (t:Tree) (l:List kg) (k:Key) (id:Int):Bool:=(xb t l k.b id).2&&decide ((xb t l k.b id).1.a=k.a)
abbrev LY (p:Key×Bool):TV:= .tu [(1,[iI p.1.b,iI p.1.a,iI p.1.k,iI p.1.c,iI p.1.g]),(0,[iB p.2])]
def hD (l:List kg) (i:Nat):Bool:=QL l (fun a=>Cq a.id 1 60) i&&(gu l (fun x y=>decide (x.id<y.id)) i&&QL l (fun a=>decide (a.fr=0)|| !decide (jx (l.take i) a.fr<0)) i)
def nF (l:List kg):Bool:=iV l.length (hD l)&&decide (l.length≤16)
def QM (l:List Bp) (id:Int):Bool:= !l.any fun v=>decide (v.Qp=id)
def cellAt (l:List Cell) (i gen:Int):Int×Bool:=match jt l i with
 |none=>(0,false)
 |some c=>if c.u=true∧c.g=gen then(c.n,true) else(0,false)
@[simp] theorem qb {l:List Key} {b a k c g:Int}:List.append (l.map bn) [[iI b,iI a,iI k,iI c,iI g]]=(l++[(⟨b,a,k,c,g⟩:Key)]).map bn:=by simp[bn]
@[simp] theorem K2 {l:List Int} {b:Int}:List.append (l.map c8) [[iI b]]=(l++[b]).map c8:=by simp[c8]
@[simp] theorem S7 {l:List Int} {b:Int}:List.append (l.map gr) [[.sc (.int .u8 b)]]=(l++[b]).map gr:=by simp[gr]
@[simp] theorem sj {l:List kg} {b a:Int}:List.append (l.map ef) [[iI b,iI a]]=(l++[(⟨b,a⟩:kg)]).map ef:=by simp[ef]
@[simp] theorem Ub {l:List Bp} {s:ByteArray} {b a:Int} {q:Bool}:List.append (l.map vf) [[iS s,iI b,iI a,iB q]]=(l++[(⟨s,b,a,q⟩:Bp)]).map vf:=by simp[vf]
@[simp] theorem Uc {l:List (List Key)} {s:List Key}:List.append (l.map dr) [[.sub 5 (s.map bn)]]=(l++[s]).map dr:=by simp[dr]
@[simp] theorem IA {l:List (List (List Key))} {s:List (List Key)}:List.append (l.map cc) [[.sub 1 (s.map dr)]]=(l++[s]).map cc:=by simp[cc]
@[simp] theorem Ud {l:List Mp} {s:ByteArray} {f:Bool} {r:List Int}:List.append (l.map Ak) [[iS s,iB f,.sub 1 (r.map c8)]]=(l++[(⟨s,f,r⟩:Mp)]).map Ak:=by simp[Ak]
@[simp] theorem oX {α:Type} {e:α→List TC} {l m:List α}:List.append (l.map e) (m.map e)=(l++m).map e:=by simp
@[simp] theorem S8:([]:RR)=([]:List Key).map bn↔True:=by simp
@[simp] theorem cH {α:Type} (l:List α):Nat.succ (List.length l)=l.length+1:=rfl
theorem iN (b a k c g:Int):bL [[iI b,iI a,iI k,iI c,iI g]]=true:=jh [⟨b,a,k,c,g⟩]
theorem mL (b a:Int):bL [[iI b,iI a]]=true:=Ao [⟨b,a⟩]
theorem JY (s:ByteArray) (b a:Int) (q:Bool):bL [[iS s,iI b,iI a,iB q]]=true:=FC [⟨s,b,a,q⟩]
attribute [simp] iN mL JY
@[simp] theorem dR (k:Key):(⟨k.b,k.a,k.k,k.c,k.g⟩:Key)=k:=rfl
@[simp] theorem fh (k:kg):(⟨k.id,k.fr⟩:kg)=k:=rfl
@[simp] theorem eg (k:Cell):(⟨k.g,k.u,k.n⟩:Cell)=k:=rfl
@[simp] theorem fj (k:Bp):(⟨k.name,k.Qp,k.size,k.fx⟩:Bp)=k:=rfl
@[simp] theorem fk (k:Mp):(⟨k.name,k.fx,k.l⟩:Mp)=k:=rfl
@[simp] theorem iw (k:OJ):(⟨k.kind,k.name,k.to,k.a,k.b⟩:OJ)=k:=rfl
theorem dg {n b:Nat} (h:n*b≤140737488355328∧n≤140737488355328):fits n b=true:=by rw[PA];exact pN h
end Go.T
namespace Go.T
def eR (s:List Key):Bool:=y8 s&& !decide (s.length=0)
theorem LZ (n:List (List Key)):dw n=(n.all eR&&(decide (n.length≤3)&&decide (cR n≤8))):=by
 unfold dw;rw[Bool.and_assoc];rfl
def Ap (au:List Int) (i:Nat) (x:Int):Bool:=match au[i]? with
 |some lo=> !decide (x<lo)&&(match au[i+1]? with|some hi=>decide (x<hi)|none=>true)
 |none=>true
def ji (au:List Int) (i:Nat) (k:Key):Bool:=Ap au i (bI k.b k.a)
def dh (au:List Int) (i:Nat) (s:List Key):Bool:=s.all (ji au i)
def dx (t:Tree) (i:Nat):Bool:=gu t.au (fun x y=>decide (x<y)) i&&(match t.nodes[i]? with
 |some n=>dw n&&((decide (i=0)|| !decide ((an n).length=0))&&n.all (dh t.au i))
 |none=>true)
def de (t:Tree):Bool:=Cq t.nodes.length 1 20&&(decide (t.au.length=t.nodes.length)&&((match t.au[0]? with|some x=>decide (x=0)|none=>true)&&(iV t.nodes.length (dx t)&&decide ((av t).length≤60))))
def PK (p:SY) (i b:Int):Int:=match jt p.Vx i with
 |none=>0
 |some v=>if 0≤b∧b<v.size then(if(xb p.t p.Qq b v.Qp).2=true∧(xb p.t p.Qq b v.Qp).1.k=1 then(cellAt p.cells (xb p.t p.Qq b v.Qp).1.c (xb p.t p.Qq b v.Qp).1.g).1 else 0) else 0
end Go.T
namespace Go.T
def blocks (p:SY) (i:Nat) (k:Nat):List Int:=(List.range k).map fun b:Nat=>PK p i b
def Dj (l:List Key) (b a:Int):Key×Bool:=match setAt l b a with|some k=>(k,true)|none=>(dQ,false)
def vi (n:List (List Key)) (b a:Int):Nat→Key×Bool
 |0=>(dQ,false)
 |k+1=>match n[k]? with
  |some s=>if(Dj s b a).2=true then(if(Dj s b a).1.k=0 then(dQ,false) else Dj s b a) else vi n b a k
  |none=>(dQ,false)
def kO (f:Int→Bool) (l:List Int):Nat→Int
 |0=> -1
 |k+1=>match l[k]? with
  |some x=>if f x=true then(k:Int) else kO f l k
  |none=> -1
def fH (t:Tree) (b a:Int):Int:=kO (fun x=>decide (x≤bI b a)) t.au t.au.length
def NO (t:Tree) (b a:Int):Key×Bool:=match jt t.nodes (fH t b a) with
 |some n=>vi n b a n.length
 |none=>(dQ,false)
end Go.T
namespace Go.T
end Go.T
namespace Go.T
theorem NP (x:Int):0≤uO .and .i64 x 255∧uO .and .i64 x 255≤255:=by
 have h:uO .and .i64 x 255=Go.IntKind.i64.wrap (((BitVec.ofInt 64 x&&&BitVec.ofInt 64 255).toNat:Nat):Int):=by unfold uO;rfl
 have hle:(BitVec.ofInt 64 x&&&BitVec.ofInt 64 255).toNat≤255:=by
  rw[BitVec.toNat_and];exact nP Nat.and_le_right (by decide)
 rw[h,Go.IntKind.wrap_i64];omega
abbrev UT (b:List Int) (i h:Int):List TC:=[.sub 1 (b.map gr),.sc (.int .i64 i),.sc (.int .i64 h)]
abbrev mM (b:List Int) (i h:Int):TV:= .bx (UT b i h)
def Dr (b:List Int) (P:TV→Prop) (r:TV) (fs:List TV):Prop:= ∃i h,0≤i∧fs=[mM b i h]∧P r
theorem IB {x n:Int} (h0:0≤x) (hn:0<n):0≤x.tmod n∧x.tmod n<n:=⟨Int.tmod_nonneg _ h0,Int.tmod_lt_of_pos _ hn⟩
theorem NQ {α:Type} {l:List α} {i:Int} {a:α} (h:jt l i=some a):0≤i∧i<l.length:=by
 unfold jt at h
 split at h
 ·have:=(List.getElem?_eq_some_iff.1 h).1;omega
 ·cases h
end Go.T
namespace Go.T
def Dk {α:Type} (p:α→Bool) (x:α) (l:List α):List α:=l.takeWhile p++x::l.dropWhile p
theorem JZ {α:Type} {p:α→Bool} {x a:α} {l:List α}:Dk p x (a::l)=if p a then a::Dk p x l else x::a::l:=by
 unfold Dk
 by_cases h:p a=true
 ·simp[List.takeWhile_cons,List.dropWhile_cons,h]
 ·simp[List.takeWhile_cons,List.dropWhile_cons,h]
theorem L0 {α:Type} (p:α→Bool) (x:α) (l:List α):(Dk p x l).length=l.length+1:=by
 unfold Dk;have h:=congrArg List.length (List.takeWhile_append_dropWhile (p:=p) (l:=l));rw[bZ] at h ⊢;rw[eB];omega
def S9 (id:Int) (a:kg):Bool:=decide (a.id≤id)
def oY (l:List kg) (id fr:Int):List kg:=Dk (S9 id) ⟨id,fr⟩ l
def mN (l:List kg) (id fr:Int):List kg×Bool:=if 0≤jx l id then(l,false) else if nF (oY l id fr)=true then(oY l id fr,true) else(l,false)
def QN (v u:Bp):Bool:=Hy u.name v.name||Jc u.name v.name
theorem IC: ∀(x y z:List UInt8),Op.bytesLess x y=true→Op.bytesLess y z=true→Op.bytesLess x z=true
 |x,y,[],_,h=>by cases y<;>simp[Op.bytesLess] at h
 |x,[],c::z,h,_=>by cases x<;>simp[Op.bytesLess] at h
 |[],_::_,_::_,_,_=>by simp[Op.bytesLess]
 |a::x,b::y,c::z,h1,h2=>by
  simp only[Op.bytesLess,Bool.or_eq_true,cZ,decide_eq_true_eq,beq_iff_eq] at h1 h2 ⊢;rcases h1 with h1|⟨rfl,h1⟩
  ·rcases h2 with h2|⟨rfl,h2⟩
   ·exact .inl (UInt8.lt_trans h1 h2)
   ·exact .inl h1
  ·rcases h2 with h2|⟨rfl,h2⟩
   ·exact .inl h2
   ·exact .inr ⟨rfl,IC x y z h1 h2⟩
theorem FH {a b c:ByteArray} (h1:Hy a b=true) (h2:Hy b c=true):Hy a c=true:=by
 unfold Hy at*;exact IC _ _ _ h1 h2
def vj:List Bp→Prop
 |[]=>True
 |[_]=>True
 |a::b::r=>Hy a.name b.name=true∧vj (b::r)
theorem NR {v a b:Bp} (h:Hy a.name b.name=true) (hb:QN v b=true):QN v a=true:=by
 unfold QN at*;rw[Bool.or_eq_true] at*;rcases hb with hb|hb
 ·exact .inl (FH h hb)
 ·have:b.name.toList=v.name.toList:=by
   unfold Jc at hb;exact eq_of_beq hb
  unfold Hy at h ⊢;rw[←this];exact .inl h
theorem vj.tail {a:Bp} {l:List Bp} (h:vj (a::l)):vj l:=by
 cases l with
 |nil=>trivial
 |cons b r=>exact h.2
theorem vj.cut {v:Bp}: ∀{l:List Bp} {k:Nat},vj l→k≤l.length→(∀u∈l.drop k,QN v u=false)→(∀u,0<k→l[k-1]?=some u→QN v u=true)→(l.takeWhile (QN v)).length=k
 |[],k,_,hk,_,_=>by simp at hk;simp[hk]
 |a::l,0,_,_,h1,_=>by
  have:=h1 a (.head _);simp[this]
 |a::l,k+1,hr,hk,h1,h2=>by
  have ih:=vj.cut (v:=v) (l:=l) (k:=k) hr.tail (by simpa using hk) (fun u hu=>h1 u (by simpa using hu)) fun u h0 hu=>by
   obtain⟨j,rfl⟩: ∃j,k=j+1:=⟨k-1,by omega⟩;exact h2 u az (by simpa using hu)
  have ha:QN v a=true:=by
   cases k with
   |zero=>exact h2 a az rfl
   |succ k=>
    cases l with
    |nil=>simp at hk
    |cons b r=>
     refine NR hr.1 ?_;rw[List.takeWhile_cons] at ih
     cases hb:QN v b with
     |true=>rfl
     |false=>rw[hb] at ih;simp at ih
  rw[List.takeWhile_cons,aY ha,eB,ih]
theorem vj.modify {f:Bp→Bp} (hf: ∀u,(f u).name=u.name): ∀{l:List Bp} (i:Nat),vj l→vj (l.modify i f)
 |[],i,h=>by cases i<;>exact h
 |[a],0,_=>trivial
 |[a],i+1,_=>by cases i<;>trivial
 |a::b::r,0,h=>by
  show vj (f a::b::r);exact⟨by rw[hf];exact h.1,h.2⟩
 |a::b::r,1,h=>by
  show vj (a::f b::r);refine⟨by rw[hf];exact h.1,?_⟩;exact vj.modify hf (l:=b::r) 0 h.2
 |a::b::r,i+2,h=>⟨h.1,vj.modify hf (l:=b::r) (i+1) h.2⟩
end Go.T
namespace Go.T
def Wd (m u:Mp):Bool:= !(Hy u.name m.name||Jc u.name m.name)
def PL (l:List Mp) (m:Mp):Nat→Nat
 |0=>0
 |k+1=>match l[k]? with
  |some u=>if Wd m u=true then PL l m k else k+1
  |none=>k+1
theorem K3 (l:List Mp) (m:Mp): ∀k,PL l m k≤k
 |0=>bV _
 |k+1=>by
  unfold PL
  split
  ·split
   ·exact Nat.le_succ_of_le (K3 l m k)
   ·exact bV _
  ·exact bV _
def NS {α:Type} (l:List α) (k:Nat) (x:α):List α:=l.take k++x::l.drop k
def NT (l:List Mp) (m:Mp):List Mp:=NS l (PL l m l.length) m
theorem NU (l:List Mp) (m:Mp):(NT l m).length=l.length+1:=by
 have:=K3 l m l.length;unfold NT NS;rw[bZ,eB,fJ,kr];omega
theorem NV {l:List Mp} {m x:Mp} (h:x∈NT l m):x∈l∨x=m:=by
 unfold NT NS at h;rcases List.mem_append.1 h with h|h
 ·exact .inl (qO h)
 ·rcases bQ.1 h with h|h
  ·exact .inr h
  ·exact .inl (uN h)
def GB (l l':List Mp):Prop:=l'.length≤l.length+1∧ ∀B:Nat,12≤B→(∀x∈l,x.l.length≤B)→ ∀x∈l',x.l.length≤B
theorem GB.refl (l:List Mp):GB l l:=⟨Nat.le_succ _,fun _ _ h=>h⟩
theorem GB.put {l:List Mp} {m:Mp} (h: ∀B:Nat,12≤B→(∀x∈l,x.l.length≤B)→m.l.length≤B):GB l (NT l m):=
 ⟨Nat.le_of_eq (NU l m),fun B hB hl x hx=>(NV hx).elim (hl x) fun e=>by rw[e];exact h B hB hl⟩
end Go.T
namespace Go.T
abbrev Sq (x:List (List Key)×Bool):TV:= .tu [(1,[.sub 1 (x.1.map dr)]),(0,[iB x.2])]
def GC (s:List Key) (k:Key):Bool:=(Dj s k.b k.a).2||decide (s.length<4)
def gX (n:List (List Key)) (k:Key):List (List Key):=match n[n.length-1]? with
 |none=>n++[[k]]
 |some s=>if GC s k=true then n.set (n.length-1) (cm s k) else n++[[k]]
def bC (n:List (List Key)) (k:Key):List Key:=fG (cm (an n) k)
def bM (n:List (List Key)) (k:Key):List (List Key)×Bool:=
 if dw (gX n k)=true then(gX n k,true) else if 8<(bC n k).length then(n,false) else if dw (bJ (bC n k))=true then(bJ (bC n k),true) else(n,false)
theorem lU (n:List (List Key)) (k:Key):(bC n k).length≤tot bS n+1:=by
 have h1:=cM n;have h2:=gW (an n) k;have h3:(bC n k).length≤(cm (an n) k).length:=Hv _ _;omega
theorem ID {α:Type} (w:α→Nat) (l:List α) (a:α):tot w (l++[a])=tot w l+w a:=by
 induction l with
 |nil=>simp[tot]
 |cons b r ih=>simp only[wV,tot,ih];omega
theorem IE {α:Type} (w:α→Nat) (c:Nat): ∀(l:List α) (i:Nat) (a a':α),l[i]?=some a→w a'≤w a+c→tot w (l.set i a')≤tot w l+c
 |[],i,a,a',h,_=>by simp at h
 |b::r,0,a,a',h,hw=>by
  simp only[cw,aT] at h;subst h;simp only[List.set_cons_zero,tot];omega
 |b::r,i+1,a,a',h,hw=>by
  have:=IE w c r i a a' (by simpa using h) hw;simp only[List.set_cons_succ,tot];omega
theorem Dl (n:List (List Key)) (k:Key):(gX n k).length≤n.length+1:=by
 unfold gX
 split
 ·rw[bZ];simp
 ·split
  ·rw[List.length_set];omega
  ·rw[bZ];simp
theorem Dm (n:List (List Key)) (k:Key):tot bS (gX n k)≤tot bS n+1:=by
 unfold gX
 split
 ·rw[ID];exact bV _
 ·rename_i s hs
  split
  ·exact IE bS 1 _ _ s _ hs (by have:=gW s k;unfold bS;omega)
  ·rw[ID];exact bV _
theorem vk (l:List Key):(bJ l).length≤1:=by
 unfold bJ
 split<;>simp
theorem vl (l:List Key):tot bS (bJ l)≤l.length:=by
 unfold bJ
 split
 ·simp[tot]
 ·simp[tot,bS]
theorem Be (n:List (List Key)) (k:Key):(bM n k).1.length≤n.length+1:=by
 have h1:=Dl n k;have h2:=vk (bC n k);unfold bM
 repeat' split
 all_goals simp only[];omega
theorem Bf (n:List (List Key)) (k:Key):tot bS (bM n k).1≤tot bS n+1:=by
 have h1:=Dm n k;have h2:=vl (bC n k);have h3:=lU n k;unfold bM
 repeat' split
 all_goals simp only[];omega
end Go.T
namespace Go.T
def mg (x y:Key):Prop:=x.b<y.b∨(x.b=y.b∧x.a<y.a)
theorem mg.trans {x y z:Key} (h1:mg x y) (h2:mg y z):mg x z:=by unfold mg at*;omega
theorem ng {x y:Key}:bX x y=true↔mg x y:=by unfold bX mg;simp
theorem oy {x y:Key}:fF x y=true↔x.b=y.b∧x.a=y.a:=by unfold fF;simp
theorem zf {k y:Key}: ∀{l:List Key},y∈cu k true l→y∈l
 |[],h=>by simp[cu] at h
 |x::r,h=>by
  simp only[cu,EY,Bool.false_and,uK,if_false,pL,Bool.true_or] at h;rcases List.mem_append.1 h with h|h
  ·split at h
   ·cases h
   ·rw[fc.1 h];exact .head _
  ·exact .tail _ (zf h)
theorem Dn {k y:Key}: ∀{l:List Key} {put:Bool},y∈cu k put l→y∈l∨y=k
 |[],put,h=>by
  simp only[cu] at h
  split at h
  ·cases h
  ·exact .inr (fc.1 h)
 |x::r,put,h=>by
  simp only[cu] at h;rcases List.mem_append.1 h with h|h
  ·rcases List.mem_append.1 h with h|h
   ·split at h
    ·exact .inr (fc.1 h)
    ·cases h
   ·split at h
    ·cases h
    ·exact .inl (by rw[fc.1 h];exact .head _)
  ·exact(Dn h).imp (.tail _) id
theorem wG {k:Key}: ∀{l:List Key},l.Pairwise mg→(cu k true l).Pairwise mg
 |[],_=>by simp[cu]
 |x::r,h=>by
  obtain⟨h1,h2⟩:=List.pairwise_cons.1 h;simp only[cu,EY,Bool.false_and,uK,if_false,pL,Bool.true_or]
  split
  ·exact wG h2
  ·exact List.pairwise_cons.2 ⟨fun y hy=>h1 y (zf hy),wG h2⟩
theorem FI {k:Key}: ∀{l:List Key},l.Pairwise mg→(cu k false l).Pairwise mg
 |[],_=>by simp[cu]
 |x::r,h=>by
  obtain⟨h1,h2⟩:=List.pairwise_cons.1 h
  cases hk:bX x k with
  |true=>
   have hlt:=ng.1 hk
   have TQ:fF x k=false:=by
    cases hs:fF x k with
    |false=>rfl
    |true=>have:=oy.1 hs;unfold mg at hlt;omega
   simp only[cu,hk,TQ,Bool.not_false,EY,eA,Bool.and_false,uK,if_false,pL,Bool.or_false,Ct];refine List.pairwise_cons.2 ⟨fun y hy=> ?_,FI h2⟩;rcases Dn hy with hy|rfl
   ·exact h1 y hy
   ·exact hlt
  |false=>
   have hge: ¬mg x k:=fun h=>by rw[ng.2 h] at hk;cases hk
   simp only[cu,hk,Bool.not_false,eA,if_true,Bool.or_true]
   have hr: ∀y∈cu k true r,mg k y:=fun y hy=>by
    have:=h1 y (zf hy);unfold mg at*;omega
   split
   ·exact List.pairwise_cons.2 ⟨hr,wG h2⟩
   ·rename_i TQ
    refine List.pairwise_cons.2 ⟨fun y hy=> ?_,List.pairwise_cons.2 ⟨fun y hy=>h1 y (zf hy),wG h2⟩⟩;rcases bQ.1 hy with rfl|hy
    ·have: ¬(y.b=k.b∧y.a=k.a):=fun h=>TQ (oy.2 h)
     unfold mg at*;omega
    ·exact hr y hy
theorem lE {l:List Key} {k:Key} (h:l.Pairwise mg):(cm l k).Pairwise mg:=FI h
theorem xQ {l:List Key} {k y:Key} (h:y∈cm l k):y∈l∨y=k:=Dn h
theorem sk: ∀(new:List Key) {old:List Key},old.Pairwise mg→(bq old new).Pairwise mg
 |[],_,h=>h
 |x::r,_,h=>sk r (lE h)
theorem FJ {y:Key}: ∀{new old:List Key},y∈bq old new→y∈old∨y∈new
 |[],_,h=> .inl h
 |x::r,old,h=>by
  have h:y∈bq (cm old x) r:=h;rcases FJ h with h|h
  ·exact(xQ h).imp id fun e=>by rw[e];exact .head _
  ·exact .inr (.tail _ h)
theorem xR: ∀(n:List (List Key)) {acc:List Key},acc.Pairwise mg→(n.foldl bq acc).Pairwise mg
 |[],_,h=>h
 |s::r,_,h=>xR r (sk s h)
theorem FK {y:Key}: ∀{n:List (List Key)} {acc:List Key},y∈n.foldl bq acc→y∈acc∨ ∃s∈n,y∈s
 |[],_,h=> .inl h
 |s::r,acc,h=>by
  rcases FK (n:=r) h with h|⟨s',h1,h2⟩
  ·exact(FJ h).imp id fun h=>⟨s,.head _,h⟩
  ·exact .inr ⟨s',.tail _ h1,h2⟩
theorem jj (n:List (List Key)):(an n).Pairwise mg:=(xR n .nil).sublist List.filter_sublist
theorem iO {n:List (List Key)} {y:Key} (h:y∈an n): ∃s∈n,y∈s:=by
 rcases FK (List.mem_filter.1 h).1 with h|h
 ·cases h
 ·exact h
theorem mU (n:List (List Key)) (k:Key):(bC n k).Pairwise mg:=(lE (jj n)).sublist List.filter_sublist
theorem sn {n:List (List Key)} {k y:Key} (h:y∈bC n k):y=k∨ ∃s∈n,y∈s:=
 (xQ (List.mem_filter.1 h).1).elim (fun h=> .inr (iO h)) .inl
theorem NW {l:List Key} (h1:l.Pairwise mg) (h2: ∀y∈l,cT y=true) (h3:l.length≤60):y8 l=true:=by
 rw[y9];simp only[cZ,decide_eq_true_eq];refine⟨List.all_eq_true.2 h2,vg.2 fun i hi=> ?_,h3⟩
 cases i with
 |zero=>rfl
 |succ k=>
  simp only[gu];rw[aX (by omega:k<l.length),aX hi];exact ng.2 (List.pairwise_iff_getElem.1 h1 k (k+1) az hi az)
theorem nh {n:List (List Key)} (h:dw n=true) {s:List Key} (hs:s∈n) {y:Key} (hy:y∈s):cT y=true:=by
 unfold dw at h;simp only[cZ] at h;have:=List.all_eq_true.1 h.1.1 s hs;simp only[cZ] at this;have h2:=this.1;rw[y9] at h2;simp only[cZ] at h2;exact List.all_eq_true.1 h2.1 y hy
theorem so {l:List Key} (h1:l.Pairwise mg) (h2: ∀y∈l,cT y=true) (h3:l.length≤8):dw (bJ l)=true:=by
 unfold bJ
 split
 ·decide
 ·rename_i h0
  unfold dw;have:=NW h1 h2 az;have Xe:l≠[]:=fun e=>h0 (by rw[e];rfl);simp[this,Xe,cR,tot,bS,h3]
theorem IF {n:List (List Key)} {k:Key} (h:dw n=true) (hk:cT k=true): ∀y∈bC n k,cT y=true:=fun y hy=>by
 rcases sn hy with rfl|⟨s,h1,h2⟩
 ·exact hk
 ·exact nh h h1 h2
theorem Dp {n:List (List Key)} {k:Key} (h:dw n=true) (hk:cT k=true) (hp:(bM n k).2=false):8<(bC n k).length∧bM n k=(n,false):=by
 have hn:=so (mU n k) (IF h hk);unfold bM at hp ⊢
 split at hp
 ·cases hp
 ·rename_i h1
  split at hp
  ·rename_i h2
   exact⟨h2,by rw[aO h1,aY h2]⟩
  ·rename_i h2
   rw[aY (hn az)] at hp
   cases hp
end Go.T
namespace Go.T
def gw (x y:Int):Int:=uO .or .i64 (Ra .i64 (AV .i64 x) 8) (AV .i64 y)
end Go.T
namespace Go.T
abbrev Ho (x:Tree×Bool):TV:= .tu [(1,FB x.1),(0,[iB x.2])]
def ke (t:Tree) (i c:Nat) (au:List Int) (nodes:List (List (List Key))):Tree:=⟨t.au.take i++au++t.au.drop (i+c),t.nodes.take i++nodes++t.nodes.drop (i+c)⟩
def e7 (t:Tree) (i:Nat):List Key:=an (t.nodes.getD i [])
def ni (t:Tree):Nat→Nat→Option Nat
 |0,_=>none
 |d+1,i=>if i+1<t.nodes.length then(if(e7 t i).length+(e7 t (i+1)).length≤6 then some i else ni t d (i+1)) else none
def jM (t:Tree):Option Nat:=ni t t.nodes.length 0
def cP (t:Tree) (i:Nat):Tree:=ke t i 2 [t.au.getD i 0] [bJ (e7 t i++e7 t (i+1))]
def iW:Nat→Tree→Tree
 |0,t=>t
 |n+1,t=>match jM t with
  |none=>t
  |some i=>iW n (cP t i)
theorem Bg {t:Tree}: ∀{d i j:Nat},ni t d i=some j→i≤j∧j+1<t.nodes.length∧(e7 t j).length+(e7 t (j+1)).length≤6
 |0,i,j,h=>by cases h
 |d+1,i,j,h=>by
  unfold ni at h
  split at h
  ·split at h
   ·cases h;exact⟨bV _,by assumption,by assumption⟩
   ·have:=Bg h;exact⟨by omega,this.2⟩
  ·cases h
theorem wH {t:Tree} {j:Nat} (h:jM t=some j):j+1<t.nodes.length∧(e7 t j).length+(e7 t (j+1)).length≤6:=(Bg h).2
theorem vm (t:Tree) (i c:Nat) (au:List Int) (nodes:List (List (List Key))) (h:i+c≤t.nodes.length):(ke t i c au nodes).nodes.length+c=t.nodes.length+nodes.length:=by
 unfold ke;simp only[bZ,fJ,kr];omega
theorem xS (t:Tree) (i c:Nat) (au:List Int) (nodes:List (List (List Key))) (h:i+c≤t.au.length):(ke t i c au nodes).au.length+c=t.au.length+au.length:=by
 unfold ke;simp only[bZ,fJ,kr];omega
theorem sq {t:Tree} {i:Nat} (h:i+1<t.nodes.length):(cP t i).nodes.length+1=t.nodes.length:=by
 have:=vm t i 2 [t.au.getD i 0] [bJ (e7 t i++e7 t (i+1))] az;unfold cP;simp only[gl] at this;omega
def g8 (t:Tree) (i:Nat) (k:Key):Tree:=
 if(bM (t.nodes.getD i []) k).2=true then
  (if 0<i∧(an (bM (t.nodes.getD i []) k).1).length=0 then ke t i 1 [] [] else ke t i 1 [t.au.getD i 0] [(bM (t.nodes.getD i []) k).1])
 else ke t i 1 [t.au.getD i 0,bI ((bC (t.nodes.getD i []) k).getD (((bC (t.nodes.getD i []) k).length+1)/2) dQ).b ((bC (t.nodes.getD i []) k).getD (((bC (t.nodes.getD i []) k).length+1)/2) dQ).a]
  [bJ ((bC (t.nodes.getD i []) k).take (((bC (t.nodes.getD i []) k).length+1)/2)),bJ ((bC (t.nodes.getD i []) k).drop (((bC (t.nodes.getD i []) k).length+1)/2))]
def cn (t:Tree) (k:Key):Tree×Bool:=
 if de t=true∧cT k=true then(if de (iW (g8 t (fH t k.b k.a).toNat k).nodes.length (g8 t (fH t k.b k.a).toNat k))=true then(iW (g8 t (fH t k.b k.a).toNat k).nodes.length (g8 t (fH t k.b k.a).toNat k),true) else(t,false)) else(t,false)
end Go.T
namespace Go.T
theorem NX {α:Type} (w:α→Nat) (c:Nat): ∀l:List α,(∀a∈l,w a≤c)→tot w l≤c*l.length
 |[],_=>by simp[tot]
 |a::r,h=>by
  have h1:=h a (.head _);have h2:=NX w c r fun b hb=>h b (.tail _ hb);simp only[tot,eB,Nat.mul_add];omega
theorem jY {n:List (List Key)} (h:dw n=true):n.length≤3∧tot bS n≤8:=by
 unfold dw cR at h;simp only[cZ,decide_eq_true_eq] at h;exact⟨h.1.2,h.2⟩
theorem wI {t:Tree} (h:de t=true) {i:Nat} (hi:i<t.nodes.length):dx t i=true:=by
 unfold de at h;simp only[cZ] at h;exact vg.1 h.2.2.2.1 i hi
theorem lF {t:Tree} (h:de t=true) {n:List (List Key)} (hn:n∈t.nodes):dw n=true:=by
 obtain⟨i,hi,rfl⟩:=List.getElem_of_mem hn;have:=wI h hi;unfold dx at this;rw[aX hi] at this;simp only[cZ] at this;exact this.2.1
theorem jN {t:Tree} (h:de t=true):1≤t.nodes.length∧t.nodes.length≤20∧t.au.length=t.nodes.length:=by
 unfold de Cq at h;simp only[cZ,decide_eq_true_eq] at h;omega
theorem Dq {t:Tree} (h:de t=true):t.au[0]?=some 0:=by
 have hl:=jN h;unfold de at h;simp only[cZ] at h
 have h0:0<t.au.length:=by omega
 have:=h.2.2.1;rw[aX h0] at this ⊢;simp only[decide_eq_true_eq] at this;rw[this]
theorem xT {t:Tree} (h:de t=true):tot aJ t.nodes≤220:=by
 have h1:=NX aJ 11 t.nodes fun n hn=>by
  have:=jY (lF h hn);unfold aJ;omega
 have h2:=jN h;omega
theorem FL {t:Tree} (h:de t=true):cO t≤260:=by
 have h1:=xT h;have h2:=jN h;unfold cO ov;omega
theorem J0 {t:Tree} {k:Key} (h:(cn t k).2=true):de (cn t k).1=true:=by
 unfold cn at h ⊢
 split
 ·split
  ·assumption
  ·rename_i h1 h2;rw[aY h1,aO h2] at h;cases h
 ·rename_i h1;rw[aO h1] at h;cases h
theorem Ds {t:Tree} {k:Key} (h:(cn t k).2=false):(cn t k).1=t:=by
 unfold cn at h ⊢
 split
 ·split
  ·rename_i h1 h2;rw[aY h1,aY h2] at h;cases h
  ·rfl
 ·rfl
end Go.T
namespace Go.T
theorem qc {α:Type} (w:α→Nat): ∀l m:List α,tot w (l++m)=tot w l+tot w m
 |[],m=>by simp[tot]
 |a::l,m=>by simp only[wV,tot,qc w l m];omega
theorem J1 {α:Type} {l:List α} {i:Nat} {a b:α} (ha:l[i]?=some a) (hb:l[i+1]?=some b):l=l.take i++a::b::l.drop (i+2):=by
 obtain⟨h1,e1⟩:=List.getElem?_eq_some_iff.1 ha;obtain⟨h2,e2⟩:=List.getElem?_eq_some_iff.1 hb
 conv=>lhs;rw[←yu i l]
 rw[yp h1,yp h2,e1,e2]
theorem xU (l:List Key):aJ (bJ l)≤l.length+1:=by
 have h1:=vk l;have h2:=vl l;unfold aJ;omega
theorem fm {t:Tree} {i:Nat} {a:List (List Key)} (h:t.nodes[i]?=some a):e7 t i=an a:=by unfold e7;rw[mV,h];rfl
theorem xV (n:Nat) (t:Tree):iW (n+1) t=match jM t with|none=>t|some i=>iW n (cP t i):=rfl
theorem Bh {t:Tree} {i:Nat} (h:i+1<t.nodes.length):tot aJ (cP t i).nodes+(cP t i).nodes.length≤tot aJ t.nodes+t.nodes.length:=by
 obtain⟨a,ha⟩: ∃a,t.nodes[i]?=some a:=⟨_,aX az⟩;obtain⟨b,hb⟩: ∃b,t.nodes[i+1]?=some b:=⟨_,aX h⟩;have hl:=sq h;have hs:=congrArg (tot aJ) (J1 ha hb);rw[qc] at hs;simp only[tot] at hs;have la:=cM a;have lb:=cM b;have hn:=xU (e7 t i++e7 t (i+1));rw[bZ,fm ha,fm hb] at hn
 have e:tot aJ (cP t i).nodes=tot aJ (t.nodes.take i)+aJ (bJ (an a++an b))+tot aJ (t.nodes.drop (i+2)):=by
  unfold cP ke;simp only[];rw[qc,qc,fm ha,fm hb];simp[tot]
 have sa:aJ a=a.length+tot bS a:=rfl;have sb:aJ b=b.length+tot bS b:=rfl;omega
theorem Eh {t:Tree} {i:Nat} (h:i+1<t.nodes.length) (hl:t.au.length=t.nodes.length):(cP t i).au.length=(cP t i).nodes.length:=by
 have h1:=xS t i 2 [t.au.getD i 0] [bJ (e7 t i++e7 t (i+1))] az;have h2:=vm t i 2 [t.au.getD i 0] [bJ (e7 t i++e7 t (i+1))] az;simp only[gl] at h1 h2;unfold cP;omega
theorem IG: ∀(n:Nat) (t:Tree),t.au.length=t.nodes.length→tot aJ (iW n t).nodes+(iW n t).nodes.length≤tot aJ t.nodes+t.nodes.length∧(iW n t).au.length=(iW n t).nodes.length
 |0,t,h=>⟨bV _,h⟩
 |n+1,t,h=>by
  rw[xV]
  cases hp:jM t with
  |none=>exact⟨bV _,h⟩
  |some i=>
   have hlt:=(wH hp).1;have h1:=Bh hlt;have h2:=IG n (cP t i) (Eh hlt h);exact⟨by simp only[];omega,h2.2⟩
theorem vn {k:Key} (h:cT k=true):0≤k.b∧k.b≤15∧1≤k.a∧k.a≤60∧0≤k.k∧k.k≤2:=by
 simp only[cT,Cq,cZ,decide_eq_true_eq] at h;omega
theorem PM {b a:Int} (h: -1000≤b∧b≤1000∧ -1000≤a∧a≤1000):bI b a=64*b+a:=by
 unfold bI;rw[PG az,aZ az]
theorem sr {k:Key} (h:cT k=true):bI k.b k.a=64*k.b+k.a:=by
 have:=vn h;exact PM az
theorem Dt {f:Int→Bool} {l:List Int} {x:Int} (h0:l[0]?=some x) (hx:f x=true): ∀n:Nat,0<n→n≤l.length→ ∃j:Nat,kO f l n=j∧j<n
 |0,h,_=>by omega
 |n+1,_,hn=>by
  unfold kO;rw[aX az];simp only[]
  split
  ·exact⟨n,rfl,by omega⟩
  ·rename_i hf
   cases n with
   |zero=>
    rw[aX az] at h0
    cases h0;exact absurd hx hf
   |succ n=>
    obtain⟨j,h1,h2⟩:=Dt h0 hx (n+1) az az;exact⟨j,h1,by omega⟩
theorem J2 {t:Tree} {k:Key} (h:de t=true) (hk:cT k=true): ∃j:Nat,fH t k.b k.a=j∧j<t.nodes.length:=by
 have h1:=jN h;have h2:=vn hk;have h3:=sr hk;unfold fH;have:=Dt (f:=fun x=>decide (x≤bI k.b k.a)) (Dq h) (by simp only[decide_eq_true_eq];omega) t.au.length az (bV _);rw[h1.2.2] at this ⊢;exact this
theorem II (n:List (List Key)) (k:Key):aJ (bM n k).1≤aJ n+2:=by
 have h1:=Be n k;have h2:=Bf n k;unfold aJ;omega
theorem L3 (t:Tree) (i c:Nat) (au:List Int) (nodes:List (List (List Key))):tot aJ (ke t i c au nodes).nodes≤tot aJ t.nodes+tot aJ nodes:=by
 have h:tot aJ (t.nodes.take i++t.nodes.drop i)=tot aJ t.nodes:=by rw[yu]
 have h2:tot aJ (t.nodes.drop (i+c))≤tot aJ (t.nodes.drop i):=by
  rw[←List.drop_drop]
  have h3:tot aJ ((t.nodes.drop i).take c++(t.nodes.drop i).drop c)=tot aJ (t.nodes.drop i):=by rw[yu]
  rw[qc] at h3;omega
 unfold ke;simp only[qc] at h ⊢;omega
theorem PN {t:Tree} {i:Nat} {k:Key} (hl:t.au.length=t.nodes.length) (hi:i<t.nodes.length) (ht: ∀n∈t.nodes,tot bS n≤8∧n.length≤3):
 tot aJ (g8 t i k).nodes≤tot aJ t.nodes+40∧(g8 t i k).nodes.length≤t.nodes.length+1∧(g8 t i k).au.length=(g8 t i k).nodes.length:=by
 have hn:=ht t.nodes[i] (qN hi)
 have hg:t.nodes.getD i []=t.nodes[i]:=by rw[mV,aX hi];rfl
 have hp:=II t.nodes[i] k;have hk:=lU t.nodes[i] k;have hz:aJ t.nodes[i]=t.nodes[i].length+tot bS t.nodes[i]:=rfl;unfold g8;rw[hg];generalize bC t.nodes[i] k=l at*;have e1:=xU (l.take ((l.length+1)/2));have e2:=xU (l.drop ((l.length+1)/2));rw[fJ] at e1;rw[kr] at e2
 have key: ∀(au:List Int) (nodes:List (List (List Key))),au.length=nodes.length→nodes.length≤2→tot aJ nodes≤40→tot aJ (ke t i 1 au nodes).nodes≤tot aJ t.nodes+40∧(ke t i 1 au nodes).nodes.length≤t.nodes.length+1∧(ke t i 1 au nodes).au.length=(ke t i 1 au nodes).nodes.length:=by
  intro au nodes h1 h2 h3;have h4:=L3 t i 1 au nodes;have h5:=vm t i 1 au nodes az;have h6:=xS t i 1 au nodes az;omega
 split
 ·split
  ·exact key _ _ rfl cY (by simp[tot])
  ·exact key _ _ rfl cY (by simp only[tot];omega)
 ·exact key _ _ rfl cY (by simp only[tot];omega)
theorem GD {t:Tree} (h:de t=true): ∀n∈t.nodes,tot bS n≤8∧n.length≤3:=fun n hn=>by
 have:=jY (lF h hn);omega
theorem NY {t:Tree} {i:Nat} {k:Key} (h:de t=true) (hi:i<t.nodes.length):
 tot aJ (g8 t i k).nodes+(g8 t i k).nodes.length≤300∧(g8 t i k).au.length=(g8 t i k).nodes.length∧cO (iW (g8 t i k).nodes.length (g8 t i k))≤600:=by
 have h1:=jN h;have h2:=xT h;have h3:=PN (k:=k) h1.2.2 hi (GD h);have h4:=IG (g8 t i k).nodes.length (g8 t i k) h3.2.2;refine⟨by omega,h3.2.2,?_⟩;unfold cO ov;omega
theorem K4 {n:Nat} (h:8<n):(n+1)/2<n:=by omega
end Go.T
namespace Go.T
end Go.T
namespace Go.T
end Go.T
namespace Go.T
def xW (b a:Int) (x:Key):Bool:=decide (x.b=b∧x.a=a)
def look (l:List Key) (b a:Int):Option Key:=l.find? (xW b a)
theorem J3 (l:List Key) (b a:Int):setAt l b a=look l b a:=rfl
theorem kG (l m:List Key) (b a:Int):look (l++m) b a=(look l b a).or (look m b a):=by unfold look;rw[List.find?_append]
theorem gy (x:Key) (l:List Key) (b a:Int):look (x::l) b a=if x.b=b∧x.a=a then some x else look l b a:=by
 unfold look;rw[List.find?_cons]
 by_cases h:x.b=b∧x.a=a
 ·rw[aY h];simp[xW,h]
 ·rw[aO h];simp[xW,h]
theorem Du {k:Key} {b a:Int} (h: ¬(k.b=b∧k.a=a)): ∀(l:List Key) (put:Bool),look (cu k put l) b a=look l b a
 |[],put=>by
  unfold cu
  cases put with
  |true=>rfl
  |false=>simp only[uK,if_false];rw[gy,aO h]
 |x::r,put=>by
  have ih:=Du h r (put|| !bX x k);simp only[cu,kG];rw[ih,gy]
  have h1:look (if(!put&& !bX x k)=true then [k] else []) b a=none:=by
   split
   ·rw[gy,aO h];rfl
   ·rfl
  rw[h1]
  by_cases hs:fF x k=true
  ·have:=oy.1 hs
   rw[aY hs,aO az]
   rfl
  ·rw[aO hs,gy]
   by_cases hx:x.b=b∧x.a=a
   ·rw[aY hx,aY hx];rfl
   ·rw[aO hx,aO hx];rfl
theorem K5 {k:Key}: ∀l:List Key,l.Pairwise mg→look (cu k false l) k.b k.a=some k
 |[],_=>by simp only[cu,uK,if_false];rw[gy,aY ⟨rfl,rfl⟩]
 |x::r,hp=>by
  obtain⟨h1,h2⟩:=List.pairwise_cons.1 hp
  cases hk:bX x k with
  |true=>
   have hlt:=ng.1 hk
   have TQ:fF x k=false:=by
    cases hs:fF x k with
    |false=>rfl
    |true=>have:=oy.1 hs;unfold mg at hlt;omega
   simp only[cu,hk,TQ,Bool.not_false,EY,eA,Bool.and_false,uK,if_false,pL,Bool.or_false,Ct];rw[kG,K5 r h2,gy,aO (by unfold mg at hlt;omega)];rfl
  |false=>
   simp only[cu,hk,Bool.not_false,eA,if_true,Bool.or_true];rw[kG,kG,gy,aY ⟨rfl,rfl⟩];rfl
theorem qd {l:List Key} {k:Key} (h:l.Pairwise mg) (b a:Int):look (cm l k) b a=if k.b=b∧k.a=a then some k else look l b a:=by
 unfold cm
 by_cases hs:k.b=b∧k.a=a
 ·rw[aY hs,←hs.1,←hs.2];exact K5 l h
 ·rw[aO hs];exact Du hs l false
theorem Aq {l:List Key} {b a:Int} {x:Key} (h:look l b a=some x):x∈l∧x.b=b∧x.a=a:=by
 unfold look at h;have h1:=List.find?_some h;unfold xW at h1;exact⟨List.mem_of_find?_eq_some h,by simpa using h1⟩
theorem IJ {l:List Key} (h:l.Pairwise mg) {x:Key} (hx:x∈l):look l x.b x.a=some x:=by
 induction l with
 |nil=>cases hx
 |cons y r ih=>
  obtain⟨h1,h2⟩:=List.pairwise_cons.1 h;rw[gy];rcases bQ.1 hx with rfl|hx
  ·rw[aY ⟨rfl,rfl⟩]
  ·have:=h1 x hx
   rw[aO (by unfold mg at this;omega)];exact ih h2 hx
theorem ry {l:List Key} {b a:Int} (h: ∀x∈l,¬(x.b=b∧x.a=a)):look l b a=none:=by
 unfold look;rw[List.find?_eq_none];intro x hx hs;unfold xW at hs;exact h x hx (by simpa using hs)
theorem xX: ∀(new:List Key) {old:List Key},old.Pairwise mg→new.Pairwise mg→ ∀b a,look (bq old new) b a=(look new b a).or (look old b a)
 |[],old,_,_,b,a=>rfl
 |x::r,old,ho,hn,b,a=>by
  obtain⟨h1,h2⟩:=List.pairwise_cons.1 hn;have ih:=xX r (lE (k:=x) ho) h2 b a;show look (bq (cm old x) r) b a=_;rw[ih,qd ho,gy]
  by_cases hs:x.b=b∧x.a=a
  ·rw[aY hs,aY hs]
   have hr:look r b a=none:=ry fun y hy h=>by
    have:=h1 y hy;unfold mg at this;omega
   rw[hr];rfl
  ·rw[aO hs,aO hs]
theorem vo {l:List Key} (h:l.Pairwise mg) (p:Key→Bool) (b a:Int):look (l.filter p) b a=(look l b a).filter p:=by
 induction l with
 |nil=>rfl
 |cons x r ih=>
  obtain⟨h1,h2⟩:=List.pairwise_cons.1 h;rw[gy]
  by_cases hp:p x=true
  ·rw[List.filter_cons_of_pos hp,gy,ih h2]
   by_cases hs:x.b=b∧x.a=a
   ·rw[aY hs,aY hs];simp[Option.filter,hp]
   ·rw[aO hs,aO hs]
  ·rw[List.filter_cons_of_neg hp,ih h2]
   by_cases hs:x.b=b∧x.a=a
   ·rw[aY hs]
    have hr:look r b a=none:=ry fun y hy h=>by
     have:=h1 y hy;unfold mg at this;omega
    rw[hr];simp[Option.filter,hp]
   ·rw[aO hs]
theorem IK: ∀{l m:List Key},l.Pairwise mg→m.Pairwise mg→(∀x,x∈l↔x∈m)→l=m
 |[],[],_,_,_=>rfl
 |[],y::m,_,_,h=>by have:=(h y).2 (.head _);cases this
 |x::l,[],_,_,h=>by have:=(h x).1 (.head _);cases this
 |x::l,y::m,hl,hm,h=>by
  obtain⟨h1,h2⟩:=List.pairwise_cons.1 hl;obtain⟨h3,h4⟩:=List.pairwise_cons.1 hm
  have hxy:x=y:=by
   rcases bQ.1 ((h x).1 (.head _)) with e|e
   ·exact e
   ·rcases bQ.1 ((h y).2 (.head _)) with e2|e2
    ·exact e2.symm
    ·have a1:=h3 x e
     have a2:=h1 y e2;unfold mg at a1 a2;omega
  subst hxy
  have:l=m:=IK h2 h4 fun z=>by
   constructor
   ·intro hz
    rcases bQ.1 ((h z).1 (.tail _ hz)) with e|e
    ·subst e;have:=h1 z hz;unfold mg at this;omega
    ·exact e
   ·intro hz
    rcases bQ.1 ((h z).2 (.tail _ hz)) with e|e
    ·subst e;have:=h3 z hz;unfold mg at this;omega
    ·exact e
  rw[this]
theorem Dv {l m:List Key} (hl:l.Pairwise mg) (hm:m.Pairwise mg) (h: ∀b a,look l b a=look m b a):l=m:=
 IK hl hm fun x=>⟨fun hx=>by have:=IJ hl hx;rw[h] at this;exact(Aq this).1,fun hx=>by have:=IJ hm hx;rw[←h] at this;exact(Aq this).1⟩
def Bi (n:List (List Key)):Prop:= ∀s∈n,s.Pairwise mg
theorem J4 {l:List Key} (h:y8 l=true):l.Pairwise mg:=by
 rw[y9] at h;simp only[cZ] at h;have hp:=vg.1 h.2.1
 have key: ∀(l:List Key),(∀i,i<l.length→gu l bX i=true)→l.Pairwise mg:=by
  intro l
  induction l with
  |nil=>intro _;exact .nil
  |cons x r ih=>
   intro hq
   have hr:=ih fun i hi=>by
    have:=hq (i+1) kZ
    cases i with
    |zero=>rfl
    |succ i=>simpa [gu] using this
   refine List.pairwise_cons.2 ⟨?_,hr⟩
   cases r with
   |nil=>intro y hy;cases hy
   |cons z r=>
    have hxz:mg x z:=by have:=hq 1 cY;simp only[gu,cw,mm] at this;exact ng.1 this
    intro y hy;rcases bQ.1 hy with rfl|hy
    ·exact hxz
    ·exact hxz.trans ((List.pairwise_cons.1 hr).1 y hy)
 exact key l hp
theorem nj {n:List (List Key)} (h:dw n=true):Bi n:=fun s hs=>by
 unfold dw at h;simp only[cZ] at h;have:=List.all_eq_true.1 h.1.1 s hs;simp only[cZ] at this;exact J4 this.1
def nV:List (List Key)→Int→Int→Option Key
 |[],_,_=>none
 |s::r,b,a=>(nV r b a).or (look s b a)
theorem Dw: ∀(n:List (List Key)) {acc:List Key},acc.Pairwise mg→Bi n→ ∀b a,look (n.foldl bq acc) b a=(nV n b a).or (look acc b a)
 |[],acc,_,_,b,a=>rfl
 |s::r,acc,ha,hn,b,a=>by
  have hs:=hn s (.head _);have ih:=Dw r (sk s ha) (fun t ht=>hn t (.tail _ ht)) b a;show look (r.foldl bq (bq acc s)) b a=_;rw[ih,xX s ha hs];show _=((nV r b a).or (look s b a)).or (look acc b a);rw[Option.or_assoc]
def jy (k:Key):Bool:= !decide (k.k=0)
theorem wJ {n:List (List Key)} (h:Bi n) (b a:Int):look (an n) b a=(nV n b a).filter jy:=by
 have hr:(lD n).Pairwise mg:=xR n .nil;have e:=vo hr jy b a;have e2:=Dw n .nil h b a;show look ((lD n).filter jy) b a=_;rw[e];show Option.filter jy (look (n.foldl bq []) b a)=_;rw[e2];show Option.filter jy ((nV n b a).or none)=_;rw[Option.or_none]
def IL:Option Key→Key×Bool
 |some k=>(k,true)
 |none=>(dQ,false)
theorem su (n:List (List Key)) (s:List Key) (b a:Int):nV (n++[s]) b a=(look s b a).or (nV n b a):=by
 induction n with
 |nil=>simp[nV]
 |cons t r ih=>simp only[wV,nV,ih,Option.or_assoc]
theorem xd (n:List (List Key)) (b a:Int): ∀k,k≤n.length→vi n b a k=IL ((nV (n.take k) b a).filter jy)
 |0,_=>rfl
 |k+1,h=>by
  have ih:=xd n b a k az
  have hk:k<n.length:=by omega
  unfold vi;rw[aX hk,List.take_add_one,aX hk];simp only[Option.toList];rw[su];unfold Dj;rw[J3]
  cases hl:look n[k] b a with
  |none=>simp only[uK,if_false];rw[ih];rfl
  |some x=>
   simp only[if_true,Option.some_or]
   by_cases hx:x.k=0
   ·rw[aY hx];simp[Option.filter,jy,hx,IL]
   ·rw[aO hx];simp[Option.filter,jy,hx,IL]
theorem IM {n:List (List Key)} (h:Bi n) (b a:Int):vi n b a n.length=IL (look (an n) b a):=by
 rw[xd n b a n.length (bV _),wW,wJ h]
end Go.T
namespace Go.T
theorem L4 {l:List Key} (h:l.Pairwise mg):bq [] l=l:=
 Dv (sk l .nil) h fun b a=>by rw[xX l .nil h];show(look l b a).or none=_;rw[Option.or_none]
theorem vp {l:List Key} (h:l.Pairwise mg) (hn: ∀x∈l,¬x.k=0):an (bJ l)=l:=by
 unfold bJ
 split
 ·rename_i h0
  rw[List.length_eq_zero_iff.1 h0];rfl
 ·show fG (bq [] l)=l
  rw[L4 h];unfold fG;rw[List.filter_eq_self];intro x hx;simpa using hn x hx
theorem Ar {n:List (List Key)} {x:Key} (hx:x∈an n): ¬x.k=0:=by
 have:=(List.mem_filter.1 hx).2;simpa using this
theorem FM {n:List (List Key)} {k x:Key} (hx:x∈bC n k): ¬x.k=0:=by
 have:=(List.mem_filter.1 hx).2;simpa using this
theorem NZ {n:List (List Key)} (k:Key) (h:Bi n) (b a:Int):nV (gX n k) b a=if k.b=b∧k.a=a then some k else nV n b a:=by
 have hone: ∀m:List (List Key),nV (m++[[k]]) b a=if k.b=b∧k.a=a then some k else nV m b a:=fun m=>by
  rw[su,gy]
  by_cases hs:k.b=b∧k.a=a
  ·rw[aY hs,aY hs];rfl
  ·rw[aO hs,aO hs];rfl
 unfold gX
 cases hl:n[n.length-1]? with
 |none=>exact hone n
 |some s=>
  simp only[]
  split
  ·obtain⟨hlt,hs⟩:=List.getElem?_eq_some_iff.1 hl
   have hpos:0<n.length:=by omega
   have e1:n=n.take (n.length-1)++[s]:=by
    conv=>lhs;rw[←yu (n.length-1) n]
    rw[yp hlt,hs,yq az]
   have e2:n.set (n.length-1) (cm s k)=n.take (n.length-1)++[cm s k]:=by
    rw[List.set_eq_take_append_cons_drop,aY hlt,yq az]
   rw[e2,su,qd (h s (by rw[←hs];exact qN hlt))]
   conv=>rhs;rw[e1]
   rw[su]
   by_cases hs:k.b=b∧k.a=a
   ·rw[aY hs,aY hs];rfl
   ·rw[aO hs,aO hs]
  ·exact hone n
theorem FN {n:List (List Key)} (k:Key) (h:Bi n) (b a:Int):look (bC n k) b a=(if k.b=b∧k.a=a then some k else nV n b a).filter jy:=by
 have hr:=jj n;show look ((cm (an n) k).filter jy) b a=_;rw[vo (lE hr),qd hr]
 by_cases hs:k.b=b∧k.a=a
 ·rw[aY hs,aY hs]
 ·rw[aO hs,aO hs,wJ h]
  cases nV n b a with
  |none=>rfl
  |some x=>by_cases hx:jy x=true<;>simp[Option.filter,hx]
theorem PO {n:List (List Key)} (k:Key) (h:Bi n) (h2:Bi (gX n k)):an (gX n k)=bC n k:=
 Dv (jj _) (mU n k) fun b a=>by rw[wJ h2,NZ k h,FN k h]
theorem GF {n:List (List Key)} {k:Key} (h:dw n=true) (hp:(bM n k).2=true):an (bM n k).1=bC n k∧dw (bM n k).1=true:=by
 have hr:=nj h;unfold bM at hp ⊢
 split
 ·rename_i h1
  exact⟨PO k hr (nj h1),h1⟩
 ·rename_i h1
  rw[aO h1] at hp
  split
  ·rename_i h2;rw[aY h2] at hp;cases hp
  ·rename_i h2
   rw[aO h2] at hp
   split
   ·rename_i h3
    exact⟨vp (mU n k) fun x hx=>FM hx,h3⟩
   ·rename_i h3;rw[aO h3] at hp;cases hp
end Go.T
namespace Go.T
structure lG (t:Tree):Prop where
 len:t.au.length=t.nodes.length
 low0:t.au[0]?=some 0
 rise: ∀i x y,t.au[i]?=some x→t.au[i+1]?=some y→x<y
 ok: ∀n∈t.nodes,dw n=true
 lo: ∀(i:Nat) (n:List (List Key)) (x:Int),t.nodes[i]?=some n→t.au[i]?=some x→ ∀s∈n,∀k:Key,k∈s→x≤bI k.b k.a
 hi: ∀(i:Nat) (n:List (List Key)) (x:Int),t.nodes[i]?=some n→t.au[i+1]?=some x→ ∀s∈n,∀k:Key,k∈s→bI k.b k.a<x
theorem N0 {t:Tree} (h:de t=true):lG t:=by
 have hl:=jN h;have Lg: ∀i n,t.nodes[i]?=some n→dx t i=true:=fun i n hn=>wI h (List.getElem?_eq_some_iff.1 hn).1
 have hsp: ∀(i:Nat) (n:List (List Key)),t.nodes[i]?=some n→ ∀s∈n,∀k:Key,k∈s→Ap t.au i (bI k.b k.a)=true:=by
  intro i n hn s hs k hk;have:=Lg i n hn;unfold dx at this;rw[hn] at this;simp only[cZ] at this;have h1:=List.all_eq_true.1 this.2.2.2 s hs;unfold dh at h1;exact List.all_eq_true.1 h1 k hk
 refine⟨hl.2.2,Dq h,?_,fun n hn=>lF h hn,?_,?_⟩
 ·intro i x y hx hy
  obtain⟨hi,_⟩:=List.getElem?_eq_some_iff.1 hy;have:=wI h (i:=i+1) az;unfold dx at this;simp only[cZ,gu,hx,hy,decide_eq_true_eq] at this;exact this.1
 ·intro i n x hn hx s hs k hk
  have:=hsp i n hn s hs k hk;unfold Ap at this;rw[hx] at this;simp only[cZ,pK,decide_eq_false_iff_not] at this;omega
 ·intro i n x hn hx s hs k hk
  have:=hsp i n hn s hs k hk;obtain⟨hi,_⟩:=List.getElem?_eq_some_iff.1 hn;unfold Ap at this;rw[aX (by omega:i<t.au.length),hx] at this;simp only[cZ,decide_eq_true_eq] at this;exact this.2
theorem lG.mono {t:Tree} (h:lG t): ∀(d i:Nat) (x y:Int),t.au[i]?=some x→t.au[i+d+1]?=some y→x<y
 |0,i,x,y,hx,hy=>h.rise i x y hx hy
 |d+1,i,x,y,hx,hy=>by
  obtain⟨hlt,_⟩:=List.getElem?_eq_some_iff.1 hy;have hm:t.au[i+d+1]?=some t.au[i+d+1]:=aX az;have h1:=h.mono d i x _ hx hm;have h2:=h.rise (i+d+1) _ y hm (by rw[show i+d+1+1=i+(d+1)+1 from by omega];exact hy);omega
theorem lG.lt {t:Tree} (h:lG t) {i j:Nat} {x y:Int} (hij:i<j) (hx:t.au[i]?=some x) (hy:t.au[j]?=some y):x<y:=
 h.mono (j-i-1) i x y hx (by rw[show i+(j-i-1)+1=j from by omega];exact hy)
theorem lG.key {t:Tree} (h:lG t) {i:Nat} {n:List (List Key)} (hn:t.nodes[i]?=some n) {x:Key} (hx:x∈an n):cT x=true:=by
 obtain⟨s,hs,hy⟩:=iO hx;exact nh (h.ok n (eK hn)) hs hy
theorem zg {x y:Key} (hx:cT x=true) (hy:cT y=true):bI x.b x.a<bI y.b y.a↔mg x y:=by
 have h1:=vn hx;have h2:=vn hy;rw[sr hx,sr hy];unfold mg;omega
def oZ (t:Tree) (i:Nat):List Key:=(t.nodes.drop i).flatMap an
theorem xe {t:Tree} {i:Nat} {n:List (List Key)} (hn:t.nodes[i]?=some n):oZ t i=an n++oZ t (i+1):=by
 obtain⟨hi,he⟩:=List.getElem?_eq_some_iff.1 hn;unfold oZ;rw[yp hi,he,List.flatMap_cons]
theorem oz {t:Tree} {i:Nat} (h:t.nodes.length≤i):oZ t i=[]:=by
 unfold oZ;rw[yq h];rfl
theorem lG.K6 {t:Tree} (h:lG t): ∀(d i:Nat),i+d=t.nodes.length→ ∀x,t.au[i]?=some x→ ∀k∈oZ t i,cT k=true∧x≤bI k.b k.a
 |0,i,hd,x,hx,k,hk=>by rw[oz az] at hk;cases hk
 |d+1,i,hd,x,hx,k,hk=>by
  have hn:t.nodes[i]?=some t.nodes[i]:=aX az;rw[xe hn] at hk;rcases List.mem_append.1 hk with hk|hk
  ·refine⟨h.key hn hk,?_⟩
   obtain⟨s,hs,hk⟩:=iO hk;exact h.lo i _ x hn hx s hs k hk
  ·cases hm:t.au[i+1]? with
   |none=>
    have hl:=h.len
    have: ¬i+1<t.au.length:=fun hlt=>by rw[aX hlt] at hm;cases hm
    rw[oz az] at hk;cases hk
   |some y=>
    obtain⟨h1,h2⟩:=h.K6 d (i+1) az y hm k hk;have:=h.rise i x y hx hm;exact⟨h1,by omega⟩
theorem lG.FO {t:Tree} (h:lG t): ∀(d i:Nat),i+d=t.nodes.length→(oZ t i).Pairwise mg
 |0,i,hd=>by rw[oz az];exact .nil
 |d+1,i,hd=>by
  have hn:t.nodes[i]?=some t.nodes[i]:=aX az;rw[xe hn];refine List.pairwise_append.2 ⟨jj _,h.FO d (i+1) az,fun x hx y hy=> ?_⟩
  cases hm:t.au[i+1]? with
  |none=>
   have hl:=h.len
   have: ¬i+1<t.au.length:=fun hlt=>by rw[aX hlt] at hm;cases hm
   rw[oz az] at hy;cases hy
  |some z=>
   obtain⟨h1,h2⟩:=h.K6 d (i+1) az z hm y hy;have Xf:=h.key hn hx;obtain⟨s,hs,hx⟩:=iO hx;have h3:=h.hi i _ z hn hm s hs x hx;exact(zg Xf h1).1 az
theorem lG.wK {t:Tree} (h:lG t):(av t).Pairwise mg:=h.FO t.nodes.length 0 az
theorem sv {f:Int→Bool} {l:List Int}: ∀(n:Nat),n≤l.length→(kO f l n= -1∧ ∀j x,j<n→l[j]?=some x→f x=false)∨ ∃i:Nat,kO f l n=i∧i<n∧(∃x,l[i]?=some x∧f x=true)∧ ∀j x,i<j→j<n→l[j]?=some x→f x=false
 |0,_=> .inl ⟨rfl,fun j x h=>by omega⟩
 |n+1,h=>by
  have hn:n<l.length:=by omega
  unfold kO;rw[aX hn];simp only[]
  cases hf:f l[n] with
  |true=>exact .inr ⟨n,by simp,by omega,⟨_,aX hn,hf⟩,fun j x h1 h2=>by omega⟩
  |false=>
   rw[aO cY];rcases sv (f:=f) (l:=l) n az with⟨h1,h2⟩|⟨i,h1,h2,h3,h4⟩
   ·refine .inl ⟨h1,fun j x hj hx=> ?_⟩
    by_cases hjn:j=n
    ·subst hjn;rw[aX hn] at hx;cases hx;exact hf
    ·exact h2 j x az hx
   ·refine .inr ⟨i,h1,by omega,h3,fun j x hij hj hx=> ?_⟩
    by_cases hjn:j=n
    ·subst hjn;rw[aX hn] at hx;cases hx;exact hf
    ·exact h4 j x hij az hx
theorem lG.K7 {t:Tree} (h:lG t) {i:Nat} {x:Int} {b a:Int} (hx:t.au[i]?=some x) (hlo:x≤bI b a) (hhi: ∀j y,i<j→t.au[j]?=some y→bI b a<y):
 ∀(j:Nat) (n:List (List Key)),t.nodes[j]?=some n→ ¬j=i→look (an n) b a=none:=by
 intro j n hn hne;refine ry fun k hk hs=> ?_
 have hj:j<t.au.length:=by rw[h.len];exact(List.getElem?_eq_some_iff.1 hn).1
 obtain⟨s,Jb,AS⟩:=iO hk;have h1:=h.lo j n t.au[j] hn (aX hj) s Jb k AS;rw[hs.1,hs.2] at h1
 by_cases hji:j<i
 ·have Q9:j+1<t.au.length:=by have:=(List.getElem?_eq_some_iff.1 hx).1;omega
  have h2:=h.hi j n t.au[j+1] hn (aX Q9) s Jb k AS;rw[hs.1,hs.2] at h2
  by_cases he:j+1=i
  ·subst he;rw[aX Q9] at hx;cases hx;omega
  ·have:=h.lt (i:=j+1) (j:=i) az (aX Q9) hx
   omega
 ·have:=hhi j _ az (aX hj)
  omega
theorem FP {b a:Int}: ∀(l:List (List (List Key))) (i:Nat) (n:List (List Key)),l[i]?=some n→(∀j m,l[j]?=some m→ ¬j=i→look (an m) b a=none)→look (l.flatMap an) b a=look (an n) b a
 |[],i,n,h,_=>by simp at h
 |m::r,0,n,h,hn=>by
  simp only[cw,aT] at h;subst h;rw[List.flatMap_cons,kG]
  have:look (r.flatMap an) b a=none:=ry fun x hx hs=>by
   obtain⟨q,hq,hx⟩:=List.mem_flatMap.1 hx;obtain⟨j,hj⟩:=List.mem_iff_getElem?.1 hq;have:=hn (j+1) q (by simpa using hj) az;unfold look at this;rw[List.find?_eq_none] at this;exact this x hx (by unfold xW;simpa using hs)
  rw[this,Option.or_none]
 |m::r,i+1,n,h,hn=>by
  rw[List.flatMap_cons,kG,hn 0 m rfl az];have:=FP r i n (by simpa using h) fun j q hj hne=>hn (j+1) q (by simpa using hj) az;rw[this];rfl
theorem lG.find {t:Tree} (h:lG t) {b a:Int} (hs:0≤bI b a):NO t b a=IL (look (av t) b a):=by
 unfold NO fH;rcases sv (f:=fun x=>decide (x≤bI b a)) (l:=t.au) t.au.length (bV _) with⟨_,h2⟩|⟨i,h1,h2,⟨x,hx,hf⟩,h4⟩
 ·have hpos:=(List.getElem?_eq_some_iff.1 h.low0).1
  have:=h2 0 0 hpos h.low0;simp only[decide_eq_false_iff_not] at this;omega
 ·rw[h1,aW]
  have hlo:x≤bI b a:=oI hf
  have hi:i<t.nodes.length:=by rw[←h.len];exact h2
  have hn:t.nodes[i]?=some t.nodes[i]:=aX hi;rw[hn];simp only[]
  have hno:=h.K7 hx hlo fun j y hij hy=>by
   have:=h4 j y hij (List.getElem?_eq_some_iff.1 hy).1 hy;simp only[decide_eq_false_iff_not] at this;omega
  rw[IM (nj (h.ok _ (qN hi)))];unfold av;rw[FP t.nodes i t.nodes[i] hn hno]
end Go.T
namespace Go.T
abbrev Nd:=List (List Key)
def below (x:Int):Option Int→Prop
 |none=>True
 |some y=>x<y
def GG (l:List Int) (hi:Option Int):Option Int:=match l with|[]=>hi|y::_=>some y
def GH (x:Int) (hi:Option Int) (n:Nd):Prop:=dw n=true∧below x hi∧ ∀s∈n,∀k:Key,k∈s→x≤bI k.b k.a∧below (bI k.b k.a) hi
def TR (hi:Option Int):List Int→List Nd→Prop
 |[],[]=>True
 |x::xs,n::ns=>GH x (GG xs hi) n∧TR hi xs ns
 |_,_=>False
theorem K8 (l m:List Int) (hi:Option Int):GG (l++m) hi=GG l (GG m hi):=by cases l<;>rfl
theorem rz (l:List Int):GG l none=l[0]?:=by cases l<;>rfl
theorem nq {x y:Int} {o:Option Int} (h:x≤y) (h2:below y o):below x o:=by
 cases o with
 |none=>trivial
 |some z=>have:y<z:=h2;show x<z;omega
theorem TR.app {hi:Option Int} {l2:List Int} {n2:List Nd} (h2:TR hi l2 n2): ∀{l:List Int} {n:List Nd},TR (GG l2 hi) l n→TR hi (l++l2) (n++n2)
 |[],[],_=>h2
 |x::xs,n::ns,h=>⟨by show GH x (GG (xs++l2) hi) n;rw[K8];exact h.1,TR.app h2 h.2⟩
 |[],_::_,h=>h.elim
 |_::_,[],h=>h.elim
theorem TR.split {hi:Option Int} {l2:List Int} {n2:List Nd}: ∀{l:List Int} {n:List Nd},l.length=n.length→TR hi (l++l2) (n++n2)→TR (GG l2 hi) l n∧TR hi l2 n2
 |[],[],_,h=>⟨trivial,h⟩
 |x::xs,n::ns,hl,h=>by
  have h:GH x (GG (xs++l2) hi) n∧TR hi (xs++l2) (ns++n2):=h;rw[K8] at h;have:=TR.split (by simpa using hl) h.2;exact⟨⟨h.1,this.1⟩,this.2⟩
 |[],_::_,hl,_=>by simp at hl
 |_::_,[],hl,_=>by simp at hl
theorem GH.mono {x:Int} {n:Nd} {o o':Option Int} (hm: ∀y,below y o→below y o') (h:GH x o n):GH x o' n:=
 ⟨h.1,hm _ h.2.1,fun s hs k hk=>⟨(h.2.2 s hs k hk).1,hm _ (h.2.2 s hs k hk).2⟩⟩
theorem TR.mono {o o':Option Int} (hm: ∀y,below y o→below y o'): ∀{l:List Int} {n:List Nd},TR o l n→TR o' l n
 |[],[],_=>trivial
 |[x],[n],h=>⟨GH.mono hm h.1,trivial⟩
 |x::y::xs,n::ns,h=>⟨h.1,TR.mono hm h.2⟩
 |[x],n::m::ns,h=>h.2.elim
 |[],_::_,h=>h.elim
 |_::_,[],h=>h.elim
theorem TR.len {hi:Option Int}: ∀{l:List Int} {n:List Nd},TR hi l n→l.length=n.length
 |[],[],_=>rfl
 |x::xs,n::ns,h=>by simp[TR.len h.2]
 |[],_::_,h=>h.elim
 |_::_,[],h=>h.elim
theorem TR.at {hi:Option Int}: ∀{l:List Int} {n:List Nd},TR hi l n→ ∀(i:Nat) (x:Int) (m:Nd),l[i]?=some x→n[i]?=some m→GH x (GG (l.drop (i+1)) hi) m
 |[],[],_,i,x,m,h1,_=>by simp at h1
 |x::xs,n::ns,h,0,y,m,h1,h2=>by
  simp only[cw,aT] at h1 h2;subst h1 h2;exact h.1
 |x::xs,n::ns,h,i+1,y,m,h1,h2=>TR.at h.2 i y m (by simpa using h1) (by simpa using h2)
 |[],_::_,h,_,_,_,_,_=>h.elim
 |_::_,[],h,_,_,_,_,_=>h.elim
theorem TR.head {hi:Option Int}: ∀{l:List Int} {n:List Nd},TR hi l n→ ∀x,l[0]?=some x→below x hi
 |[],_,_,x,hx=>by cases hx
 |[y],[n],h,x,hx=>by
  simp only[cw,aT] at hx;subst hx;exact h.1.2.1
 |y::z::r,n::ns,h,x,hx=>by
  simp only[cw,aT] at hx;subst hx;exact nq (Int.le_of_lt h.1.2.1) (TR.head h.2 z rfl)
 |[_],_::_::_,h,_,_=>h.2.elim
 |_::_,[],h,_,_=>h.elim
theorem mO (l:List Int) (i:Nat):(l.drop i)[0]?=l[i]?:=by rw[ko];rfl
theorem TR.of {t:Tree} (h:lG t): ∀(d i:Nat),i+d=t.nodes.length→TR none (t.au.drop i) (t.nodes.drop i)
 |0,i,hd=>by
  have:=h.len;rw[yq az,yq az];trivial
 |d+1,i,hd=>by
  have hl:=h.len
  have h1:i<t.au.length:=by omega
  have h2:i<t.nodes.length:=by omega
  have e1:t.au[i]?=some t.au[i]:=aX h1;have e2:t.nodes[i]?=some t.nodes[i]:=aX h2;rw[yp h1,yp h2];refine⟨⟨h.ok _ (qN h2),?_,fun s hs k hk=>⟨h.lo i _ _ e2 e1 s hs k hk,?_⟩⟩,TR.of h d (i+1) az⟩
  ·rw[rz,mO]
   cases hy:t.au[i+1]? with
   |none=>trivial
   |some y=>exact h.rise i _ y e1 hy
  ·rw[rz,mO]
   cases hy:t.au[i+1]? with
   |none=>trivial
   |some y=>exact h.hi i _ y e2 hy s hs k hk
theorem TR.tree {l:List Int} {n:List Nd} (h:TR none l n) (h0:l[0]?=some 0):lG ⟨l,n⟩:=by
 have hl:=h.len
 have gt: ∀(i:Nat) (x y:Int),l[i]?=some x→l[i+1]?=some y→ ∃m,n[i]?=some m∧GH x (some y) m:=fun i x y hx hy=>by
  obtain⟨h1,_⟩:=List.getElem?_eq_some_iff.1 hx;have e2:n[i]?=some n[i]:=aX az;have:=h.at i x _ hx e2;rw[rz,mO,hy] at this;exact⟨_,e2,this⟩
 refine⟨hl,h0,fun i x y hx hy=> ?_,fun m hm=> ?_,fun i m x hm hx=> ?_,fun i m y hm hy=> ?_⟩
 ·obtain⟨m,_,h1⟩:=gt i x y hx hy
  exact h1.2.1
 ·obtain⟨i,hi⟩:=List.mem_iff_getElem?.1 hm
  obtain⟨h1,_⟩:=List.getElem?_eq_some_iff.1 hi;have h1:i<n.length:=h1;exact(h.at i _ m (aX az) hi).1
 ·exact fun s hs k hk=>((h.at i x m hx hm).2.2 s hs k hk).1
 ·intro s hs k hk
  obtain⟨h1,_⟩:=List.getElem?_eq_some_iff.1 hm;have h1:i<n.length:=h1;have:=((h.at i _ m (aX az) hm).2.2 s hs k hk).2;have hy:l[i+1]?=some y:=hy;rw[rz,mO,hy] at this;exact this
def NE (l:List Nd):Prop:= ∀n∈l.tail,¬an n=[]
theorem RP:NE []:=fun n hn=>by simp at hn
theorem N3 (m:Nd):NE [m]:=fun n hn=>by simp at hn
structure mq (t:Tree):Prop where
 tr:TR none t.au t.nodes
 z:t.au[0]?=some 0
 ne:NE t.nodes
theorem mq.r {t:Tree} (h:mq t):lG t:=h.tr.tree h.z
theorem N4 {α:Type} {l:List α} {a:α} (h:a∈l.tail): ∃i:Nat,0<i∧l[i]?=some a:=by
 obtain⟨i,hi⟩:=List.mem_iff_getElem?.1 h;refine⟨i+1,by omega,?_⟩
 cases l with
 |nil=>simp at hi
 |cons b r=>simpa using hi
theorem IN {α:Type} {l:List α} {a:α} {i:Nat} (h0:0<i) (h:l[i]?=some a):a∈l.tail:=by
 cases l with
 |nil=>simp at h
 |cons b r=>
  cases i with
  |zero=>omega
  |succ i=>exact eK (i:=i) (by simpa using h)
theorem N5 {t:Tree} (h:de t=true):mq t:=by
 have hr:=N0 h;refine⟨by have:=TR.of hr t.nodes.length 0 az;simpa using this,hr.low0,fun n hn=> ?_⟩;obtain⟨i,h0,hi⟩:=N4 hn;have:=wI h (List.getElem?_eq_some_iff.1 hi).1;unfold dx at this;rw[hi] at this;simp only[cZ,Bool.or_eq_true,decide_eq_true_eq,pK,decide_eq_false_iff_not] at this;rcases this.2.2.1 with h1|h1
 ·omega
 ·exact fun e=>h1 (by rw[e];rfl)
theorem mq.ok {t:Tree} (h:mq t) (XE:t.nodes.length≤20) (SF:(av t).length≤60):de t=true:=by
 have hr:=h.r;have hl:=hr.len;have h1:=(List.getElem?_eq_some_iff.1 h.z).1;unfold de Cq;rw[h.z];simp only[cZ,decide_eq_true_eq];refine⟨by omega,hl,trivial,vg.2 fun i hi=> ?_,SF⟩;unfold dx;have e2:t.nodes[i]?=some t.nodes[i]:=aX hi;rw[e2];simp only[cZ,Bool.or_eq_true,decide_eq_true_eq,pK,decide_eq_false_iff_not];refine⟨?_,hr.ok _ (qN hi),?_,List.all_eq_true.2 fun s hs=>List.all_eq_true.2 fun k hk=> ?_⟩
 ·cases i with
  |zero=>rfl
  |succ i=>
   have a1:t.au[i]?=some t.au[i]:=aX az;have a2:t.au[i+1]?=some t.au[i+1]:=aX az;simp only[gu,a1,a2,decide_eq_true_eq];exact hr.rise i _ _ a1 a2
 ·by_cases h0:i=0
  ·exact .inl h0
  ·exact .inr fun e=>h.ne _ (IN az e2) (List.length_eq_zero_iff.1 e)
 ·unfold ji Ap
  have a1:t.au[i]?=some t.au[i]:=aX az;rw[a1];simp only[cZ,pK,decide_eq_false_iff_not];have h3:=hr.lo i _ _ e2 a1 s hs k hk;refine⟨by omega,?_⟩
  cases hy:t.au[i+1]? with
  |none=>rfl
  |some y=>simp only[decide_eq_true_eq];exact hr.hi i _ y e2 hy s hs k hk
theorem IP: ∀{l:List Nd},(∀(j:Nat) (a b:Nd),l[j]?=some a→l[j+1]?=some b→6<(an a).length+(an b).length)→7*(l.length/2)≤(l.flatMap an).length
 |[],_=>by simp
 |[a],_=>by simp
 |a::b::r,h=>by
  have h1:=h 0 a b rfl rfl;have h2:=IP (l:=r) fun j x y hx hy=>h (j+2) x y (by simpa using hx) (by simpa using hy);simp only[List.flatMap_cons,bZ,eB];omega
theorem xg {t:Tree}: ∀{d i:Nat},i+d=t.nodes.length→ni t d i=none→ ∀j,i≤j→j+1<t.nodes.length→6<(e7 t j).length+(e7 t (j+1)).length
 |0,i,hd,_,j,h1,h2=>by omega
 |d+1,i,hd,h,j,h1,h2=>by
  unfold ni at h
  split at h
  ·split at h
   ·cases h
   ·by_cases hij:i=j
    ·subst hij;omega
    ·exact xg az h j az h2
  ·omega
theorem N6 {t:Tree} (h:jM t=none) (SF:(av t).length≤60):t.nodes.length≤20:=by
 have:=IP (l:=t.nodes) fun j a b ha hb=>by
  have h1:=(List.getElem?_eq_some_iff.1 hb).1;have:=xg (t:=t) (d:=t.nodes.length) (i:=0) az h j az h1
  rwa [fm ha,fm hb] at this
 unfold av at SF;omega
theorem N7 {α:Type} {l:List α} {i:Nat} {a:α} (h:l[i]?=some a):l=l.take i++a::l.drop (i+1):=by
 obtain⟨h1,e⟩:=List.getElem?_eq_some_iff.1 h
 conv=>lhs;rw[←yu i l]
 rw[yp h1,e]
theorem wL {l:List Key} {s:List Key} (h:s∈bJ l) {k:Key} (hk:k∈s):k∈l:=by
 unfold bJ at h
 split at h
 ·cases h
 ·rw[fc.1 h] at hk;exact hk
theorem mq.Ta {t:Tree} (h:mq t) {A A1 A2 C:List Int} {N N1 N2 M:List Nd} (e1:t.au=A++A1++C) (e2:t.nodes=N++N1++M) (hl:A.length=N.length) (AP:A1.length=N1.length) {x:Int} (hx:A1[0]?=some x)
 (h2:TR (GG C none) A2 N2) (h0:A2[0]?=some x∨(A2=[]∧ ¬A=[])) (hn:NE N2) (hn2: ¬A=[]→ ∀n∈N2,¬an n=[]):mq ⟨A++A2++C,N++N2++M⟩:=by
 obtain⟨tr,z,ne⟩:=h;rw[e1,e2,wU,wU] at tr;obtain⟨t1,t2⟩:=TR.split hl tr;obtain⟨t3,t4⟩:=TR.split AP t2
 have Xg:GG (A1++C) none=some x:=by
  cases A1 with
  |nil=>cases hx
  |cons a r=>simpa [GG] using hx
 rw[Xg] at t1;rw[e2] at ne;rw[e1] at z;have Xh:below x (GG C none):=t3.head x hx;refine⟨?_,?_,?_⟩
 ·show TR none (A++A2++C) (N++N2++M)
  rw[wU,wU];refine TR.app (TR.app t4 h2) (t1.mono fun y hy=> ?_);have hy:y<x:=hy;rcases h0 with h0|⟨h0,_⟩
  ·cases A2 with
   |nil=>cases h0
   |cons a r=>simp only[cw,aT] at h0;subst h0;exact hy
  ·subst h0;exact nq (Int.le_of_lt hy) Xh
 ·show(A++A2++C)[0]?=some 0
  cases A with
  |cons a r=>simpa using z
  |nil=>
   rcases h0 with h0|⟨_,h0⟩
   ·cases A1 with
    |nil=>cases hx
    |cons a r=>
     cases A2 with
     |nil=>cases h0
     |cons b s=>
      simp only[pL,wV,cw,aT] at z hx h0 ⊢;omega
   ·exact absurd rfl h0
 ·show NE (N++N2++M)
  have hM: ∀n∈M,(¬N1=[])→ ¬an n=[]:=fun n hm h1=>ne n (by
   cases N with
   |cons a r=>simp[hm]
   |nil=>
    cases N1 with
    |nil=>exact absurd rfl h1
    |cons b s=>simp[hm])
  have Wa: ¬N1=[]:=fun e=>by
   subst e;rw[List.length_eq_zero_iff.1 AP] at hx;cases hx
  intro n hnm
  cases N with
  |cons a r=>
   have hA: ¬A=[]:=fun e=>by rw[e] at hl;simp at hl
   simp only[wV,List.tail_cons,List.mem_append] at hnm;rcases hnm with(hnm|hnm)|hnm
   ·exact ne n (by simp[hnm])
   ·exact hn2 hA n hnm
   ·exact hM n hnm Wa
  |nil=>
   have hA:A=[]:=List.length_eq_zero_iff.1 (by simpa using hl)
   cases N2 with
   |nil=>
    rcases h0 with h0|⟨_,h0⟩
    ·rw[List.length_eq_zero_iff.1 h2.len] at h0;cases h0
    ·exact absurd hA h0
   |cons b s=>
    simp only[pL,wV,List.tail_cons,List.mem_append] at hnm;rcases hnm with hnm|hnm
    ·exact hn n hnm
    ·exact hM n hnm Wa
theorem mq.step {t:Tree} (h:mq t) {i:Nat} (hp:jM t=some i):mq (cP t i)∧av (cP t i)=av t:=by
 obtain⟨h1,h2⟩:=wH hp;have hr:=h.r;have hl:=hr.len;have a1:t.nodes[i]?=some t.nodes[i]:=aX az;have a2:t.nodes[i+1]?=some t.nodes[i+1]:=aX h1;have b1:t.au[i]?=some t.au[i]:=aX az;have b2:t.au[i+1]?=some t.au[i+1]:=aX az;have en:=J1 a1 a2;have el:=J1 b1 b2;generalize ha:t.nodes[i]=a at*;generalize hb:t.nodes[i+1]=b at*;generalize hx:t.au[i]=x at*;generalize hy:t.au[i+1]=y at*;rw[fm a1,fm a2] at h2
 have e1:cP t i=⟨t.au.take i++[x]++t.au.drop (i+2),t.nodes.take i++[bJ (an a++an b)]++t.nodes.drop (i+2)⟩:=by
  unfold cP ke;rw[fm a1,fm a2,mV,b1];rfl
 have el':t.au=t.au.take i++[x,y]++t.au.drop (i+2):=by simpa using el
 have en':t.nodes=t.nodes.take i++[a,b]++t.nodes.drop (i+2):=by simpa using en
 have hlen:(t.au.take i).length=(t.nodes.take i).length:=by simp[hl]
 have na:=h.tr.at i x a b1 a1;have nb:=h.tr.at (i+1) y b b2 a2;rw[rz,mO,b2] at na
 have hka: ∀k∈an a,cT k=true∧x≤bI k.b k.a∧bI k.b k.a<y:=fun k hk=>by
  obtain⟨s,hs,hk⟩:=iO hk;exact⟨nh na.1 hs hk,na.2.2 s hs k hk⟩
 have SA: ∀k∈an b,cT k=true∧y≤bI k.b k.a∧below (bI k.b k.a) (GG (t.au.drop (i+1+1)) none):=fun k hk=>by
  obtain⟨s,hs,hk⟩:=iO hk;exact⟨nh nb.1 hs hk,nb.2.2 s hs k hk⟩
 have hxy:x<y:=na.2.1
 have I8:(an a++an b).Pairwise mg:=List.pairwise_append.2 ⟨jj a,jj b,fun u hu v hv=>by
  have:=hka u hu;have h4:=SA v hv
  exact(zg this.1 h4.1).1 az⟩
 refine⟨?_,?_⟩
 ·rw[e1]
  refine h.Ta el' en' hlen rfl (x:=x) rfl (A2:=[x]) (N2:=[bJ (an a++an b)]) ⟨⟨so I8 (fun k hk=> ?_) (by rw[bZ];omega),?_,fun s hs k hk=> ?_⟩,trivial⟩ (.inl rfl) (N3 _) fun hA n hn=> ?_
  ·rcases List.mem_append.1 hk with hk|hk
   ·exact(hka k hk).1
   ·exact(SA k hk).1
  ·exact nq (Int.le_of_lt hxy) nb.2.1
  ·rcases List.mem_append.1 (wL hs hk) with hk|hk
   ·exact⟨(hka k hk).2.1,nq (Int.le_of_lt (hka k hk).2.2) nb.2.1⟩
   ·exact⟨by have:=(SA k hk).2.1;omega,(SA k hk).2.2⟩
  ·rw[fc.1 hn,vp I8 fun u hu=>by
    rcases List.mem_append.1 hu with hu|hu<;>exact Ar hu]
   have hi:0<i:=Nat.pos_of_ne_zero fun e=>hA (by subst e;rfl);have:=h.ne a (IN hi a1);intro e;exact this (List.append_eq_nil_iff.1 e).1
 ·rw[e1]
  unfold av
  conv=>rhs;rw[en']
  simp only[List.flatMap_append,List.flatMap_cons,List.flatMap_nil,jD]
  rw[vp I8 fun u hu=>by
     rcases List.mem_append.1 hu with hu|hu<;>exact Ar hu]
theorem mq.join: ∀(n:Nat) {t:Tree},mq t→t.nodes.length≤n→mq (iW n t)∧av (iW n t)=av t∧jM (iW n t)=none
 |0,t,h,hn=>⟨h,rfl,by
    have:t.nodes.length=0:=by omega
    show jM t=none
    unfold jM;rw[this];rfl⟩
 |n+1,t,h,hn=>by
  rw[xV]
  cases hp:jM t with
  |none=>exact⟨h,rfl,hp⟩
  |some i=>
   obtain⟨h1,h2⟩:=h.step hp;have h3:=sq (wH hp).1;obtain⟨h4,h5,h6⟩:=mq.join n h1 az;exact⟨h4,h5.trans h2,h6⟩
theorem IQ {n:Nd} {k y:Key} {s:List Key} (hs:s∈(bM n k).1) (hy:y∈s):y=k∨ ∃s∈n,y∈s:=by
 have hin:s∈gX n k→y=k∨ ∃s∈n,y∈s:=fun hs=>by
  unfold gX at hs
  split at hs
  ·rcases List.mem_append.1 hs with hs|hs
   ·exact .inr ⟨s,hs,hy⟩
   ·rw[fc.1 hs] at hy;exact .inl (fc.1 hy)
  ·rename_i s0 h0
   split at hs
   ·rcases List.mem_or_eq_of_mem_set hs with hs|hs
    ·exact .inr ⟨s,hs,hy⟩
    ·rw[hs] at hy
     rcases xQ hy with hy|hy
     ·exact .inr ⟨s0,eK h0,hy⟩
     ·exact .inl hy
   ·rcases List.mem_append.1 hs with hs|hs
    ·exact .inr ⟨s,hs,hy⟩
    ·rw[fc.1 hs] at hy;exact .inl (fc.1 hy)
 unfold bM at hs
 split at hs
 ·exact hin hs
 ·split at hs
  ·exact .inr ⟨s,hs,hy⟩
  ·split at hs
   ·exact sn (wL hs hy)
   ·exact .inr ⟨s,hs,hy⟩
theorem FQ {b a:Int} {l:List Nd} (h: ∀q∈l,look (an q) b a=none):look (l.flatMap an) b a=none:=ry fun x hx hs=>by
 obtain⟨q,hq,hx⟩:=List.mem_flatMap.1 hx;have:=h q hq;unfold look at this;rw[List.find?_eq_none] at this;exact this x hx (by unfold xW;simpa using hs)
theorem Ei {t:Tree} {x:Key} (h:x∈av t): ¬x.k=0:=by
 obtain⟨n,_,hx⟩:=List.mem_flatMap.1 h;exact Ar hx
theorem GI {t:Tree} (b a:Int):(look (av t) b a).filter jy=look (av t) b a:=by
 cases h:look (av t) b a with
 |none=>rfl
 |some x=>
  have:=Ei (Aq h).1;simp[Option.filter,jy,this]
theorem L5 {t:Tree} {k:Key} (h:de t=true) (hk:cT k=true):mq (g8 t (fH t k.b k.a).toNat k)∧av (g8 t (fH t k.b k.a).toNat k)=fG (cm (av t) k):=by
 have hw:=N5 h;have hr:=hw.r;have hl:=hr.len
 have nw:0≤bI k.b k.a:=by have:=vn hk;rw[sr hk];omega
 unfold fH;rcases sv (f:=fun x=>decide (x≤bI k.b k.a)) (l:=t.au) t.au.length (bV _) with⟨_,h2⟩|⟨i,h1,h2,⟨x,hx,hf⟩,h4⟩
 ·have hpos:=(List.getElem?_eq_some_iff.1 hr.low0).1
  have:=h2 0 0 hpos hr.low0;simp only[decide_eq_false_iff_not] at this;omega
 rw[h1];simp only[qM];have hlo:x≤bI k.b k.a:=oI hf
 have hhi: ∀j y,i<j→t.au[j]?=some y→bI k.b k.a<y:=fun j y hij hy=>by
  have:=h4 j y hij (List.getElem?_eq_some_iff.1 hy).1 hy;simp only[decide_eq_false_iff_not] at this;omega
 have hi:i<t.nodes.length:=by omega
 have hn:t.nodes[i]?=some t.nodes[i]:=aX hi;generalize hne:t.nodes[i]=n at*
 have el:t.au=t.au.take i++[x]++t.au.drop (i+1):=by simpa using N7 hx
 have en:t.nodes=t.nodes.take i++[n]++t.nodes.drop (i+1):=by simpa using N7 hn
 have nd:=hw.tr.at i x n hx hn
 have hkn:below (bI k.b k.a) (GG (t.au.drop (i+1)) none):=by
  rw[rz,mO]
  cases hy:t.au[i+1]? with
  |none=>trivial
  |some y=>exact hhi (i+1) y az hy
 have hlen:(t.au.take i).length=(t.nodes.take i).length:=by simp[hl]
 have hgd:t.nodes.getD i []=n:=by rw[mV,hn];rfl
 have Xi:t.au.getD i 0=x:=by rw[mV,hx];rfl
 have hin: ∀y:Key,(y=k∨ ∃s∈n,y∈s)→cT y=true∧x≤bI y.b y.a∧below (bI y.b y.a) (GG (t.au.drop (i+1)) none):=fun y hy=>by
  rcases hy with rfl|⟨s,hs,hy⟩
  ·exact⟨hk,hlo,hkn⟩
  ·exact⟨nh nd.1 hs hy,nd.2.2 s hs y hy⟩
 have mid: ∃(A2:List Int) (N2:List Nd),g8 t i k=⟨t.au.take i++A2++t.au.drop (i+1),t.nodes.take i++N2++t.nodes.drop (i+1)⟩∧TR (GG (t.au.drop (i+1)) none) A2 N2∧(A2[0]?=some x∨(A2=[]∧ ¬t.au.take i=[]))∧NE N2∧(¬t.au.take i=[]→ ∀m∈N2,¬an m=[])∧N2.flatMap an=bC n k:=by
  unfold g8;rw[hgd,Xi]
  cases hp:(bM n k).2 with
  |true=>
   obtain⟨k1,k2⟩:=GF nd.1 hp;rw[aY rfl];have hA: ¬t.au.take i=[]→0<i:=fun hA=>Nat.pos_of_ne_zero fun e=>hA (by subst e;rfl)
   by_cases hz:0<i∧(an (bM n k).1).length=0
   ·rw[aY hz]
    refine⟨[],[],rfl,trivial,.inr ⟨rfl,fun e=> ?_⟩,RP,fun _ m hm=>(by cases hm),?_⟩
    ·have h5:(t.au.take i).length=i:=by rw[fJ];omega
     rw[e] at h5;have h6:=hz.1;have h7:0=i:=h5;omega
    ·rw[←k1,List.length_eq_zero_iff.1 hz.2];rfl
   ·rw[aO hz]
    refine⟨[x],[(bM n k).1],rfl,⟨⟨k2,nq hlo hkn,fun s hs y hy=>(hin y (IQ hs hy)).2⟩,trivial⟩,.inl rfl,N3 _,fun Xj m hm=> ?_,by simp[k1]⟩;rw[fc.1 hm];exact fun e=>hz ⟨hA Xj,by rw[e];rfl⟩
  |false=>
   obtain⟨h8,_⟩:=Dp nd.1 hk hp;rw[aO cY];have I8:=mU n k;have hall: ∀y∈bC n k,(y=k∨ ∃s∈n,y∈s)∧ ¬y.k=0:=fun y hy=>⟨sn hy,FM hy⟩
   have h9:(bC n k).length≤9:=by
    have h5:=lU n k;have h6:=jY nd.1;omega
   generalize bC n k=L at*;have hh:=K4 h8;generalize Ur:(L.length+1)/2=zE at*;have hg:L[zE]?=some L[zE]:=aX hh
   have Xk:L.getD zE dQ=L[zE]:=by rw[mV,hg];rfl
   rw[Xk];generalize hm:L[zE]=m at*;have hsplit:=N7 hg
   have I7:L.drop zE=m::L.drop (zE+1):=by rw[yp hh,hm]
   have OT:(L.take zE++L.drop zE).Pairwise mg:=by rw[yu];exact I8
   obtain⟨p1,p2,p3⟩:=List.pairwise_append.1 OT;have Vy:m∈L:=eK hg;have ok1: ∀y∈L,cT y=true∧x≤bI y.b y.a∧below (bI y.b y.a) (GG (t.au.drop (i+1)) none):=fun y hy=>hin y (hall y hy).1;have lt1: ∀y∈L.take zE,bI y.b y.a<bI m.b m.a:=fun y hy=>(zg (ok1 y (qO hy)).1 (ok1 m Vy).1).2 (p3 y hy m (by rw[I7];exact .head _))
   have le2: ∀y∈L.drop zE,bI m.b m.a≤bI y.b y.a:=fun y hy=>by
    rw[I7] at hy p2;rcases bQ.1 hy with rfl|hy
    ·exact Int.le_refl _
    ·have:=(zg (ok1 m Vy).1 (ok1 y (uN hy)).1).2 ((List.pairwise_cons.1 p2).1 y hy)
     omega
   have k1:an (bJ (L.take zE))=L.take zE:=vp p1 fun y hy=>(hall y (qO hy)).2;have k2:an (bJ (L.drop zE))=L.drop zE:=vp p2 fun y hy=>(hall y (uN hy)).2
   have l1:(L.take zE).length=zE:=by rw[fJ];omega
   have l2:(L.drop zE).length=L.length-zE:=kr
   have hpos:0<zE:=by omega
   have q1: ∃y,y∈L.take zE:=⟨(L.take zE)[0]'az,qN _⟩
   have Xl:x<bI m.b m.a:=by
    obtain⟨y,hy⟩:=q1;have h5:=lt1 y hy;have h6:=(ok1 y (qO hy)).2.1;omega
   have ne1: ¬an (bJ (L.take zE))=[]:=fun e=>by rw[k1] at e;have:=congrArg List.length e;rw[l1] at this;simp at this;omega
   have ne2: ¬an (bJ (L.drop zE))=[]:=fun e=>by rw[k2] at e;have:=congrArg List.length e;rw[l2] at this;simp at this;omega
   refine⟨[x,bI m.b m.a],[bJ (L.take zE),bJ (L.drop zE)],rfl,⟨⟨so p1 (fun y hy=>(ok1 y (qO hy)).1) az,Xl,fun s hs y hy=>⟨(ok1 y (qO (wL hs hy))).2.1,lt1 y (wL hs hy)⟩⟩,⟨so p2 (fun y hy=>(ok1 y (uN hy)).1) az,(ok1 m Vy).2.2,fun s hs y hy=>⟨le2 y (wL hs hy),(ok1 y (uN (wL hs hy))).2.2⟩⟩,trivial⟩,.inl rfl,fun q hq=> ?_,fun _ q hq=> ?_,?_⟩
   ·simp only[List.tail_cons,fc] at hq
    rw[hq];exact ne2
   ·simp only[bQ,List.not_mem_nil,or_false] at hq
    rcases hq with rfl|rfl
    ·exact ne1
    ·exact ne2
   ·simp only[List.flatMap_cons,List.flatMap_nil,jD,k1,k2,yu]
 obtain⟨A2,N2,e0,m1,m2,m3,m4,m5⟩:=mid
 have hW:mq (g8 t i k):=by
  rw[e0];exact hw.Ta el en hlen rfl (x:=x) rfl m1 m2 m3 m4
 refine⟨hW,Dv hW.r.wK ((lE hr.wK).sublist List.filter_sublist) fun b a=> ?_⟩
 have e3:av (g8 t i k)=(t.nodes.take i).flatMap an++bC n k++(t.nodes.drop (i+1)).flatMap an:=by
  rw[e0];unfold av;simp only[List.flatMap_append,m5]
 have e4:av t=(t.nodes.take i).flatMap an++an n++(t.nodes.drop (i+1)).flatMap an:=by
  unfold av
  conv=>lhs;rw[en]
  simp only[List.flatMap_append,List.flatMap_cons,List.flatMap_nil,jD]
 show look (av (g8 t i k)) b a=look ((cm (av t) k).filter jy) b a;rw[vo (lE hr.wK),qd hr.wK,e3,kG,kG,FN k (nj nd.1)]
 by_cases hs:k.b=b∧k.a=a
 ·obtain⟨rfl,rfl⟩:=hs
  rw[aY ⟨rfl,rfl⟩,aY ⟨rfl,rfl⟩];have hno:=hr.K7 hx hlo hhi
  have f1:look ((t.nodes.take i).flatMap an) k.b k.a=none:=FQ fun q hq=>by
   obtain⟨j,hj⟩:=List.mem_iff_getElem?.1 hq
   have Q9:j<i:=by have:=(List.getElem?_eq_some_iff.1 hj).1;rw[fJ] at this;omega
   rw[List.getElem?_take_of_lt Q9] at hj;exact hno j q hj az
  have f2:look ((t.nodes.drop (i+1)).flatMap an) k.b k.a=none:=FQ fun q hq=>by
   obtain⟨j,hj⟩:=List.mem_iff_getElem?.1 hq;rw[ko] at hj;exact hno (i+1+j) q hj az
  rw[f1,f2,Option.none_or,Option.or_none]
 ·rw[aO hs,aO hs,GI,←wJ (nj nd.1),e4,kG,kG]
theorem Dx {t:Tree} {k:Key} (h:de t=true) (hk:cT k=true):mq (iW (g8 t (fH t k.b k.a).toNat k).nodes.length (g8 t (fH t k.b k.a).toNat k))∧av (iW (g8 t (fH t k.b k.a).toNat k).nodes.length (g8 t (fH t k.b k.a).toNat k))=fG (cm (av t) k)∧
 ((fG (cm (av t) k)).length≤60→de (iW (g8 t (fH t k.b k.a).toNat k).nodes.length (g8 t (fH t k.b k.a).toNat k))=true):=by
 obtain⟨h1,h2⟩:=L5 h hk;obtain⟨h3,h4,h5⟩:=h1.join _ (bV _);rw[h2] at h4;exact⟨h3,h4,fun SF=>h3.ok (N6 h5 (by rw[h4];exact SF)) (by rw[h4];exact SF)⟩
theorem GJ {t:Tree} {k:Key} (h:de t=true) (hk:cT k=true) (hp:(cn t k).2=true):av (cn t k).1=fG (cm (av t) k):=by
 unfold cn at hp ⊢;rw[aY ⟨h,hk⟩] at hp ⊢
 split
 ·exact(Dx h hk).2.1
 ·rename_i h1;rw[aO h1] at hp;cases hp
end Go.T
namespace Go.T
end Go.T
namespace Go.T
end Go.T
namespace Go.T
theorem vj.lt: ∀{l:List Bp},vj l→l.Pairwise fun a b=>Hy a.name b.name=true
 |[],_=> .nil
 |[a],_=>by simp
 |a::b::r,h=>by
  have ih:=vj.lt (l:=b::r) h.2;refine List.pairwise_cons.2 ⟨fun c hc=> ?_,ih⟩;rcases bQ.1 hc with rfl|hc
  ·exact h.1
  ·exact FH h.1 ((List.pairwise_cons.1 ih).1 c hc)
theorem J5:de ⟨[0],[[]]⟩=true:=by decide+kernel
end Go.T
namespace Go.T
set_option maxRecDepth 100000
end Go.T
namespace Go.T
theorem N8 {b a k c g:Int} (hb:0≤b∧b≤15) (ha:1≤a∧a≤60) (hk:0≤k∧k≤2) (h:(k=1∧0≤c∧c≤23∧0≤g∧g≤999)∨(¬k=1∧c=0∧g=0)):cT ⟨b,a,k,c,g⟩=true:=by
 unfold cT Cq;simp only[cZ,decide_eq_true_eq];refine⟨⟨⟨hb,ha⟩,hk⟩,?_⟩;rcases h with⟨h1,h2⟩|⟨h1,h2⟩
 ·rw[aY h1];simp only[cZ,decide_eq_true_eq];omega
 ·rw[aO h1];simp only[cZ,decide_eq_true_eq];exact h2
theorem PR {x:Key} (h:cT x=true) {b:Int} (hb:0≤b∧b≤15):cT ⟨b,x.a,x.k,x.c,x.g⟩=true:=by
 unfold cT Cq at h ⊢;simp only[cZ,decide_eq_true_eq] at h ⊢;exact⟨⟨⟨hb,h.1.1.2⟩,h.1.2⟩,h.2⟩
theorem Bj {n:List (List Key)} (h:dw n=true) (k:Key):dw (bM n k).1=true:=by
 unfold bM
 repeat' split
 all_goals first|assumption|exact h
theorem J6 {n:List (List Key)} (h:dw n=true):aJ n≤11:=by
 have:=jY h;unfold aJ;omega
theorem L6 {l:List kg} (h:nF l=true) (id fr:Int):nF (mN l id fr).1=true:=by
 unfold mN
 repeat' split
 all_goals first|assumption|exact h|(rename_i h1;exact h1.2)|(rename_i h1 _;exact h1.2)
theorem IS {t:Tree} (h:de t=true) (k:Key):de (cn t k).1=true:=by
 cases hp:(cn t k).2 with
 |true=>exact J0 hp
 |false=>rw[Ds hp];exact h
theorem GK {t:Tree} {k:Key} (h:de t=true) (hk:cT k=true):(av (cn t k).1).length≤(av t).length+1:=by
 cases hp:(cn t k).2 with
 |true=>
  rw[GJ h hk hp];have h3:(fG (cm (av t) k)).length≤(cm (av t) k).length:=Hv _ _;have h4:=gW (av t) k;omega
 |false=>rw[Ds hp];omega
theorem Dy {l:List kg} (h:nF l=true):l.length≤16:=by
 unfold nF at h;simp only[cZ,decide_eq_true_eq] at h;exact h.2
end Go.T
namespace Go.T
variable {C : g9} {f : FuncId} {vs : List TV} {b : List Int}
theorem eo {P:Int→Prop} {K:Int→RR→Int→Int→Prop} (h:bE C f vs (Dr b fun r=> ∃x,r=vI x∧P x)) (k: ∀x i h,0≤i→P x→K x (b.map gr) i h):
 ∃(n:Int) (l:List (List TC)) (n2 n3:Int),aq C f vs (TV.c (TC.sc (Value.int IntKind.i64 n))) [TV.bx [TC.sub 1 l,TC.sc (Value.int IntKind.i64 n2),TC.sc (Value.int IntKind.i64 n3)]]∧K n l n2 n3:=by
 obtain⟨_,_,hr,i,h',hi,rfl,x,rfl,hx⟩:=h;exact⟨x,_,i,h',hr,k x i h' hi hx⟩
theorem PS {K:Bool→RR→Int→Int→Prop} (h:bE C f vs (Dr b fun r=> ∃x,r=vB x)) (k: ∀x i h,0≤i→K x (b.map gr) i h):
 ∃(n:Bool) (l:List (List TC)) (n2 n3:Int),aq C f vs (TV.c (TC.sc (Value.bool n))) [TV.bx [TC.sub 1 l,TC.sc (Value.int IntKind.i64 n2),TC.sc (Value.int IntKind.i64 n3)]]∧K n l n2 n3:=by
 obtain⟨_,_,hr,i,h',hi,rfl,x,rfl⟩:=h;exact⟨x,_,i,h',hr,k x i h' hi⟩
theorem sw {P:Key→Prop} {K:Int→Int→Int→Int→Int→RR→Int→Int→Prop} (h:bE C f vs (Dr b fun r=> ∃x,r=TV.ag (bn x)∧P x)) (k: ∀x i h,0≤i→P x→K x.b x.a x.k x.c x.g (b.map gr) i h):
 ∃(m1 m2 m3 m4 m5:Int) (l:List (List TC)) (n2 n3:Int),aq C f vs (TV.ag [TC.sc (Value.int IntKind.i64 m1),TC.sc (Value.int IntKind.i64 m2),TC.sc (Value.int IntKind.i64 m3),TC.sc (Value.int IntKind.i64 m4),TC.sc (Value.int IntKind.i64 m5)]) [TV.bx [TC.sub 1 l,TC.sc (Value.int IntKind.i64 n2),TC.sc (Value.int IntKind.i64 n3)]]∧K m1 m2 m3 m4 m5 l n2 n3:=by
 obtain⟨_,_,hr,i,h',hi,rfl,x,rfl,hx⟩:=h;exact⟨x.b,x.a,x.k,x.c,x.g,_,i,h',hr,k x i h' hi hx⟩
theorem Cr {α:Type} {e:α→List TC} {z:Nat} {P:List α→Prop} {K:RR→RR→Int→Int→Prop} (h:bE C f vs (Dr b fun r=> ∃x:List α,r=TV.c (TC.sub z (x.map e))∧P x)) (k: ∀(x:List α) i h,0≤i→P x→K (x.map e) (b.map gr) i h):
 ∃(l0 l:List (List TC)) (n2 n3:Int),aq C f vs (TV.c (TC.sub z l0)) [TV.bx [TC.sub 1 l,TC.sc (Value.int IntKind.i64 n2),TC.sc (Value.int IntKind.i64 n3)]]∧K l0 l n2 n3:=by
 obtain⟨_,_,hr,i,h',hi,rfl,x,rfl,hx⟩:=h;exact⟨_,_,i,h',hr,k x i h' hi hx⟩
theorem GL {P:List (List Key)→Prop} {K:RR→RR→Int→Int→Prop} (h:bE C f vs (Dr b fun r=> ∃x:List (List Key),r=TV.ag [TC.sub 1 (x.map dr)]∧P x)) (k: ∀(x:List (List Key)) i h,0≤i→P x→K (x.map dr) (b.map gr) i h):
 ∃(l0 l:List (List TC)) (n2 n3:Int),aq C f vs (TV.ag [TC.sub 1 l0]) [TV.bx [TC.sub 1 l,TC.sc (Value.int IntKind.i64 n2),TC.sc (Value.int IntKind.i64 n3)]]∧K l0 l n2 n3:=by
 obtain⟨_,_,hr,i,h',hi,rfl,x,rfl,hx⟩:=h;exact⟨_,_,i,h',hr,k x i h' hi hx⟩
theorem K9 {P:Tree→Prop} {K:RR→RR→RR→Int→Int→Prop} (h:bE C f vs (Dr b fun r=> ∃x:Tree,r=dW x∧P x)) (k: ∀(x:Tree) i h,0≤i→P x→K (x.au.map c8) (x.nodes.map cc) (b.map gr) i h):
 ∃(l0 l1 l:List (List TC)) (n2 n3:Int),aq C f vs (TV.ag [TC.sub 1 l0,TC.sub 1 l1]) [TV.bx [TC.sub 1 l,TC.sc (Value.int IntKind.i64 n2),TC.sc (Value.int IntKind.i64 n3)]]∧K l0 l1 l n2 n3:=by
 obtain⟨_,_,hr,i,h',hi,rfl,x,rfl,hx⟩:=h;exact⟨_,_,_,i,h',hr,k x i h' hi hx⟩
theorem N9 {K:RR→Int→Int→Prop} (h:bE C f vs (fun r fs=>fs=[]∧ ∃h,r=mM b 0 h)) (k: ∀h,K (b.map gr) 0 h):
 ∃(l:List (List TC)) (n2 n3:Int),aq C f vs (TV.bx [TC.sub 1 l,TC.sc (Value.int IntKind.i64 n2),TC.sc (Value.int IntKind.i64 n3)]) []∧K l n2 n3:=by
 obtain⟨_,_,hr,rfl,x,rfl⟩:=h;exact⟨_,_,_,hr,k x⟩
theorem dX {P:TV→Prop} {r:TV} {i h:Int} (hi:0≤i) (hP:P r):Dr b P r [TV.bx [TC.sub 1 (b.map gr),TC.sc (Value.int IntKind.i64 i),TC.sc (Value.int IntKind.i64 h)]]:=⟨i,h,hi,rfl,hP⟩
end Go.T
