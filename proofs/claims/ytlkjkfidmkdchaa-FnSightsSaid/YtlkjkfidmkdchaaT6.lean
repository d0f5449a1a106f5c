import Derived.Test.YtlkjkfidmkdchaaT5
set_option linter.all false
namespace Go.T
def PK (cf:Cf):Prop:= ∀f vs r fs r' fs',cf f vs r fs→cf f vs r' fs'→r=r'∧fs=fs'
def RM (lp:Lp):Prop:= ∀f i c st (Q Q':TX→TS→Prop),lp f i c st Q→lp f i c st Q'→ ∃x s,Q x s∧Q' x s
theorem jW {R:Type} {cf:Cf} {lp:Lp} (hc:PK cf) (hl:RM lp) {Q Q':R→Prop}: ∀(e:Ev R),e.holds cf lp Q→e.holds cf lp Q'→ ∃r,Q r∧Q' r
 | .fail,h,_=>h.elim
 | .ret r,h,h'=>⟨r,h,h'⟩
 | .test b k,h,h'=>jW hc hl (k b) h h'
 | .row rows i k,⟨c,h1,h2⟩,⟨c',zC,Ls⟩=>by
   rw[h1] at zC;cases zC;exact jW hc hl (k c) h2 Ls
 | .byte rows i k,⟨c,h1,h2⟩,⟨c',zC,Ls⟩=>by
   rw[h1] at zC;cases zC;exact jW hc hl (k c) h2 Ls
 | .bytes rows k,⟨c,h1,h2⟩,⟨c',zC,Ls⟩=>by
   rw[h1] at zC;cases zC;exact jW hc hl (k c) h2 Ls
 | .call f vs k,⟨r,fs,h1,h2⟩,⟨r',fs',zC,Ls⟩=>by
   obtain⟨rfl,rfl⟩:=hc _ _ _ _ _ _ h1 zC;exact jW hc hl (k r fs) h2 Ls
 | .loop f i c st k,h,h'=>by
   obtain⟨x,s,h1,h2⟩:=hl _ _ _ _ _ _ h h';exact jW hc hl (k x s) h1 h2
 | .both a b,⟨r,h1,h2,h3⟩,⟨r',zC,Ls,OP⟩=>by
   obtain⟨r0,e1,e2⟩:=jW hc hl a h1 zC;subst e1 e2;exact⟨_,h3,OP⟩
section
variable {C : g6}
theorem Ix {cf:Cf} {lp:Lp} (hc:PK cf) (hl:RM lp) {fx:List Nat} {f i:Nat} {c:Code} {Q Q':TX→TS→Prop}: ∀(n:Nat) (st:TS),iter C cf lp fx f i c Q n st→iter C cf lp fx f i c Q' n st→ ∃x s,Q x s∧Q' x s
 |0,_,h,_=>h.elim
 |n+1,st,h,h'=>by
  obtain⟨⟨x,s⟩,h1,h2⟩:=jW hc hl _ h h'
  cases x with
  |norm=>
   simp only at h1 h2;rw[lY] at h1 h2;exact Ix hc hl n _ h1 h2
  |ex id=>exact⟨_,_,h1,h2⟩
  |ret=>exact⟨_,_,h1,h2⟩
theorem K4 {cf:Cf} (hc:PK cf) (k:Nat) (fx:List Nat): ∀n,RM (Jp C cf k fx n)
 |0=>fun _ _ _ _ _ _ h _=>h.elim
 |n+1=>fun f i c st Q Q' h h'=>Ix hc (K4 hc k fx n) k st h h'
theorem Ah: ∀k,PK (eZ C k)
 |0=>fun _ _ _ _ _ _ h _=>h.elim
 |k+1=>fun f vs r fs r' fs' h h'=>by
  unfold eZ at h h'
  cases hx:C.ext f with
  |some p=>rw[hx] at h h';have h:p vs=some (r,fs):=h;have h':p vs=some (r',fs'):=h';rw[h] at h';cases h';exact⟨rfl,rfl⟩
  |none=>
  rw[hx] at h h';simp only at h h';obtain⟨p,h1,h2⟩:=jW (Ah k) (K4 (Ah k) k _ 4) _ h h';rw[h1] at h2
  cases h2
  exact⟨rfl,rfl⟩
theorem ax.UO {f:FuncId} {vs:List TV} {r r':TV} {fs fs':List TV} (h:ax C f vs r fs) (h':ax C f vs r' fs'):r'=r∧fs'=fs:=by
 obtain⟨k,h⟩:=h;obtain⟨k',h'⟩:=h';obtain⟨h1,h2⟩:=Ah (max k k') _ _ _ _ _ _ (iL (E6 _ _) h) (iL (Nat.le_max_right _ _) h');exact⟨h1.symm,h2.symm⟩
end
def jD {α:Type} (l:List α) (i:Int):Option α:=if 0≤i then l[i.toNat]? else none
theorem aU {α:Type} (l:List α) (i:Nat):jD l (i:Int)=l[i]?:=by
 unfold jD;rw[aT (Int.natCast_nonneg i),qP]
theorem wN {α:Type} {l:List α} {i:Int} (h0:0≤i) (h1:i<l.length): ∃a,jD l i=some a:=by
 unfold jD;rw[aT h0];exact⟨_,aX aA⟩
theorem L4 {α:Type} {l:List α} {i:Int} (h: ¬(0≤i∧i<l.length)):jD l i=none:=by
 unfold jD
 split
 ·exact Mt aA
 ·rfl
theorem bC {α:Type} (e:α→List TC) (l:List α) (i:Int):rowAt (l.map e) i=(jD l i).map e:=by
 unfold rowAt jD
 split
 ·rw[gG]
 ·rfl
theorem Iy {α:Type} {l:List α} {i:Int} {a:α} (h:jD l i=some a):a∈l:=by
 unfold jD at h
 split at h
 ·exact eD h
 ·cases h
@[simp] theorem cU {α:Type} (e:α→List TC) (l:List α) (a b:Int):aq (l.map e) a b=((l.take b.toNat).drop a.toNat).map e:=by
  unfold aq;rw[←Hy,←E5]
theorem oY {rows:List (List TC)} (h: ∀r∈rows,∀c∈r,∃v,c= .sc v):bN rows=true:=by
 unfold bN;rw[List.all_eq_true];intro r hr;rw[List.all_eq_true];intro c hc;obtain⟨v,rfl⟩:=h r hr c hc
 rfl
@[simp] theorem UP (s:ByteArray):(ByteArray.data s).1.length=s.size:=rfl
@[simp] theorem Iz (l h n:Int):fh l h n=decide (0≤l∧l≤h∧h≤n):=by unfold fh;rfl
end Go.T
namespace Go.T
structure Key where
 b:Int
 a:Int
 k:Int
 c:Int
 g:Int
 deriving DecidableEq
structure jg where
 id:Int
 fr:Int
 deriving DecidableEq
structure Cell where
 g:Int
 u:Bool
 n:Int
 deriving DecidableEq
structure Bm where
 name:ByteArray
 Qq:Int
 size:Int
 fx:Bool
structure Mp where
 name:ByteArray
 fx:Bool
 l:List Int
structure Tree where
 au:List Int
 nodes:List (List (List Key))
structure S2 where
 t:Tree
 Qs:List jg
 cells:List Cell
 VD:List Bm
 next:Int
structure OO where
 kind:Int
 name:ByteArray
 to:ByteArray
 a:Int
 b:Int
abbrev iI (n:Int):TC:= .sc (.int .i64 n)
abbrev iB (b:Bool):TC:= .sc (.bool b)
abbrev iS (s:ByteArray):TC:= .sc (.string s)
abbrev cI (n:Int):CE:= .sc (.int .i64 n)
abbrev cB (b:Bool):CE:= .sc (.bool b)
abbrev aF (a b:Int):Int:=Jg .i64 a b
abbrev gr (a b:Int):Int:=Cu .i64 a b
abbrev xR (a b:Int):Int:=Jh .i64 a b
theorem aV {a b:Int} (h: -9223372036854775808≤a+b∧a+b≤9223372036854775807):aF a b=a+b:=PG h
theorem jX {a b:Int} (h: -9223372036854775808≤a-b∧a-b≤9223372036854775807):gr a b=a-b:=PI h
theorem PL {a b:Int} (h: -9223372036854775808≤a*b∧a*b≤9223372036854775807):xR a b=a*b:=GH h
abbrev RR:=List (List TC)
abbrev QV:=TV→List TV→Prop
abbrev QX:=TX→TS→Prop
abbrev sI:Sh:= .int .i64
abbrev sB:Sh:= .bool
abbrev hz:Hint:= .z
abbrev hb:Hint→Hint→Hint:= .br
abbrev hr:List Sh→Hint→Hint:= .row
abbrev hc:A9→List A9→Hint→Hint:= .call
def cO (n:Int):List TC:=[.sc (.int .i64 n)]
def iJ (n:Int):List TC:=[.sc (.int .u8 n)]
def K5 (n:Bool):List TC:=[.sc (.bool n)]
def bE (x:Key):List TC:=[.sc (.int .i64 x.b),.sc (.int .i64 x.a),.sc (.int .i64 x.k),.sc (.int .i64 x.c),.sc (.int .i64 x.g)]
def e8 (x:jg):List TC:=[.sc (.int .i64 x.id),.sc (.int .i64 x.fr)]
def sZ (x:Cell):List TC:=[.sc (.int .i64 x.g),.sc (.bool x.u),.sc (.int .i64 x.n)]
def vn (x:Bm):List TC:=[.sc (.string x.name),.sc (.int .i64 x.Qq),.sc (.int .i64 x.size),.sc (.bool x.fx)]
def K6 (x:OO):List TC:=[.sc (.int .i64 x.kind),.sc (.string x.name),.sc (.string x.to),.sc (.int .i64 x.a),.sc (.int .i64 x.b)]
def Ai (x:Mp):List TC:=[.sc (.string x.name),.sc (.bool x.fx),.sub 1 (x.l.map cO)]
def NQ (x:List Int):List TC:=[.sub 1 (x.map iJ)]
def ej (x:List Key):List TC:=[.sub 5 (x.map bE)]
def bO (x:List (List Key)):List TC:=[.sub 1 (x.map ej)]
abbrev K7 (t:Tree):List TC:=[.sub 1 (t.au.map cO),.sub 1 (t.nodes.map bO)]
abbrev vI (n:Int):TV:= .c (.sc (.int .i64 n))
abbrev vB (b:Bool):TV:= .c (.sc (.bool b))
abbrev vS (s:ByteArray):TV:= .c (.sc (.string s))
abbrev rC (l:List Int):TV:= .c (.sub 1 (l.map cO))
abbrev Aj (l:List Int):TV:= .c (.sub 1 (l.map iJ))
abbrev ct (l:List Key):TV:= .c (.sub 5 (l.map bE))
abbrev RN (l:List (List (List Key))):TV:= .c (.sub 1 (l.map bO))
abbrev kG (l:List jg):TV:= .c (.sub 2 (l.map e8))
abbrev JX (k:Key):TV:= .ag [.sc (.int .i64 k.b),.sc (.int .i64 k.a),.sc (.int .i64 k.k),.sc (.int .i64 k.c),.sc (.int .i64 k.g)]
abbrev mE (n:List (List Key)):TV:= .ag [.sub 1 (n.map ej)]
abbrev dS (t:Tree):TV:= .ag (K7 t)
section
variable {i : Int}
@[simp] theorem xS {l:List Int} {K:Int→Prop}:(∃n,rowAt (l.map cO) i=some [.sc (.int .i64 n)]∧K n)↔ ∃a,jD l i=some a∧K a:=by
  rw[bC]
  constructor
  ·rintro⟨n,h,hK⟩
   obtain⟨a,ha,h⟩:=Option.map_eq_some_iff.1 h;unfold cO at h;cases h;exact⟨_,ha,hK⟩
  ·rintro⟨a,ha,hK⟩
   exact⟨_,by rw[ha];rfl,hK⟩
@[simp] theorem T9 {l:List Int} {K:Int→Prop}:(∃n,rowAt (l.map iJ) i=some [.sc (.int .u8 n)]∧K n)↔ ∃a,jD l i=some a∧K a:=by
  rw[bC]
  constructor
  ·rintro⟨n,h,hK⟩
   obtain⟨a,ha,h⟩:=Option.map_eq_some_iff.1 h;unfold iJ at h;cases h;exact⟨_,ha,hK⟩
  ·rintro⟨a,ha,hK⟩
   exact⟨_,by rw[ha];rfl,hK⟩
@[simp] theorem Ua {l:List Bool} {K:Bool→Prop}:(∃n,rowAt (l.map K5) i=some [.sc (.bool n)]∧K n)↔ ∃a,jD l i=some a∧K a:=by
  rw[bC]
  constructor
  ·rintro⟨n,h,hK⟩
   obtain⟨a,ha,h⟩:=Option.map_eq_some_iff.1 h;unfold K5 at h;cases h;exact⟨_,ha,hK⟩
  ·rintro⟨a,ha,hK⟩
   exact⟨_,by rw[ha];rfl,hK⟩
@[simp] theorem lB {l:List Key} {K:Int→Int→Int→Int→Int→Prop}:(∃b a k c g,rowAt (l.map bE) i=some [.sc (.int .i64 b),.sc (.int .i64 a),.sc (.int .i64 k),.sc (.int .i64 c),.sc (.int .i64 g)]∧K b a k c g)↔ ∃x,jD l i=some x∧K x.b x.a x.k x.c x.g:=by
  rw[bC]
  constructor
  ·rintro⟨_,_,_,_,_,h,hK⟩
   obtain⟨a,ha,h⟩:=Option.map_eq_some_iff.1 h;unfold bE at h;cases h;exact⟨_,ha,hK⟩
  ·rintro⟨a,ha,hK⟩
   exact⟨_,_,_,_,_,by rw[ha];rfl,hK⟩
@[simp] theorem De {l:List jg} {K:Int→Int→Prop}:(∃b a,rowAt (l.map e8) i=some [.sc (.int .i64 b),.sc (.int .i64 a)]∧K b a)↔ ∃x,jD l i=some x∧K x.id x.fr:=by
  rw[bC]
  constructor
  ·rintro⟨_,_,h,hK⟩
   obtain⟨a,ha,h⟩:=Option.map_eq_some_iff.1 h;unfold e8 at h;cases h;exact⟨_,ha,hK⟩
  ·rintro⟨a,ha,hK⟩
   exact⟨_,_,by rw[ha];rfl,hK⟩
@[simp] theorem Ub {l:List Cell} {K:Int→Bool→Int→Prop}:(∃g u n,rowAt (l.map sZ) i=some [.sc (.int .i64 g),.sc (.bool u),.sc (.int .i64 n)]∧K g u n)↔ ∃x,jD l i=some x∧K x.g x.u x.n:=by
  rw[bC]
  constructor
  ·rintro⟨_,_,_,h,hK⟩
   obtain⟨a,ha,h⟩:=Option.map_eq_some_iff.1 h;unfold sZ at h;cases h;exact⟨_,ha,hK⟩
  ·rintro⟨a,ha,hK⟩
   exact⟨_,_,_,by rw[ha];rfl,hK⟩
@[simp] theorem UQ {l:List Bm} {K:ByteArray→Int→Int→Bool→Prop}:(∃s a z f,rowAt (l.map vn) i=some [.sc (.string s),.sc (.int .i64 a),.sc (.int .i64 z),.sc (.bool f)]∧K s a z f)↔ ∃x,jD l i=some x∧K x.name x.Qq x.size x.fx:=by
  rw[bC]
  constructor
  ·rintro⟨_,_,_,_,h,hK⟩
   obtain⟨a,ha,h⟩:=Option.map_eq_some_iff.1 h;unfold vn at h;cases h;exact⟨_,ha,hK⟩
  ·rintro⟨a,ha,hK⟩
   exact⟨_,_,_,_,by rw[ha];rfl,hK⟩
@[simp] theorem VL {l:List OO} {K:Int→ByteArray→ByteArray→Int→Int→Prop}:(∃k s t a b,rowAt (l.map K6) i=some [.sc (.int .i64 k),.sc (.string s),.sc (.string t),.sc (.int .i64 a),.sc (.int .i64 b)]∧K k s t a b)↔ ∃x,jD l i=some x∧K x.kind x.name x.to x.a x.b:=by
  rw[bC]
  constructor
  ·rintro⟨_,_,_,_,_,h,hK⟩
   obtain⟨a,ha,h⟩:=Option.map_eq_some_iff.1 h;unfold K6 at h;cases h;exact⟨_,ha,hK⟩
  ·rintro⟨a,ha,hK⟩
   exact⟨_,_,_,_,_,by rw[ha];rfl,hK⟩
@[simp] theorem UR {l:List Mp} {K:ByteArray→Bool→List (List TC)→Prop}:(∃s f r,rowAt (l.map Ai) i=some [.sc (.string s),.sc (.bool f),.sub 1 r]∧K s f r)↔ ∃x,jD l i=some x∧K x.name x.fx (x.l.map cO):=by
  rw[bC]
  constructor
  ·rintro⟨_,_,_,h,hK⟩
   obtain⟨a,ha,h⟩:=Option.map_eq_some_iff.1 h;unfold Ai at h;cases h;exact⟨_,ha,hK⟩
  ·rintro⟨a,ha,hK⟩
   exact⟨_,_,_,by rw[ha];rfl,hK⟩
@[simp] theorem xT {l:List (List Key)} {K:List (List TC)→Prop}:(∃r,rowAt (l.map ej) i=some [.sub 5 r]∧K r)↔ ∃x,jD l i=some x∧K (x.map bE):=by
  rw[bC]
  constructor
  ·rintro⟨_,h,hK⟩
   obtain⟨a,ha,h⟩:=Option.map_eq_some_iff.1 h;unfold ej at h;cases h;exact⟨_,ha,hK⟩
  ·rintro⟨a,ha,hK⟩
   exact⟨_,by rw[ha];rfl,hK⟩
@[simp] theorem y5 {l:List (List (List Key))} {K:List (List TC)→Prop}:(∃r,rowAt (l.map bO) i=some [.sub 1 r]∧K r)↔ ∃x,jD l i=some x∧K (x.map ej):=by
  rw[bC]
  constructor
  ·rintro⟨_,h,hK⟩
   obtain⟨a,ha,h⟩:=Option.map_eq_some_iff.1 h;unfold bO at h;cases h;exact⟨_,ha,hK⟩
  ·rintro⟨a,ha,hK⟩
   exact⟨_,by rw[ha];rfl,hK⟩
@[simp] theorem S3 {l:List (List Int)} {K:List (List TC)→Prop}:(∃r,rowAt (l.map NQ) i=some [.sub 1 r]∧K r)↔ ∃x,jD l i=some x∧K (x.map iJ):=by
  rw[bC]
  constructor
  ·rintro⟨_,h,hK⟩
   obtain⟨a,ha,h⟩:=Option.map_eq_some_iff.1 h;unfold NQ at h;cases h;exact⟨_,ha,hK⟩
  ·rintro⟨a,ha,hK⟩
   exact⟨_,by rw[ha];rfl,hK⟩
end
@[simp] theorem natAdd (a b:Nat):Nat.add a b=a+b:=rfl
@[simp] theorem K8 {α:Type} (a b:List α):List.append a b=a++b:=rfl
theorem jY (l:List Int):bN (l.map cO)=true:=oY fun r hr c hc=>by
 obtain⟨a,_,rfl⟩:=List.mem_map.1 hr;unfold cO at hc;simp only[ff] at hc;exact⟨_,hc⟩
theorem JY (l:List Int):bN (l.map iJ)=true:=oY fun r hr c hc=>by
 obtain⟨a,_,rfl⟩:=List.mem_map.1 hr;unfold iJ at hc;simp only[ff] at hc;exact⟨_,hc⟩
theorem ie (l:List Key):bN (l.map bE)=true:=oY fun r hr c hc=>by
 obtain⟨a,_,rfl⟩:=List.mem_map.1 hr;unfold bE at hc;simp only[bK,List.not_mem_nil,or_false] at hc;rcases hc with h|h|h|h|h<;>exact⟨_,h⟩
theorem Ak (l:List jg):bN (l.map e8)=true:=oY fun r hr c hc=>by
 obtain⟨a,_,rfl⟩:=List.mem_map.1 hr;unfold e8 at hc;simp only[bK,List.not_mem_nil,or_false] at hc;rcases hc with h|h<;>exact⟨_,h⟩
theorem JZ (l:List Cell):bN (l.map sZ)=true:=oY fun r hr c hc=>by
 obtain⟨a,_,rfl⟩:=List.mem_map.1 hr;unfold sZ at hc;simp only[bK,List.not_mem_nil,or_false] at hc;rcases hc with h|h|h<;>exact⟨_,h⟩
theorem FH (l:List Bm):bN (l.map vn)=true:=oY fun r hr c hc=>by
 obtain⟨a,_,rfl⟩:=List.mem_map.1 hr;unfold vn at hc;simp only[bK,List.not_mem_nil,or_false] at hc;rcases hc with h|h|h|h<;>exact⟨_,h⟩
@[simp] theorem NR (v:Value):bN [[.sc v]]=true:=oY fun r hr c hc=>by
  simp only[ff] at hr;subst hr;simp only[ff] at hc;exact⟨_,hc⟩
attribute [simp] jY JY ie Ak JZ FH
end Go.T
namespace Go.T
theorem FI {α:Type} (g:α→α): ∀(l:List α) (i:Nat) (a:α),l[i]?=some a→l.modify i g=l.set i (g a)
 |[],i,a,h=>by simp at h
 |x::r,0,a,h=>by simp only[cz,aR] at h;subst h;rfl
 |x::r,i+1,a,h=>by
  simp only[lR] at h;rw[List.modify_succ_cons,List.set_cons_succ,FI g r i a h]
theorem bn {α:Type} {e:α→List TC} {l:List α} {i:Int} {f:Nat} {cs:List TC} {g:α→α} (he: ∀a,(e a).take f++cs++(e a).drop (f+cs.length)=e (g a)):setRow (l.map e) i f cs=(l.modify i.toNat g).map e:=by
 unfold setRow;rw[gG]
 cases h:l[i.toNat]? with
 |none=>
  have:l.length≤i.toNat:=List.getElem?_eq_none_iff.1 h;simp only[Option.map_none];rw[List.modify_eq_self this]
 |some a=>
  simp only[iE];rw[he,FI g l _ a h,List.map_set]
@[simp] theorem S4 {l:List Key} {i:Int} {v:Int}:setRow (l.map bE) i 0 [.sc (.int .i64 v)]=(l.modify i.toNat fun x=>{x with b:=v}).map bE:=bn fun a=>rfl
@[simp] theorem S5 {l:List Key} {i:Int} {v:Int}:setRow (l.map bE) i 1 [.sc (.int .i64 v)]=(l.modify i.toNat fun x=>{x with a:=v}).map bE:=bn fun a=>rfl
@[simp] theorem S6 {l:List Key} {i:Int} {v:Int}:setRow (l.map bE) i 2 [.sc (.int .i64 v)]=(l.modify i.toNat fun x=>{x with k:=v}).map bE:=bn fun a=>rfl
@[simp] theorem S7 {l:List Key} {i:Int} {v:Int}:setRow (l.map bE) i 3 [.sc (.int .i64 v)]=(l.modify i.toNat fun x=>{x with c:=v}).map bE:=bn fun a=>rfl
@[simp] theorem S8 {l:List Key} {i:Int} {v:Int}:setRow (l.map bE) i 4 [.sc (.int .i64 v)]=(l.modify i.toNat fun x=>{x with g:=v}).map bE:=bn fun a=>rfl
@[simp] theorem US {l:List Key} {i:Int} {v0:Int} {v1:Int} {v2:Int} {v3:Int} {v4:Int}:setRow (l.map bE) i 0 [.sc (.int .i64 v0),.sc (.int .i64 v1),.sc (.int .i64 v2),.sc (.int .i64 v3),.sc (.int .i64 v4)]=(l.modify i.toNat fun _=>⟨v0,v1,v2,v3,v4⟩).map bE:=bn fun a=>rfl
@[simp] theorem Sn {l:List jg} {i:Int} {v:Int}:setRow (l.map e8) i 0 [.sc (.int .i64 v)]=(l.modify i.toNat fun x=>{x with id:=v}).map e8:=bn fun a=>rfl
@[simp] theorem So {l:List jg} {i:Int} {v:Int}:setRow (l.map e8) i 1 [.sc (.int .i64 v)]=(l.modify i.toNat fun x=>{x with fr:=v}).map e8:=bn fun a=>rfl
@[simp] theorem UT {l:List jg} {i:Int} {v0:Int} {v1:Int}:setRow (l.map e8) i 0 [.sc (.int .i64 v0),.sc (.int .i64 v1)]=(l.modify i.toNat fun _=>⟨v0,v1⟩).map e8:=bn fun a=>rfl
@[simp] theorem Sp {l:List Cell} {i:Int} {v:Int}:setRow (l.map sZ) i 0 [.sc (.int .i64 v)]=(l.modify i.toNat fun x=>{x with g:=v}).map sZ:=bn fun a=>rfl
@[simp] theorem Sq {l:List Cell} {i:Int} {v:Bool}:setRow (l.map sZ) i 1 [.sc (.bool v)]=(l.modify i.toNat fun x=>{x with u:=v}).map sZ:=bn fun a=>rfl
@[simp] theorem Ss {l:List Cell} {i:Int} {v:Int}:setRow (l.map sZ) i 2 [.sc (.int .i64 v)]=(l.modify i.toNat fun x=>{x with n:=v}).map sZ:=bn fun a=>rfl
@[simp] theorem Uc {l:List Cell} {i:Int} {v0:Int} {v1:Bool} {v2:Int}:setRow (l.map sZ) i 0 [.sc (.int .i64 v0),.sc (.bool v1),.sc (.int .i64 v2)]=(l.modify i.toNat fun _=>⟨v0,v1,v2⟩).map sZ:=bn fun a=>rfl
@[simp] theorem QH {l:List Bm} {i:Int} {v:ByteArray}:setRow (l.map vn) i 0 [.sc (.string v)]=(l.modify i.toNat fun x=>{x with name:=v}).map vn:=bn fun a=>rfl
@[simp] theorem RO {l:List Bm} {i:Int} {v:Int}:setRow (l.map vn) i 1 [.sc (.int .i64 v)]=(l.modify i.toNat fun x=>{x with Qq:=v}).map vn:=bn fun a=>rfl
@[simp] theorem QI {l:List Bm} {i:Int} {v:Int}:setRow (l.map vn) i 2 [.sc (.int .i64 v)]=(l.modify i.toNat fun x=>{x with size:=v}).map vn:=bn fun a=>rfl
@[simp] theorem St {l:List Bm} {i:Int} {v:Bool}:setRow (l.map vn) i 3 [.sc (.bool v)]=(l.modify i.toNat fun x=>{x with fx:=v}).map vn:=bn fun a=>rfl
@[simp] theorem UU {l:List Bm} {i:Int} {v0:ByteArray} {v1:Int} {v2:Int} {v3:Bool}:setRow (l.map vn) i 0 [.sc (.string v0),.sc (.int .i64 v1),.sc (.int .i64 v2),.sc (.bool v3)]=(l.modify i.toNat fun _=>⟨v0,v1,v2,v3⟩).map vn:=bn fun a=>rfl
@[simp] theorem RP {l:List OO} {i:Int} {v:Int}:setRow (l.map K6) i 0 [.sc (.int .i64 v)]=(l.modify i.toNat fun x=>{x with kind:=v}).map K6:=bn fun a=>rfl
@[simp] theorem RQ {l:List OO} {i:Int} {v:ByteArray}:setRow (l.map K6) i 1 [.sc (.string v)]=(l.modify i.toNat fun x=>{x with name:=v}).map K6:=bn fun a=>rfl
@[simp] theorem S9 {l:List OO} {i:Int} {v:ByteArray}:setRow (l.map K6) i 2 [.sc (.string v)]=(l.modify i.toNat fun x=>{x with to:=v}).map K6:=bn fun a=>rfl
@[simp] theorem Ud {l:List OO} {i:Int} {v:Int}:setRow (l.map K6) i 3 [.sc (.int .i64 v)]=(l.modify i.toNat fun x=>{x with a:=v}).map K6:=bn fun a=>rfl
@[simp] theorem Ue {l:List OO} {i:Int} {v:Int}:setRow (l.map K6) i 4 [.sc (.int .i64 v)]=(l.modify i.toNat fun x=>{x with b:=v}).map K6:=bn fun a=>rfl
@[simp] theorem VM {l:List OO} {i:Int} {v0:Int} {v1:ByteArray} {v2:ByteArray} {v3:Int} {v4:Int}:setRow (l.map K6) i 0 [.sc (.int .i64 v0),.sc (.string v1),.sc (.string v2),.sc (.int .i64 v3),.sc (.int .i64 v4)]=(l.modify i.toNat fun _=>⟨v0,v1,v2,v3,v4⟩).map K6:=bn fun a=>rfl
@[simp] theorem QJ {l:List Mp} {i:Int} {v:ByteArray}:setRow (l.map Ai) i 0 [.sc (.string v)]=(l.modify i.toNat fun x=>{x with name:=v}).map Ai:=bn fun a=>rfl
@[simp] theorem Su {l:List Mp} {i:Int} {v:Bool}:setRow (l.map Ai) i 1 [.sc (.bool v)]=(l.modify i.toNat fun x=>{x with fx:=v}).map Ai:=bn fun a=>rfl
@[simp] theorem Ta {l:List Mp} {i:Int} {v:List Int}:setRow (l.map Ai) i 2 [.sub 1 (v.map cO)]=(l.modify i.toNat fun x=>{x with l:=v}).map Ai:=bn fun a=>rfl
@[simp] theorem UW {l:List Mp} {i:Int} {v0:ByteArray} {v1:Bool} {v2:List Int}:setRow (l.map Ai) i 0 [.sc (.string v0),.sc (.bool v1),.sub 1 (v2.map cO)]=(l.modify i.toNat fun _=>⟨v0,v1,v2⟩).map Ai:=bn fun a=>rfl
@[simp] theorem UX {l:List (Int)} {i:Int} {v:Int}:setRow (l.map cO) i 0 [.sc (.int .i64 v)]=(l.modify i.toNat fun _=>v).map cO:=bn fun a=>rfl
@[simp] theorem Uf {l:List (Int)} {i:Int} {v:Int}:setRow (l.map iJ) i 0 [.sc (.int .u8 v)]=(l.modify i.toNat fun _=>v).map iJ:=bn fun a=>rfl
@[simp] theorem Ug {l:List (Bool)} {i:Int} {v:Bool}:setRow (l.map K5) i 0 [.sc (.bool v)]=(l.modify i.toNat fun _=>v).map K5:=bn fun a=>rfl
@[simp] theorem UY {l:List (List Key)} {i:Int} {v:List Key}:setRow (l.map ej) i 0 [.sub 5 (v.map bE)]=(l.modify i.toNat fun _=>v).map ej:=bn fun a=>rfl
@[simp] theorem Uh {l:List (List (List Key))} {i:Int} {v:List (List Key)}:setRow (l.map bO) i 0 [.sub 1 (v.map ej)]=(l.modify i.toNat fun _=>v).map bO:=bn fun a=>rfl
end Go.T
namespace Go.T
theorem cc {α:Type} (l:List α) (P:Nat→Prop) (fin:P l.length) (step: ∀i a,i<l.length→l[i]?=some a→l.drop i=a::l.drop (i+1)→l.take (i+1)=l.take i++[a]→P (i+1)→P i):P 0:=by
 have: ∀k i,i+k=l.length→P i:=by
  intro k
  induction k with
  |zero=>intro i h;have:i=l.length:=by omega
         subst this;exact fin
  |succ k ih=>
   intro i h
   have hi:i<l.length:=by omega
   refine step i l[i] hi (aX hi) (yp hi) ?_ (ih (i+1) aA);rw[List.take_add_one,aX hi];rfl
 exact this l.length 0 aA
def tot {α:Type} (w:α→Nat):List α→Nat
 |[]=>0
 |a::r=>w a+tot w r
theorem sD {α:Type} {w:α→Nat}: ∀{l:List α} {a:α},a∈l→w a≤tot w l
 |[],_,h=>by cases h
 |b::r,a,h=>by
  simp only[tot];rcases bK.1 h with rfl|h
  ·omega
  ·have:=sD (w:=w) h;omega
theorem mh {α:Type} {w:α→Nat} {l:List α} {i:Nat} {a:α} (h:l[i]?=some a):w a≤tot w l:=sD (eD h)
def bL (s:List Key):Nat:=s.length
def aQ (n:List (List Key)):Nat:=n.length+tot bL n
def qd (n:List (List (List Key))):Nat:=n.length+tot aQ n
def dU (t:Tree):Nat:=t.au.length+qd t.nodes
end Go.T
namespace Go.T
section
variable {C : g6} {f : FuncId} {vs : List TV}
theorem Df {x b:Bool} (h:ax C f vs (vB x) []):ax C f vs (vB b) []↔b=x:=⟨fun h'=>by have:=(h.UO h').1;simpa using this,fun e=>e▸h⟩
theorem PM {x b:Int} (h:ax C f vs (vI x) []):ax C f vs (vI b) []↔b=x:=⟨fun h'=>by have:=(h.UO h').1;simpa using this,fun e=>e▸h⟩
theorem L5 {z:Nat} {x b:RR} (h:ax C f vs (.c (.sub z x)) []):ax C f vs (.c (.sub z b)) []↔b=x:=⟨fun h'=>by have:=(h.UO h').1;simpa using this,fun e=>e▸h⟩
end
def y6 (a lo hi:Int):Bool:=decide (lo≤a∧a≤hi)
def c6 (x:Key):Bool:=y6 x.b 0 15&&y6 x.a 1 60&&y6 x.k 0 2&&(if x.k=1 then y6 x.c 0 23&&y6 x.g 0 999 else decide (x.c=0)&&decide (x.g=0))
def cg (x y:Key):Bool:=decide (x.b<y.b∨(x.b=y.b∧x.a<y.a))
def fK (x y:Key):Bool:=decide (x.b=y.b∧x.a=y.a)
def iU (n:Nat) (f:Nat→Bool):Bool:=(List.range' 0 n).all f
theorem Dg {i n:Nat} (h:i<n):List.range' i (n-i)=i::List.range' (i+1) (n-(i+1)):=by
 obtain⟨k,hk⟩: ∃k,n-i=k+1:=⟨n-i-1,by omega⟩;rw[hk,show n-(i+1)=k by omega]
 rfl
theorem IA (n:Nat) (P:Nat→Prop) (fin:P n) (step: ∀i,i<n→P (i+1)→P i):P 0:=by
 have: ∀k i,i+k=n→P i:=by
  intro k
  induction k with
  |zero=>intro i h;have:i=n:=by omega
         subst this;exact fin
  |succ k ih=>intro i h;exact step i aA (ih (i+1) aA)
 exact this n 0 aA
theorem K9 {α:Type} (f g:α→Bool): ∀l:List α,l.all (fun x=>f x&&g x)=(l.all f&&l.all g)
 |[]=>rfl
 |a::r=>by simp only[uS,K9 f g r];cases f a<;>cases g a<;>simp
theorem NS (n:Nat) (f g:Nat→Bool):iU n (fun i=>f i&&g i)=(iU n f&&iU n g):=K9 f g _
theorem oZ {n:Nat} {f:Nat→Bool}:iU n f=true↔ ∀i,i<n→f i=true:=by
 unfold iU;rw[List.all_eq_true]
 constructor
 ·intro h i hi;exact h i (by simp[List.mem_range'];exact hi)
 ·intro h i hi
  simp[List.mem_range'] at hi;exact h i hi
def PN {α:Type} (l:List α) (f:α→Bool) (i:Nat):Bool:=match l[i]? with|some a=>f a|none=>true
def fM {α:Type} (l:List α) (f:α→α→Bool):Nat→Bool
 |0=>true
 |k+1=>match l[k]?,l[k+1]? with|some x,some y=>f x y|_,_=>true
theorem PO {α:Type} (l:List α) (f:α→Bool):iU l.length (PN l f)=l.all f:=by
 rw[Bool.eq_iff_iff,oZ,List.all_eq_true]
 constructor
 ·intro h a ha
  obtain⟨i,hi,rfl⟩:=List.getElem_of_mem ha;have:=h i hi;simpa [PN,hi] using this
 ·intro h i hi
  simp only[PN,aX hi];exact h _ (pL hi)
def PR (l:List Key) (i:Nat):Bool:=PN l c6 i&&fM l cg i
def y7 (l:List Key):Bool:=iU l.length (PR l)&&decide (l.length≤60)
theorem y8 (l:List Key):y7 l=(l.all c6&&(iU l.length (fM l cg)&&decide (l.length≤60))):=by
 rw[←Bool.and_assoc,←PO,←NS];rfl
def ef:Key:=⟨0,0,0,0,0⟩
def setAt (l:List Key) (b a:Int):Option Key:=l.find? fun x=>decide (x.b=b∧x.a=a)
def cw (k:Key):Bool→List Key→List Key
 |put,[]=>if put then [] else [k]
 |put,x::r=>(if !put&& !cg x k then [k] else [])++(if fK x k then [] else [x])++cw k (put|| !cg x k) r
def cE (l:List Key) (k:Key):List Key:=cw k false l
theorem Bb (k:Key): ∀(l:List Key) (put:Bool),(cw k put l).length≤l.length+(if put then 0 else 1)
 |[],put=>by simp only[cw];split<;>simp
 |x::r,put=>by
  have:=Bb k r (put|| !cg x k);simp only[cw,cr,eC]
  have h1:(if fK x k then([]:List Key) else [x]).length≤1:=by split<;>simp
  revert h1
  generalize (if fK x k then([]:List Key) else [x])=m;intro h1
  cases put<;>cases hk:cg x k<;>simp[hk] at this ⊢ <;>omega
theorem jN (l:List Key) (k:Key):(cE l k).length≤l.length+1:=by have:=Bb k l false;simpa [cE] using this
def bh (old new:List Key):List Key:=new.foldl cE old
theorem m6: ∀(new old:List Key),(bh old new).length≤old.length+new.length
 |[],old=>by simp[bh]
 |x::r,old=>by
  have:=m6 r (cE old x);have h2:=jN old x;simp only[bh,List.foldl_cons,eC] at this ⊢;omega
def gh (l:List Key):List Key:=l.filter fun k=> !decide (k.k=0)
def lJ (n:List (List Key)):List Key:=n.foldl bh []
def an (n:List (List Key)):List Key:=gh (lJ n)
theorem ta: ∀(n:List (List Key)) (a:List Key),(n.foldl bh a).length≤a.length+tot bL n
 |[],a=>by simp[tot]
 |s::r,a=>by
  have:=ta r (bh a s);have h2:=m6 s a;simp only[List.foldl_cons,tot,bL] at this ⊢;omega
theorem cN (n:List (List Key)):(an n).length≤tot bL n:=by
 have h1:=ta n [];have h2:=Ks (fun k:Key=> !decide (k.k=0)) (lJ n);simp only[List.length_nil,g7] at h1;exact nS h2 h1
def cR (n:List (List Key)):Nat:=tot bL n
def eo (n:List (List Key)):Bool:=n.all (fun s=>y7 s&& !decide (s.length=0))&&decide (n.length≤3)&&decide (cR n≤8)
def bI (l:List Key):List (List Key):=if l.length=0 then [] else [l]
def ay (t:Tree):List Key:=t.nodes.flatMap an
theorem y9: ∀(l:List (List (List Key))),(l.flatMap an).length≤tot aQ l
 |[]=>by simp[tot]
 |n::r=>by
  have:=y9 r;have h2:=cN n;simp only[List.flatMap_cons,cr,tot,aQ];omega
theorem mj (t:Tree):(ay t).length≤dU t:=by
 have:=y9 t.nodes;unfold ay dU qd;omega
def bG (t:Tree) (b:Int):List Key:=(ay t).filter fun k=>decide (k.b=b)
theorem xU (t:Tree) (b:Int):(bG t b).length≤(ay t).length:=Ks _ _
def bw (b a:Int):Int:=aF (xR 64 b) a
def jZ {α:Type} (p:α→Bool):List α→Int→Int
 |[],_=> -1
 |a::r,i=>if p a then i else jZ p r (i+1)
theorem IB {α:Type} (p:α→Bool): ∀(l:List α) (i:Int),0≤i→decide (0≤jZ p l i)=l.any p
 |[],i,_=>by simp[jZ]
 |a::r,i,h=>by
  by_cases hp:p a=true
  ·simp[jZ,hp,h]
  ·have:=IB p r (i+1) aA
   simp only[jZ,aL hp,List.any_cons];rw[this];simp[hp]
theorem FJ {α:Type} (p:α→Bool): ∀(l:List α) (i:Int),0≤i→(jZ p l i= -1∧ ∀a∈l,p a=false)∨ ∃(j:Nat) (a:α),jZ p l i=i+j∧l[j]?=some a∧p a=true∧j<l.length∧ ∀k,k<j→ ∀b,l[k]?=some b→p b=false
 |[],i,_=> .inl ⟨rfl,fun a h=>by cases h⟩
 |a::r,i,h=>by
  simp only[jZ]
  cases hp:p a with
  |true=>exact .inr ⟨0,a,by simp,rfl,hp,by simp,fun k hk=>by omega⟩
  |false=>
   rcases FJ p r (i+1) aA with⟨h1,h2⟩|⟨j,b,h1,h2,h3,h4,h5⟩
   ·refine .inl ⟨by simpa using h1,fun b hb=> ?_⟩
    rcases bK.1 hb with rfl|hb
    ·exact hp
    ·exact h2 b hb
   ·refine .inr ⟨j+1,b,by simp[h1];omega,h2,h3,by simp;omega,fun k hk c hc=> ?_⟩
    cases k with
    |zero=>simp at hc;rw[←hc];exact hp
    |succ k=>exact h5 k aA c hc
theorem NT {α:Type} (p:α→Bool) (l:List α) (h: ¬jZ p l 0<0): ∃a,jD l (jZ p l 0)=some a∧p a=true:=by
 rcases FJ p l 0 aA with⟨h1,_⟩|⟨j,a,h1,h2,h3,_⟩
 ·omega
 ·refine⟨a,?_,h3⟩
  rw[h1,Int.zero_add,aU];exact h2
def ei (l:List jg) (id:Int):Int:=jZ (fun a=>decide (a.id=id)) l 0
theorem oH (l:List jg) (id:Int) (h: ¬ei l id<0): ∃a,jD l (ei l id)=some a∧a.id=id:=by
 obtain⟨a,h1,h2⟩:=NT _ l h;exact⟨a,h1,oL h2⟩
def mF (l:List jg):Nat→Int→List Int
 |0,_=>[]
 |n+1,id=>if ei l id<0 then [] else id::(match jD l (ei l id) with|some a=>mF l n a.fr|none=>[])
def pathOf (l:List jg) (id:Int):List Int:=mF l (l.length+1) id
theorem FK (l:List jg): ∀(n:Nat) (id:Int),(mF l n id).length≤n
 |0,_=>by simp[mF]
 |n+1,id=>by
  simp only[mF]
  split
  ·simp
  ·split
   ·have:=FK l n
    simp only[eC];rename_i a _;have:=this a.fr;omega
   ·simp
theorem sE (l:List jg) (id:Int):(pathOf l id).length≤l.length+1:=FK l _ id
def mm (l:List Int) (n:Int):Bool:=l.any fun a=>decide (a=n)
def jO (path:List Int):Key×Bool→Key→Key×Bool:=fun p k=>if mm path k.a&&(!p.2||decide (p.1.a<k.a)) then(k,true) else p
def near (keys:List Key) (path:List Int):Key×Bool:=keys.foldl (jO path) (ef,false)
def gZ (t:Tree) (l:List jg) (b id:Int):Key×Bool:=near (bG t b) (pathOf l id)
def jh (t:Tree) (l:List jg) (b id:Int):Key×Bool:=near (bG t b) ((pathOf l id).drop 1)
def IC (t:Tree) (l:List jg) (k:Key) (id:Int):Bool:=(gZ t l k.b id).2&&decide ((gZ t l k.b id).1.a=k.a)
abbrev Eb (p:Key×Bool):TV:= .tu [(1,[iI p.1.b,iI p.1.a,iI p.1.k,iI p.1.c,iI p.1.g]),(0,[iB p.2])]
def gn (l:List jg) (i:Nat):Bool:=PN l (fun a=>y6 a.id 1 60) i&&(fM l (fun x y=>decide (x.id<y.id)) i&&PN l (fun a=>decide (a.fr=0)|| !decide (ei (l.take i) a.fr<0)) i)
def fE (l:List jg):Bool:=iU l.length (gn l)&&decide (l.length≤16)
def QL (l:List Bm) (id:Int):Bool:= !l.any fun v=>decide (v.Qq=id)
def cellAt (l:List Cell) (i gen:Int):Int×Bool:=match jD l i with
 |none=>(0,false)
 |some c=>if c.u=true∧c.g=gen then(c.n,true) else(0,false)
@[simp] theorem qe {l:List Key} {b a k c g:Int}:List.append (l.map bE) [[iI b,iI a,iI k,iI c,iI g]]=(l++[(⟨b,a,k,c,g⟩:Key)]).map bE:=by simp[bE]
@[simp] theorem La {l:List Int} {b:Int}:List.append (l.map cO) [[iI b]]=(l++[b]).map cO:=by simp[cO]
@[simp] theorem Tb {l:List Int} {b:Int}:List.append (l.map iJ) [[.sc (.int .u8 b)]]=(l++[b]).map iJ:=by simp[iJ]
@[simp] theorem wO {l:List jg} {b a:Int}:List.append (l.map e8) [[iI b,iI a]]=(l++[(⟨b,a⟩:jg)]).map e8:=by simp[e8]
@[simp] theorem Ui {l:List Bm} {s:ByteArray} {b a:Int} {q:Bool}:List.append (l.map vn) [[iS s,iI b,iI a,iB q]]=(l++[(⟨s,b,a,q⟩:Bm)]).map vn:=by simp[vn]
@[simp] theorem Uj {l:List (List Key)} {s:List Key}:List.append (l.map ej) [[.sub 5 (s.map bE)]]=(l++[s]).map ej:=by simp[ej]
@[simp] theorem zc {l:List (List (List Key))} {s:List (List Key)}:List.append (l.map bO) [[.sub 1 (s.map ej)]]=(l++[s]).map bO:=by simp[bO]
@[simp] theorem Uk {l:List Mp} {s:ByteArray} {f:Bool} {r:List Int}:List.append (l.map Ai) [[iS s,iB f,.sub 1 (r.map cO)]]=(l++[(⟨s,f,r⟩:Mp)]).map Ai:=by simp[Ai]
@[simp] theorem kH {α:Type} {e:α→List TC} {l m:List α}:List.append (l.map e) (m.map e)=(l++m).map e:=by simp
@[simp] theorem Tc:([]:RR)=([]:List Key).map bE↔True:=by simp
@[simp] theorem cJ {α:Type} (l:List α):Nat.succ (List.length l)=l.length+1:=rfl
theorem iO (b a k c g:Int):bN [[iI b,iI a,iI k,iI c,iI g]]=true:=ie [⟨b,a,k,c,g⟩]
theorem mU (b a:Int):bN [[iI b,iI a]]=true:=Ak [⟨b,a⟩]
theorem J0 (s:ByteArray) (b a:Int) (q:Bool):bN [[iS s,iI b,iI a,iB q]]=true:=FH [⟨s,b,a,q⟩]
attribute [simp] iO mU J0
@[simp] theorem dP (k:Key):(⟨k.b,k.a,k.k,k.c,k.g⟩:Key)=k:=rfl
@[simp] theorem fm (k:jg):(⟨k.id,k.fr⟩:jg)=k:=rfl
@[simp] theorem dX (k:Cell):(⟨k.g,k.u,k.n⟩:Cell)=k:=rfl
@[simp] theorem fo (k:Bm):(⟨k.name,k.Qq,k.size,k.fx⟩:Bm)=k:=rfl
@[simp] theorem fq (k:Mp):(⟨k.name,k.fx,k.l⟩:Mp)=k:=rfl
@[simp] theorem ig (k:OO):(⟨k.kind,k.name,k.to,k.a,k.b⟩:OO)=k:=rfl
theorem c8 {n b:Nat} (h:n*b≤140737488355328∧n≤140737488355328):fits n b=true:=by rw[PE];exact nT h
end Go.T
namespace Go.T
def eR (s:List Key):Bool:=y7 s&& !decide (s.length=0)
theorem L6 (n:List (List Key)):eo n=(n.all eR&&(decide (n.length≤3)&&decide (cR n≤8))):=by
 unfold eo;rw[Bool.and_assoc];rfl
def Al (au:List Int) (i:Nat) (x:Int):Bool:=match au[i]? with
 |some lo=> !decide (x<lo)&&(match au[i+1]? with|some hi=>decide (x<hi)|none=>true)
 |none=>true
def ji (au:List Int) (i:Nat) (k:Key):Bool:=Al au i (bw k.b k.a)
def de (au:List Int) (i:Nat) (s:List Key):Bool:=s.all (ji au i)
def dm (t:Tree) (i:Nat):Bool:=fM t.au (fun x y=>decide (x<y)) i&&(match t.nodes[i]? with
 |some n=>eo n&&((decide (i=0)|| !decide ((an n).length=0))&&n.all (de t.au i))
 |none=>true)
def cF (t:Tree):Bool:=y6 t.nodes.length 1 20&&(decide (t.au.length=t.nodes.length)&&((match t.au[0]? with|some x=>decide (x=0)|none=>true)&&(iU t.nodes.length (dm t)&&decide ((ay t).length≤60))))
def PS (p:S2) (i b:Int):Int:=match jD p.VD i with
 |none=>0
 |some v=>if 0≤b∧b<v.size then(if(gZ p.t p.Qs b v.Qq).2=true∧(gZ p.t p.Qs b v.Qq).1.k=1 then(cellAt p.cells (gZ p.t p.Qs b v.Qq).1.c (gZ p.t p.Qs b v.Qq).1.g).1 else 0) else 0
end Go.T
namespace Go.T
def blocks (p:S2) (i:Nat) (k:Nat):List Int:=(List.range k).map fun b:Nat=>PS p i b
def uO (l:List Key) (b a:Int):Key×Bool:=match setAt l b a with|some k=>(k,true)|none=>(ef,false)
def kJ (n:List (List Key)) (b a:Int):Nat→Key×Bool
 |0=>(ef,false)
 |k+1=>match n[k]? with
  |some s=>if(uO s b a).2=true then(if(uO s b a).1.k=0 then(ef,false) else uO s b a) else kJ n b a k
  |none=>(ef,false)
def jx (f:Int→Bool) (l:List Int):Nat→Int
 |0=> -1
 |k+1=>match l[k]? with
  |some x=>if f x=true then(k:Int) else jx f l k
  |none=> -1
def eg (t:Tree) (b a:Int):Int:=jx (fun x=>decide (x≤bw b a)) t.au t.au.length
def jP (t:Tree) (b a:Int):Key×Bool:=match jD t.nodes (eg t b a) with
 |some n=>kJ n b a n.length
 |none=>(ef,false)
end Go.T
namespace Go.T
end Go.T
namespace Go.T
theorem NU (x:Int):0≤uW .and .i64 x 255∧uW .and .i64 x 255≤255:=by
 have h:uW .and .i64 x 255=Go.IntKind.i64.wrap (((BitVec.ofInt 64 x&&&BitVec.ofInt 64 255).toNat:Nat):Int):=by unfold uW;rfl
 have hle:(BitVec.ofInt 64 x&&&BitVec.ofInt 64 255).toNat≤255:=by
  rw[BitVec.toNat_and];exact nS Nat.and_le_right (by decide)
 rw[h,Go.IntKind.wrap_i64];omega
abbrev UZ (b:List Int) (i h:Int):List TC:=[.sub 1 (b.map iJ),.sc (.int .i64 i),.sc (.int .i64 h)]
abbrev Am (b:List Int) (i h:Int):TV:= .bx (UZ b i h)
def Dr (b:List Int) (P:TV→Prop) (r:TV) (fs:List TV):Prop:= ∃i h,0≤i∧fs=[Am b i h]∧P r
theorem ID {x n:Int} (h0:0≤x) (hn:0<n):0≤x.tmod n∧x.tmod n<n:=⟨Int.tmod_nonneg _ h0,Int.tmod_lt_of_pos _ hn⟩
end Go.T
namespace Go.T
def Dh {α:Type} (p:α→Bool) (x:α) (l:List α):List α:=l.takeWhile p++x::l.dropWhile p
theorem J1 {α:Type} {p:α→Bool} {x a:α} {l:List α}:Dh p x (a::l)=if p a then a::Dh p x l else x::a::l:=by
 unfold Dh
 by_cases h:p a=true
 ·simp[List.takeWhile_cons,List.dropWhile_cons,h]
 ·simp[List.takeWhile_cons,List.dropWhile_cons,h]
theorem L7 {α:Type} (p:α→Bool) (x:α) (l:List α):(Dh p x l).length=l.length+1:=by
 unfold Dh;have h:=congrArg List.length (List.takeWhile_append_dropWhile (p:=p) (l:=l));rw[cr] at h ⊢;rw[eC];omega
def Td (id:Int) (a:jg):Bool:=decide (a.id≤id)
def o5 (l:List jg) (id fr:Int):List jg:=Dh (Td id) ⟨id,fr⟩ l
def mV (l:List jg) (id fr:Int):List jg×Bool:=if 0≤ei l id then(l,false) else if fE (o5 l id fr)=true then(o5 l id fr,true) else(l,false)
def QM (v u:Bm):Bool:=Hz u.name v.name||Je u.name v.name
theorem IE: ∀(x y z:List UInt8),Op.bytesLess x y=true→Op.bytesLess y z=true→Op.bytesLess x z=true
 |x,y,[],_,h=>by cases y<;>simp[Op.bytesLess] at h
 |x,[],c::z,h,_=>by cases x<;>simp[Op.bytesLess] at h
 |[],_::_,_::_,_,_=>by simp[Op.bytesLess]
 |a::x,b::y,c::z,h1,h2=>by
  simp only[Op.bytesLess,Bool.or_eq_true,cL,decide_eq_true_eq,beq_iff_eq] at h1 h2 ⊢;rcases h1 with h1|⟨rfl,h1⟩
  ·rcases h2 with h2|⟨rfl,h2⟩
   ·exact .inl (UInt8.lt_trans h1 h2)
   ·exact .inl h1
  ·rcases h2 with h2|⟨rfl,h2⟩
   ·exact .inl h2
   ·exact .inr ⟨rfl,IE x y z h1 h2⟩
theorem FL {a b c:ByteArray} (h1:Hz a b=true) (h2:Hz b c=true):Hz a c=true:=by
 unfold Hz at*;exact IE _ _ _ h1 h2
def vo:List Bm→Prop
 |[]=>True
 |[_]=>True
 |a::b::r=>Hz a.name b.name=true∧vo (b::r)
theorem NV {v a b:Bm} (h:Hz a.name b.name=true) (hb:QM v b=true):QM v a=true:=by
 unfold QM at*;rw[Bool.or_eq_true] at*;rcases hb with hb|hb
 ·exact .inl (FL h hb)
 ·have:b.name.toList=v.name.toList:=by
   unfold Je at hb;exact eq_of_beq hb
  unfold Hz at h ⊢;rw[←this];exact .inl h
theorem vo.tail {a:Bm} {l:List Bm} (h:vo (a::l)):vo l:=by
 cases l with
 |nil=>trivial
 |cons b r=>exact h.2
theorem vo.cut {v:Bm}: ∀{l:List Bm} {k:Nat},vo l→k≤l.length→(∀u∈l.drop k,QM v u=false)→(∀u,0<k→l[k-1]?=some u→QM v u=true)→(l.takeWhile (QM v)).length=k
 |[],k,_,hk,_,_=>by simp at hk;simp[hk]
 |a::l,0,_,_,h1,_=>by
  have:=h1 a (.head _);simp[this]
 |a::l,k+1,hr,hk,h1,h2=>by
  have ih:=vo.cut (v:=v) (l:=l) (k:=k) hr.tail (by simpa using hk) (fun u hu=>h1 u (by simpa using hu)) fun u h0 hu=>by
   obtain⟨j,rfl⟩: ∃j,k=j+1:=⟨k-1,by omega⟩;exact h2 u aA (by simpa using hu)
  have ha:QM v a=true:=by
   cases k with
   |zero=>exact h2 a aA rfl
   |succ k=>
    cases l with
    |nil=>simp at hk
    |cons b r=>
     refine NV hr.1 ?_;rw[List.takeWhile_cons] at ih
     cases hb:QM v b with
     |true=>rfl
     |false=>rw[hb] at ih;simp at ih
  rw[List.takeWhile_cons,aT ha,eC,ih]
theorem vo.modify {f:Bm→Bm} (hf: ∀u,(f u).name=u.name): ∀{l:List Bm} (i:Nat),vo l→vo (l.modify i f)
 |[],i,h=>by cases i<;>exact h
 |[a],0,_=>trivial
 |[a],i+1,_=>by cases i<;>trivial
 |a::b::r,0,h=>by
  show vo (f a::b::r);exact⟨by rw[hf];exact h.1,h.2⟩
 |a::b::r,1,h=>by
  show vo (a::f b::r);refine⟨by rw[hf];exact h.1,?_⟩;exact vo.modify hf (l:=b::r) 0 h.2
 |a::b::r,i+2,h=>⟨h.1,vo.modify hf (l:=b::r) (i+1) h.2⟩
end Go.T
namespace Go.T
def Wj (m u:Mp):Bool:= !(Hz u.name m.name||Je u.name m.name)
def PT (l:List Mp) (m:Mp):Nat→Nat
 |0=>0
 |k+1=>match l[k]? with
  |some u=>if Wj m u=true then PT l m k else k+1
  |none=>k+1
theorem Lb (l:List Mp) (m:Mp): ∀k,PT l m k≤k
 |0=>bT _
 |k+1=>by
  unfold PT
  split
  ·split
   ·exact Nat.le_succ_of_le (Lb l m k)
   ·exact bT _
  ·exact bT _
def NW {α:Type} (l:List α) (k:Nat) (x:α):List α:=l.take k++x::l.drop k
def NX (l:List Mp) (m:Mp):List Mp:=NW l (PT l m l.length) m
theorem NY (l:List Mp) (m:Mp):(NX l m).length=l.length+1:=by
 have:=Lb l m l.length;unfold NX NW;rw[cr,eC,eY,jE];omega
theorem NZ {l:List Mp} {m x:Mp} (h:x∈NX l m):x∈l∨x=m:=by
 unfold NX NW at h;rcases List.mem_append.1 h with h|h
 ·exact .inl (qR h)
 ·rcases bK.1 h with h|h
  ·exact .inr h
  ·exact .inl (qQ h)
def GJ (l l':List Mp):Prop:=l'.length≤l.length+1∧ ∀B:Nat,12≤B→(∀x∈l,x.l.length≤B)→ ∀x∈l',x.l.length≤B
theorem GJ.refl (l:List Mp):GJ l l:=⟨Nat.le_succ _,fun _ _ h=>h⟩
theorem GJ.put {l:List Mp} {m:Mp} (h: ∀B:Nat,12≤B→(∀x∈l,x.l.length≤B)→m.l.length≤B):GJ l (NX l m):=
 ⟨Nat.le_of_eq (NY l m),fun B hB hl x hx=>(NZ hx).elim (hl x) fun e=>by rw[e];exact h B hB hl⟩
end Go.T
namespace Go.T
abbrev Sv (x:List (List Key)×Bool):TV:= .tu [(1,[.sub 1 (x.1.map ej)]),(0,[iB x.2])]
def GK (s:List Key) (k:Key):Bool:=(uO s k.b k.a).2||decide (s.length<4)
def gW (n:List (List Key)) (k:Key):List (List Key):=match n[n.length-1]? with
 |none=>n++[[k]]
 |some s=>if GK s k=true then n.set (n.length-1) (cE s k) else n++[[k]]
def bA (n:List (List Key)) (k:Key):List Key:=gh (cE (an n) k)
def bV (n:List (List Key)) (k:Key):List (List Key)×Bool:=
 if eo (gW n k)=true then(gW n k,true) else if 8<(bA n k).length then(n,false) else if eo (bI (bA n k))=true then(bI (bA n k),true) else(n,false)
theorem mo (n:List (List Key)) (k:Key):(bA n k).length≤tot bL n+1:=by
 have h1:=cN n;have h2:=jN (an n) k;have h3:(bA n k).length≤(cE (an n) k).length:=Ks _ _;omega
theorem IF {α:Type} (w:α→Nat) (l:List α) (a:α):tot w (l++[a])=tot w l+w a:=by
 induction l with
 |nil=>simp[tot]
 |cons b r ih=>simp only[w6,tot,ih];omega
theorem IG {α:Type} (w:α→Nat) (c:Nat): ∀(l:List α) (i:Nat) (a a':α),l[i]?=some a→w a'≤w a+c→tot w (l.set i a')≤tot w l+c
 |[],i,a,a',h,_=>by simp at h
 |b::r,0,a,a',h,hw=>by
  simp only[cz,aR] at h;subst h;simp only[List.set_cons_zero,tot];omega
 |b::r,i+1,a,a',h,hw=>by
  have:=IG w c r i a a' (by simpa using h) hw;simp only[List.set_cons_succ,tot];omega
theorem Di (n:List (List Key)) (k:Key):(gW n k).length≤n.length+1:=by
 unfold gW
 split
 ·rw[cr];simp
 ·split
  ·rw[List.length_set];omega
  ·rw[cr];simp
theorem Dj (n:List (List Key)) (k:Key):tot bL (gW n k)≤tot bL n+1:=by
 unfold gW
 split
 ·rw[IF];exact bT _
 ·rename_i s hs
  split
  ·exact IG bL 1 _ _ s _ hs (by have:=jN s k;unfold bL;omega)
  ·rw[IF];exact bT _
theorem vp (l:List Key):(bI l).length≤1:=by
 unfold bI
 split<;>simp
theorem vq (l:List Key):tot bL (bI l)≤l.length:=by
 unfold bI
 split
 ·simp[tot]
 ·simp[tot,bL]
theorem Bc (n:List (List Key)) (k:Key):(bV n k).1.length≤n.length+1:=by
 have h1:=Di n k;have h2:=vp (bA n k);unfold bV
 repeat' split
 all_goals simp only[];omega
theorem Bd (n:List (List Key)) (k:Key):tot bL (bV n k).1≤tot bL n+1:=by
 have h1:=Dj n k;have h2:=vq (bA n k);have h3:=mo n k;unfold bV
 repeat' split
 all_goals simp only[];omega
end Go.T
namespace Go.T
def mz (x y:Key):Prop:=x.b<y.b∨(x.b=y.b∧x.a<y.a)
theorem mz.trans {x y z:Key} (h1:mz x y) (h2:mz y z):mz x z:=by unfold mz at*;omega
theorem nq {x y:Key}:cg x y=true↔mz x y:=by unfold cg mz;simp
theorem oA {x y:Key}:fK x y=true↔x.b=y.b∧x.a=y.a:=by unfold fK;simp
theorem zd {k y:Key}: ∀{l:List Key},y∈cw k true l→y∈l
 |[],h=>by simp[cw] at h
 |x::r,h=>by
  simp only[cw,E4,Bool.false_and,uR,if_false,pM,Bool.true_or] at h;rcases List.mem_append.1 h with h|h
  ·split at h
   ·cases h
   ·rw[ff.1 h];exact .head _
  ·exact .tail _ (zd h)
theorem Dk {k y:Key}: ∀{l:List Key} {put:Bool},y∈cw k put l→y∈l∨y=k
 |[],put,h=>by
  simp only[cw] at h
  split at h
  ·cases h
  ·exact .inr (ff.1 h)
 |x::r,put,h=>by
  simp only[cw] at h;rcases List.mem_append.1 h with h|h
  ·rcases List.mem_append.1 h with h|h
   ·split at h
    ·exact .inr (ff.1 h)
    ·cases h
   ·split at h
    ·cases h
    ·exact .inl (by rw[ff.1 h];exact .head _)
  ·exact(Dk h).imp (.tail _) id
theorem wP {k:Key}: ∀{l:List Key},l.Pairwise mz→(cw k true l).Pairwise mz
 |[],_=>by simp[cw]
 |x::r,h=>by
  obtain⟨h1,h2⟩:=List.pairwise_cons.1 h;simp only[cw,E4,Bool.false_and,uR,if_false,pM,Bool.true_or]
  split
  ·exact wP h2
  ·exact List.pairwise_cons.2 ⟨fun y hy=>h1 y (zd hy),wP h2⟩
theorem FM {k:Key}: ∀{l:List Key},l.Pairwise mz→(cw k false l).Pairwise mz
 |[],_=>by simp[cw]
 |x::r,h=>by
  obtain⟨h1,h2⟩:=List.pairwise_cons.1 h
  cases hk:cg x k with
  |true=>
   have hlt:=nq.1 hk
   have T2:fK x k=false:=by
    cases hs:fK x k with
    |false=>rfl
    |true=>have:=oA.1 hs;unfold mz at hlt;omega
   simp only[cw,hk,T2,Bool.not_false,E4,ek,Bool.and_false,uR,if_false,pM,Bool.or_false,Cr];refine List.pairwise_cons.2 ⟨fun y hy=> ?_,FM h2⟩;rcases Dk hy with hy|rfl
   ·exact h1 y hy
   ·exact hlt
  |false=>
   have hge: ¬mz x k:=fun h=>by rw[nq.2 h] at hk;cases hk
   simp only[cw,hk,Bool.not_false,ek,if_true,Bool.or_true]
   have hr: ∀y∈cw k true r,mz k y:=fun y hy=>by
    have:=h1 y (zd hy);unfold mz at*;omega
   split
   ·exact List.pairwise_cons.2 ⟨hr,wP h2⟩
   ·rename_i T2
    refine List.pairwise_cons.2 ⟨fun y hy=> ?_,List.pairwise_cons.2 ⟨fun y hy=>h1 y (zd hy),wP h2⟩⟩;rcases bK.1 hy with rfl|hy
    ·have: ¬(y.b=k.b∧y.a=k.a):=fun h=>T2 (oA.2 h)
     unfold mz at*;omega
    ·exact hr y hy
theorem lK {l:List Key} {k:Key} (h:l.Pairwise mz):(cE l k).Pairwise mz:=FM h
theorem xV {l:List Key} {k y:Key} (h:y∈cE l k):y∈l∨y=k:=Dk h
theorem sF: ∀(new:List Key) {old:List Key},old.Pairwise mz→(bh old new).Pairwise mz
 |[],_,h=>h
 |x::r,_,h=>sF r (lK h)
theorem FN {y:Key}: ∀{new old:List Key},y∈bh old new→y∈old∨y∈new
 |[],_,h=> .inl h
 |x::r,old,h=>by
  have h:y∈bh (cE old x) r:=h;rcases FN h with h|h
  ·exact(xV h).imp id fun e=>by rw[e];exact .head _
  ·exact .inr (.tail _ h)
theorem xW: ∀(n:List (List Key)) {acc:List Key},acc.Pairwise mz→(n.foldl bh acc).Pairwise mz
 |[],_,h=>h
 |s::r,_,h=>xW r (sF s h)
theorem FO {y:Key}: ∀{n:List (List Key)} {acc:List Key},y∈n.foldl bh acc→y∈acc∨ ∃s∈n,y∈s
 |[],_,h=> .inl h
 |s::r,acc,h=>by
  rcases FO (n:=r) h with h|⟨s',h1,h2⟩
  ·exact(FN h).imp id fun h=>⟨s,.head _,h⟩
  ·exact .inr ⟨s',.tail _ h1,h2⟩
theorem jj (n:List (List Key)):(an n).Pairwise mz:=(xW n .nil).sublist List.filter_sublist
theorem iP {n:List (List Key)} {y:Key} (h:y∈an n): ∃s∈n,y∈s:=by
 rcases FO (List.mem_filter.1 h).1 with h|h
 ·cases h
 ·exact h
theorem m7 (n:List (List Key)) (k:Key):(bA n k).Pairwise mz:=(lK (jj n)).sublist List.filter_sublist
theorem sG {n:List (List Key)} {k y:Key} (h:y∈bA n k):y=k∨ ∃s∈n,y∈s:=
 (xV (List.mem_filter.1 h).1).elim (fun h=> .inr (iP h)) .inl
theorem N0 {l:List Key} (h1:l.Pairwise mz) (h2: ∀y∈l,c6 y=true) (h3:l.length≤60):y7 l=true:=by
 rw[y8];simp only[cL,decide_eq_true_eq];refine⟨List.all_eq_true.2 h2,oZ.2 fun i hi=> ?_,h3⟩
 cases i with
 |zero=>rfl
 |succ k=>
  simp only[fM];rw[aX (by omega:k<l.length),aX hi];exact nq.2 (List.pairwise_iff_getElem.1 h1 k (k+1) aA hi aA)
theorem nr {n:List (List Key)} (h:eo n=true) {s:List Key} (hs:s∈n) {y:Key} (hy:y∈s):c6 y=true:=by
 unfold eo at h;simp only[cL] at h;have:=List.all_eq_true.1 h.1.1 s hs;simp only[cL] at this;have h2:=this.1;rw[y8] at h2;simp only[cL] at h2;exact List.all_eq_true.1 h2.1 y hy
theorem sH {l:List Key} (h1:l.Pairwise mz) (h2: ∀y∈l,c6 y=true) (h3:l.length≤8):eo (bI l)=true:=by
 unfold bI
 split
 ·decide
 ·rename_i h0
  unfold eo;have:=N0 h1 h2 aA;have Xl:l≠[]:=fun e=>h0 (by rw[e];rfl);simp[this,Xl,cR,tot,bL,h3]
theorem II {n:List (List Key)} {k:Key} (h:eo n=true) (hk:c6 k=true): ∀y∈bA n k,c6 y=true:=fun y hy=>by
 rcases sG hy with rfl|⟨s,h1,h2⟩
 ·exact hk
 ·exact nr h h1 h2
theorem Dl {n:List (List Key)} {k:Key} (h:eo n=true) (hk:c6 k=true) (hp:(bV n k).2=false):8<(bA n k).length∧bV n k=(n,false):=by
 have hn:=sH (m7 n k) (II h hk);unfold bV at hp ⊢
 split at hp
 ·cases hp
 ·rename_i h1
  split at hp
  ·rename_i h2
   exact⟨h2,by rw[aL h1,aT h2]⟩
  ·rename_i h2
   rw[aT (hn aA)] at hp
   cases hp
end Go.T
namespace Go.T
def gw (x y:Int):Int:=uW .or .i64 (Re .i64 (AS .i64 x) 8) (AS .i64 y)
end Go.T
namespace Go.T
abbrev Hr (x:Tree×Bool):TV:= .tu [(1,K7 x.1),(0,[iB x.2])]
def jy (t:Tree) (i c:Nat) (au:List Int) (nodes:List (List (List Key))):Tree:=⟨t.au.take i++au++t.au.drop (i+c),t.nodes.take i++nodes++t.nodes.drop (i+c)⟩
def eK (t:Tree) (i:Nat):List Key:=an (t.nodes.getD i [])
def nt (t:Tree):Nat→Nat→Option Nat
 |0,_=>none
 |d+1,i=>if i+1<t.nodes.length then(if(eK t i).length+(eK t (i+1)).length≤6 then some i else nt t d (i+1)) else none
def jt (t:Tree):Option Nat:=nt t t.nodes.length 0
def bJ (t:Tree) (i:Nat):Tree:=jy t i 2 [t.au.getD i 0] [bI (eK t i++eK t (i+1))]
def ij:Nat→Tree→Tree
 |0,t=>t
 |n+1,t=>match jt t with
  |none=>t
  |some i=>ij n (bJ t i)
theorem Be {t:Tree}: ∀{d i j:Nat},nt t d i=some j→i≤j∧j+1<t.nodes.length∧(eK t j).length+(eK t (j+1)).length≤6
 |0,i,j,h=>by cases h
 |d+1,i,j,h=>by
  unfold nt at h
  split at h
  ·split at h
   ·cases h;exact⟨bT _,by assumption,by assumption⟩
   ·have:=Be h;exact⟨by omega,this.2⟩
  ·cases h
theorem rD {t:Tree} {j:Nat} (h:jt t=some j):j+1<t.nodes.length∧(eK t j).length+(eK t (j+1)).length≤6:=(Be h).2
theorem vr (t:Tree) (i c:Nat) (au:List Int) (nodes:List (List (List Key))) (h:i+c≤t.nodes.length):(jy t i c au nodes).nodes.length+c=t.nodes.length+nodes.length:=by
 unfold jy;simp only[cr,eY,jE];omega
theorem sJ (t:Tree) (i c:Nat) (au:List Int) (nodes:List (List (List Key))) (h:i+c≤t.au.length):(jy t i c au nodes).au.length+c=t.au.length+au.length:=by
 unfold jy;simp only[cr,eY,jE];omega
theorem oB {t:Tree} {i:Nat} (h:i+1<t.nodes.length):(bJ t i).nodes.length+1=t.nodes.length:=by
 have:=vr t i 2 [t.au.getD i 0] [bI (eK t i++eK t (i+1))] aA;unfold bJ;simp only[fP] at this;omega
def gP (t:Tree) (i:Nat) (k:Key):Tree:=
 if(bV (t.nodes.getD i []) k).2=true then
  (if 0<i∧(an (bV (t.nodes.getD i []) k).1).length=0 then jy t i 1 [] [] else jy t i 1 [t.au.getD i 0] [(bV (t.nodes.getD i []) k).1])
 else jy t i 1 [t.au.getD i 0,bw ((bA (t.nodes.getD i []) k).getD (((bA (t.nodes.getD i []) k).length+1)/2) ef).b ((bA (t.nodes.getD i []) k).getD (((bA (t.nodes.getD i []) k).length+1)/2) ef).a]
  [bI ((bA (t.nodes.getD i []) k).take (((bA (t.nodes.getD i []) k).length+1)/2)),bI ((bA (t.nodes.getD i []) k).drop (((bA (t.nodes.getD i []) k).length+1)/2))]
def cn (t:Tree) (k:Key):Tree×Bool:=
 if cF t=true∧c6 k=true then(if cF (ij (gP t (eg t k.b k.a).toNat k).nodes.length (gP t (eg t k.b k.a).toNat k))=true then(ij (gP t (eg t k.b k.a).toNat k).nodes.length (gP t (eg t k.b k.a).toNat k),true) else(t,false)) else(t,false)
end Go.T
namespace Go.T
theorem N3 {α:Type} (w:α→Nat) (c:Nat): ∀l:List α,(∀a∈l,w a≤c)→tot w l≤c*l.length
 |[],_=>by simp[tot]
 |a::r,h=>by
  have h1:=h a (.head _);have h2:=N3 w c r fun b hb=>h b (.tail _ hb);simp only[tot,eC,Nat.mul_add];omega
theorem wQ {n:List (List Key)} (h:eo n=true):n.length≤3∧tot bL n≤8:=by
 unfold eo cR at h;simp only[cL,decide_eq_true_eq] at h;exact⟨h.1.2,h.2⟩
theorem wR {t:Tree} (h:cF t=true) {i:Nat} (hi:i<t.nodes.length):dm t i=true:=by
 unfold cF at h;simp only[cL] at h;exact oZ.1 h.2.2.2.1 i hi
theorem qf {t:Tree} (h:cF t=true) {n:List (List Key)} (hn:n∈t.nodes):eo n=true:=by
 obtain⟨i,hi,rfl⟩:=List.getElem_of_mem hn;have:=wR h hi;unfold dm at this;rw[aX hi] at this;simp only[cL] at this;exact this.2.1
theorem lC {t:Tree} (h:cF t=true):1≤t.nodes.length∧t.nodes.length≤20∧t.au.length=t.nodes.length:=by
 unfold cF y6 at h;simp only[cL,decide_eq_true_eq] at h;omega
theorem Dm {t:Tree} (h:cF t=true):t.au[0]?=some 0:=by
 have hl:=lC h;unfold cF at h;simp only[cL] at h
 have h0:0<t.au.length:=by omega
 have:=h.2.2.1;rw[aX h0] at this ⊢;simp only[decide_eq_true_eq] at this;rw[this]
theorem Dn {t:Tree} (h:cF t=true):tot aQ t.nodes≤220:=by
 have h1:=N3 aQ 11 t.nodes fun n hn=>by
  have:=wQ (qf h hn);unfold aQ;omega
 have h2:=lC h;omega
theorem FP {t:Tree} (h:cF t=true):dU t≤260:=by
 have h1:=Dn h;have h2:=lC h;unfold dU qd;omega
theorem J2 {t:Tree} {k:Key} (h:(cn t k).2=true):cF (cn t k).1=true:=by
 unfold cn at h ⊢
 split
 ·split
  ·assumption
  ·rename_i h1 h2;rw[aT h1,aL h2] at h;cases h
 ·rename_i h1;rw[aL h1] at h;cases h
theorem Dp {t:Tree} {k:Key} (h:(cn t k).2=false):(cn t k).1=t:=by
 unfold cn at h ⊢
 split
 ·split
  ·rename_i h1 h2;rw[aT h1,aT h2] at h;cases h
  ·rfl
 ·rfl
end Go.T
namespace Go.T
theorem wS {α:Type} (w:α→Nat): ∀l m:List α,tot w (l++m)=tot w l+tot w m
 |[],m=>by simp[tot]
 |a::l,m=>by simp only[w6,tot,wS w l m];omega
theorem J3 {α:Type} {l:List α} {i:Nat} {a b:α} (ha:l[i]?=some a) (hb:l[i+1]?=some b):l=l.take i++a::b::l.drop (i+2):=by
 obtain⟨h1,e1⟩:=List.getElem?_eq_some_iff.1 ha;obtain⟨h2,e2⟩:=List.getElem?_eq_some_iff.1 hb
 conv=>lhs;rw[←yu i l]
 rw[yp h1,yp h2,e1,e2]
theorem xX (l:List Key):aQ (bI l)≤l.length+1:=by
 have h1:=vp l;have h2:=vq l;unfold aQ;omega
theorem dL {t:Tree} {i:Nat} {a:List (List Key)} (h:t.nodes[i]?=some a):eK t i=an a:=by unfold eK;rw[mC,h];rfl
theorem o6 (n:Nat) (t:Tree):ij (n+1) t=match jt t with|none=>t|some i=>ij n (bJ t i):=rfl
theorem vt {t:Tree} {i:Nat} (h:i+1<t.nodes.length):tot aQ (bJ t i).nodes+(bJ t i).nodes.length≤tot aQ t.nodes+t.nodes.length:=by
 obtain⟨a,ha⟩: ∃a,t.nodes[i]?=some a:=⟨_,aX aA⟩;obtain⟨b,hb⟩: ∃b,t.nodes[i+1]?=some b:=⟨_,aX h⟩;have hl:=oB h;have hs:=congrArg (tot aQ) (J3 ha hb);rw[wS] at hs;simp only[tot] at hs;have la:=cN a;have lb:=cN b;have hn:=xX (eK t i++eK t (i+1));rw[cr,dL ha,dL hb] at hn
 have e:tot aQ (bJ t i).nodes=tot aQ (t.nodes.take i)+aQ (bI (an a++an b))+tot aQ (t.nodes.drop (i+2)):=by
  unfold bJ jy;simp only[];rw[wS,wS,dL ha,dL hb];simp[tot]
 have sa:aQ a=a.length+tot bL a:=rfl;have sb:aQ b=b.length+tot bL b:=rfl;omega
theorem Ej {t:Tree} {i:Nat} (h:i+1<t.nodes.length) (hl:t.au.length=t.nodes.length):(bJ t i).au.length=(bJ t i).nodes.length:=by
 have h1:=sJ t i 2 [t.au.getD i 0] [bI (eK t i++eK t (i+1))] aA;have h2:=vr t i 2 [t.au.getD i 0] [bI (eK t i++eK t (i+1))] aA;simp only[fP] at h1 h2;unfold bJ;omega
theorem IJ: ∀(n:Nat) (t:Tree),t.au.length=t.nodes.length→tot aQ (ij n t).nodes+(ij n t).nodes.length≤tot aQ t.nodes+t.nodes.length∧(ij n t).au.length=(ij n t).nodes.length
 |0,t,h=>⟨bT _,h⟩
 |n+1,t,h=>by
  rw[o6]
  cases hp:jt t with
  |none=>exact⟨bT _,h⟩
  |some i=>
   have hlt:=(rD hp).1;have h1:=vt hlt;have h2:=IJ n (bJ t i) (Ej hlt h);exact⟨by simp only[];omega,h2.2⟩
theorem vu {k:Key} (h:c6 k=true):0≤k.b∧k.b≤15∧1≤k.a∧k.a≤60∧0≤k.k∧k.k≤2:=by
 simp only[c6,y6,cL,decide_eq_true_eq] at h;omega
theorem Lc {b a:Int} (h: -1000≤b∧b≤1000∧ -1000≤a∧a≤1000):bw b a=64*b+a:=by
 unfold bw;rw[PL aA,aV aA]
theorem sK {k:Key} (h:c6 k=true):bw k.b k.a=64*k.b+k.a:=by
 have:=vu h;exact Lc aA
theorem Dq {f:Int→Bool} {l:List Int} {x:Int} (h0:l[0]?=some x) (hx:f x=true): ∀n:Nat,0<n→n≤l.length→ ∃j:Nat,jx f l n=j∧j<n
 |0,h,_=>by omega
 |n+1,_,hn=>by
  unfold jx;rw[aX aA];simp only[]
  split
  ·exact⟨n,rfl,by omega⟩
  ·rename_i hf
   cases n with
   |zero=>
    rw[aX aA] at h0
    cases h0;exact absurd hx hf
   |succ n=>
    obtain⟨j,h1,h2⟩:=Dq h0 hx (n+1) aA aA;exact⟨j,h1,by omega⟩
theorem J4 {t:Tree} {k:Key} (h:cF t=true) (hk:c6 k=true): ∃j:Nat,eg t k.b k.a=j∧j<t.nodes.length:=by
 have h1:=lC h;have h2:=vu hk;have h3:=sK hk;unfold eg;have:=Dq (f:=fun x=>decide (x≤bw k.b k.a)) (Dm h) (by simp only[decide_eq_true_eq];omega) t.au.length aA (bT _);rw[h1.2.2] at this ⊢;exact this
theorem IK (n:List (List Key)) (k:Key):aQ (bV n k).1≤aQ n+2:=by
 have h1:=Bc n k;have h2:=Bd n k;unfold aQ;omega
theorem L8 (t:Tree) (i c:Nat) (au:List Int) (nodes:List (List (List Key))):tot aQ (jy t i c au nodes).nodes≤tot aQ t.nodes+tot aQ nodes:=by
 have h:tot aQ (t.nodes.take i++t.nodes.drop i)=tot aQ t.nodes:=by rw[yu]
 have h2:tot aQ (t.nodes.drop (i+c))≤tot aQ (t.nodes.drop i):=by
  rw[←List.drop_drop]
  have h3:tot aQ ((t.nodes.drop i).take c++(t.nodes.drop i).drop c)=tot aQ (t.nodes.drop i):=by rw[yu]
  rw[wS] at h3;omega
 unfold jy;simp only[wS] at h ⊢;omega
theorem PU {t:Tree} {i:Nat} {k:Key} (hl:t.au.length=t.nodes.length) (hi:i<t.nodes.length) (ht: ∀n∈t.nodes,tot bL n≤8∧n.length≤3):
 tot aQ (gP t i k).nodes≤tot aQ t.nodes+40∧(gP t i k).nodes.length≤t.nodes.length+1∧(gP t i k).au.length=(gP t i k).nodes.length:=by
 have hn:=ht t.nodes[i] (pL hi)
 have hg:t.nodes.getD i []=t.nodes[i]:=by rw[mC,aX hi];rfl
 have hp:=IK t.nodes[i] k;have hk:=mo t.nodes[i] k;have hz:aQ t.nodes[i]=t.nodes[i].length+tot bL t.nodes[i]:=rfl;unfold gP;rw[hg];generalize bA t.nodes[i] k=l at*;have e1:=xX (l.take ((l.length+1)/2));have e2:=xX (l.drop ((l.length+1)/2));rw[eY] at e1;rw[jE] at e2
 have key: ∀(au:List Int) (nodes:List (List (List Key))),au.length=nodes.length→nodes.length≤2→tot aQ nodes≤40→tot aQ (jy t i 1 au nodes).nodes≤tot aQ t.nodes+40∧(jy t i 1 au nodes).nodes.length≤t.nodes.length+1∧(jy t i 1 au nodes).au.length=(jy t i 1 au nodes).nodes.length:=by
  intro au nodes h1 h2 h3;have h4:=L8 t i 1 au nodes;have h5:=vr t i 1 au nodes aA;have h6:=sJ t i 1 au nodes aA;omega
 split
 ·split
  ·exact key _ _ rfl dM (by simp[tot])
  ·exact key _ _ rfl dM (by simp only[tot];omega)
 ·exact key _ _ rfl dM (by simp only[tot];omega)
theorem GL {t:Tree} (h:cF t=true): ∀n∈t.nodes,tot bL n≤8∧n.length≤3:=fun n hn=>by
 have:=wQ (qf h hn);omega
theorem N4 {t:Tree} {i:Nat} {k:Key} (h:cF t=true) (hi:i<t.nodes.length):
 tot aQ (gP t i k).nodes+(gP t i k).nodes.length≤300∧(gP t i k).au.length=(gP t i k).nodes.length∧dU (ij (gP t i k).nodes.length (gP t i k))≤600:=by
 have h1:=lC h;have h2:=Dn h;have h3:=PU (k:=k) h1.2.2 hi (GL h);have h4:=IJ (gP t i k).nodes.length (gP t i k) h3.2.2;refine⟨by omega,h3.2.2,?_⟩;unfold dU qd;omega
theorem Ld {n:Nat} (h:8<n):(n+1)/2<n:=by omega
end Go.T
namespace Go.T
end Go.T
namespace Go.T
end Go.T
namespace Go.T
def xY (b a:Int) (x:Key):Bool:=decide (x.b=b∧x.a=a)
def look (l:List Key) (b a:Int):Option Key:=l.find? (xY b a)
theorem J5 (l:List Key) (b a:Int):setAt l b a=look l b a:=rfl
theorem kK (l m:List Key) (b a:Int):look (l++m) b a=(look l b a).or (look m b a):=by unfold look;rw[List.find?_append]
theorem gy (x:Key) (l:List Key) (b a:Int):look (x::l) b a=if x.b=b∧x.a=a then some x else look l b a:=by
 unfold look;rw[List.find?_cons]
 by_cases h:x.b=b∧x.a=a
 ·rw[aT h];simp[xY,h]
 ·rw[aL h];simp[xY,h]
theorem Ds {k:Key} {b a:Int} (h: ¬(k.b=b∧k.a=a)): ∀(l:List Key) (put:Bool),look (cw k put l) b a=look l b a
 |[],put=>by
  unfold cw
  cases put with
  |true=>rfl
  |false=>simp only[uR,if_false];rw[gy,aL h]
 |x::r,put=>by
  have ih:=Ds h r (put|| !cg x k);simp only[cw,kK];rw[ih,gy]
  have h1:look (if(!put&& !cg x k)=true then [k] else []) b a=none:=by
   split
   ·rw[gy,aL h];rfl
   ·rfl
  rw[h1]
  by_cases hs:fK x k=true
  ·have:=oA.1 hs
   rw[aT hs,aL aA]
   rfl
  ·rw[aL hs,gy]
   by_cases hx:x.b=b∧x.a=a
   ·rw[aT hx,aT hx];rfl
   ·rw[aL hx,aL hx];rfl
theorem Le {k:Key}: ∀l:List Key,l.Pairwise mz→look (cw k false l) k.b k.a=some k
 |[],_=>by simp only[cw,uR,if_false];rw[gy,aT ⟨rfl,rfl⟩]
 |x::r,hp=>by
  obtain⟨h1,h2⟩:=List.pairwise_cons.1 hp
  cases hk:cg x k with
  |true=>
   have hlt:=nq.1 hk
   have T2:fK x k=false:=by
    cases hs:fK x k with
    |false=>rfl
    |true=>have:=oA.1 hs;unfold mz at hlt;omega
   simp only[cw,hk,T2,Bool.not_false,E4,ek,Bool.and_false,uR,if_false,pM,Bool.or_false,Cr];rw[kK,Le r h2,gy,aL (by unfold mz at hlt;omega)];rfl
  |false=>
   simp only[cw,hk,Bool.not_false,ek,if_true,Bool.or_true];rw[kK,kK,gy,aT ⟨rfl,rfl⟩];rfl
theorem qg {l:List Key} {k:Key} (h:l.Pairwise mz) (b a:Int):look (cE l k) b a=if k.b=b∧k.a=a then some k else look l b a:=by
 unfold cE
 by_cases hs:k.b=b∧k.a=a
 ·rw[aT hs,←hs.1,←hs.2];exact Le l h
 ·rw[aL hs];exact Ds hs l false
theorem wT {l:List Key} {b a:Int} {x:Key} (h:look l b a=some x):x∈l∧x.b=b∧x.a=a:=by
 unfold look at h;have h1:=List.find?_some h;unfold xY at h1;exact⟨List.mem_of_find?_eq_some h,by simpa using h1⟩
theorem vv {l:List Key} (h:l.Pairwise mz) {x:Key} (hx:x∈l):look l x.b x.a=some x:=by
 induction l with
 |nil=>cases hx
 |cons y r ih=>
  obtain⟨h1,h2⟩:=List.pairwise_cons.1 h;rw[gy];rcases bK.1 hx with rfl|hx
  ·rw[aT ⟨rfl,rfl⟩]
  ·have:=h1 x hx
   rw[aL (by unfold mz at this;omega)];exact ih h2 hx
theorem rE {l:List Key} {b a:Int} (h: ∀x∈l,¬(x.b=b∧x.a=a)):look l b a=none:=by
 unfold look;rw[List.find?_eq_none];intro x hx hs;unfold xY at hs;exact h x hx (by simpa using hs)
theorem xZ: ∀(new:List Key) {old:List Key},old.Pairwise mz→new.Pairwise mz→ ∀b a,look (bh old new) b a=(look new b a).or (look old b a)
 |[],old,_,_,b,a=>rfl
 |x::r,old,ho,hn,b,a=>by
  obtain⟨h1,h2⟩:=List.pairwise_cons.1 hn;have ih:=xZ r (lK (k:=x) ho) h2 b a;show look (bh (cE old x) r) b a=_;rw[ih,qg ho,gy]
  by_cases hs:x.b=b∧x.a=a
  ·rw[aT hs,aT hs]
   have hr:look r b a=none:=rE fun y hy h=>by
    have:=h1 y hy;unfold mz at this;omega
   rw[hr];rfl
  ·rw[aL hs,aL hs]
theorem vw {l:List Key} (h:l.Pairwise mz) (p:Key→Bool) (b a:Int):look (l.filter p) b a=(look l b a).filter p:=by
 induction l with
 |nil=>rfl
 |cons x r ih=>
  obtain⟨h1,h2⟩:=List.pairwise_cons.1 h;rw[gy]
  by_cases hp:p x=true
  ·rw[List.filter_cons_of_pos hp,gy,ih h2]
   by_cases hs:x.b=b∧x.a=a
   ·rw[aT hs,aT hs];simp[Option.filter,hp]
   ·rw[aL hs,aL hs]
  ·rw[List.filter_cons_of_neg hp,ih h2]
   by_cases hs:x.b=b∧x.a=a
   ·rw[aT hs]
    have hr:look r b a=none:=rE fun y hy h=>by
     have:=h1 y hy;unfold mz at this;omega
    rw[hr];simp[Option.filter,hp]
   ·rw[aL hs]
theorem IL: ∀{l m:List Key},l.Pairwise mz→m.Pairwise mz→(∀x,x∈l↔x∈m)→l=m
 |[],[],_,_,_=>rfl
 |[],y::m,_,_,h=>by have:=(h y).2 (.head _);cases this
 |x::l,[],_,_,h=>by have:=(h x).1 (.head _);cases this
 |x::l,y::m,hl,hm,h=>by
  obtain⟨h1,h2⟩:=List.pairwise_cons.1 hl;obtain⟨h3,h4⟩:=List.pairwise_cons.1 hm
  have hxy:x=y:=by
   rcases bK.1 ((h x).1 (.head _)) with e|e
   ·exact e
   ·rcases bK.1 ((h y).2 (.head _)) with e2|e2
    ·exact e2.symm
    ·have a1:=h3 x e
     have a2:=h1 y e2;unfold mz at a1 a2;omega
  subst hxy
  have:l=m:=IL h2 h4 fun z=>by
   constructor
   ·intro hz
    rcases bK.1 ((h z).1 (.tail _ hz)) with e|e
    ·subst e;have:=h1 z hz;unfold mz at this;omega
    ·exact e
   ·intro hz
    rcases bK.1 ((h z).2 (.tail _ hz)) with e|e
    ·subst e;have:=h3 z hz;unfold mz at this;omega
    ·exact e
  rw[this]
theorem Dt {l m:List Key} (hl:l.Pairwise mz) (hm:m.Pairwise mz) (h: ∀b a,look l b a=look m b a):l=m:=
 IL hl hm fun x=>⟨fun hx=>by have:=vv hl hx;rw[h] at this;exact(wT this).1,fun hx=>by have:=vv hm hx;rw[←h] at this;exact(wT this).1⟩
def Bf (n:List (List Key)):Prop:= ∀s∈n,s.Pairwise mz
theorem J6 {l:List Key} (h:y7 l=true):l.Pairwise mz:=by
 rw[y8] at h;simp only[cL] at h;have hp:=oZ.1 h.2.1
 have key: ∀(l:List Key),(∀i,i<l.length→fM l cg i=true)→l.Pairwise mz:=by
  intro l
  induction l with
  |nil=>intro _;exact .nil
  |cons x r ih=>
   intro hq
   have hr:=ih fun i hi=>by
    have:=hq (i+1) kR
    cases i with
    |zero=>rfl
    |succ i=>simpa [fM] using this
   refine List.pairwise_cons.2 ⟨?_,hr⟩
   cases r with
   |nil=>intro y hy;cases hy
   |cons z r=>
    have hxz:mz x z:=by have:=hq 1 dM;simp only[fM,cz,lR] at this;exact nq.1 this
    intro y hy;rcases bK.1 hy with rfl|hy
    ·exact hxz
    ·exact hxz.trans ((List.pairwise_cons.1 hr).1 y hy)
 exact key l hp
theorem nu {n:List (List Key)} (h:eo n=true):Bf n:=fun s hs=>by
 unfold eo at h;simp only[cL] at h;have:=List.all_eq_true.1 h.1.1 s hs;simp only[cL] at this;exact J6 this.1
def nZ:List (List Key)→Int→Int→Option Key
 |[],_,_=>none
 |s::r,b,a=>(nZ r b a).or (look s b a)
theorem Du: ∀(n:List (List Key)) {acc:List Key},acc.Pairwise mz→Bf n→ ∀b a,look (n.foldl bh acc) b a=(nZ n b a).or (look acc b a)
 |[],acc,_,_,b,a=>rfl
 |s::r,acc,ha,hn,b,a=>by
  have hs:=hn s (.head _);have ih:=Du r (sF s ha) (fun t ht=>hn t (.tail _ ht)) b a;show look (r.foldl bh (bh acc s)) b a=_;rw[ih,xZ s ha hs];show _=((nZ r b a).or (look s b a)).or (look acc b a);rw[Option.or_assoc]
def jz (k:Key):Bool:= !decide (k.k=0)
theorem wU {n:List (List Key)} (h:Bf n) (b a:Int):look (an n) b a=(nZ n b a).filter jz:=by
 have hr:(lJ n).Pairwise mz:=xW n .nil;have e:=vw hr jz b a;have e2:=Du n .nil h b a;show look ((lJ n).filter jz) b a=_;rw[e];show Option.filter jz (look (n.foldl bh []) b a)=_;rw[e2];show Option.filter jz ((nZ n b a).or none)=_;rw[Option.or_none]
def IM:Option Key→Key×Bool
 |some k=>(k,true)
 |none=>(ef,false)
theorem sL (n:List (List Key)) (s:List Key) (b a:Int):nZ (n++[s]) b a=(look s b a).or (nZ n b a):=by
 induction n with
 |nil=>simp[nZ]
 |cons t r ih=>simp only[w6,nZ,ih,Option.or_assoc]
theorem xj (n:List (List Key)) (b a:Int): ∀k,k≤n.length→kJ n b a k=IM ((nZ (n.take k) b a).filter jz)
 |0,_=>rfl
 |k+1,h=>by
  have ih:=xj n b a k aA
  have hk:k<n.length:=by omega
  unfold kJ;rw[aX hk,List.take_add_one,aX hk];simp only[Option.toList];rw[sL];unfold uO;rw[J5]
  cases hl:look n[k] b a with
  |none=>simp only[uR,if_false];rw[ih];rfl
  |some x=>
   simp only[if_true,Option.some_or]
   by_cases hx:x.k=0
   ·rw[aT hx];simp[Option.filter,jz,hx,IM]
   ·rw[aL hx];simp[Option.filter,jz,hx,IM]
theorem IN {n:List (List Key)} (h:Bf n) (b a:Int):kJ n b a n.length=IM (look (an n) b a):=by
 rw[xj n b a n.length (bT _),uV,wU h]
end Go.T
namespace Go.T
theorem L9 {l:List Key} (h:l.Pairwise mz):bh [] l=l:=
 Dt (sF l .nil) h fun b a=>by rw[xZ l .nil h];show(look l b a).or none=_;rw[Option.or_none]
theorem vz {l:List Key} (h:l.Pairwise mz) (hn: ∀x∈l,¬x.k=0):an (bI l)=l:=by
 unfold bI
 split
 ·rename_i h0
  rw[List.length_eq_zero_iff.1 h0];rfl
 ·show gh (bh [] l)=l
  rw[L9 h];unfold gh;rw[List.filter_eq_self];intro x hx;simpa using hn x hx
theorem Ao {n:List (List Key)} {x:Key} (hx:x∈an n): ¬x.k=0:=by
 have:=(List.mem_filter.1 hx).2;simpa using this
theorem FQ {n:List (List Key)} {k x:Key} (hx:x∈bA n k): ¬x.k=0:=by
 have:=(List.mem_filter.1 hx).2;simpa using this
theorem N5 {n:List (List Key)} (k:Key) (h:Bf n) (b a:Int):nZ (gW n k) b a=if k.b=b∧k.a=a then some k else nZ n b a:=by
 have hone: ∀m:List (List Key),nZ (m++[[k]]) b a=if k.b=b∧k.a=a then some k else nZ m b a:=fun m=>by
  rw[sL,gy]
  by_cases hs:k.b=b∧k.a=a
  ·rw[aT hs,aT hs];rfl
  ·rw[aL hs,aL hs];rfl
 unfold gW
 cases hl:n[n.length-1]? with
 |none=>exact hone n
 |some s=>
  simp only[]
  split
  ·obtain⟨hlt,hs⟩:=List.getElem?_eq_some_iff.1 hl
   have hpos:0<n.length:=by omega
   have e1:n=n.take (n.length-1)++[s]:=by
    conv=>lhs;rw[←yu (n.length-1) n]
    rw[yp hlt,hs,yq aA]
   have e2:n.set (n.length-1) (cE s k)=n.take (n.length-1)++[cE s k]:=by
    rw[List.set_eq_take_append_cons_drop,aT hlt,yq aA]
   rw[e2,sL,qg (h s (by rw[←hs];exact pL hlt))]
   conv=>rhs;rw[e1]
   rw[sL]
   by_cases hs:k.b=b∧k.a=a
   ·rw[aT hs,aT hs];rfl
   ·rw[aL hs,aL hs]
  ·exact hone n
theorem FR {n:List (List Key)} (k:Key) (h:Bf n) (b a:Int):look (bA n k) b a=(if k.b=b∧k.a=a then some k else nZ n b a).filter jz:=by
 have hr:=jj n;show look ((cE (an n) k).filter jz) b a=_;rw[vw (lK hr),qg hr]
 by_cases hs:k.b=b∧k.a=a
 ·rw[aT hs,aT hs]
 ·rw[aL hs,aL hs,wU h]
  cases nZ n b a with
  |none=>rfl
  |some x=>by_cases hx:jz x=true<;>simp[Option.filter,hx]
theorem PV {n:List (List Key)} (k:Key) (h:Bf n) (h2:Bf (gW n k)):an (gW n k)=bA n k:=
 Dt (jj _) (m7 n k) fun b a=>by rw[wU h2,N5 k h,FR k h]
theorem GM {n:List (List Key)} {k:Key} (h:eo n=true) (hp:(bV n k).2=true):an (bV n k).1=bA n k∧eo (bV n k).1=true:=by
 have hr:=nu h;unfold bV at hp ⊢
 split
 ·rename_i h1
  exact⟨PV k hr (nu h1),h1⟩
 ·rename_i h1
  rw[aL h1] at hp
  split
  ·rename_i h2;rw[aT h2] at hp;cases hp
  ·rename_i h2
   rw[aL h2] at hp
   split
   ·rename_i h3
    exact⟨vz (m7 n k) fun x hx=>FQ hx,h3⟩
   ·rename_i h3;rw[aL h3] at hp;cases hp
end Go.T
namespace Go.T
structure lM (t:Tree):Prop where
 len:t.au.length=t.nodes.length
 low0:t.au[0]?=some 0
 rise: ∀i x y,t.au[i]?=some x→t.au[i+1]?=some y→x<y
 ok: ∀n∈t.nodes,eo n=true
 lo: ∀(i:Nat) (n:List (List Key)) (x:Int),t.nodes[i]?=some n→t.au[i]?=some x→ ∀s∈n,∀k:Key,k∈s→x≤bw k.b k.a
 hi: ∀(i:Nat) (n:List (List Key)) (x:Int),t.nodes[i]?=some n→t.au[i+1]?=some x→ ∀s∈n,∀k:Key,k∈s→bw k.b k.a<x
theorem ze {t:Tree} (h:cF t=true):lM t:=by
 have hl:=lC h;have Ln: ∀i n,t.nodes[i]?=some n→dm t i=true:=fun i n hn=>wR h (List.getElem?_eq_some_iff.1 hn).1
 have hsp: ∀(i:Nat) (n:List (List Key)),t.nodes[i]?=some n→ ∀s∈n,∀k:Key,k∈s→Al t.au i (bw k.b k.a)=true:=by
  intro i n hn s hs k hk;have:=Ln i n hn;unfold dm at this;rw[hn] at this;simp only[cL] at this;have h1:=List.all_eq_true.1 this.2.2.2 s hs;unfold de at h1;exact List.all_eq_true.1 h1 k hk
 refine⟨hl.2.2,Dm h,?_,fun n hn=>qf h hn,?_,?_⟩
 ·intro i x y hx hy
  obtain⟨hi,_⟩:=List.getElem?_eq_some_iff.1 hy;have:=wR h (i:=i+1) aA;unfold dm at this;simp only[cL,fM,hx,hy,decide_eq_true_eq] at this;exact this.1
 ·intro i n x hn hx s hs k hk
  have:=hsp i n hn s hs k hk;unfold Al at this;rw[hx] at this;simp only[cL,m8,decide_eq_false_iff_not] at this;omega
 ·intro i n x hn hx s hs k hk
  have:=hsp i n hn s hs k hk;obtain⟨hi,_⟩:=List.getElem?_eq_some_iff.1 hn;unfold Al at this;rw[aX (by omega:i<t.au.length),hx] at this;simp only[cL,decide_eq_true_eq] at this;exact this.2
theorem lM.mono {t:Tree} (h:lM t): ∀(d i:Nat) (x y:Int),t.au[i]?=some x→t.au[i+d+1]?=some y→x<y
 |0,i,x,y,hx,hy=>h.rise i x y hx hy
 |d+1,i,x,y,hx,hy=>by
  obtain⟨hlt,_⟩:=List.getElem?_eq_some_iff.1 hy;have hm:t.au[i+d+1]?=some t.au[i+d+1]:=aX aA;have h1:=h.mono d i x _ hx hm;have h2:=h.rise (i+d+1) _ y hm (by rw[show i+d+1+1=i+(d+1)+1 from by omega];exact hy);omega
theorem lM.lt {t:Tree} (h:lM t) {i j:Nat} {x y:Int} (hij:i<j) (hx:t.au[i]?=some x) (hy:t.au[j]?=some y):x<y:=
 h.mono (j-i-1) i x y hx (by rw[show i+(j-i-1)+1=j from by omega];exact hy)
theorem lM.key {t:Tree} (h:lM t) {i:Nat} {n:List (List Key)} (hn:t.nodes[i]?=some n) {x:Key} (hx:x∈an n):c6 x=true:=by
 obtain⟨s,hs,hy⟩:=iP hx;exact nr (h.ok n (eD hn)) hs hy
theorem zf {x y:Key} (hx:c6 x=true) (hy:c6 y=true):bw x.b x.a<bw y.b y.a↔mz x y:=by
 have h1:=vu hx;have h2:=vu hy;rw[sK hx,sK hy];unfold mz;omega
def o7 (t:Tree) (i:Nat):List Key:=(t.nodes.drop i).flatMap an
theorem xk {t:Tree} {i:Nat} {n:List (List Key)} (hn:t.nodes[i]?=some n):o7 t i=an n++o7 t (i+1):=by
 obtain⟨hi,he⟩:=List.getElem?_eq_some_iff.1 hn;unfold o7;rw[yp hi,he,List.flatMap_cons]
theorem oC {t:Tree} {i:Nat} (h:t.nodes.length≤i):o7 t i=[]:=by
 unfold o7;rw[yq h];rfl
theorem lM.Lf {t:Tree} (h:lM t): ∀(d i:Nat),i+d=t.nodes.length→ ∀x,t.au[i]?=some x→ ∀k∈o7 t i,c6 k=true∧x≤bw k.b k.a
 |0,i,hd,x,hx,k,hk=>by rw[oC aA] at hk;cases hk
 |d+1,i,hd,x,hx,k,hk=>by
  have hn:t.nodes[i]?=some t.nodes[i]:=aX aA;rw[xk hn] at hk;rcases List.mem_append.1 hk with hk|hk
  ·refine⟨h.key hn hk,?_⟩
   obtain⟨s,hs,hk⟩:=iP hk;exact h.lo i _ x hn hx s hs k hk
  ·cases hm:t.au[i+1]? with
   |none=>
    have hl:=h.len
    have: ¬i+1<t.au.length:=fun hlt=>by rw[aX hlt] at hm;cases hm
    rw[oC aA] at hk;cases hk
   |some y=>
    obtain⟨h1,h2⟩:=h.Lf d (i+1) aA y hm k hk;have:=h.rise i x y hx hm;exact⟨h1,by omega⟩
theorem lM.FT {t:Tree} (h:lM t): ∀(d i:Nat),i+d=t.nodes.length→(o7 t i).Pairwise mz
 |0,i,hd=>by rw[oC aA];exact .nil
 |d+1,i,hd=>by
  have hn:t.nodes[i]?=some t.nodes[i]:=aX aA;rw[xk hn];refine List.pairwise_append.2 ⟨jj _,h.FT d (i+1) aA,fun x hx y hy=> ?_⟩
  cases hm:t.au[i+1]? with
  |none=>
   have hl:=h.len
   have: ¬i+1<t.au.length:=fun hlt=>by rw[aX hlt] at hm;cases hm
   rw[oC aA] at hy;cases hy
  |some z=>
   obtain⟨h1,h2⟩:=h.Lf d (i+1) aA z hm y hy;have Xm:=h.key hn hx;obtain⟨s,hs,hx⟩:=iP hx;have h3:=h.hi i _ z hn hm s hs x hx;exact(zf Xm h1).1 aA
theorem lM.oI {t:Tree} (h:lM t):(ay t).Pairwise mz:=h.FT t.nodes.length 0 aA
theorem sM {f:Int→Bool} {l:List Int}: ∀(n:Nat),n≤l.length→(jx f l n= -1∧ ∀j x,j<n→l[j]?=some x→f x=false)∨ ∃i:Nat,jx f l n=i∧i<n∧(∃x,l[i]?=some x∧f x=true)∧ ∀j x,i<j→j<n→l[j]?=some x→f x=false
 |0,_=> .inl ⟨rfl,fun j x h=>by omega⟩
 |n+1,h=>by
  have hn:n<l.length:=by omega
  unfold jx;rw[aX hn];simp only[]
  cases hf:f l[n] with
  |true=>exact .inr ⟨n,by simp,by omega,⟨_,aX hn,hf⟩,fun j x h1 h2=>by omega⟩
  |false=>
   rw[aL dM];rcases sM (f:=f) (l:=l) n aA with⟨h1,h2⟩|⟨i,h1,h2,h3,h4⟩
   ·refine .inl ⟨h1,fun j x hj hx=> ?_⟩
    by_cases hjn:j=n
    ·subst hjn;rw[aX hn] at hx;cases hx;exact hf
    ·exact h2 j x aA hx
   ·refine .inr ⟨i,h1,by omega,h3,fun j x hij hj hx=> ?_⟩
    by_cases hjn:j=n
    ·subst hjn;rw[aX hn] at hx;cases hx;exact hf
    ·exact h4 j x hij aA hx
theorem lM.Lg {t:Tree} (h:lM t) {i:Nat} {x:Int} {b a:Int} (hx:t.au[i]?=some x) (hlo:x≤bw b a) (hhi: ∀j y,i<j→t.au[j]?=some y→bw b a<y):
 ∀(j:Nat) (n:List (List Key)),t.nodes[j]?=some n→ ¬j=i→look (an n) b a=none:=by
 intro j n hn hne;refine rE fun k hk hs=> ?_
 have hj:j<t.au.length:=by rw[h.len];exact(List.getElem?_eq_some_iff.1 hn).1
 obtain⟨s,Jd,AO⟩:=iP hk;have h1:=h.lo j n t.au[j] hn (aX hj) s Jd k AO;rw[hs.1,hs.2] at h1
 by_cases hji:j<i
 ·have Rb:j+1<t.au.length:=by have:=(List.getElem?_eq_some_iff.1 hx).1;omega
  have h2:=h.hi j n t.au[j+1] hn (aX Rb) s Jd k AO;rw[hs.1,hs.2] at h2
  by_cases he:j+1=i
  ·subst he;rw[aX Rb] at hx;cases hx;omega
  ·have:=h.lt (i:=j+1) (j:=i) aA (aX Rb) hx
   omega
 ·have:=hhi j _ aA (aX hj)
  omega
theorem FU {b a:Int}: ∀(l:List (List (List Key))) (i:Nat) (n:List (List Key)),l[i]?=some n→(∀j m,l[j]?=some m→ ¬j=i→look (an m) b a=none)→look (l.flatMap an) b a=look (an n) b a
 |[],i,n,h,_=>by simp at h
 |m::r,0,n,h,hn=>by
  simp only[cz,aR] at h;subst h;rw[List.flatMap_cons,kK]
  have:look (r.flatMap an) b a=none:=rE fun x hx hs=>by
   obtain⟨q,hq,hx⟩:=List.mem_flatMap.1 hx;obtain⟨j,hj⟩:=List.mem_iff_getElem?.1 hq;have:=hn (j+1) q (by simpa using hj) aA;unfold look at this;rw[List.find?_eq_none] at this;exact this x hx (by unfold xY;simpa using hs)
  rw[this,Option.or_none]
 |m::r,i+1,n,h,hn=>by
  rw[List.flatMap_cons,kK,hn 0 m rfl aA];have:=FU r i n (by simpa using h) fun j q hj hne=>hn (j+1) q (by simpa using hj) aA;rw[this];rfl
theorem lM.find {t:Tree} (h:lM t) {b a:Int} (hs:0≤bw b a):jP t b a=IM (look (ay t) b a):=by
 unfold jP eg;rcases sM (f:=fun x=>decide (x≤bw b a)) (l:=t.au) t.au.length (bT _) with⟨_,h2⟩|⟨i,h1,h2,⟨x,hx,hf⟩,h4⟩
 ·have hpos:=(List.getElem?_eq_some_iff.1 h.low0).1
  have:=h2 0 0 hpos h.low0;simp only[decide_eq_false_iff_not] at this;omega
 ·rw[h1,aU]
  have hlo:x≤bw b a:=oL hf
  have hi:i<t.nodes.length:=by rw[←h.len];exact h2
  have hn:t.nodes[i]?=some t.nodes[i]:=aX hi;rw[hn];simp only[]
  have hno:=h.Lg hx hlo fun j y hij hy=>by
   have:=h4 j y hij (List.getElem?_eq_some_iff.1 hy).1 hy;simp only[decide_eq_false_iff_not] at this;omega
  rw[IN (nu (h.ok _ (pL hi)))];unfold ay;rw[FU t.nodes i t.nodes[i] hn hno]
end Go.T
namespace Go.T
abbrev Nd:=List (List Key)
def below (x:Int):Option Int→Prop
 |none=>True
 |some y=>x<y
def GN (l:List Int) (hi:Option Int):Option Int:=match l with|[]=>hi|y::_=>some y
def GO (x:Int) (hi:Option Int) (n:Nd):Prop:=eo n=true∧below x hi∧ ∀s∈n,∀k:Key,k∈s→x≤bw k.b k.a∧below (bw k.b k.a) hi
def TR (hi:Option Int):List Int→List Nd→Prop
 |[],[]=>True
 |x::xs,n::ns=>GO x (GN xs hi) n∧TR hi xs ns
 |_,_=>False
theorem Lh (l m:List Int) (hi:Option Int):GN (l++m) hi=GN l (GN m hi):=by cases l<;>rfl
theorem rF (l:List Int):GN l none=l[0]?:=by cases l<;>rfl
theorem nv {x y:Int} {o:Option Int} (h:x≤y) (h2:below y o):below x o:=by
 cases o with
 |none=>trivial
 |some z=>have:y<z:=h2;show x<z;omega
theorem TR.app {hi:Option Int} {l2:List Int} {n2:List Nd} (h2:TR hi l2 n2): ∀{l:List Int} {n:List Nd},TR (GN l2 hi) l n→TR hi (l++l2) (n++n2)
 |[],[],_=>h2
 |x::xs,n::ns,h=>⟨by show GO x (GN (xs++l2) hi) n;rw[Lh];exact h.1,TR.app h2 h.2⟩
 |[],_::_,h=>h.elim
 |_::_,[],h=>h.elim
theorem TR.split {hi:Option Int} {l2:List Int} {n2:List Nd}: ∀{l:List Int} {n:List Nd},l.length=n.length→TR hi (l++l2) (n++n2)→TR (GN l2 hi) l n∧TR hi l2 n2
 |[],[],_,h=>⟨trivial,h⟩
 |x::xs,n::ns,hl,h=>by
  have h:GO x (GN (xs++l2) hi) n∧TR hi (xs++l2) (ns++n2):=h;rw[Lh] at h;have:=TR.split (by simpa using hl) h.2;exact⟨⟨h.1,this.1⟩,this.2⟩
 |[],_::_,hl,_=>by simp at hl
 |_::_,[],hl,_=>by simp at hl
theorem GO.mono {x:Int} {n:Nd} {o o':Option Int} (hm: ∀y,below y o→below y o') (h:GO x o n):GO x o' n:=
 ⟨h.1,hm _ h.2.1,fun s hs k hk=>⟨(h.2.2 s hs k hk).1,hm _ (h.2.2 s hs k hk).2⟩⟩
theorem TR.mono {o o':Option Int} (hm: ∀y,below y o→below y o'): ∀{l:List Int} {n:List Nd},TR o l n→TR o' l n
 |[],[],_=>trivial
 |[x],[n],h=>⟨GO.mono hm h.1,trivial⟩
 |x::y::xs,n::ns,h=>⟨h.1,TR.mono hm h.2⟩
 |[x],n::m::ns,h=>h.2.elim
 |[],_::_,h=>h.elim
 |_::_,[],h=>h.elim
theorem TR.len {hi:Option Int}: ∀{l:List Int} {n:List Nd},TR hi l n→l.length=n.length
 |[],[],_=>rfl
 |x::xs,n::ns,h=>by simp[TR.len h.2]
 |[],_::_,h=>h.elim
 |_::_,[],h=>h.elim
theorem TR.at {hi:Option Int}: ∀{l:List Int} {n:List Nd},TR hi l n→ ∀(i:Nat) (x:Int) (m:Nd),l[i]?=some x→n[i]?=some m→GO x (GN (l.drop (i+1)) hi) m
 |[],[],_,i,x,m,h1,_=>by simp at h1
 |x::xs,n::ns,h,0,y,m,h1,h2=>by
  simp only[cz,aR] at h1 h2;subst h1 h2;exact h.1
 |x::xs,n::ns,h,i+1,y,m,h1,h2=>TR.at h.2 i y m (by simpa using h1) (by simpa using h2)
 |[],_::_,h,_,_,_,_,_=>h.elim
 |_::_,[],h,_,_,_,_,_=>h.elim
theorem TR.head {hi:Option Int}: ∀{l:List Int} {n:List Nd},TR hi l n→ ∀x,l[0]?=some x→below x hi
 |[],_,_,x,hx=>by cases hx
 |[y],[n],h,x,hx=>by
  simp only[cz,aR] at hx;subst hx;exact h.1.2.1
 |y::z::r,n::ns,h,x,hx=>by
  simp only[cz,aR] at hx;subst hx;exact nv (Int.le_of_lt h.1.2.1) (TR.head h.2 z rfl)
 |[_],_::_::_,h,_,_=>h.2.elim
 |_::_,[],h,_,_=>h.elim
theorem mW (l:List Int) (i:Nat):(l.drop i)[0]?=l[i]?:=by rw[kr];rfl
theorem TR.of {t:Tree} (h:lM t): ∀(d i:Nat),i+d=t.nodes.length→TR none (t.au.drop i) (t.nodes.drop i)
 |0,i,hd=>by
  have:=h.len;rw[yq aA,yq aA];trivial
 |d+1,i,hd=>by
  have hl:=h.len
  have h1:i<t.au.length:=by omega
  have h2:i<t.nodes.length:=by omega
  have e1:t.au[i]?=some t.au[i]:=aX h1;have e2:t.nodes[i]?=some t.nodes[i]:=aX h2;rw[yp h1,yp h2];refine⟨⟨h.ok _ (pL h2),?_,fun s hs k hk=>⟨h.lo i _ _ e2 e1 s hs k hk,?_⟩⟩,TR.of h d (i+1) aA⟩
  ·rw[rF,mW]
   cases hy:t.au[i+1]? with
   |none=>trivial
   |some y=>exact h.rise i _ y e1 hy
  ·rw[rF,mW]
   cases hy:t.au[i+1]? with
   |none=>trivial
   |some y=>exact h.hi i _ y e2 hy s hs k hk
theorem TR.tree {l:List Int} {n:List Nd} (h:TR none l n) (h0:l[0]?=some 0):lM ⟨l,n⟩:=by
 have hl:=h.len
 have gt: ∀(i:Nat) (x y:Int),l[i]?=some x→l[i+1]?=some y→ ∃m,n[i]?=some m∧GO x (some y) m:=fun i x y hx hy=>by
  obtain⟨h1,_⟩:=List.getElem?_eq_some_iff.1 hx;have e2:n[i]?=some n[i]:=aX aA;have:=h.at i x _ hx e2;rw[rF,mW,hy] at this;exact⟨_,e2,this⟩
 refine⟨hl,h0,fun i x y hx hy=> ?_,fun m hm=> ?_,fun i m x hm hx=> ?_,fun i m y hm hy=> ?_⟩
 ·obtain⟨m,_,h1⟩:=gt i x y hx hy
  exact h1.2.1
 ·obtain⟨i,hi⟩:=List.mem_iff_getElem?.1 hm
  obtain⟨h1,_⟩:=List.getElem?_eq_some_iff.1 hi;have h1:i<n.length:=h1;exact(h.at i _ m (aX aA) hi).1
 ·exact fun s hs k hk=>((h.at i x m hx hm).2.2 s hs k hk).1
 ·intro s hs k hk
  obtain⟨h1,_⟩:=List.getElem?_eq_some_iff.1 hm;have h1:i<n.length:=h1;have:=((h.at i _ m (aX aA) hm).2.2 s hs k hk).2;have hy:l[i+1]?=some y:=hy;rw[rF,mW,hy] at this;exact this
def NE (l:List Nd):Prop:= ∀n∈l.tail,¬an n=[]
theorem RS:NE []:=fun n hn=>by simp at hn
theorem N6 (m:Nd):NE [m]:=fun n hn=>by simp at hn
structure mG (t:Tree):Prop where
 tr:TR none t.au t.nodes
 z:t.au[0]?=some 0
 ne:NE t.nodes
theorem mG.r {t:Tree} (h:mG t):lM t:=h.tr.tree h.z
theorem N7 {α:Type} {l:List α} {a:α} (h:a∈l.tail): ∃i:Nat,0<i∧l[i]?=some a:=by
 obtain⟨i,hi⟩:=List.mem_iff_getElem?.1 h;refine⟨i+1,by omega,?_⟩
 cases l with
 |nil=>simp at hi
 |cons b r=>simpa using hi
theorem IP {α:Type} {l:List α} {a:α} {i:Nat} (h0:0<i) (h:l[i]?=some a):a∈l.tail:=by
 cases l with
 |nil=>simp at h
 |cons b r=>
  cases i with
  |zero=>omega
  |succ i=>exact eD (i:=i) (by simpa using h)
theorem N8 {t:Tree} (h:cF t=true):mG t:=by
 have hr:=ze h;refine⟨by have:=TR.of hr t.nodes.length 0 aA;simpa using this,hr.low0,fun n hn=> ?_⟩;obtain⟨i,h0,hi⟩:=N7 hn;have:=wR h (List.getElem?_eq_some_iff.1 hi).1;unfold dm at this;rw[hi] at this;simp only[cL,Bool.or_eq_true,decide_eq_true_eq,m8,decide_eq_false_iff_not] at this;rcases this.2.2.1 with h1|h1
 ·omega
 ·exact fun e=>h1 (by rw[e];rfl)
theorem mG.ok {t:Tree} (h:mG t) (XK:t.nodes.length≤20) (SJ:(ay t).length≤60):cF t=true:=by
 have hr:=h.r;have hl:=hr.len;have h1:=(List.getElem?_eq_some_iff.1 h.z).1;unfold cF y6;rw[h.z];simp only[cL,decide_eq_true_eq];refine⟨by omega,hl,trivial,oZ.2 fun i hi=> ?_,SJ⟩;unfold dm;have e2:t.nodes[i]?=some t.nodes[i]:=aX hi;rw[e2];simp only[cL,Bool.or_eq_true,decide_eq_true_eq,m8,decide_eq_false_iff_not];refine⟨?_,hr.ok _ (pL hi),?_,List.all_eq_true.2 fun s hs=>List.all_eq_true.2 fun k hk=> ?_⟩
 ·cases i with
  |zero=>rfl
  |succ i=>
   have a1:t.au[i]?=some t.au[i]:=aX aA;have a2:t.au[i+1]?=some t.au[i+1]:=aX aA;simp only[fM,a1,a2,decide_eq_true_eq];exact hr.rise i _ _ a1 a2
 ·by_cases h0:i=0
  ·exact .inl h0
  ·exact .inr fun e=>h.ne _ (IP aA e2) (List.length_eq_zero_iff.1 e)
 ·unfold ji Al
  have a1:t.au[i]?=some t.au[i]:=aX aA;rw[a1];simp only[cL,m8,decide_eq_false_iff_not];have h3:=hr.lo i _ _ e2 a1 s hs k hk;refine⟨by omega,?_⟩
  cases hy:t.au[i+1]? with
  |none=>rfl
  |some y=>simp only[decide_eq_true_eq];exact hr.hi i _ y e2 hy s hs k hk
theorem IQ: ∀{l:List Nd},(∀(j:Nat) (a b:Nd),l[j]?=some a→l[j+1]?=some b→6<(an a).length+(an b).length)→7*(l.length/2)≤(l.flatMap an).length
 |[],_=>by simp
 |[a],_=>by simp
 |a::b::r,h=>by
  have h1:=h 0 a b rfl rfl;have h2:=IQ (l:=r) fun j x y hx hy=>h (j+2) x y (by simpa using hx) (by simpa using hy);simp only[List.flatMap_cons,cr,eC];omega
theorem xm {t:Tree}: ∀{d i:Nat},i+d=t.nodes.length→nt t d i=none→ ∀j,i≤j→j+1<t.nodes.length→6<(eK t j).length+(eK t (j+1)).length
 |0,i,hd,_,j,h1,h2=>by omega
 |d+1,i,hd,h,j,h1,h2=>by
  unfold nt at h
  split at h
  ·split at h
   ·cases h
   ·by_cases hij:i=j
    ·subst hij;omega
    ·exact xm aA h j aA h2
  ·omega
theorem N9 {t:Tree} (h:jt t=none) (SJ:(ay t).length≤60):t.nodes.length≤20:=by
 have:=IQ (l:=t.nodes) fun j a b ha hb=>by
  have h1:=(List.getElem?_eq_some_iff.1 hb).1;have:=xm (t:=t) (d:=t.nodes.length) (i:=0) aA h j aA h1
  rwa [dL ha,dL hb] at this
 unfold ay at SJ;omega
theorem Oa {α:Type} {l:List α} {i:Nat} {a:α} (h:l[i]?=some a):l=l.take i++a::l.drop (i+1):=by
 obtain⟨h1,e⟩:=List.getElem?_eq_some_iff.1 h
 conv=>lhs;rw[←yu i l]
 rw[yp h1,e]
theorem wV {l:List Key} {s:List Key} (h:s∈bI l) {k:Key} (hk:k∈s):k∈l:=by
 unfold bI at h
 split at h
 ·cases h
 ·rw[ff.1 h] at hk;exact hk
theorem mG.Te {t:Tree} (h:mG t) {A A1 A2 C:List Int} {N N1 N2 M:List Nd} (e1:t.au=A++A1++C) (e2:t.nodes=N++N1++M) (hl:A.length=N.length) (Bh:A1.length=N1.length) {x:Int} (hx:A1[0]?=some x)
 (h2:TR (GN C none) A2 N2) (h0:A2[0]?=some x∨(A2=[]∧ ¬A=[])) (hn:NE N2) (hn2: ¬A=[]→ ∀n∈N2,¬an n=[]):mG ⟨A++A2++C,N++N2++M⟩:=by
 obtain⟨tr,z,ne⟩:=h;rw[e1,e2,w5,w5] at tr;obtain⟨t1,t2⟩:=TR.split hl tr;obtain⟨t3,t4⟩:=TR.split Bh t2
 have Xn:GN (A1++C) none=some x:=by
  cases A1 with
  |nil=>cases hx
  |cons a r=>simpa [GN] using hx
 rw[Xn] at t1;rw[e2] at ne;rw[e1] at z;have Xo:below x (GN C none):=t3.head x hx;refine⟨?_,?_,?_⟩
 ·show TR none (A++A2++C) (N++N2++M)
  rw[w5,w5];refine TR.app (TR.app t4 h2) (t1.mono fun y hy=> ?_);have hy:y<x:=hy;rcases h0 with h0|⟨h0,_⟩
  ·cases A2 with
   |nil=>cases h0
   |cons a r=>simp only[cz,aR] at h0;subst h0;exact hy
  ·subst h0;exact nv (Int.le_of_lt hy) Xo
 ·show(A++A2++C)[0]?=some 0
  cases A with
  |cons a r=>simpa using z
  |nil=>
   rcases h0 with h0|⟨_,h0⟩
   ·cases A1 with
    |nil=>cases hx
    |cons a r=>
     cases A2 with
     |nil=>cases h0
     |cons b s=>
      simp only[pM,w6,cz,aR] at z hx h0 ⊢;omega
   ·exact absurd rfl h0
 ·show NE (N++N2++M)
  have hM: ∀n∈M,(¬N1=[])→ ¬an n=[]:=fun n hm h1=>ne n (by
   cases N with
   |cons a r=>simp[hm]
   |nil=>
    cases N1 with
    |nil=>exact absurd rfl h1
    |cons b s=>simp[hm])
  have We: ¬N1=[]:=fun e=>by
   subst e;rw[List.length_eq_zero_iff.1 Bh] at hx;cases hx
  intro n hnm
  cases N with
  |cons a r=>
   have hA: ¬A=[]:=fun e=>by rw[e] at hl;simp at hl
   simp only[w6,List.tail_cons,List.mem_append] at hnm;rcases hnm with(hnm|hnm)|hnm
   ·exact ne n (by simp[hnm])
   ·exact hn2 hA n hnm
   ·exact hM n hnm We
  |nil=>
   have hA:A=[]:=List.length_eq_zero_iff.1 (by simpa using hl)
   cases N2 with
   |nil=>
    rcases h0 with h0|⟨_,h0⟩
    ·rw[List.length_eq_zero_iff.1 h2.len] at h0;cases h0
    ·exact absurd hA h0
   |cons b s=>
    simp only[pM,w6,List.tail_cons,List.mem_append] at hnm;rcases hnm with hnm|hnm
    ·exact hn n hnm
    ·exact hM n hnm We
theorem mG.step {t:Tree} (h:mG t) {i:Nat} (hp:jt t=some i):mG (bJ t i)∧ay (bJ t i)=ay t:=by
 obtain⟨h1,h2⟩:=rD hp;have hr:=h.r;have hl:=hr.len;have a1:t.nodes[i]?=some t.nodes[i]:=aX aA;have a2:t.nodes[i+1]?=some t.nodes[i+1]:=aX h1;have b1:t.au[i]?=some t.au[i]:=aX aA;have b2:t.au[i+1]?=some t.au[i+1]:=aX aA;have en:=J3 a1 a2;have el:=J3 b1 b2;generalize ha:t.nodes[i]=a at*;generalize hb:t.nodes[i+1]=b at*;generalize hx:t.au[i]=x at*;generalize hy:t.au[i+1]=y at*;rw[dL a1,dL a2] at h2
 have e1:bJ t i=⟨t.au.take i++[x]++t.au.drop (i+2),t.nodes.take i++[bI (an a++an b)]++t.nodes.drop (i+2)⟩:=by
  unfold bJ jy;rw[dL a1,dL a2,mC,b1];rfl
 have el':t.au=t.au.take i++[x,y]++t.au.drop (i+2):=by simpa using el
 have en':t.nodes=t.nodes.take i++[a,b]++t.nodes.drop (i+2):=by simpa using en
 have hlen:(t.au.take i).length=(t.nodes.take i).length:=by simp[hl]
 have na:=h.tr.at i x a b1 a1;have nb:=h.tr.at (i+1) y b b2 a2;rw[rF,mW,b2] at na
 have hka: ∀k∈an a,c6 k=true∧x≤bw k.b k.a∧bw k.b k.a<y:=fun k hk=>by
  obtain⟨s,hs,hk⟩:=iP hk;exact⟨nr na.1 hs hk,na.2.2 s hs k hk⟩
 have SE: ∀k∈an b,c6 k=true∧y≤bw k.b k.a∧below (bw k.b k.a) (GN (t.au.drop (i+1+1)) none):=fun k hk=>by
  obtain⟨s,hs,hk⟩:=iP hk;exact⟨nr nb.1 hs hk,nb.2.2 s hs k hk⟩
 have hxy:x<y:=na.2.1
 have Jb:(an a++an b).Pairwise mz:=List.pairwise_append.2 ⟨jj a,jj b,fun u hu v hv=>by
  have:=hka u hu;have h4:=SE v hv
  exact(zf this.1 h4.1).1 aA⟩
 refine⟨?_,?_⟩
 ·rw[e1]
  refine h.Te el' en' hlen rfl (x:=x) rfl (A2:=[x]) (N2:=[bI (an a++an b)]) ⟨⟨sH Jb (fun k hk=> ?_) (by rw[cr];omega),?_,fun s hs k hk=> ?_⟩,trivial⟩ (.inl rfl) (N6 _) fun hA n hn=> ?_
  ·rcases List.mem_append.1 hk with hk|hk
   ·exact(hka k hk).1
   ·exact(SE k hk).1
  ·exact nv (Int.le_of_lt hxy) nb.2.1
  ·rcases List.mem_append.1 (wV hs hk) with hk|hk
   ·exact⟨(hka k hk).2.1,nv (Int.le_of_lt (hka k hk).2.2) nb.2.1⟩
   ·exact⟨by have:=(SE k hk).2.1;omega,(SE k hk).2.2⟩
  ·rw[ff.1 hn,vz Jb fun u hu=>by
    rcases List.mem_append.1 hu with hu|hu<;>exact Ao hu]
   have hi:0<i:=Nat.pos_of_ne_zero fun e=>hA (by subst e;rfl);have:=h.ne a (IP hi a1);intro e;exact this (List.append_eq_nil_iff.1 e).1
 ·rw[e1]
  unfold ay
  conv=>rhs;rw[en']
  simp only[List.flatMap_append,List.flatMap_cons,List.flatMap_nil,ke]
  rw[vz Jb fun u hu=>by
     rcases List.mem_append.1 hu with hu|hu<;>exact Ao hu]
theorem mG.join: ∀(n:Nat) {t:Tree},mG t→t.nodes.length≤n→mG (ij n t)∧ay (ij n t)=ay t∧jt (ij n t)=none
 |0,t,h,hn=>⟨h,rfl,by
    have:t.nodes.length=0:=by omega
    show jt t=none
    unfold jt;rw[this];rfl⟩
 |n+1,t,h,hn=>by
  rw[o6]
  cases hp:jt t with
  |none=>exact⟨h,rfl,hp⟩
  |some i=>
   obtain⟨h1,h2⟩:=h.step hp;have h3:=oB (rD hp).1;obtain⟨h4,h5,h6⟩:=mG.join n h1 aA;exact⟨h4,h5.trans h2,h6⟩
theorem IS {n:Nd} {k y:Key} {s:List Key} (hs:s∈(bV n k).1) (hy:y∈s):y=k∨ ∃s∈n,y∈s:=by
 have hin:s∈gW n k→y=k∨ ∃s∈n,y∈s:=fun hs=>by
  unfold gW at hs
  split at hs
  ·rcases List.mem_append.1 hs with hs|hs
   ·exact .inr ⟨s,hs,hy⟩
   ·rw[ff.1 hs] at hy;exact .inl (ff.1 hy)
  ·rename_i s0 h0
   split at hs
   ·rcases List.mem_or_eq_of_mem_set hs with hs|hs
    ·exact .inr ⟨s,hs,hy⟩
    ·rw[hs] at hy
     rcases xV hy with hy|hy
     ·exact .inr ⟨s0,eD h0,hy⟩
     ·exact .inl hy
   ·rcases List.mem_append.1 hs with hs|hs
    ·exact .inr ⟨s,hs,hy⟩
    ·rw[ff.1 hs] at hy;exact .inl (ff.1 hy)
 unfold bV at hs
 split at hs
 ·exact hin hs
 ·split at hs
  ·exact .inr ⟨s,hs,hy⟩
  ·split at hs
   ·exact sG (wV hs hy)
   ·exact .inr ⟨s,hs,hy⟩
theorem FV {b a:Int} {l:List Nd} (h: ∀q∈l,look (an q) b a=none):look (l.flatMap an) b a=none:=rE fun x hx hs=>by
 obtain⟨q,hq,hx⟩:=List.mem_flatMap.1 hx;have:=h q hq;unfold look at this;rw[List.find?_eq_none] at this;exact this x hx (by unfold xY;simpa using hs)
theorem Ek {t:Tree} {x:Key} (h:x∈ay t): ¬x.k=0:=by
 obtain⟨n,_,hx⟩:=List.mem_flatMap.1 h;exact Ao hx
theorem GP {t:Tree} (b a:Int):(look (ay t) b a).filter jz=look (ay t) b a:=by
 cases h:look (ay t) b a with
 |none=>rfl
 |some x=>
  have:=Ek (wT h).1;simp[Option.filter,jz,this]
theorem Ma {t:Tree} {k:Key} (h:cF t=true) (hk:c6 k=true):mG (gP t (eg t k.b k.a).toNat k)∧ay (gP t (eg t k.b k.a).toNat k)=gh (cE (ay t) k):=by
 have hw:=N8 h;have hr:=hw.r;have hl:=hr.len
 have nC:0≤bw k.b k.a:=by have:=vu hk;rw[sK hk];omega
 unfold eg;rcases sM (f:=fun x=>decide (x≤bw k.b k.a)) (l:=t.au) t.au.length (bT _) with⟨_,h2⟩|⟨i,h1,h2,⟨x,hx,hf⟩,h4⟩
 ·have hpos:=(List.getElem?_eq_some_iff.1 hr.low0).1
  have:=h2 0 0 hpos hr.low0;simp only[decide_eq_false_iff_not] at this;omega
 rw[h1];simp only[qP];have hlo:x≤bw k.b k.a:=oL hf
 have hhi: ∀j y,i<j→t.au[j]?=some y→bw k.b k.a<y:=fun j y hij hy=>by
  have:=h4 j y hij (List.getElem?_eq_some_iff.1 hy).1 hy;simp only[decide_eq_false_iff_not] at this;omega
 have hi:i<t.nodes.length:=by omega
 have hn:t.nodes[i]?=some t.nodes[i]:=aX hi;generalize hne:t.nodes[i]=n at*
 have el:t.au=t.au.take i++[x]++t.au.drop (i+1):=by simpa using Oa hx
 have en:t.nodes=t.nodes.take i++[n]++t.nodes.drop (i+1):=by simpa using Oa hn
 have nd:=hw.tr.at i x n hx hn
 have hkn:below (bw k.b k.a) (GN (t.au.drop (i+1)) none):=by
  rw[rF,mW]
  cases hy:t.au[i+1]? with
  |none=>trivial
  |some y=>exact hhi (i+1) y aA hy
 have hlen:(t.au.take i).length=(t.nodes.take i).length:=by simp[hl]
 have hgd:t.nodes.getD i []=n:=by rw[mC,hn];rfl
 have Xp:t.au.getD i 0=x:=by rw[mC,hx];rfl
 have hin: ∀y:Key,(y=k∨ ∃s∈n,y∈s)→c6 y=true∧x≤bw y.b y.a∧below (bw y.b y.a) (GN (t.au.drop (i+1)) none):=fun y hy=>by
  rcases hy with rfl|⟨s,hs,hy⟩
  ·exact⟨hk,hlo,hkn⟩
  ·exact⟨nr nd.1 hs hy,nd.2.2 s hs y hy⟩
 have mid: ∃(A2:List Int) (N2:List Nd),gP t i k=⟨t.au.take i++A2++t.au.drop (i+1),t.nodes.take i++N2++t.nodes.drop (i+1)⟩∧TR (GN (t.au.drop (i+1)) none) A2 N2∧(A2[0]?=some x∨(A2=[]∧ ¬t.au.take i=[]))∧NE N2∧(¬t.au.take i=[]→ ∀m∈N2,¬an m=[])∧N2.flatMap an=bA n k:=by
  unfold gP;rw[hgd,Xp]
  cases hp:(bV n k).2 with
  |true=>
   obtain⟨k1,k2⟩:=GM nd.1 hp;rw[aT rfl];have hA: ¬t.au.take i=[]→0<i:=fun hA=>Nat.pos_of_ne_zero fun e=>hA (by subst e;rfl)
   by_cases hz:0<i∧(an (bV n k).1).length=0
   ·rw[aT hz]
    refine⟨[],[],rfl,trivial,.inr ⟨rfl,fun e=> ?_⟩,RS,fun _ m hm=>(by cases hm),?_⟩
    ·have h5:(t.au.take i).length=i:=by rw[eY];omega
     rw[e] at h5;have h6:=hz.1;have h7:0=i:=h5;omega
    ·rw[←k1,List.length_eq_zero_iff.1 hz.2];rfl
   ·rw[aL hz]
    refine⟨[x],[(bV n k).1],rfl,⟨⟨k2,nv hlo hkn,fun s hs y hy=>(hin y (IS hs hy)).2⟩,trivial⟩,.inl rfl,N6 _,fun Xq m hm=> ?_,by simp[k1]⟩;rw[ff.1 hm];exact fun e=>hz ⟨hA Xq,by rw[e];rfl⟩
  |false=>
   obtain⟨h8,_⟩:=Dl nd.1 hk hp;rw[aL dM];have Jb:=m7 n k;have hall: ∀y∈bA n k,(y=k∨ ∃s∈n,y∈s)∧ ¬y.k=0:=fun y hy=>⟨sG hy,FQ hy⟩
   have h9:(bA n k).length≤9:=by
    have h5:=mo n k;have h6:=wQ nd.1;omega
   generalize bA n k=L at*;have hh:=Ld h8;generalize Ux:(L.length+1)/2=zA at*;have hg:L[zA]?=some L[zA]:=aX hh
   have Xt:L.getD zA ef=L[zA]:=by rw[mC,hg];rfl
   rw[Xt];generalize hm:L[zA]=m at*;have hsplit:=Oa hg
   have Ja:L.drop zA=m::L.drop (zA+1):=by rw[yp hh,hm]
   have OX:(L.take zA++L.drop zA).Pairwise mz:=by rw[yu];exact Jb
   obtain⟨p1,p2,p3⟩:=List.pairwise_append.1 OX;have VE:m∈L:=eD hg;have ok1: ∀y∈L,c6 y=true∧x≤bw y.b y.a∧below (bw y.b y.a) (GN (t.au.drop (i+1)) none):=fun y hy=>hin y (hall y hy).1;have lt1: ∀y∈L.take zA,bw y.b y.a<bw m.b m.a:=fun y hy=>(zf (ok1 y (qR hy)).1 (ok1 m VE).1).2 (p3 y hy m (by rw[Ja];exact .head _))
   have le2: ∀y∈L.drop zA,bw m.b m.a≤bw y.b y.a:=fun y hy=>by
    rw[Ja] at hy p2;rcases bK.1 hy with rfl|hy
    ·exact Int.le_refl _
    ·have:=(zf (ok1 m VE).1 (ok1 y (qQ hy)).1).2 ((List.pairwise_cons.1 p2).1 y hy)
     omega
   have k1:an (bI (L.take zA))=L.take zA:=vz p1 fun y hy=>(hall y (qR hy)).2;have k2:an (bI (L.drop zA))=L.drop zA:=vz p2 fun y hy=>(hall y (qQ hy)).2
   have l1:(L.take zA).length=zA:=by rw[eY];omega
   have l2:(L.drop zA).length=L.length-zA:=jE
   have hpos:0<zA:=by omega
   have q1: ∃y,y∈L.take zA:=⟨(L.take zA)[0]'aA,pL _⟩
   have Xu:x<bw m.b m.a:=by
    obtain⟨y,hy⟩:=q1;have h5:=lt1 y hy;have h6:=(ok1 y (qR hy)).2.1;omega
   have ne1: ¬an (bI (L.take zA))=[]:=fun e=>by rw[k1] at e;have:=congrArg List.length e;rw[l1] at this;simp at this;omega
   have ne2: ¬an (bI (L.drop zA))=[]:=fun e=>by rw[k2] at e;have:=congrArg List.length e;rw[l2] at this;simp at this;omega
   refine⟨[x,bw m.b m.a],[bI (L.take zA),bI (L.drop zA)],rfl,⟨⟨sH p1 (fun y hy=>(ok1 y (qR hy)).1) aA,Xu,fun s hs y hy=>⟨(ok1 y (qR (wV hs hy))).2.1,lt1 y (wV hs hy)⟩⟩,⟨sH p2 (fun y hy=>(ok1 y (qQ hy)).1) aA,(ok1 m VE).2.2,fun s hs y hy=>⟨le2 y (wV hs hy),(ok1 y (qQ (wV hs hy))).2.2⟩⟩,trivial⟩,.inl rfl,fun q hq=> ?_,fun _ q hq=> ?_,?_⟩
   ·simp only[List.tail_cons,ff] at hq
    rw[hq];exact ne2
   ·simp only[bK,List.not_mem_nil,or_false] at hq
    rcases hq with rfl|rfl
    ·exact ne1
    ·exact ne2
   ·simp only[List.flatMap_cons,List.flatMap_nil,ke,k1,k2,yu]
 obtain⟨A2,N2,e0,m1,m2,m3,m4,m5⟩:=mid
 have hW:mG (gP t i k):=by
  rw[e0];exact hw.Te el en hlen rfl (x:=x) rfl m1 m2 m3 m4
 refine⟨hW,Dt hW.r.oI ((lK hr.oI).sublist List.filter_sublist) fun b a=> ?_⟩
 have e3:ay (gP t i k)=(t.nodes.take i).flatMap an++bA n k++(t.nodes.drop (i+1)).flatMap an:=by
  rw[e0];unfold ay;simp only[List.flatMap_append,m5]
 have e4:ay t=(t.nodes.take i).flatMap an++an n++(t.nodes.drop (i+1)).flatMap an:=by
  unfold ay
  conv=>lhs;rw[en]
  simp only[List.flatMap_append,List.flatMap_cons,List.flatMap_nil,ke]
 show look (ay (gP t i k)) b a=look ((cE (ay t) k).filter jz) b a;rw[vw (lK hr.oI),qg hr.oI,e3,kK,kK,FR k (nu nd.1)]
 by_cases hs:k.b=b∧k.a=a
 ·obtain⟨rfl,rfl⟩:=hs
  rw[aT ⟨rfl,rfl⟩,aT ⟨rfl,rfl⟩];have hno:=hr.Lg hx hlo hhi
  have f1:look ((t.nodes.take i).flatMap an) k.b k.a=none:=FV fun q hq=>by
   obtain⟨j,hj⟩:=List.mem_iff_getElem?.1 hq
   have Rb:j<i:=by have:=(List.getElem?_eq_some_iff.1 hj).1;rw[eY] at this;omega
   rw[List.getElem?_take_of_lt Rb] at hj;exact hno j q hj aA
  have f2:look ((t.nodes.drop (i+1)).flatMap an) k.b k.a=none:=FV fun q hq=>by
   obtain⟨j,hj⟩:=List.mem_iff_getElem?.1 hq;rw[kr] at hj;exact hno (i+1+j) q hj aA
  rw[f1,f2,Option.none_or,Option.or_none]
 ·rw[aL hs,aL hs,GP,←wU (nu nd.1),e4,kK,kK]
theorem J7 {t:Tree} {k:Key} (h:cF t=true) (hk:c6 k=true):mG (ij (gP t (eg t k.b k.a).toNat k).nodes.length (gP t (eg t k.b k.a).toNat k))∧ay (ij (gP t (eg t k.b k.a).toNat k).nodes.length (gP t (eg t k.b k.a).toNat k))=gh (cE (ay t) k)∧
 ((gh (cE (ay t) k)).length≤60→cF (ij (gP t (eg t k.b k.a).toNat k).nodes.length (gP t (eg t k.b k.a).toNat k))=true):=by
 obtain⟨h1,h2⟩:=Ma h hk;obtain⟨h3,h4,h5⟩:=h1.join _ (bT _);rw[h2] at h4;exact⟨h3,h4,fun SJ=>h3.ok (N9 h5 (by rw[h4];exact SJ)) (by rw[h4];exact SJ)⟩
theorem GQ {t:Tree} {k:Key} (h:cF t=true) (hk:c6 k=true) (hp:(cn t k).2=true):ay (cn t k).1=gh (cE (ay t) k):=by
 unfold cn at hp ⊢;rw[aT ⟨h,hk⟩] at hp ⊢
 split
 ·exact(J7 h hk).2.1
 ·rename_i h1;rw[aL h1] at hp;cases hp
end Go.T
namespace Go.T
theorem FW (path:List Int): ∀(keys:List Key) (p:Key×Bool),(p.2=true→(keys.foldl (jO path) p).2=true∧p.1.a≤(keys.foldl (jO path) p).1.a)∧
 (keys.foldl (jO path) p=p∨((keys.foldl (jO path) p).2=true∧(keys.foldl (jO path) p).1∈keys∧mm path (keys.foldl (jO path) p).1.a=true))∧
 ∀k∈keys,mm path k.a=true→(keys.foldl (jO path) p).2=true∧k.a≤(keys.foldl (jO path) p).1.a
 |[],p=>⟨fun h=>⟨h,Int.le_refl _⟩,.inl rfl,fun k hk=>by cases hk⟩
 |x::r,p=>by
  obtain⟨h1,h2,h3⟩:=FW path r (jO path p x);simp only[List.foldl_cons];generalize hr:r.foldl (jO path) (jO path p x)=q at*
  by_cases hc:(mm path x.a&&(!p.2||decide (p.1.a<x.a)))=true
  ·have e:jO path p x=(x,true):=by unfold jO;rw[aT hc]
   rw[e] at h1 h2;have h1:=h1 rfl;simp only[cL,Bool.or_eq_true,m8,decide_eq_true_eq] at hc;have Xv:x.a≤q.1.a:=h1.2;refine⟨fun hp=>⟨h1.1,?_⟩,.inr ?_,fun k hk hp=> ?_⟩
   ·rcases hc.2 with h4|h4
    ·rw[hp] at h4;cases h4
    ·omega
   ·rcases h2 with h2|h2
    ·rw[h2];exact⟨rfl,.head _,hc.1⟩
    ·exact⟨h2.1,.tail _ h2.2.1,h2.2.2⟩
   ·rcases bK.1 hk with rfl|hk
    ·exact⟨h1.1,Xv⟩
    ·exact h3 k hk hp
  ·have e:jO path p x=p:=by unfold jO;rw[aL hc]
   rw[e] at h1 h2;refine⟨h1,h2.elim .inl fun h=> .inr ⟨h.1,.tail _ h.2.1,h.2.2⟩,fun k hk hp=> ?_⟩;rcases bK.1 hk with rfl|hk
   ·simp only[hp,ek,Bool.or_eq_true,m8,decide_eq_true_eq,not_or,Bool.not_eq_false] at hc
    obtain⟨a1,a2⟩:=h1 hc.1;exact⟨a1,by omega⟩
   ·exact h3 k hk hp
theorem lN (keys:List Key) (path:List Int):(near keys path=(ef,false)∧ ∀k∈keys,mm path k.a=false)∨
 ((near keys path).2=true∧(near keys path).1∈keys∧mm path (near keys path).1.a=true∧ ∀k∈keys,mm path k.a=true→k.a≤(near keys path).1.a):=by
 obtain⟨_,h2,h3⟩:=FW path keys (ef,false);show(keys.foldl (jO path) (ef,false)=_∧_)∨_;unfold near;rcases h2 with h2|h2
 ·refine .inl ⟨h2,fun k hk=> ?_⟩
  cases h:mm path k.a with
  |false=>rfl
  |true=>have:=(h3 k hk h).1;rw[h2] at this;cases this
 ·exact .inr ⟨h2.1,h2.2.1,h2.2.2,fun k hk hp=>(h3 k hk hp).2⟩
theorem Dv {α:Type} (f:α→Int): ∀(l:List α),(∀i,i<l.length→fM l (fun x y=>decide (f x<f y)) i=true)→l.Pairwise fun x y=>f x<f y
 |[],_=> .nil
 |x::r,hq=>by
  have hr:=Dv f r fun i hi=>by
   have:=hq (i+1) kR
   cases i with
   |zero=>rfl
   |succ i=>simpa [fM] using this
  refine List.pairwise_cons.2 ⟨?_,hr⟩
  cases r with
  |nil=>intro y hy;cases hy
  |cons z r=>
   have hxz:f x<f z:=by have:=hq 1 dM;simp only[fM,cz,lR,decide_eq_true_eq] at this;exact this
   intro y hy;rcases bK.1 hy with rfl|hy
   ·exact hxz
   ·have:=(List.pairwise_cons.1 hr).1 y hy;omega
theorem FX {l:List jg} (h:fE l=true) {i:Nat} {a:jg} (hi:l[i]?=some a):1≤a.id∧a.id≤60∧(a.fr=0∨0≤ei (l.take i) a.fr):=by
 unfold fE at h;simp only[cL] at h;have:=oZ.1 h.1 i (List.getElem?_eq_some_iff.1 hi).1;unfold gn at this;simp only[cL,PN,hi,y6,decide_eq_true_eq,Bool.or_eq_true,m8,decide_eq_false_iff_not] at this;omega
theorem IT {l:List jg} (h:fE l=true):l.Pairwise fun x y=>x.id<y.id:=by
 unfold fE at h;simp only[cL] at h;refine Dv (·.id) l fun i hi=> ?_;have:=oZ.1 h.1 i hi;unfold gn at this;simp only[cL] at this;exact this.2.1
theorem PW {l:List jg} (h:fE l=true) {i j:Nat} {a b:jg} (hij:i<j) (ha:l[i]?=some a) (hb:l[j]?=some b):a.id<b.id:=by
 obtain⟨h1,rfl⟩:=List.getElem?_eq_some_iff.1 ha;obtain⟨h2,rfl⟩:=List.getElem?_eq_some_iff.1 hb;exact List.pairwise_iff_getElem.1 (IT h) i j h1 h2 hij
theorem QN {l:List jg} (h:fE l=true) {i:Int} {a:jg} (ha:jD l i=some a):a.fr=0∨a.fr<a.id:=by
 unfold jD at ha
 split at ha
 ·obtain⟨_,_,h3⟩:=FX h ha
  rcases h3 with h3|h3
  ·exact .inl h3
  ·obtain⟨b,hb,he⟩:=oH (l.take i.toNat) a.fr aA
   right
   have hb:(l.take i.toNat)[(ei (l.take i.toNat) a.fr).toNat]?=some b:=by unfold jD at hb;rwa [aT h3] at hb
   have hlt:=(List.getElem?_eq_some_iff.1 hb).1;rw[eY] at hlt;rw[List.getElem?_take_of_lt aA] at hb;have:=PW h aA hb ha;omega
 ·cases ha
theorem IU {l:List jg} (h:fE l=true):ei l 0<0:=by
 by_cases h0:ei l 0<0
 ·exact h0
 ·obtain⟨a,ha,he⟩:=oH l 0 h0
  unfold jD at ha
  split at ha
  ·have:=(FX h ha).1;omega
  ·cases ha
theorem Li {l:List jg} (h:fE l=true): ∀(n:Nat) (id x:Int),x∈mF l n id→x≤id∧(∀a,jD l (ei l id)=some a→x=id∨x<id)
 |0,id,x,hx=>by cases hx
 |n+1,id,x,hx=>by
  simp only[mF] at hx
  split at hx
  ·cases hx
  ·rename_i hn
   rcases bK.1 hx with rfl|hx
   ·exact⟨Int.le_refl _,fun _ _=> .inl rfl⟩
   ·obtain⟨a,ha,he⟩:=oH l id hn
    rw[ha] at hx;simp only at hx;have h1:=(Li h n a.fr x hx).1;rcases QN h ha with h0|h0
    ·rw[h0] at hx
     cases n with
     |zero=>cases hx
     |succ n=>simp only[mF,aT (IU h)] at hx;cases hx
    ·exact⟨by omega,fun _ _=> .inr aA⟩
theorem Ap {l:List jg} (h:fE l=true) {id:Int} (hid:0≤ei l id): ∃r,pathOf l id=id::r∧ ∀x∈r,x<id:=by
 obtain⟨a,ha,he⟩:=oH l id aA;refine⟨mF l l.length a.fr,?_,fun x hx=> ?_⟩
 ·unfold pathOf
  simp only[mF];rw[aL aA,ha]
 ·have h1:=(Li h _ a.fr x hx).1
  rcases QN h ha with h0|h0
  ·rw[h0] at hx
   cases hl:l.length with
   |zero=>rw[hl] at hx;cases hx
   |succ n=>rw[hl] at hx;simp only[mF,aT (IU h)] at hx;cases hx
  ·omega
theorem Ob {l:List jg} {id:Int} (hid:ei l id<0):pathOf l id=[]:=by
 unfold pathOf;simp only[mF];rw[aT hid]
theorem kL {l:List Int} {x:Int}:mm l x=true↔x∈l:=by unfold mm;simp
theorem mX {t:Tree} {b:Int} {k:Key}:k∈bG t b↔k∈ay t∧k.b=b:=by unfold bG;simp
theorem Dw {t:Tree} (h:cF t=true) {b:Int} {x y:Key} (hx:x∈bG t b) (hy:y∈bG t b) (ha:x.a=y.a):x=y:=by
 have hr:=(ze h).oI;obtain⟨hx,hb⟩:=mX.1 hx;obtain⟨hy,hb2⟩:=mX.1 hy;have h1:=vv hr hx;have h2:=vv hr hy;rw[hb,ha] at h1;rw[hb2,h1] at h2;exact Option.some.inj h2
theorem GR {t:Tree} (h:cF t=true) {b id:Int} (hs:0≤bw b id):((jP t b id).2=true→(jP t b id).1∈bG t b∧(jP t b id).1.a=id)∧((jP t b id).2=false→ ∀k∈bG t b,¬k.a=id):=by
 rw[(ze h).find hs]
 cases hl:look (ay t) b id with
 |some k=>
  obtain⟨h1,h2,h3⟩:=wT hl;exact⟨fun _=>⟨mX.2 ⟨h1,h2⟩,h3⟩,fun h=>by cases h⟩
 |none=>
  refine⟨fun h=>(by cases h),fun _ k hk ha=> ?_⟩;obtain⟨h1,h2⟩:=mX.1 hk;have:=vv (ze h).oI h1;rw[h2,ha,hl] at this
  cases this
theorem J8 {t:Tree} {l:List jg} {b id:Int} (h:cF t=true) (ha:fE l=true) (hs:0≤bw b id) (hn:(gZ t l b id).2=false):(jh t l b id).2=false∧((jP t b id).2=false∨ei l id<0):=by
 have hno: ∀k∈bG t b,mm (pathOf l id) k.a=false:=by
  rcases lN (bG t b) (pathOf l id) with h1|h1
  ·exact h1.2
  ·have:(gZ t l b id).2=true:=h1.1
   rw[hn] at this;cases this
 refine⟨?_,?_⟩
 ·rcases lN (bG t b) ((pathOf l id).drop 1) with h1|h1
  ·show(near _ _).2=false;rw[h1.1]
  ·have h2:=kL.2 (qQ (kL.1 h1.2.2.1))
   rw[hno _ h1.2.1] at h2;cases h2
 ·by_cases h0:ei l id<0
  ·exact .inr h0
  ·left
   obtain⟨r,hr,_⟩:=Ap ha (id:=id) aA
   cases ho:(jP t b id).2 with
   |false=>rfl
   |true=>
    obtain⟨h1,h2⟩:=(GR h hs).1 ho;have:=hno _ h1;rw[h2,hr] at this;have h3:=kL.2 (List.mem_cons_self (a:=id) (l:=r));rw[this] at h3;cases h3
theorem Mb {t:Tree} {l:List jg} {b id:Int} (h:cF t=true) (ha:fE l=true) (hs:0≤bw b id) (ho:(jP t b id).2=true) (hid:0≤ei l id):(gZ t l b id).2=true∧(gZ t l b id).1=(jP t b id).1∧((jh t l b id).2=false∨(jh t l b id).1.a<id):=by
 obtain⟨r,hr,hlt⟩:=Ap ha hid;obtain⟨h1,h2⟩:=(GR h hs).1 ho
 have hin:mm (pathOf l id) (jP t b id).1.a=true:=by rw[h2,hr];exact kL.2 (List.mem_cons_self (a:=id) (l:=r))
 refine⟨?_,?_,?_⟩
 ·rcases lN (bG t b) (pathOf l id) with h3|h3
  ·have:=h3.2 _ h1;rw[hin] at this;cases this
  ·exact h3.1
 ·rcases lN (bG t b) (pathOf l id) with h3|h3
  ·have:=h3.2 _ h1;rw[hin] at this;cases this
  ·have h4:=h3.2.2.2 _ h1 hin
   have h5:(gZ t l b id).1.a≤id:=by
    have:(gZ t l b id).1.a∈pathOf l id:=kL.1 h3.2.2.1;rw[hr] at this;rcases bK.1 this with e|e
    ·exact Int.le_of_eq e
    ·exact Int.le_of_lt (hlt _ e)
   have h6:id≤(gZ t l b id).1.a:=by rw[h2] at h4;exact h4
   exact Dw h h3.2.1 h1 (by rw[h2];exact Int.le_antisymm h5 h6)
 ·rcases lN (bG t b) ((pathOf l id).drop 1) with h3|h3
  ·left;show(near _ _).2=false;rw[h3.1]
  ·right
   have h4:(jh t l b id).1.a∈(pathOf l id).drop 1:=kL.1 h3.2.2.1
   have h5:(pathOf l id).drop 1=r:=by rw[hr];rfl
   rw[h5] at h4;exact hlt _ h4
theorem J9 {t:Tree} {l:List jg} {b id:Int} (h:cF t=true) (ha:fE l=true) (hs:0≤bw b id) (hy:(gZ t l b id).2=true) (hno: ¬((jP t b id).2=true∧0≤ei l id)):
 mm (pathOf l id) (gZ t l b id).1.a=true∧(gZ t l b id).1.b=b∧(jh t l b id).2=true∧(jh t l b id).1=(gZ t l b id).1:=by
 rcases lN (bG t b) (pathOf l id) with h3|h3
 ·have:(gZ t l b id).2=false:=by show(near _ _).2=false;rw[h3.1]
  rw[hy] at this;cases this
 have e:gZ t l b id=near (bG t b) (pathOf l id):=rfl;rw[←e] at h3;obtain⟨_,g1,g2,g3⟩:=h3
 have hid:0≤ei l id:=by
  by_cases h0:0≤ei l id
  ·exact h0
  ·rw[Ob aA] at g2;cases g2
 obtain⟨r,hr,hlt⟩:=Ap ha hid
 have T3:(jP t b id).2=false:=by
  cases hm:(jP t b id).2 with
  |false=>rfl
  |true=>exact absurd ⟨hm,hid⟩ hno
 have hne:=(GR h hs).2 T3 _ g1
 have D8:mm ((pathOf l id).drop 1) (gZ t l b id).1.a=true:=by
  have:=kL.1 g2;rw[hr] at this ⊢;rcases bK.1 this with e|e
  ·exact absurd e hne
  ·exact kL.2 (by simpa using e)
 refine⟨g2,(mX.1 g1).2,?_⟩;rcases lN (bG t b) ((pathOf l id).drop 1) with h4|h4
 ·have:=h4.2 _ g1;rw[D8] at this;cases this
 ·have e2:jh t l b id=near (bG t b) ((pathOf l id).drop 1):=rfl
  rw[←e2] at h4;refine⟨h4.1,Dw h h4.2.1 g1 (Int.le_antisymm ?_ (h4.2.2.2 _ g1 D8))⟩;exact g3 _ h4.2.1 (kL.2 (qQ (kL.1 h4.2.2.1)))
theorem Ka {t:Tree} {l:List jg} {b id:Int} {k:Key} (hk:k∈bG t b):(mm (pathOf l id) k.a=true→(gZ t l b id).2=true∧k.a≤(gZ t l b id).1.a)∧IC t l k id=((gZ t l b id).2&&decide ((gZ t l b id).1.a=k.a)):=by
 refine⟨fun hp=> ?_,?_⟩
 ·rcases lN (bG t b) (pathOf l id) with h3|h3
  ·have:=h3.2 _ hk;rw[hp] at this;cases this
  ·exact⟨h3.1,h3.2.2.2 _ hk hp⟩
 ·unfold IC
  rw[(mX.1 hk).2]
end Go.T
namespace Go.T
end Go.T
namespace Go.T
theorem vo.lt: ∀{l:List Bm},vo l→l.Pairwise fun a b=>Hz a.name b.name=true
 |[],_=> .nil
 |[a],_=>by simp
 |a::b::r,h=>by
  have ih:=vo.lt (l:=b::r) h.2;refine List.pairwise_cons.2 ⟨fun c hc=> ?_,ih⟩;rcases bK.1 hc with rfl|hc
  ·exact h.1
  ·exact FL h.1 ((List.pairwise_cons.1 ih).1 c hc)
theorem Kb:cF ⟨[0],[[]]⟩=true:=by decide+kernel
end Go.T
namespace Go.T
set_option maxRecDepth 100000
end Go.T
namespace Go.T
theorem Oc {b a k c g:Int} (hb:0≤b∧b≤15) (ha:1≤a∧a≤60) (hk:0≤k∧k≤2) (h:(k=1∧0≤c∧c≤23∧0≤g∧g≤999)∨(¬k=1∧c=0∧g=0)):c6 ⟨b,a,k,c,g⟩=true:=by
 unfold c6 y6;simp only[cL,decide_eq_true_eq];refine⟨⟨⟨hb,ha⟩,hk⟩,?_⟩;rcases h with⟨h1,h2⟩|⟨h1,h2⟩
 ·rw[aT h1];simp only[cL,decide_eq_true_eq];omega
 ·rw[aL h1];simp only[cL,decide_eq_true_eq];exact h2
theorem PX {x:Key} (h:c6 x=true) {b:Int} (hb:0≤b∧b≤15):c6 ⟨b,x.a,x.k,x.c,x.g⟩=true:=by
 unfold c6 y6 at h ⊢;simp only[cL,decide_eq_true_eq] at h ⊢;exact⟨⟨⟨hb,h.1.1.2⟩,h.1.2⟩,h.2⟩
theorem Mc {l:List jg} (h:fE l=true) (id fr:Int):fE (mV l id fr).1=true:=by
 unfold mV
 repeat' split
 all_goals first|assumption|exact h|(rename_i h1;exact h1.2)|(rename_i h1 _;exact h1.2)
theorem IV {t:Tree} (h:cF t=true) (k:Key):cF (cn t k).1=true:=by
 cases hp:(cn t k).2 with
 |true=>exact J2 hp
 |false=>rw[Dp hp];exact h
theorem GS {t:Tree} {k:Key} (h:cF t=true) (hk:c6 k=true):(ay (cn t k).1).length≤(ay t).length+1:=by
 cases hp:(cn t k).2 with
 |true=>
  rw[GQ h hk hp];have h3:(gh (cE (ay t) k)).length≤(cE (ay t) k).length:=Ks _ _;have h4:=jN (ay t) k;omega
 |false=>rw[Dp hp];omega
theorem Dx {l:List jg} (h:fE l=true):l.length≤16:=by
 unfold fE at h;simp only[cL,decide_eq_true_eq] at h;exact h.2
end Go.T
namespace Go.T
variable {C : g6} {f : FuncId} {vs : List TV} {b : List Int}
theorem nH {P:Int→Prop} {K:Int→RR→Int→Int→Prop} (h:bQ C f vs (Dr b fun r=> ∃x,r=vI x∧P x)) (k: ∀x i h,0≤i→P x→K x (b.map iJ) i h):
 ∃(n:Int) (l:List (List TC)) (n2 n3:Int),ax C f vs (TV.c (TC.sc (Value.int IntKind.i64 n))) [TV.bx [TC.sub 1 l,TC.sc (Value.int IntKind.i64 n2),TC.sc (Value.int IntKind.i64 n3)]]∧K n l n2 n3:=by
 obtain⟨_,_,hr,i,h',hi,rfl,x,rfl,hx⟩:=h;exact⟨x,_,i,h',hr,k x i h' hi hx⟩
theorem PY {K:Bool→RR→Int→Int→Prop} (h:bQ C f vs (Dr b fun r=> ∃x,r=vB x)) (k: ∀x i h,0≤i→K x (b.map iJ) i h):
 ∃(n:Bool) (l:List (List TC)) (n2 n3:Int),ax C f vs (TV.c (TC.sc (Value.bool n))) [TV.bx [TC.sub 1 l,TC.sc (Value.int IntKind.i64 n2),TC.sc (Value.int IntKind.i64 n3)]]∧K n l n2 n3:=by
 obtain⟨_,_,hr,i,h',hi,rfl,x,rfl⟩:=h;exact⟨x,_,i,h',hr,k x i h' hi⟩
theorem Od {P:Key→Prop} {K:Int→Int→Int→Int→Int→RR→Int→Int→Prop} (h:bQ C f vs (Dr b fun r=> ∃x,r=TV.ag (bE x)∧P x)) (k: ∀x i h,0≤i→P x→K x.b x.a x.k x.c x.g (b.map iJ) i h):
 ∃(m1 m2 m3 m4 m5:Int) (l:List (List TC)) (n2 n3:Int),ax C f vs (TV.ag [TC.sc (Value.int IntKind.i64 m1),TC.sc (Value.int IntKind.i64 m2),TC.sc (Value.int IntKind.i64 m3),TC.sc (Value.int IntKind.i64 m4),TC.sc (Value.int IntKind.i64 m5)]) [TV.bx [TC.sub 1 l,TC.sc (Value.int IntKind.i64 n2),TC.sc (Value.int IntKind.i64 n3)]]∧K m1 m2 m3 m4 m5 l n2 n3:=by
 obtain⟨_,_,hr,i,h',hi,rfl,x,rfl,hx⟩:=h;exact⟨x.b,x.a,x.k,x.c,x.g,_,i,h',hr,k x i h' hi hx⟩
theorem PZ {α:Type} {e:α→List TC} {z:Nat} {P:List α→Prop} {K:RR→RR→Int→Int→Prop} (h:bQ C f vs (Dr b fun r=> ∃x:List α,r=TV.c (TC.sub z (x.map e))∧P x)) (k: ∀(x:List α) i h,0≤i→P x→K (x.map e) (b.map iJ) i h):
 ∃(l0 l:List (List TC)) (n2 n3:Int),ax C f vs (TV.c (TC.sub z l0)) [TV.bx [TC.sub 1 l,TC.sc (Value.int IntKind.i64 n2),TC.sc (Value.int IntKind.i64 n3)]]∧K l0 l n2 n3:=by
 obtain⟨_,_,hr,i,h',hi,rfl,x,rfl,hx⟩:=h;exact⟨_,_,i,h',hr,k x i h' hi hx⟩
theorem P0 {P:Tree→Prop} {K:RR→RR→RR→Int→Int→Prop} (h:bQ C f vs (Dr b fun r=> ∃x:Tree,r=dS x∧P x)) (k: ∀(x:Tree) i h,0≤i→P x→K (x.au.map cO) (x.nodes.map bO) (b.map iJ) i h):
 ∃(l0 l1 l:List (List TC)) (n2 n3:Int),ax C f vs (TV.ag [TC.sub 1 l0,TC.sub 1 l1]) [TV.bx [TC.sub 1 l,TC.sc (Value.int IntKind.i64 n2),TC.sc (Value.int IntKind.i64 n3)]]∧K l0 l1 l n2 n3:=by
 obtain⟨_,_,hr,i,h',hi,rfl,x,rfl,hx⟩:=h;exact⟨_,_,_,i,h',hr,k x i h' hi hx⟩
theorem RT {K:RR→Int→Int→Prop} (h:bQ C f vs (fun r fs=>fs=[]∧ ∃h,r=Am b 0 h)) (k: ∀h,K (b.map iJ) 0 h):
 ∃(l:List (List TC)) (n2 n3:Int),ax C f vs (TV.bx [TC.sub 1 l,TC.sc (Value.int IntKind.i64 n2),TC.sc (Value.int IntKind.i64 n3)]) []∧K l n2 n3:=by
 obtain⟨_,_,hr,rfl,x,rfl⟩:=h;exact⟨_,_,_,hr,k x⟩
theorem Dy {P:TV→Prop} {r:TV} {i h:Int} (hi:0≤i) (hP:P r):Dr b P r [TV.bx [TC.sub 1 (b.map iJ),TC.sc (Value.int IntKind.i64 i),TC.sc (Value.int IntKind.i64 h)]]:=⟨i,h,hi,rfl,hP⟩
end Go.T
