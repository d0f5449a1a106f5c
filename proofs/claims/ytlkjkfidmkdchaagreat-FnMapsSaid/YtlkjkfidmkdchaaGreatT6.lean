import Derived.Test.YtlkjkfidmkdchaaGreatT5
set_option linter.all false
namespace Go.T
def ahT (cf:Cf):Prop:= ∀f vs r fs r' fs',cf f vs r fs→cf f vs r' fs'→r=r'∧fs=fs'
def ajV (lp:Lp):Prop:= ∀f i c st (Q Q':TX→TS→Prop),lp f i c st Q→lp f i c st Q'→ ∃x s,Q x s∧Q' x s
theorem qG {R:Type} {cf:Cf} {lp:Lp} (hc:ahT cf) (hl:ajV lp) {Q Q':R→Prop}: ∀(e:Ev R),e.holds cf lp Q→e.holds cf lp Q'→ ∃r,Q r∧Q' r
 | .fail,h,_=>h.elim
 | .ret r,h,h'=>⟨r,h,h'⟩
 | .test b k,h,h'=>qG hc hl (k b) h h'
 | .row rows i k,⟨c,h1,h2⟩,⟨c',Cv,QA⟩=>by
   rw[h1] at Cv;cases Cv;exact qG hc hl (k c) h2 QA
 | .byte rows i k,⟨c,h1,h2⟩,⟨c',Cv,QA⟩=>by
   rw[h1] at Cv;cases Cv;exact qG hc hl (k c) h2 QA
 | .bytes rows k,⟨c,h1,h2⟩,⟨c',Cv,QA⟩=>by
   rw[h1] at Cv;cases Cv;exact qG hc hl (k c) h2 QA
 | .call f vs k,⟨r,fs,h1,h2⟩,⟨r',fs',Cv,QA⟩=>by
   obtain⟨rfl,rfl⟩:=hc _ _ _ _ _ _ h1 Cv;exact qG hc hl (k r fs) h2 QA
 | .loop f i c st k,h,h'=>by
   obtain⟨x,s,h1,h2⟩:=hl _ _ _ _ _ _ h h';exact qG hc hl (k x s) h1 h2
 | .both a b,⟨r,h1,h2,h3⟩,⟨r',Cv,QA,h3'⟩=>by
   obtain⟨r0,e1,e2⟩:=qG hc hl a h1 Cv;subst e1 e2;exact⟨_,h3,h3'⟩
section
variable {C : mG}
theorem Y9 {cf:Cf} {lp:Lp} (hc:ahT cf) (hl:ajV lp) {fx:List Nat} {f i:Nat} {c:Code} {Q Q':TX→TS→Prop}: ∀(n:Nat) (st:TS),iter C cf lp fx f i c Q n st→iter C cf lp fx f i c Q' n st→ ∃x s,Q x s∧Q' x s
 |0,_,h,_=>h.elim
 |n+1,st,h,h'=>by
  obtain⟨⟨x,s⟩,h1,h2⟩:=qG hc hl _ h h'
  cases x with
  |norm=>
   simp only at h1 h2;rw[uf] at h1 h2;exact Y9 hc hl n _ h1 h2
  |ex id=>exact⟨_,_,h1,h2⟩
  |ret=>exact⟨_,_,h1,h2⟩
theorem acH {cf:Cf} (hc:ahT cf) (k:Nat) (fx:List Nat): ∀n,ajV (lpN C cf k fx n)
 |0=>fun _ _ _ _ _ _ h _=>h.elim
 |n+1=>fun f i c st Q Q' h h'=>Y9 hc (acH hc k fx n) k st h h'
theorem L7: ∀k,ahT (j7 C k)
 |0=>fun _ _ _ _ _ _ h _=>h.elim
 |k+1=>fun f vs r fs r' fs' h h'=>by
  unfold j7 at h h'
  cases hx:C.ext f with
  |some p=>rw[hx] at h h';have h:p vs=some (r,fs):=h;have h':p vs=some (r',fs'):=h';rw[h] at h';cases h';exact⟨rfl,rfl⟩
  |none=>
  rw[hx] at h h';simp only at h h';obtain⟨p,h1,h2⟩:=qG (L7 k) (acH (L7 k) k _ 4) _ h h';rw[h1] at h2
  cases h2
  exact⟨rfl,rfl⟩
theorem ai.det {f:FuncId} {vs:List TV} {r r':TV} {fs fs':List TV} (h:ai C f vs r fs) (h':ai C f vs r' fs'):r'=r∧fs'=fs:=by
 obtain⟨k,h⟩:=h;obtain⟨k',h'⟩:=h';obtain⟨h1,h2⟩:=L7 (max k k') _ _ _ _ _ _ (oL (FH _ _) h) (oL (Nat.le_max_right _ _) h');exact⟨h1.symm,h2.symm⟩
end
def ew {α:Type} (l:List α) (i:Int):Option α:=if 0≤i then l[i.toNat]? else none
theorem aK {α:Type} (l:List α) (i:Nat):ew l (i:Int)=l[i]?:=by
 unfold ew;rw[aR (Int.natCast_nonneg i),oF]
theorem eT {α:Type} {l:List α} {i:Int} (h0:0≤i) (h1:i<l.length): ∃a,ew l i=some a:=by
 unfold ew;rw[aR h0];exact⟨_,bC au⟩
theorem gh {α:Type} {l:List α} {i:Int} (h: ¬(0≤i∧i<l.length)):ew l i=none:=by
 unfold ew
 split
 ·exact Vq au
 ·rfl
theorem aQ {α:Type} (e:α→List TC) (l:List α) (i:Int):rowAt (l.map e) i=(ew l i).map e:=by
 unfold rowAt ew
 split
 ·rw[me]
 ·rfl
theorem nj {α:Type} {l:List α} {i:Int} {a:α} (h:ew l i=some a):a∈l:=by
 unfold ew at h
 split at h
 ·exact iV h
 ·cases h
def oD {α:Type} (l:List α) (i:Int) (a:α):List α:=l.set i.toNat a
theorem lI {α:Type} (l:List α) (i:Int) (a:α):(oD l i a).length=l.length:=by unfold oD;simp
theorem iY {α:Type} {e:α→List TC} {l:List α} {i:Int} {a a':α} {f:Nat} {cs:List TC} (h:ew l i=some a) (he:(e a).take f++cs++(e a).drop (f+cs.length)=e a'):setRow (l.map e) i f cs=(oD l i a').map e:=by
 unfold ew at h
 split at h
 ·unfold setRow oD
  rw[me,h];simp only[nT,he,List.map_set]
 ·cases h
@[simp] theorem cc {α:Type} (e:α→List TC) (l:List α) (a b:Int):aq (l.map e) a b=((l.take b.toNat).drop a.toNat).map e:=by
  unfold aq;rw[←Du,←Bp]
theorem yz {rows:List (List TC)} (h: ∀r∈rows,∀c∈r,∃v,c= .sc v):bF rows=true:=by
 unfold bF;rw[List.all_eq_true];intro r hr;rw[List.all_eq_true];intro c hc;obtain⟨v,rfl⟩:=h r hr c hc
 rfl
@[simp] theorem afF (s:ByteArray):(ByteArray.data s).1.length=s.size:=rfl
@[simp] theorem F4 (l h n:Int):eP l h n=decide (0≤l∧l≤h∧h≤n):=by unfold eP;rfl
end Go.T
namespace Go.T
structure Key where
 b:Int
 a:Int
 k:Int
 c:Int
 g:Int
 deriving DecidableEq
structure mS where
 id:Int
 fr:Int
 deriving DecidableEq
structure Cell where
 g:Int
 u:Bool
 n:Int
 deriving DecidableEq
structure oO where
 name:ByteArray
 fq:Int
 size:Int
 fx:Bool
structure Mp where
 name:ByteArray
 fx:Bool
 l:List Int
structure Tree where
 aA:List Int
 nodes:List (List (List Key))
structure bu where
 t:Tree
 aY:List mS
 cells:List Cell
 aD:List oO
 next:Int
structure Kq where
 kind:Int
 name:ByteArray
 to:ByteArray
 a:Int
 b:Int
abbrev iI (n:Int):TC:= .sc (.int .i64 n)
abbrev iB (b:Bool):TC:= .sc (.bool b)
abbrev iS (s:ByteArray):TC:= .sc (.string s)
abbrev cI (n:Int):CE:= .sc (.int .i64 n)
abbrev cB (b:Bool):CE:= .sc (.bool b)
abbrev cS (s:ByteArray):CE:= .sc (.string s)
abbrev aF (a b:Int):Int:=aaE .i64 a b
abbrev dy (a b:Int):Int:=QF .i64 a b
abbrev Kr (a b:Int):Int:=aaF .i64 a b
theorem aO {a b:Int} (h: -9223372036854775808≤a+b∧a+b≤9223372036854775807):aF a b=a+b:=ahQ h
theorem eg {a b:Int} (h: -9223372036854775808≤a-b∧a-b≤9223372036854775807):dy a b=a-b:=ahR h
theorem ahU {a b:Int} (h: -9223372036854775808≤a*b∧a*b≤9223372036854775807):Kr a b=a*b:=W5 h
abbrev RR:=List (List TC)
abbrev QV:=TV→List TV→Prop
abbrev QX:=TX→TS→Prop
abbrev sI:Sh:= .int .i64
abbrev sB:Sh:= .bool
abbrev sS:Sh:= .str
abbrev hz:Hint:= .z
abbrev hb:Hint→Hint→Hint:= .br
abbrev hr:List Sh→Hint→Hint:= .row
abbrev hc:xg→List xg→Hint→Hint:= .call
abbrev lX:ByteArray:=⟨#[]⟩
def bA (n:Int):List TC:=[.sc (.int .i64 n)]
def jh (n:Int):List TC:=[.sc (.int .u8 n)]
def acI (n:Bool):List TC:=[.sc (.bool n)]
def bK (x:Key):List TC:=[.sc (.int .i64 x.b),.sc (.int .i64 x.a),.sc (.int .i64 x.k),.sc (.int .i64 x.c),.sc (.int .i64 x.g)]
def cn (x:mS):List TC:=[.sc (.int .i64 x.id),.sc (.int .i64 x.fr)]
def cC (x:Cell):List TC:=[.sc (.int .i64 x.g),.sc (.bool x.u),.sc (.int .i64 x.n)]
def dh (x:oO):List TC:=[.sc (.string x.name),.sc (.int .i64 x.fq),.sc (.int .i64 x.size),.sc (.bool x.fx)]
def NS (x:Kq):List TC:=[.sc (.int .i64 x.kind),.sc (.string x.name),.sc (.string x.to),.sc (.int .i64 x.a),.sc (.int .i64 x.b)]
def dA (x:Mp):List TC:=[.sc (.string x.name),.sc (.bool x.fx),.sub 1 (x.l.map bA)]
def afG (x:List Int):List TC:=[.sub 1 (x.map jh)]
def fO (x:List Key):List TC:=[.sub 5 (x.map bK)]
def bn (x:List (List Key)):List TC:=[.sub 1 (x.map fO)]
abbrev afH (t:Tree):List TC:=[.sub 1 (t.aA.map bA),.sub 1 (t.nodes.map bn)]
abbrev Ks (p:bu):List TC:=[.sub 1 (p.t.aA.map bA),.sub 1 (p.t.nodes.map bn),.sub 2 (p.aY.map cn),.sub 3 (p.cells.map cC),.sub 4 (p.aD.map dh),.sc (.int .i64 p.next)]
abbrev vI (n:Int):TV:= .c (.sc (.int .i64 n))
abbrev vB (b:Bool):TV:= .c (.sc (.bool b))
abbrev vS (s:ByteArray):TV:= .c (.sc (.string s))
abbrev nq (l:List Int):TV:= .c (.sub 1 (l.map bA))
abbrev mP (l:List Int):TV:= .c (.sub 1 (l.map jh))
abbrev eo (l:List Key):TV:= .c (.sub 5 (l.map bK))
abbrev afI (l:List (List (List Key))):TV:= .c (.sub 1 (l.map bn))
abbrev qq (l:List mS):TV:= .c (.sub 2 (l.map cn))
abbrev qt (l:List Cell):TV:= .c (.sub 3 (l.map cC))
abbrev NT (l:List oO):TV:= .c (.sub 4 (l.map dh))
abbrev cM (l:List Mp):TV:= .c (.sub 3 (l.map dA))
abbrev BD (k:Key):TV:= .ag [.sc (.int .i64 k.b),.sc (.int .i64 k.a),.sc (.int .i64 k.k),.sc (.int .i64 k.c),.sc (.int .i64 k.g)]
abbrev o8 (n:List (List Key)):TV:= .ag [.sub 1 (n.map fO)]
abbrev eR (t:Tree):TV:= .ag (afH t)
abbrev fz (p:bu):TV:= .ag (Ks p)
section
variable {i : Int}
@[simp] theorem yA {l:List Int} {K:Int→Prop}:(∃n,rowAt (l.map bA) i=some [.sc (.int .i64 n)]∧K n)↔ ∃a,ew l i=some a∧K a:=by
  rw[aQ]
  constructor
  ·rintro⟨n,h,hK⟩
   obtain⟨a,ha,h⟩:=Option.map_eq_some_iff.1 h;unfold bA at h;cases h;exact⟨_,ha,hK⟩
  ·rintro⟨a,ha,hK⟩
   exact⟨_,by rw[ha];rfl,hK⟩
@[simp] theorem amo {l:List Int} {K:Int→Prop}:(∃n,rowAt (l.map jh) i=some [.sc (.int .u8 n)]∧K n)↔ ∃a,ew l i=some a∧K a:=by
  rw[aQ]
  constructor
  ·rintro⟨n,h,hK⟩
   obtain⟨a,ha,h⟩:=Option.map_eq_some_iff.1 h;unfold jh at h;cases h;exact⟨_,ha,hK⟩
  ·rintro⟨a,ha,hK⟩
   exact⟨_,by rw[ha];rfl,hK⟩
@[simp] theorem amp {l:List Bool} {K:Bool→Prop}:(∃n,rowAt (l.map acI) i=some [.sc (.bool n)]∧K n)↔ ∃a,ew l i=some a∧K a:=by
  rw[aQ]
  constructor
  ·rintro⟨n,h,hK⟩
   obtain⟨a,ha,h⟩:=Option.map_eq_some_iff.1 h;unfold acI at h;cases h;exact⟨_,ha,hK⟩
  ·rintro⟨a,ha,hK⟩
   exact⟨_,by rw[ha];rfl,hK⟩
@[simp] theorem pZ {l:List Key} {K:Int→Int→Int→Int→Int→Prop}:(∃b a k c g,rowAt (l.map bK) i=some [.sc (.int .i64 b),.sc (.int .i64 a),.sc (.int .i64 k),.sc (.int .i64 c),.sc (.int .i64 g)]∧K b a k c g)↔ ∃x,ew l i=some x∧K x.b x.a x.k x.c x.g:=by
  rw[aQ]
  constructor
  ·rintro⟨_,_,_,_,_,h,hK⟩
   obtain⟨a,ha,h⟩:=Option.map_eq_some_iff.1 h;unfold bK at h;cases h;exact⟨_,ha,hK⟩
  ·rintro⟨a,ha,hK⟩
   exact⟨_,_,_,_,_,by rw[ha];rfl,hK⟩
@[simp] theorem F5 {l:List mS} {K:Int→Int→Prop}:(∃b a,rowAt (l.map cn) i=some [.sc (.int .i64 b),.sc (.int .i64 a)]∧K b a)↔ ∃x,ew l i=some x∧K x.id x.fr:=by
  rw[aQ]
  constructor
  ·rintro⟨_,_,h,hK⟩
   obtain⟨a,ha,h⟩:=Option.map_eq_some_iff.1 h;unfold cn at h;cases h;exact⟨_,ha,hK⟩
  ·rintro⟨a,ha,hK⟩
   exact⟨_,_,by rw[ha];rfl,hK⟩
@[simp] theorem um {l:List Cell} {K:Int→Bool→Int→Prop}:(∃g u n,rowAt (l.map cC) i=some [.sc (.int .i64 g),.sc (.bool u),.sc (.int .i64 n)]∧K g u n)↔ ∃x,ew l i=some x∧K x.g x.u x.n:=by
  rw[aQ]
  constructor
  ·rintro⟨_,_,_,h,hK⟩
   obtain⟨a,ha,h⟩:=Option.map_eq_some_iff.1 h;unfold cC at h;cases h;exact⟨_,ha,hK⟩
  ·rintro⟨a,ha,hK⟩
   exact⟨_,_,_,by rw[ha];rfl,hK⟩
@[simp] theorem wL {l:List oO} {K:ByteArray→Int→Int→Bool→Prop}:(∃s a z f,rowAt (l.map dh) i=some [.sc (.string s),.sc (.int .i64 a),.sc (.int .i64 z),.sc (.bool f)]∧K s a z f)↔ ∃x,ew l i=some x∧K x.name x.fq x.size x.fx:=by
  rw[aQ]
  constructor
  ·rintro⟨_,_,_,_,h,hK⟩
   obtain⟨a,ha,h⟩:=Option.map_eq_some_iff.1 h;unfold dh at h;cases h;exact⟨_,ha,hK⟩
  ·rintro⟨a,ha,hK⟩
   exact⟨_,_,_,_,by rw[ha];rfl,hK⟩
@[simp] theorem aoE {l:List Kq} {K:Int→ByteArray→ByteArray→Int→Int→Prop}:(∃k s t a b,rowAt (l.map NS) i=some [.sc (.int .i64 k),.sc (.string s),.sc (.string t),.sc (.int .i64 a),.sc (.int .i64 b)]∧K k s t a b)↔ ∃x,ew l i=some x∧K x.kind x.name x.to x.a x.b:=by
  rw[aQ]
  constructor
  ·rintro⟨_,_,_,_,_,h,hK⟩
   obtain⟨a,ha,h⟩:=Option.map_eq_some_iff.1 h;unfold NS at h;cases h;exact⟨_,ha,hK⟩
  ·rintro⟨a,ha,hK⟩
   exact⟨_,_,_,_,_,by rw[ha];rfl,hK⟩
@[simp] theorem yB {l:List Mp} {K:ByteArray→Bool→List (List TC)→Prop}:(∃s f r,rowAt (l.map dA) i=some [.sc (.string s),.sc (.bool f),.sub 1 r]∧K s f r)↔ ∃x,ew l i=some x∧K x.name x.fx (x.l.map bA):=by
  rw[aQ]
  constructor
  ·rintro⟨_,_,_,h,hK⟩
   obtain⟨a,ha,h⟩:=Option.map_eq_some_iff.1 h;unfold dA at h;cases h;exact⟨_,ha,hK⟩
  ·rintro⟨a,ha,hK⟩
   exact⟨_,_,_,by rw[ha];rfl,hK⟩
@[simp] theorem I0 {l:List (List Key)} {K:List (List TC)→Prop}:(∃r,rowAt (l.map fO) i=some [.sub 5 r]∧K r)↔ ∃x,ew l i=some x∧K (x.map bK):=by
  rw[aQ]
  constructor
  ·rintro⟨_,h,hK⟩
   obtain⟨a,ha,h⟩:=Option.map_eq_some_iff.1 h;unfold fO at h;cases h;exact⟨_,ha,hK⟩
  ·rintro⟨a,ha,hK⟩
   exact⟨_,by rw[ha];rfl,hK⟩
@[simp] theorem Ht {l:List (List (List Key))} {K:List (List TC)→Prop}:(∃r,rowAt (l.map bn) i=some [.sub 1 r]∧K r)↔ ∃x,ew l i=some x∧K (x.map fO):=by
  rw[aQ]
  constructor
  ·rintro⟨_,h,hK⟩
   obtain⟨a,ha,h⟩:=Option.map_eq_some_iff.1 h;unfold bn at h;cases h;exact⟨_,ha,hK⟩
  ·rintro⟨a,ha,hK⟩
   exact⟨_,by rw[ha];rfl,hK⟩
@[simp] theorem alf {l:List (List Int)} {K:List (List TC)→Prop}:(∃r,rowAt (l.map afG) i=some [.sub 1 r]∧K r)↔ ∃x,ew l i=some x∧K (x.map jh):=by
  rw[aQ]
  constructor
  ·rintro⟨_,h,hK⟩
   obtain⟨a,ha,h⟩:=Option.map_eq_some_iff.1 h;unfold afG at h;cases h;exact⟨_,ha,hK⟩
  ·rintro⟨a,ha,hK⟩
   exact⟨_,by rw[ha];rfl,hK⟩
end
@[simp] theorem natAdd (a b:Nat):Nat.add a b=a+b:=rfl
@[simp] theorem acJ {α:Type} (a b:List α):List.append a b=a++b:=rfl
theorem iG (l:List Int):bF (l.map bA)=true:=yz fun r hr c hc=>by
 obtain⟨a,_,rfl⟩:=List.mem_map.1 hr;unfold bA at hc;simp only[j6] at hc;exact⟨_,hc⟩
theorem abl (l:List Int):bF (l.map jh)=true:=yz fun r hr c hc=>by
 obtain⟨a,_,rfl⟩:=List.mem_map.1 hr;unfold jh at hc;simp only[j6] at hc;exact⟨_,hc⟩
theorem lQ (l:List Key):bF (l.map bK)=true:=yz fun r hr c hc=>by
 obtain⟨a,_,rfl⟩:=List.mem_map.1 hr;unfold bK at hc;simp only[dJ,List.not_mem_nil,or_false] at hc;rcases hc with h|h|h|h|h<;>exact⟨_,h⟩
theorem BE (l:List mS):bF (l.map cn)=true:=yz fun r hr c hc=>by
 obtain⟨a,_,rfl⟩:=List.mem_map.1 hr;unfold cn at hc;simp only[dJ,List.not_mem_nil,or_false] at hc;rcases hc with h|h<;>exact⟨_,h⟩
theorem Rw (l:List Cell):bF (l.map cC)=true:=yz fun r hr c hc=>by
 obtain⟨a,_,rfl⟩:=List.mem_map.1 hr;unfold cC at hc;simp only[dJ,List.not_mem_nil,or_false] at hc;rcases hc with h|h|h<;>exact⟨_,h⟩
theorem xZ (l:List oO):bF (l.map dh)=true:=yz fun r hr c hc=>by
 obtain⟨a,_,rfl⟩:=List.mem_map.1 hr;unfold dh at hc;simp only[dJ,List.not_mem_nil,or_false] at hc;rcases hc with h|h|h|h<;>exact⟨_,h⟩
@[simp] theorem CV (v:Value):bF [[.sc v]]=true:=yz fun r hr c hc=>by
  simp only[j6] at hr;subst hr;simp only[j6] at hc;exact⟨_,hc⟩
attribute [simp] iG abl lQ BE Rw xZ
end Go.T
namespace Go.T
theorem VW {α:Type} (g:α→α): ∀(l:List α) (i:Nat) (a:α),l[i]?=some a→l.modify i g=l.set i (g a)
 |[],i,a,h=>by simp at h
 |x::r,0,a,h=>by simp only[fu,bq] at h;subst h;rfl
 |x::r,i+1,a,h=>by
  simp only[tU] at h;rw[List.modify_succ_cons,List.set_cons_succ,VW g r i a h]
theorem cu {α:Type} {e:α→List TC} {l:List α} {i:Int} {f:Nat} {cs:List TC} {g:α→α} (he: ∀a,(e a).take f++cs++(e a).drop (f+cs.length)=e (g a)):setRow (l.map e) i f cs=(l.modify i.toNat g).map e:=by
 unfold setRow;rw[me]
 cases h:l[i.toNat]? with
 |none=>
  have:l.length≤i.toNat:=List.getElem?_eq_none_iff.1 h;simp only[Option.map_none];rw[List.modify_eq_self this]
 |some a=>
  simp only[nT];rw[he,VW g l _ a h,List.map_set]
theorem afJ {α:Type} {l:List α} {i:Int} {g:α→α}:ew (l.modify i.toNat g) i=(ew l i).map g:=by
 unfold ew
 split
 ·simp
 ·rfl
theorem mod_mod {α:Type} {l:List α} {i:Nat} {f g:α→α}:(l.modify i f).modify i g=l.modify i (fun x=>g (f x)):=by
 rw[List.modify_modify_eq];rfl
theorem Zc {α β:Type} {o:Option α} {f:α→β} {K:β→Prop}:(∃x,o.map f=some x∧K x)↔ ∃x,o=some x∧K (f x):=by
 cases o with
 |none=>simp
 |some a=>simp
@[simp] theorem alg {l:List Key} {i:Int} {v:Int}:setRow (l.map bK) i 0 [.sc (.int .i64 v)]=(l.modify i.toNat fun x=>{x with b:=v}).map bK:=cu fun a=>rfl
@[simp] theorem alh {l:List Key} {i:Int} {v:Int}:setRow (l.map bK) i 1 [.sc (.int .i64 v)]=(l.modify i.toNat fun x=>{x with a:=v}).map bK:=cu fun a=>rfl
@[simp] theorem ali {l:List Key} {i:Int} {v:Int}:setRow (l.map bK) i 2 [.sc (.int .i64 v)]=(l.modify i.toNat fun x=>{x with k:=v}).map bK:=cu fun a=>rfl
@[simp] theorem alj {l:List Key} {i:Int} {v:Int}:setRow (l.map bK) i 3 [.sc (.int .i64 v)]=(l.modify i.toNat fun x=>{x with c:=v}).map bK:=cu fun a=>rfl
@[simp] theorem alk {l:List Key} {i:Int} {v:Int}:setRow (l.map bK) i 4 [.sc (.int .i64 v)]=(l.modify i.toNat fun x=>{x with g:=v}).map bK:=cu fun a=>rfl
@[simp] theorem am0 {l:List Key} {i:Int} {v0:Int} {v1:Int} {v2:Int} {v3:Int} {v4:Int}:setRow (l.map bK) i 0 [.sc (.int .i64 v0),.sc (.int .i64 v1),.sc (.int .i64 v2),.sc (.int .i64 v3),.sc (.int .i64 v4)]=(l.modify i.toNat fun _=>⟨v0,v1,v2,v3,v4⟩).map bK:=cu fun a=>rfl
@[simp] theorem akF {l:List mS} {i:Int} {v:Int}:setRow (l.map cn) i 0 [.sc (.int .i64 v)]=(l.modify i.toNat fun x=>{x with id:=v}).map cn:=cu fun a=>rfl
@[simp] theorem akG {l:List mS} {i:Int} {v:Int}:setRow (l.map cn) i 1 [.sc (.int .i64 v)]=(l.modify i.toNat fun x=>{x with fr:=v}).map cn:=cu fun a=>rfl
@[simp] theorem am1 {l:List mS} {i:Int} {v0:Int} {v1:Int}:setRow (l.map cn) i 0 [.sc (.int .i64 v0),.sc (.int .i64 v1)]=(l.modify i.toNat fun _=>⟨v0,v1⟩).map cn:=cu fun a=>rfl
@[simp] theorem akH {l:List Cell} {i:Int} {v:Int}:setRow (l.map cC) i 0 [.sc (.int .i64 v)]=(l.modify i.toNat fun x=>{x with g:=v}).map cC:=cu fun a=>rfl
@[simp] theorem adC {l:List Cell} {i:Int} {v:Bool}:setRow (l.map cC) i 1 [.sc (.bool v)]=(l.modify i.toNat fun x=>{x with u:=v}).map cC:=cu fun a=>rfl
@[simp] theorem adD {l:List Cell} {i:Int} {v:Int}:setRow (l.map cC) i 2 [.sc (.int .i64 v)]=(l.modify i.toNat fun x=>{x with n:=v}).map cC:=cu fun a=>rfl
@[simp] theorem ahV {l:List Cell} {i:Int} {v0:Int} {v1:Bool} {v2:Int}:setRow (l.map cC) i 0 [.sc (.int .i64 v0),.sc (.bool v1),.sc (.int .i64 v2)]=(l.modify i.toNat fun _=>⟨v0,v1,v2⟩).map cC:=cu fun a=>rfl
@[simp] theorem ai5 {l:List oO} {i:Int} {v:ByteArray}:setRow (l.map dh) i 0 [.sc (.string v)]=(l.modify i.toNat fun x=>{x with name:=v}).map dh:=cu fun a=>rfl
@[simp] theorem abm {l:List oO} {i:Int} {v:Int}:setRow (l.map dh) i 1 [.sc (.int .i64 v)]=(l.modify i.toNat fun x=>{x with fq:=v}).map dh:=cu fun a=>rfl
@[simp] theorem Zd {l:List oO} {i:Int} {v:Int}:setRow (l.map dh) i 2 [.sc (.int .i64 v)]=(l.modify i.toNat fun x=>{x with size:=v}).map dh:=cu fun a=>rfl
@[simp] theorem akI {l:List oO} {i:Int} {v:Bool}:setRow (l.map dh) i 3 [.sc (.bool v)]=(l.modify i.toNat fun x=>{x with fx:=v}).map dh:=cu fun a=>rfl
@[simp] theorem am2 {l:List oO} {i:Int} {v0:ByteArray} {v1:Int} {v2:Int} {v3:Bool}:setRow (l.map dh) i 0 [.sc (.string v0),.sc (.int .i64 v1),.sc (.int .i64 v2),.sc (.bool v3)]=(l.modify i.toNat fun _=>⟨v0,v1,v2,v3⟩).map dh:=cu fun a=>rfl
@[simp] theorem ajW {l:List Kq} {i:Int} {v:Int}:setRow (l.map NS) i 0 [.sc (.int .i64 v)]=(l.modify i.toNat fun x=>{x with kind:=v}).map NS:=cu fun a=>rfl
@[simp] theorem ajX {l:List Kq} {i:Int} {v:ByteArray}:setRow (l.map NS) i 1 [.sc (.string v)]=(l.modify i.toNat fun x=>{x with name:=v}).map NS:=cu fun a=>rfl
@[simp] theorem alm {l:List Kq} {i:Int} {v:ByteArray}:setRow (l.map NS) i 2 [.sc (.string v)]=(l.modify i.toNat fun x=>{x with to:=v}).map NS:=cu fun a=>rfl
@[simp] theorem amq {l:List Kq} {i:Int} {v:Int}:setRow (l.map NS) i 3 [.sc (.int .i64 v)]=(l.modify i.toNat fun x=>{x with a:=v}).map NS:=cu fun a=>rfl
@[simp] theorem amr {l:List Kq} {i:Int} {v:Int}:setRow (l.map NS) i 4 [.sc (.int .i64 v)]=(l.modify i.toNat fun x=>{x with b:=v}).map NS:=cu fun a=>rfl
@[simp] theorem aoF {l:List Kq} {i:Int} {v0:Int} {v1:ByteArray} {v2:ByteArray} {v3:Int} {v4:Int}:setRow (l.map NS) i 0 [.sc (.int .i64 v0),.sc (.string v1),.sc (.string v2),.sc (.int .i64 v3),.sc (.int .i64 v4)]=(l.modify i.toNat fun _=>⟨v0,v1,v2,v3,v4⟩).map NS:=cu fun a=>rfl
@[simp] theorem ai6 {l:List Mp} {i:Int} {v:ByteArray}:setRow (l.map dA) i 0 [.sc (.string v)]=(l.modify i.toNat fun x=>{x with name:=v}).map dA:=cu fun a=>rfl
@[simp] theorem akJ {l:List Mp} {i:Int} {v:Bool}:setRow (l.map dA) i 1 [.sc (.bool v)]=(l.modify i.toNat fun x=>{x with fx:=v}).map dA:=cu fun a=>rfl
@[simp] theorem Kt {l:List Mp} {i:Int} {v:List Int}:setRow (l.map dA) i 2 [.sub 1 (v.map bA)]=(l.modify i.toNat fun x=>{x with l:=v}).map dA:=cu fun a=>rfl
@[simp] theorem am3 {l:List Mp} {i:Int} {v0:ByteArray} {v1:Bool} {v2:List Int}:setRow (l.map dA) i 0 [.sc (.string v0),.sc (.bool v1),.sub 1 (v2.map bA)]=(l.modify i.toNat fun _=>⟨v0,v1,v2⟩).map dA:=cu fun a=>rfl
@[simp] theorem afK {l:List (Int)} {i:Int} {v:Int}:setRow (l.map bA) i 0 [.sc (.int .i64 v)]=(l.modify i.toNat fun _=>v).map bA:=cu fun a=>rfl
@[simp] theorem ams {l:List (Int)} {i:Int} {v:Int}:setRow (l.map jh) i 0 [.sc (.int .u8 v)]=(l.modify i.toNat fun _=>v).map jh:=cu fun a=>rfl
@[simp] theorem amt {l:List (Bool)} {i:Int} {v:Bool}:setRow (l.map acI) i 0 [.sc (.bool v)]=(l.modify i.toNat fun _=>v).map acI:=cu fun a=>rfl
@[simp] theorem am4 {l:List (List Key)} {i:Int} {v:List Key}:setRow (l.map fO) i 0 [.sub 5 (v.map bK)]=(l.modify i.toNat fun _=>v).map fO:=cu fun a=>rfl
@[simp] theorem ahW {l:List (List (List Key))} {i:Int} {v:List (List Key)}:setRow (l.map bn) i 0 [.sub 1 (v.map fO)]=(l.modify i.toNat fun _=>v).map bn:=cu fun a=>rfl
end Go.T
namespace Go.T
theorem bV {α:Type} (l:List α) (P:Nat→Prop) (fin:P l.length) (step: ∀i a,i<l.length→l[i]?=some a→l.drop i=a::l.drop (i+1)→l.take (i+1)=l.take i++[a]→P (i+1)→P i):P 0:=by
 have: ∀k i,i+k=l.length→P i:=by
  intro k
  induction k with
  |zero=>intro i h;have:i=l.length:=by omega
         subst this;exact fin
  |succ k ih=>
   intro i h
   have hi:i<l.length:=by omega
   refine step i l[i] hi (bC hi) (zF hi) ?_ (ih (i+1) au);rw[List.take_add_one,bC hi];rfl
 exact this l.length 0 au
def tot {α:Type} (w:α→Nat):List α→Nat
 |[]=>0
 |a::r=>w a+tot w r
theorem Rx {α:Type} (w:α→Nat): ∀(l m:List α),tot w (l++m)=tot w l+tot w m
 |[],m=>by simp[tot]
 |a::r,m=>by simp only[FG,tot,Rx w r];omega
theorem xE {α:Type} {w:α→Nat}: ∀{l:List α} {a:α},a∈l→w a≤tot w l
 |[],_,h=>by cases h
 |b::r,a,h=>by
  simp only[tot];rcases dJ.1 h with rfl|h
  ·omega
  ·have:=xE (w:=w) h;omega
theorem qH {α:Type} {w:α→Nat} {l:List α} {i:Nat} {a:α} (h:l[i]?=some a):w a≤tot w l:=xE (iV h)
def c8 (s:List Key):Nat:=s.length
def aW (n:List (List Key)):Nat:=n.length+tot c8 n
def xF (n:List (List (List Key))):Nat:=n.length+tot aW n
def dZ (t:Tree):Nat:=t.aA.length+xF t.nodes
def xh (v:oO):Nat:=v.name.size
def sO (l:List oO):Nat:=l.length+tot xh l
def aV (p:bu):Nat:=dZ p.t+p.aY.length+p.cells.length+sO p.aD
end Go.T
namespace Go.T
section
variable {C : mG} {f : FuncId} {vs : List TV}
theorem zA {x b:Bool} (h:ai C f vs (vB x) []):ai C f vs (vB b) []↔b=x:=⟨fun h'=>by have:=(h.det h').1;simpa using this,fun e=>e▸h⟩
theorem ajY {x b:Int} (h:ai C f vs (vI x) []):ai C f vs (vI b) []↔b=x:=⟨fun h'=>by have:=(h.det h').1;simpa using this,fun e=>e▸h⟩
theorem abn {z:Nat} {x b:RR} (h:ai C f vs (.c (.sub z x)) []):ai C f vs (.c (.sub z b)) []↔b=x:=⟨fun h'=>by have:=(h.det h').1;simpa using this,fun e=>e▸h⟩
theorem aln {x b:Int} {y c:Bool} (h:ai C f vs (.tu [(0,[iI x]),(0,[iB y])]) []):ai C f vs (.tu [(0,[iI b]),(0,[iB c])]) []↔b=x∧c=y:=⟨fun h'=>by have:=(h.det h').1;simpa using this,fun⟨e,e'⟩=>e▸e'▸h⟩
end
theorem VX {s:ByteArray} {i:Nat} (h:i<s.size): ∃n:Int,va s i=some n∧0≤n∧n≤255:=by
 unfold va;rw[aR (Int.natCast_nonneg i),oF];have:s[i]?=some s[i]:=getElem?_pos s i h;rw[this];have:=(s[i]).toNat_lt;refine⟨_,rfl,?_,?_⟩<;>show _≤_<;>simp only[]<;>omega
theorem Ze {n:Int} (h: -9223372036854775808≤n∧n≤9223372036854775807):vV .i64 n=n:=by unfold vV;exact IntWalk.i64_in _ h
def iU (a lo hi:Int):Bool:=decide (lo≤a∧a≤hi)
def jj (a:Int):Bool:=iU a 0 65535
def fM (x:Key):Bool:=iU x.b 0 15&&iU x.a 1 60&&iU x.k 0 2&&(if x.k=1 then iU x.c 0 23&&iU x.g 0 999 else decide (x.c=0)&&decide (x.g=0))
def eJ (x y:Key):Bool:=decide (x.b<y.b∨(x.b=y.b∧x.a<y.a))
def lC (x y:Key):Bool:=decide (x.b=y.b∧x.a=y.a)
def dK (n:Nat) (f:Nat→Bool):Bool:=(List.range' 0 n).all f
theorem nK {i n:Nat} (h:i<n):List.range' i (n-i)=i::List.range' (i+1) (n-(i+1)):=by
 obtain⟨k,hk⟩: ∃k,n-i=k+1:=⟨n-i-1,by omega⟩;rw[hk,show n-(i+1)=k by omega]
 rfl
theorem rK (n:Nat) (P:Nat→Prop) (fin:P n) (step: ∀i,i<n→P (i+1)→P i):P 0:=by
 have: ∀k i,i+k=n→P i:=by
  intro k
  induction k with
  |zero=>intro i h;have:i=n:=by omega
         subst this;exact fin
  |succ k ih=>intro i h;exact step i au (ih (i+1) au)
 exact this n 0 au
theorem acK {α:Type} (f g:α→Bool): ∀l:List α,l.all (fun x=>f x&&g x)=(l.all f&&l.all g)
 |[]=>rfl
 |a::r=>by simp only[tP,acK f g r];cases f a<;>cases g a<;>simp
theorem afL (n:Nat) (f g:Nat→Bool):dK n (fun i=>f i&&g i)=(dK n f&&dK n g):=acK f g _
theorem uo {n:Nat} {f:Nat→Bool}:dK n f=true↔ ∀i,i<n→f i=true:=by
 unfold dK;rw[List.all_eq_true]
 constructor
 ·intro h i hi;exact h i (by simp[List.mem_range'];exact hi)
 ·intro h i hi
  simp[List.mem_range'] at hi;exact h i hi
def atL {α:Type} (l:List α) (f:α→Bool) (i:Nat):Bool:=match l[i]? with|some a=>f a|none=>true
def jy {α:Type} (l:List α) (f:α→α→Bool):Nat→Bool
 |0=>true
 |k+1=>match l[k]?,l[k+1]? with|some x,some y=>f x y|_,_=>true
theorem ahX {α:Type} (l:List α) (f:α→Bool):dK l.length (atL l f)=l.all f:=by
 rw[Bool.eq_iff_iff,uo,List.all_eq_true]
 constructor
 ·intro h a ha
  obtain⟨i,hi,rfl⟩:=List.getElem_of_mem ha;have:=h i hi;simpa [atL,hi] using this
 ·intro h i hi
  simp only[atL,bC hi];exact h _ (tV hi)
def ahY (l:List Key) (i:Nat):Bool:=atL l fM i&&jy l eJ i
def Ku (l:List Key):Bool:=dK l.length (ahY l)&&decide (l.length≤60)
theorem Kv (l:List Key):Ku l=(l.all fM&&(dK l.length (jy l eJ)&&decide (l.length≤60))):=by
 rw[←Bool.and_assoc,←ahX,←afL];rfl
def eK:Key:=⟨0,0,0,0,0⟩
def setAt (l:List Key) (b a:Int):Option Key:=l.find? fun x=>decide (x.b=b∧x.a=a)
def fm (k:Key):Bool→List Key→List Key
 |put,[]=>if put then [] else [k]
 |put,x::r=>(if !put&& !eJ x k then [k] else [])++(if lC x k then [] else [x])++fm k (put|| !eJ x k) r
def eB (l:List Key) (k:Key):List Key:=fm k false l
theorem NU (k:Key): ∀(l:List Key) (put:Bool),(fm k put l).length≤l.length+(if put then 0 else 1)
 |[],put=>by simp only[fm];split<;>simp
 |x::r,put=>by
  have:=NU k r (put|| !eJ x k);simp only[fm,ct,gG]
  have h1:(if lC x k then([]:List Key) else [x]).length≤1:=by split<;>simp
  revert h1
  generalize (if lC x k then([]:List Key) else [x])=m;intro h1
  cases put<;>cases hk:eJ x k<;>simp[hk] at this ⊢ <;>omega
theorem mq (l:List Key) (k:Key):(eB l k).length≤l.length+1:=by have:=NU k l false;simpa [eB] using this
def cj (old new:List Key):List Key:=new.foldl eB old
theorem vK: ∀(new old:List Key),(cj old new).length≤old.length+new.length
 |[],old=>by simp[cj]
 |x::r,old=>by
  have:=vK r (eB old x);have h2:=mq old x;simp only[cj,List.foldl_cons,gG] at this ⊢;omega
def kH (l:List Key):List Key:=l.filter fun k=> !decide (k.k=0)
def tE (n:List (List Key)):List Key:=n.foldl cj []
def aB (n:List (List Key)):List Key:=kH (tE n)
theorem DA: ∀(n:List (List Key)) (a:List Key),(n.foldl cj a).length≤a.length+tot c8 n
 |[],a=>by simp[tot]
 |s::r,a=>by
  have:=DA r (cj a s);have h2:=vK s a;simp only[List.foldl_cons,tot,c8] at this ⊢;omega
theorem cY (n:List (List Key)):(aB n).length≤tot c8 n:=by
 have h1:=DA n [];have h2:=QD (fun k:Key=> !decide (k.k=0)) (tE n);simp only[List.length_nil,lG] at h1;exact bQ h2 h1
def gi (n:List (List Key)):Nat:=tot c8 n
def gn (n:List (List Key)):Bool:=n.all (fun s=>Ku s&& !decide (s.length=0))&&decide (n.length≤3)&&decide (gi n≤8)
def cE (l:List Key):List (List Key):=if l.length=0 then [] else [l]
def az (t:Tree):List Key:=t.nodes.flatMap aB
theorem Kw: ∀(l:List (List (List Key))),(l.flatMap aB).length≤tot aW l
 |[]=>by simp[tot]
 |n::r=>by
  have:=Kw r;have h2:=cY n;simp only[List.flatMap_cons,ct,tot,aW];omega
theorem jk (t:Tree):(az t).length≤dZ t:=by
 have:=Kw t.nodes;unfold az dZ xF;omega
def iq (t:Tree) (b:Int):List Key:=(az t).filter fun k=>decide (k.b=b)
theorem Ry (t:Tree) (b:Int):(iq t b).length≤(az t).length:=QD _ _
def dz (b a:Int):Int:=aF (Kr 64 b) a
def fW {α:Type} (p:α→Bool):List α→Int→Int
 |[],_=> -1
 |a::r,i=>if p a then i else fW p r (i+1)
theorem Zf {α:Type} (p:α→Bool): ∀(l:List α) (i:Int),0≤i→decide (0≤fW p l i)=l.any p
 |[],i,_=>by simp[fW]
 |a::r,i,h=>by
  by_cases hp:p a=true
  ·simp[fW,hp,h]
  ·have:=Zf p r (i+1) au
   simp only[fW,aJ hp,List.any_cons];rw[this];simp[hp]
theorem L8 {α:Type} (p:α→Bool): ∀(l:List α) (i:Int),0≤i→(fW p l i= -1∧ ∀a∈l,p a=false)∨ ∃(j:Nat) (a:α),fW p l i=i+j∧l[j]?=some a∧p a=true∧j<l.length∧ ∀k,k<j→ ∀b,l[k]?=some b→p b=false
 |[],i,_=> .inl ⟨rfl,fun a h=>by cases h⟩
 |a::r,i,h=>by
  simp only[fW]
  cases hp:p a with
  |true=>exact .inr ⟨0,a,by simp,rfl,hp,by simp,fun k hk=>by omega⟩
  |false=>
   rcases L8 p r (i+1) au with⟨h1,h2⟩|⟨j,b,h1,h2,h3,h4,h5⟩
   ·refine .inl ⟨by simpa using h1,fun b hb=> ?_⟩
    rcases dJ.1 hb with rfl|hb
    ·exact hp
    ·exact h2 b hb
   ·refine .inr ⟨j+1,b,by simp[h1];omega,h2,h3,by simp;omega,fun k hk c hc=> ?_⟩
    cases k with
    |zero=>simp at hc;rw[←hc];exact hp
    |succ k=>exact h5 k au c hc
theorem Qv {α:Type} (p:α→Bool) (l:List α): -1≤fW p l 0∧fW p l 0<l.length:=by
 rcases L8 p l 0 au with⟨h,_⟩|⟨j,a,h,_,_,h4,_⟩<;>omega
theorem rL {α:Type} (p:α→Bool) (l:List α) (h: ¬fW p l 0<0): ∃a,ew l (fW p l 0)=some a∧p a=true:=by
 rcases L8 p l 0 au with⟨h1,_⟩|⟨j,a,h1,h2,h3,_⟩
 ·omega
 ·refine⟨a,?_,h3⟩
  rw[h1,Int.zero_add,aK];exact h2
def ie (l:List mS) (id:Int):Int:=fW (fun a=>decide (a.id=id)) l 0
theorem afM (l:List mS) (id:Int): -1≤ie l id∧ie l id<l.length:=Qv _ _
theorem L9 (l:List mS) (id:Int) (h: ¬ie l id<0): ∃a,ew l (ie l id)=some a∧a.id=id:=by
 obtain⟨a,h1,h2⟩:=rL _ l h;exact⟨a,h1,th h2⟩
def F6 (l:List mS):Nat→Int→List Int
 |0,_=>[]
 |n+1,id=>if ie l id<0 then [] else id::(match ew l (ie l id) with|some a=>F6 l n a.fr|none=>[])
def pathOf (l:List mS) (id:Int):List Int:=F6 l (l.length+1) id
theorem VY (l:List mS): ∀(n:Nat) (id:Int),(F6 l n id).length≤n
 |0,_=>by simp[F6]
 |n+1,id=>by
  simp only[F6]
  split
  ·simp
  ·split
   ·have:=VY l n
    simp only[gG];rename_i a _;have:=this a.fr;omega
   ·simp
theorem I1 (l:List mS) (id:Int):(pathOf l id).length≤l.length+1:=VY l _ id
def HI (l:List Int) (n:Int):Bool:=l.any fun a=>decide (a=n)
def Kx (path:List Int):Key×Bool→Key→Key×Bool:=fun p k=>if HI path k.a&&(!p.2||decide (p.1.a<k.a)) then(k,true) else p
def near (keys:List Key) (path:List Int):Key×Bool:=keys.foldl (Kx path) (eK,false)
def o9 (t:Tree) (l:List mS) (b id:Int):Key×Bool:=near (iq t b) (pathOf l id)
def x8 (t:Tree) (l:List mS) (b id:Int):Key×Bool:=near (iq t b) ((pathOf l id).drop 1)
theorem afN (keys:List Key):near keys []=(eK,false):=by
 unfold near
 suffices ∀(l:List Key),l.foldl (Kx []) (eK,false)=(eK,false) from this keys
 intro l
 induction l with
 |nil=>rfl
 |cons a r ih=>simpa [Kx,HI] using ih
def xj (t:Tree) (l:List mS) (k:Key) (id:Int):Bool:=(o9 t l k.b id).2&&decide ((o9 t l k.b id).1.a=k.a)
def VZ (p:bu) (k:Key):Bool:=p.aD.any fun v=>decide (k.b<v.size)&&xj p.t p.aY k v.fq
def gD (l:List mS) (id:Int):List Int:=if id=0 then [] else(l.filter fun a=>decide (a.fr=id)).map (·.id)
theorem abo (l:List mS) (id:Int):(gD l id).length≤l.length:=by
 unfold gD
 split
 ·simp
 ·rw[cq];exact QD _ _
abbrev tKB (p:Key×Bool):TV:= .tu [(1,[iI p.1.b,iI p.1.a,iI p.1.k,iI p.1.c,iI p.1.g]),(0,[iB p.2])]
def afO (n:Int):Bool:=iU n 97 122||iU n 48 57
def fE (s:ByteArray) (i:Nat):Bool:=match va s i with|some n=>afO n|none=>true
def dR (s:ByteArray):Bool:=dK s.size (fE s)&&iU s.size 1 6
def nR (l:List mS) (i:Nat):Bool:=atL l (fun a=>iU a.id 1 60) i&&(jy l (fun x y=>decide (x.id<y.id)) i&&atL l (fun a=>decide (a.fr=0)|| !decide (ie (l.take i) a.fr<0)) i)
def iJ (l:List mS):Bool:=dK l.length (nR l)&&decide (l.length≤16)
def dU (l:List oO) (s:ByteArray):Int:=fW (fun v=>decide (v.name=s)) l 0
def rM (l:List oO) (id:Int):Bool:= !l.any fun v=>decide (v.fq=id)
def cellAt (l:List Cell) (i gen:Int):Int×Bool:=match ew l i with
 |none=>(0,false)
 |some c=>if c.u=true∧c.g=gen then(c.n,true) else(0,false)
def fF (l:List Cell):Nat:=(l.filter (·.u)).length
def sP (c:Cell):Bool:=iU c.g 0 999&&(jj c.n&&(c.u||decide (c.n=0)))
def gK (l:List Cell):Bool:=l.all sP&&decide (l.length=24)
abbrev tIB (p:Int×Bool):TV:= .tu [(0,[iI p.1]),(0,[iB p.2])]
@[simp] theorem Aa {l:List Key} {b a k c g:Int}:List.append (l.map bK) [[iI b,iI a,iI k,iI c,iI g]]=(l++[(⟨b,a,k,c,g⟩:Key)]).map bK:=by simp[bK]
@[simp] theorem CW {l:List Int} {b:Int}:List.append (l.map bA) [[iI b]]=(l++[b]).map bA:=by simp[bA]
@[simp] theorem alo {l:List Int} {b:Int}:List.append (l.map jh) [[.sc (.int .u8 b)]]=(l++[b]).map jh:=by simp[jh]
@[simp] theorem xG {l:List mS} {b a:Int}:List.append (l.map cn) [[iI b,iI a]]=(l++[(⟨b,a⟩:mS)]).map cn:=by simp[cn]
@[simp] theorem ahZ {l:List oO} {s:ByteArray} {b a:Int} {q:Bool}:List.append (l.map dh) [[iS s,iI b,iI a,iB q]]=(l++[(⟨s,b,a,q⟩:oO)]).map dh:=by simp[dh]
@[simp] theorem amu {l:List (List Key)} {s:List Key}:List.append (l.map fO) [[.sub 5 (s.map bK)]]=(l++[s]).map fO:=by simp[fO]
@[simp] theorem BF {l:List (List (List Key))} {s:List (List Key)}:List.append (l.map bn) [[.sub 1 (s.map fO)]]=(l++[s]).map bn:=by simp[bn]
@[simp] theorem xH {l:List Mp} {s:ByteArray} {f:Bool} {r:List Int}:List.append (l.map dA) [[iS s,iB f,.sub 1 (r.map bA)]]=(l++[(⟨s,f,r⟩:Mp)]).map dA:=by simp[dA]
@[simp] theorem jL {α:Type} {e:α→List TC} {l m:List α}:List.append (l.map e) (m.map e)=(l++m).map e:=by simp
@[simp] theorem alp:([]:RR)=([]:List Key).map bK↔True:=by simp
@[simp] theorem dL {α:Type} (l:List α):Nat.succ (List.length l)=l.length+1:=rfl
theorem oP (b a k c g:Int):bF [[iI b,iI a,iI k,iI c,iI g]]=true:=lQ [⟨b,a,k,c,g⟩]
theorem sQ (b a:Int):bF [[iI b,iI a]]=true:=BE [⟨b,a⟩]
theorem Rz (s:ByteArray) (b a:Int) (q:Bool):bF [[iS s,iI b,iI a,iB q]]=true:=xZ [⟨s,b,a,q⟩]
attribute [simp] oP sQ Rz
@[simp] theorem fA (k:Key):(⟨k.b,k.a,k.k,k.c,k.g⟩:Key)=k:=rfl
@[simp] theorem gL (k:mS):(⟨k.id,k.fr⟩:mS)=k:=rfl
@[simp] theorem fo (k:Cell):(⟨k.g,k.u,k.n⟩:Cell)=k:=rfl
@[simp] theorem gM (k:oO):(⟨k.name,k.fq,k.size,k.fx⟩:oO)=k:=rfl
@[simp] theorem gP (k:Mp):(⟨k.name,k.fx,k.l⟩:Mp)=k:=rfl
@[simp] theorem jI (k:Kq):(⟨k.kind,k.name,k.to,k.a,k.b⟩:Kq)=k:=rfl
theorem bR {n b:Nat} (h:n*b≤140737488355328∧n≤140737488355328):fits n b=true:=by rw[ahP];exact lB h
end Go.T
namespace Go.T
def jR (s:List Key):Bool:=Ku s&& !decide (s.length=0)
theorem adE (n:List (List Key)):gn n=(n.all jR&&(decide (n.length≤3)&&decide (gi n≤8))):=by
 unfold gn;rw[Bool.and_assoc];rfl
def Ma (aA:List Int) (i:Nat) (x:Int):Bool:=match aA[i]? with
 |some lo=> !decide (x<lo)&&(match aA[i+1]? with|some hi=>decide (x<hi)|none=>true)
 |none=>true
def pP (aA:List Int) (i:Nat) (k:Key):Bool:=Ma aA i (dz k.b k.a)
def gH (aA:List Int) (i:Nat) (s:List Key):Bool:=s.all (pP aA i)
def gW (t:Tree) (i:Nat):Bool:=jy t.aA (fun x y=>decide (x<y)) i&&(match t.nodes[i]? with
 |some n=>gn n&&((decide (i=0)|| !decide ((aB n).length=0))&&n.all (gH t.aA i))
 |none=>true)
def de (t:Tree):Bool:=iU t.nodes.length 1 20&&(decide (t.aA.length=t.nodes.length)&&((match t.aA[0]? with|some x=>decide (x=0)|none=>true)&&(dK t.nodes.length (gW t)&&decide ((az t).length≤60))))
def gy (p:bu) (i:Nat):Bool:=match p.aD[i]? with
 |some v=>dR v.name&&(iU v.size 1 12&&(!decide (ie p.aY v.fq<0)&&(decide ((gD p.aY v.fq).length=0)&&(jy p.aD (fun x y=>LA x.name y.name) i&& !(p.aD.take i).any fun u=>decide (u.fq=v.fq)))))
 |none=>true
def nY (p:bu):Bool:=dK p.aD.length (gy p)&&decide (p.aD.length≤6)
def iK (p:bu) (l:List Key) (i:Nat):Bool:=match l[i]? with
 |some k=> !decide (ie p.aY k.a<0)&&(!decide (k.k=1)||((cellAt p.cells k.c k.g).2&& !(l.take i).any fun x=>decide (x.k=1)&&decide (x.c=k.c)))
 |none=>true
def gz (l:List Key):Nat:=(l.filter fun k=>decide (k.k=1)).length
def qI (p:bu):Bool:=dK (az p.t).length (iK p (az p.t))&&decide ((fF p.cells:Int)=gz (az p.t))
def cK (p:bu):Bool:=p.aY.all (fun a=>decide (a.id<p.next))&&(de p.t&&(iJ p.aY&&(gK p.cells&&(iU p.next 1 61&&(nY p&&qI p)))))
def r8 (p:bu) (i b:Int):Int:=match ew p.aD i with
 |none=>0
 |some v=>if 0≤b∧b<v.size then(if(o9 p.t p.aY b v.fq).2=true∧(o9 p.t p.aY b v.fq).1.k=1 then(cellAt p.cells (o9 p.t p.aY b v.fq).1.c (o9 p.t p.aY b v.fq).1.g).1 else 0) else 0
def W7:bu:=⟨⟨[0],[[]]⟩,[],List.replicate 24 ⟨0,false,0⟩,[],1⟩
theorem TQ (k:Key) (l:List Key):gz (k::l)=(if k.k=1 then 1 else 0)+gz l:=by
 unfold gz
 by_cases h:k.k=1<;>simp[h]
 omega
theorem fG {p:bu} (h:aV p≤4194304):dZ p.t≤4194304∧p.aY.length≤4194304∧p.cells.length≤4194304∧p.aD.length≤4194304∧tot xh p.aD≤4194304:=by
 unfold aV sO at h;omega
end Go.T
namespace Go.T
def kz {α:Type} (f:α→α→Bool) (l m:List α) (i:Nat):Bool:=match l[i]?,m[i]? with
 |some a,some b=>f a b
 |_,_=>true
def Zg {α:Type} (f:α→α→Bool) (l m:List α):Bool:=decide (l.length=m.length)&&dK l.length (kz f l m)
def jl (x y:Int):Bool:=cO x y
def jm (x y:Mp):Bool:=FE x.name y.name&&(eqB x.fx y.fx&&Zg jl x.l y.l)
theorem W8 {α:Type} {f:α→α→Bool} {l m:List α} (h: ¬l.length=m.length):Zg f l m=false:=by simp[Zg,h]
theorem RA {α:Type} {f:α→α→Bool} {l m:List α} (h:l.length=m.length):Zg f l m=dK l.length (kz f l m):=by simp[Zg,h]
theorem BG {α:Type} {f:α→α→Bool} {l m:List α} {i:Nat} {a b:α} (ha:l[i]?=some a) (hb:m[i]?=some b):kz f l m i=f a b:=by simp only[kz,ha,hb]
def blocks (p:bu) (i:Nat) (k:Nat):List Int:=(List.range k).map fun b:Nat=>r8 p i b
def wM (p:bu) (i:Nat) (v:oO):Mp:=⟨v.name,v.fx,blocks p i (min v.size.toNat 12)⟩
def mu (p:bu):Nat→List oO→List Mp
 |_,[]=>[]
 |i,v::r=>wM p i v::mu p (i+1) r
def nZ (p:bu):List Mp:=mu p 0 p.aD
theorem NV (p:bu) (i k:Nat):blocks p i (k+1)=blocks p i k++[r8 p i k]:=by
 unfold blocks;rw[List.range_succ,td];rfl
theorem I2 (p:bu) (i k:Nat):(blocks p i k).length=k:=by simp[blocks]
theorem Ky (p:bu): ∀(l:List oO) (i:Nat),(mu p i l).length=l.length
 |[],_=>rfl
 |v::r,i=>by show(wM p i v::mu p (i+1) r).length=_;rw[gG,Ky p r];rfl
theorem I3 (p:bu):(nZ p).length=p.aD.length:=Ky p _ _
theorem RB (p:bu): ∀(l:List oO) (i:Nat),∀m∈mu p i l,m.l.length≤12
 |[],_,m,h=>by cases h
 |v::r,i,m,h=>by
  rcases dJ.1 h with rfl|h
  ·show(blocks p i _).length≤12
   rw[I2];omega
  ·exact RB p r _ m h
theorem afP (p:bu): ∀m∈nZ p,m.l.length≤12:=RB p _ _
def lD (l:List Cell) (i:Int):List Cell:=match ew l i with
 |none=>l
 |some c=>if gK l=true∧c.u=true then l.modify i.toNat (fun _=>⟨TJ (aF c.g 1) 1000,false,0⟩) else l
theorem TT {l:List Cell} {i:Int} (h:ew l i=none):lD l i=l:=by unfold lD;rw[h]
theorem W9 {l:List Cell} {i:Int} (h:gK l=false):lD l i=l:=by
 unfold lD
 cases ew l i with
 |none=>rfl
 |some c=>exact aJ (fun hh=>by rw[h] at hh;cases hh.1)
theorem Zh {l:List Cell} {i:Int} {c:Cell} (hc:ew l i=some c) (h:c.u=false):lD l i=l:=by
 unfold lD;rw[hc];exact aJ (fun hh=>by rw[h] at hh;cases hh.2)
theorem Xc {l:List Cell} {i:Int} {c:Cell} (hc:ew l i=some c) (h:gK l=true) (hu:c.u=true):lD l i=l.modify i.toNat (fun _=>⟨TJ (aF c.g 1) 1000,false,0⟩):=by
 unfold lD;rw[hc];exact aR ⟨h,hu⟩
theorem CX (l:List Cell) (i:Int):(lD l i).length=l.length:=by
 unfold lD
 cases ew l i with
 |none=>rfl
 |some c=>simp only[];split<;>simp
def Mb (c:Cell):Bool:= !c.u
def jS (l:List Cell):Int:=fW Mb l 0
def jM (l:List Cell) (n:Int):List Cell×Int×Bool:=
 if gK l=true∧jj n=true∧0≤jS l then(l.modify (jS l).toNat (fun c=>⟨c.g,true,n⟩),jS l,true) else(l,0,false)
theorem wg {l:List Cell} {n:Int} (h: ¬(gK l=true∧jj n=true∧0≤jS l)):jM l n=(l,0,false):=aJ h
theorem CY {l:List Cell} {n:Int} (h:gK l=true∧jj n=true∧0≤jS l):jM l n=(l.modify (jS l).toNat (fun c=>⟨c.g,true,n⟩),jS l,true):=aR h
theorem Kz (l:List Cell) (n:Int):(jM l n).1.length=l.length:=by
 unfold jM;split<;>simp
abbrev ajZ (x:List Cell×Int×Bool):TV:= .tu [(0,[.sub 3 (x.1.map cC)]),(0,[iI x.2.1]),(0,[iB x.2.2])]
def fX (l:List Mp) (s:ByteArray):Int:=fW (fun m=>decide (m.name=s)) l 0
def RC (o:Kq):Bool:=if o.kind=2 then decide (o.a=0)&&iU o.b 0 1 else if o.kind=3∨o.kind=7 then decide (o.a=0)&&decide (o.b=0) else if o.kind=4 then true else decide (o.b=0)
def opName (o:Kq):Bool:=if 7≤o.kind then decide (o.name=lX) else dR o.name
def alq (o:Kq):Bool:=if o.kind=2 then dR o.to else decide (o.to=lX)
def TU (o:Kq):Bool:=iU o.kind 1 9&&(opName o&&(alq o&&(jj o.a&&(jj o.b&&RC o))))
abbrev TA (x:List Mp×Int):TV:= .tu [(0,[.sub 3 (x.1.map dA)]),(0,[iI x.2])]
def kW (l:List Mp) (i:Int) (m:Mp) (b n:Int):List Mp×Int:=
 if m.fx=true then(l,5) else if iU b 0 ((m.l.length:Int)-1)=true∧jj n=true then(l.modify i.toNat (fun x=>{x with l:=m.l.modify b.toNat fun _=>n}),0) else(l,4)
def nr (l:List Mp) (s:ByteArray) (b n:Int):List Mp×Int:=
 if dR s=false then(l,1) else match ew l (fX l s) with
  |none=>(l,2)
  |some m=>kW l (fX l s) m b n
theorem RD (l:List Mp) (i:Int) (m:Mp) (b n:Int):(kW l i m b n).1.length=l.length:=by
 unfold kW;split; ·rfl
 split<;>simp
theorem Xd (l:List Mp) (s:ByteArray) (b n:Int):(nr l s b n).1.length=l.length:=by
 unfold nr;split; ·rfl
 split
 ·rfl
 ·exact RD _ _ _ _ _
theorem mem_modify {α:Type} {f:α→α}: ∀{l:List α} {i:Nat} {x:α},x∈l.modify i f→x∈l∨ ∃y∈l,x=f y
 |[],i,x,h=>by cases i<;>simp at h
 |a::r,0,x,h=>by
  rw[List.modify_zero_cons] at h;rcases dJ.1 h with rfl|h
  ·exact .inr ⟨a,.head _,rfl⟩
  ·exact .inl (.tail _ h)
 |a::r,i+1,x,h=>by
  rw[List.modify_succ_cons] at h;rcases dJ.1 h with rfl|h
  ·exact .inl (.head _)
  ·rcases mem_modify h with h|⟨y,hy,e⟩
   ·exact .inl (.tail _ h)
   ·exact .inr ⟨y,.tail _ hy,e⟩
abbrev tII (x:Int×Int):TV:= .tu [(0,[iI x.1]),(0,[iI x.2])]
def wh (p:bu) (s:ByteArray):Bool:=cK p&&dR s
theorem wj {p:bu} (h:cK p=true):nY p=true:=by
 simp only[cK,dY] at h;exact h.2.2.2.2.2.1
theorem Zi {p:bu} (h:cK p=true):iJ p.aY=true:=by
 simp only[cK,dY] at h;exact h.2.2.1
theorem NW {p:bu} {i:Int} {v:oO} (h:nY p=true) (hv:ew p.aD i=some v):1≤v.size∧v.size≤12:=by
 obtain⟨n,rfl,hn⟩: ∃n:Nat,i=n∧n<p.aD.length:=by
  have:0≤i∧i<p.aD.length:=Classical.byContradiction fun hn=>by rw[gh hn] at hv;cases hv
  exact⟨i.toNat,by omega,by omega⟩
 simp only[nY,dY,uo] at h;have:=h.1 n hn;rw[aK] at hv;simp only[gy,hv,dY] at this;have:=this.2.1;simp[iU] at this;omega
def Mc (l:List Key) (b a:Int):Key×Bool:=match setAt l b a with|some k=>(k,true)|none=>(eK,false)
def rN (n:List (List Key)) (b a:Int):Nat→Key×Bool
 |0=>(eK,false)
 |k+1=>match n[k]? with
  |some s=>if(Mc s b a).2=true then(if(Mc s b a).1.k=0 then(eK,false) else Mc s b a) else rN n b a k
  |none=>(eK,false)
def r9 (f:Int→Bool) (l:List Int):Nat→Int
 |0=> -1
 |k+1=>match l[k]? with
  |some x=>if f x=true then(k:Int) else r9 f l k
  |none=> -1
def jJ (t:Tree) (b a:Int):Int:=r9 (fun x=>decide (x≤dz b a)) t.aA t.aA.length
def yC (t:Tree) (b a:Int):Key×Bool:=match ew t.nodes (jJ t b a) with
 |some n=>rN n b a n.length
 |none=>(eK,false)
def F7 (p:bu) (id:Int):Int:=if rM p.aD id=true∧(gD p.aY id).length=1 then(match ew (gD p.aY id) 0 with|some x=>x|none=>0) else 0
def Zj (p:bu) (k:Key):Bool:=if F7 p k.a=0 then false else !(yC p.t k.b (F7 p k.a)).2
def xI (p:bu) (step:Int) (k:Key):Bool:=if step=1 then !VZ p k else if step=2 then decide (k.k=2)&& !(x8 p.t p.aY k.b k.a).2 else Zj p k
def hasB (id:Int) (k:Key):Bool:=decide (k.a=id)
def I5 (id:Int) (k:Key):Bool:= !hasB id k
def Hu (p:bu) (a:mS):Bool:=(az p.t).all (I5 a.id)&&(rM p.aD a.id&&decide ((gD p.aY a.id).length≤1))
def p8 (p:bu) (j:Int):Int:=fW (xI p j) (az p.t) 0
def RE (p:bu):Int:=fW (Hu p) p.aY 0
def gC (p:bu):Int×Int:=
 if cK p=true then(if 0≤p8 p 1 then(1,p8 p 1) else if 0≤p8 p 2 then(2,p8 p 2) else if 0≤p8 p 3 then(3,p8 p 3) else if 0≤RE p then(4,RE p) else(0,0)) else(0,0)
def newNode (l:List Key):List (List Key):=if l.length=0 then [] else [l]
def nt (n:List (List Key)):List (List Key):=newNode (aB n)
def wk (t:Tree) (i:Int):Tree:=match ew t.nodes i with
 |none=>t
 |some n=>⟨t.aA,t.nodes.modify i.toNat (fun _=>nt n)⟩
def qu (p:bu) (i:Int):bu×Bool:=if cK p=true∧0≤i∧i<p.t.nodes.length then(⟨wk p.t i,p.aY,p.cells,p.aD,p.next⟩,true) else(p,false)
abbrev tPB (x:bu×Bool):TV:= .tu [(1,[.sub 1 (x.1.t.aA.map bA),.sub 1 (x.1.t.nodes.map bn),.sub 2 (x.1.aY.map cn),.sub 3 (x.1.cells.map cC),.sub 4 (x.1.aD.map dh),iI x.1.next]),(0,[iB x.2])]
theorem I6 {α:Type} {w:α→Nat} {f:α→α}: ∀{l:List α} {i:Nat},(∀a,l[i]?=some a→w (f a)≤w a)→tot w (l.modify i f)≤tot w l
 |[],i,h=>by cases i<;>exact cL _
 |a::r,0,h=>by
  rw[List.modify_zero_cons];have:=h a rfl;simp only[tot];omega
 |a::r,i+1,h=>by
  rw[List.modify_succ_cons];have:=I6 (l:=r) (i:=i) (w:=w) (f:=f) fun b hb=>h b (by simpa using hb);simp only[tot];omega
theorem Zk (n:List (List Key)):aW (nt n)≤aW n:=by
 have h1:=cY n;unfold nt newNode
 split
 ·exact cW _
 ·rename_i h
  have h2:aW [aB n]=1+((aB n).length+0):=rfl;have h3:aW n=n.length+tot c8 n:=rfl
  cases n with
  |nil=>exact absurd rfl h
  |cons s r=>rw[h2,h3,gG];omega
theorem Zl (t:Tree) (i:Int):dZ (wk t i)≤dZ t:=by
 unfold wk
 split
 ·exact cL _
 ·rename_i n hn
  have hi:0≤i∧i<t.nodes.length:=Classical.byContradiction fun h=>by rw[gh h] at hn;cases hn
  obtain⟨k,rfl⟩: ∃k:Nat,i=k:=⟨i.toNat,by omega⟩;rw[aK] at hn
  have:=I6 (w:=aW) (f:=fun _=>nt n) (l:=t.nodes) (i:=k) fun a ha=>by
   rw[hn] at ha
   cases ha
   exact Zk n
  have e1:dZ t=t.aA.length+(t.nodes.length+tot aW t.nodes):=rfl;have e2:dZ ⟨t.aA,t.nodes.modify ((k:Int)).toNat (fun _=>nt n)⟩=t.aA.length+((t.nodes.modify ((k:Int)).toNat (fun _=>nt n)).length+tot aW (t.nodes.modify ((k:Int)).toNat (fun _=>nt n))):=rfl;rw[e1,e2,NA,oF];omega
theorem Zm (p:bu) (i:Int):aV (qu p i).1≤aV p:=by
 unfold qu
 split
 ·have:=Zl p.t i
  unfold aV;simp only[];omega
 ·exact cL _
end Go.T
namespace Go.T
def Xe (p x:bu):bu×Int:=if cK x=true then(x,0) else(p,6)
def Md (p:bu) (i:Int):bu:=⟨p.t,p.aY,p.cells,p.aD.take i.toNat++p.aD.drop (i.toNat+1),p.next⟩
def KA (p:bu) (s:ByteArray):bu×Int:=
 if wh p s=true then(if dU p.aD s<0 then(p,2) else Xe p (Md p (dU p.aD s))) else(p,1)
abbrev Zn (x:bu×Int):TV:= .tu [(1,[.sub 1 (x.1.t.aA.map bA),.sub 1 (x.1.t.nodes.map bn),.sub 2 (x.1.aY.map cn),.sub 3 (x.1.cells.map cC),.sub 4 (x.1.aD.map dh),iI x.1.next]),(0,[iI x.2])]
theorem ah0 {α:Type} (w:α→Nat) (l:List α) (k:Nat):tot w (l.take k++l.drop (k+1))≤tot w l:=by
 have h:tot w (l.take k++l.drop k)=tot w l:=by rw[Dv]
 rw[Rx] at h ⊢
 have h2:tot w (l.drop (k+1))≤tot w (l.drop k):=by
  cases hk:l.drop k with
  |nil=>
   have:l.drop (k+1)=[]:=by rw[←List.drop_drop];simp[hk]
   rw[this];exact cL _
  |cons a r=>
   have:l.drop (k+1)=r:=by
    have e:l.drop (k+1)=(l.drop k).drop 1:=by rw[List.drop_drop]
    rw[e,hk];rfl
   rw[this];simp only[tot];omega
 omega
theorem V0 (p:bu) (i:Int):aV (Md p i)≤aV p:=by
 have h1:=ah0 xh p.aD i.toNat
 have h2:(p.aD.take i.toNat++p.aD.drop (i.toNat+1)).length≤p.aD.length:=by
  rw[ct,c7,gQ];omega
 unfold aV sO Md;simp only[];omega
theorem afQ (p:bu) (s:ByteArray):aV (KA p s).1≤aV p:=by
 unfold KA Xe
 split
 ·split
  ·exact cL _
  ·split
   ·exact V0 p _
   ·exact cL _
 ·exact cL _
end Go.T
namespace Go.T
theorem afR (x:Int):0≤FI .and .i64 x 255∧FI .and .i64 x 255≤255:=by
 have h:FI .and .i64 x 255=Go.IntKind.i64.wrap (((BitVec.ofInt 64 x&&&BitVec.ofInt 64 255).toNat:Nat):Int):=by unfold FI;rfl
 have hle:(BitVec.ofInt 64 x&&&BitVec.ofInt 64 255).toNat≤255:=by
  rw[BitVec.toNat_and];exact bQ Nat.and_le_right (by decide)
 rw[h,Go.IntKind.wrap_i64];omega
abbrev am5 (b:List Int) (i h:Int):List TC:=[.sub 1 (b.map jh),.sc (.int .i64 i),.sc (.int .i64 h)]
abbrev ki (b:List Int) (i h:Int):TV:= .bx (am5 b i h)
def Dr (b:List Int) (P:TV→Prop) (r:TV) (fs:List TV):Prop:= ∃i h,0≤i∧fs=[ki b i h]∧P r
theorem Zo {x n:Int} (h0:0≤x) (hn:0<n):0≤x.tmod n∧x.tmod n<n:=⟨Int.tmod_nonneg _ h0,Int.tmod_lt_of_pos _ hn⟩
theorem afS {α:Type} {l:List α} {i:Int} {a:α} (h:ew l i=some a):0≤i∧i<l.length:=by
 unfold ew at h
 split at h
 ·have:=(List.getElem?_eq_some_iff.1 h).1;omega
 ·cases h
end Go.T
namespace Go.T
theorem ah1 {α:Type} (p:α→Bool) (l:List α):l.take (l.takeWhile p).length=l.takeWhile p:=by
 have h:=List.takeWhile_append_dropWhile (p:=p) (l:=l)
 conv=>lhs;rhs;rw[←h]
 rw[NC (cL _),rj]
theorem ah2 {α:Type} (p:α→Bool) (l:List α):l.drop (l.takeWhile p).length=l.dropWhile p:=by
 have h:=List.takeWhile_append_dropWhile (p:=p) (l:=l)
 conv=>lhs;rhs;rw[←h]
 rw[List.drop_append_of_le_length (cL _),gu,tg]
def Ab {α:Type} (p:α→Bool) (x:α) (l:List α):List α:=l.takeWhile p++x::l.dropWhile p
theorem RF {α:Type} {p:α→Bool} {x a:α} {l:List α}:Ab p x (a::l)=if p a then a::Ab p x l else x::a::l:=by
 unfold Ab
 by_cases h:p a=true
 ·simp[List.takeWhile_cons,List.dropWhile_cons,h]
 ·simp[List.takeWhile_cons,List.dropWhile_cons,h]
theorem Hv {α:Type} (p:α→Bool) (x:α) (l:List α):(Ab p x l).length=l.length+1:=by
 unfold Ab;have h:=congrArg List.length (List.takeWhile_append_dropWhile (p:=p) (l:=l));rw[ct] at h ⊢;rw[gG];omega
theorem Zq {α:Type} (p:α→Bool) (x:α) (l:List α) {k:Nat} (h:(l.takeWhile p).length=k):l.take k++x::l.drop k=Ab p x l:=by
 unfold Ab;rw[←h,ah1,ah2]
theorem Me {α:Type} (w:α→Nat) (p:α→Bool) (x:α): ∀l:List α,tot w (Ab p x l)=tot w l+w x
 |[]=>by simp[Ab,tot]
 |a::l=>by
  rw[RF]
  split
  ·simp only[tot,Me w p x l];omega
  ·simp only[tot];omega
def leA (id:Int) (a:mS):Bool:=decide (a.id≤id)
def yD (l:List mS) (id fr:Int):List mS:=Ab (leA id) ⟨id,fr⟩ l
def mw (l:List mS) (id fr:Int):List mS×Bool:=if 0≤ie l id then(l,false) else if iJ (yD l id fr)=true then(yD l id fr,true) else(l,false)
theorem CZ (l:List mS) (id fr:Int):(mw l id fr).1.length≤l.length+1:=by
 unfold mw
 split
 ·exact Nat.le_succ _
 ·split
  ·exact Nat.le_of_eq (Hv _ _ _)
  ·exact Nat.le_succ _
def TW (v u:oO):Bool:=LA u.name v.name||FE u.name v.name
def vp (l:List oO) (v:oO):List oO:=Ab (TW v) v l
theorem Zr: ∀(x y z:List UInt8),Op.bytesLess x y=true→Op.bytesLess y z=true→Op.bytesLess x z=true
 |x,y,[],_,h=>by cases y<;>simp[Op.bytesLess] at h
 |x,[],c::z,h,_=>by cases x<;>simp[Op.bytesLess] at h
 |[],_::_,_::_,_,_=>by simp[Op.bytesLess]
 |a::x,b::y,c::z,h1,h2=>by
  simp only[Op.bytesLess,Bool.or_eq_true,dY,decide_eq_true_eq,beq_iff_eq] at h1 h2 ⊢;rcases h1 with h1|⟨rfl,h1⟩
  ·rcases h2 with h2|⟨rfl,h2⟩
   ·exact .inl (UInt8.lt_trans h1 h2)
   ·exact .inl h1
  ·rcases h2 with h2|⟨rfl,h2⟩
   ·exact .inl h2
   ·exact .inr ⟨rfl,Zr x y z h1 h2⟩
theorem V2 {a b c:ByteArray} (h1:LA a b=true) (h2:LA b c=true):LA a c=true:=by
 unfold LA at*;exact Zr _ _ _ h1 h2
def zC:List oO→Prop
 |[]=>True
 |[_]=>True
 |a::b::r=>LA a.name b.name=true∧zC (b::r)
theorem afT {v a b:oO} (h:LA a.name b.name=true) (hb:TW v b=true):TW v a=true:=by
 unfold TW at*;rw[Bool.or_eq_true] at*;rcases hb with hb|hb
 ·exact .inl (V2 h hb)
 ·have:b.name.toList=v.name.toList:=by
   unfold FE at hb;exact eq_of_beq hb
  unfold LA at h ⊢;rw[←this];exact .inl h
theorem zC.tail {a:oO} {l:List oO} (h:zC (a::l)):zC l:=by
 cases l with
 |nil=>trivial
 |cons b r=>exact h.2
theorem zC.cut {v:oO}: ∀{l:List oO} {k:Nat},zC l→k≤l.length→(∀u∈l.drop k,TW v u=false)→(∀u,0<k→l[k-1]?=some u→TW v u=true)→(l.takeWhile (TW v)).length=k
 |[],k,_,hk,_,_=>by simp at hk;simp[hk]
 |a::l,0,_,_,h1,_=>by
  have:=h1 a (.head _);simp[this]
 |a::l,k+1,hr,hk,h1,h2=>by
  have ih:=zC.cut (v:=v) (l:=l) (k:=k) hr.tail (by simpa using hk) (fun u hu=>h1 u (by simpa using hu)) fun u h0 hu=>by
   obtain⟨j,rfl⟩: ∃j,k=j+1:=⟨k-1,by omega⟩;exact h2 u au (by simpa using hu)
  have ha:TW v a=true:=by
   cases k with
   |zero=>exact h2 a au rfl
   |succ k=>
    cases l with
    |nil=>simp at hk
    |cons b r=>
     refine afT hr.1 ?_;rw[List.takeWhile_cons] at ih
     cases hb:TW v b with
     |true=>rfl
     |false=>rw[hb] at ih;simp at ih
  rw[List.takeWhile_cons,aR ha,gG,ih]
theorem ah3 {l:List oO} (h: ∀i,jy l (fun x y=>LA x.name y.name) i=true):zC l:=by
 induction l with
 |nil=>trivial
 |cons a l ih=>
  cases l with
  |nil=>trivial
  |cons b r=>
   refine⟨?_,ih fun i=> ?_⟩
   ·have:=h 1;simpa [jy] using this
   ·cases i with
    |zero=>rfl
    |succ i=>have:=h (i+2);simpa [jy] using this
theorem zC.modify {f:oO→oO} (hf: ∀u,(f u).name=u.name): ∀{l:List oO} (i:Nat),zC l→zC (l.modify i f)
 |[],i,h=>by cases i<;>exact h
 |[a],0,_=>trivial
 |[a],i+1,_=>by cases i<;>trivial
 |a::b::r,0,h=>by
  show zC (f a::b::r);exact⟨by rw[hf];exact h.1,h.2⟩
 |a::b::r,1,h=>by
  show zC (a::f b::r);refine⟨by rw[hf];exact h.1,?_⟩;exact zC.modify hf (l:=b::r) 0 h.2
 |a::b::r,i+2,h=>⟨h.1,zC.modify hf (l:=b::r) (i+1) h.2⟩
theorem V3 {p:bu} (h:cK p=true):zC p.aD:=by
 have hv:=wj h;unfold nY at hv;simp only[dY] at hv;refine ah3 fun i=> ?_
 by_cases hi:i<p.aD.length
 ·have:=uo.1 hv.1 i hi
  unfold gy at this;rw[bC hi] at this;simp only[dY] at this;exact this.2.2.2.2.1
 ·cases i with
  |zero=>rfl
  |succ k=>
   have hn:p.aD[k+1]?=none:=Vq au;simp only[jy,hn]
   cases p.aD[k]?<;>rfl
def HJ (p x:bu) (ok:Bool):bu×Int:=if ok=true then Xe p x else(p,6)
def KB (p:bu) (s:ByteArray) (n:Int):bu:=⟨p.t,(mw p.aY p.next 0).1,p.cells,vp p.aD ⟨s,p.next,n,false⟩,p.next+1⟩
def Ac (p:bu) (s:ByteArray) (n:Int):bu×Int:=
 if wh p s=true then(if 0≤dU p.aD s then(p,3) else if iU n 1 12=true then HJ p (KB p s n) (mw p.aY p.next 0).2 else(p,4)) else(p,1)
def afU (p:bu) (v:oO):List mS×Bool:=mw (mw p.aY p.next v.fq).1 (p.next+1) v.fq
def V4 (p:bu) (to:ByteArray) (i:Int) (v:oO) (fx:Bool):bu:=⟨p.t,(afU p v).1,p.cells,vp (p.aD.modify i.toNat fun u=>{u with fq:=p.next}) ⟨to,p.next+1,v.size,fx⟩,p.next+2⟩
def NX (p:bu) (s to:ByteArray) (fx:Bool):bu×Int:=
 if wh p s=true∧dR to=true then(match ew p.aD (dU p.aD s) with
  |none=>(p,2)
  |some v=>if 0≤dU p.aD to then(p,3) else HJ p (V4 p to (dU p.aD s) v fx) ((mw p.aY p.next v.fq).2&&(afU p v).2)) else(p,1)
theorem abq (p:bu) (s:ByteArray) (n:Int):aV (KB p s n)≤aV p+s.size+2:=by
 have h1:=CZ p.aY p.next 0;have h2:=Hv (TW ⟨s,p.next,n,false⟩) ⟨s,p.next,n,false⟩ p.aD;have h3:=Me xh (TW ⟨s,p.next,n,false⟩) ⟨s,p.next,n,false⟩ p.aD;unfold aV sO KB vp;simp only[h2,h3,xh];omega
theorem afV (p:bu) (to:ByteArray) (i:Int) (v:oO) (fx:Bool):aV (V4 p to i v fx)≤aV p+to.size+3:=by
 have h0:=CZ p.aY p.next v.fq;have h1:=CZ (mw p.aY p.next v.fq).1 (p.next+1) v.fq;have h2:=Hv (TW ⟨to,p.next+1,v.size,fx⟩) ⟨to,p.next+1,v.size,fx⟩ (p.aD.modify i.toNat fun u=>{u with fq:=p.next});have h3:=Me xh (TW ⟨to,p.next+1,v.size,fx⟩) ⟨to,p.next+1,v.size,fx⟩ (p.aD.modify i.toNat fun u=>{u with fq:=p.next});have h4:=I6 (w:=xh) (f:=fun u:oO=>{u with fq:=p.next}) (l:=p.aD) (i:=i.toNat) fun a _=>cL _
 rw[NA] at h2;unfold aV sO V4 afU vp;simp only[h2,h3];simp only[xh] at*;omega
end Go.T
namespace Go.T
def gtM (m u:Mp):Bool:= !(LA u.name m.name||FE u.name m.name)
def I7 (l:List Mp) (m:Mp):Nat→Nat
 |0=>0
 |k+1=>match l[k]? with
  |some u=>if gtM m u=true then I7 l m k else k+1
  |none=>k+1
theorem V5 {l:List Mp} {m u:Mp} {k:Nat} (h:l[k]?=some u):I7 l m (k+1)=if gtM m u=true then I7 l m k else k+1:=by simp only[I7,h]
theorem acL (l:List Mp) (m:Mp): ∀k,I7 l m k≤k
 |0=>cL _
 |k+1=>by
  unfold I7
  split
  ·split
   ·exact Nat.le_succ_of_le (acL l m k)
   ·exact cL _
  ·exact cL _
def V6 {α:Type} (l:List α) (k:Nat) (x:α):List α:=l.take k++x::l.drop k
def A9 (l:List Mp) (m:Mp):List Mp:=V6 l (I7 l m l.length) m
theorem Zs (l:List Mp) (m:Mp):(A9 l m).length=l.length+1:=by
 have:=acL l m l.length;unfold A9 V6;rw[ct,gG,c7,gQ];omega
theorem Zu {l:List Mp} {m x:Mp} (h:x∈A9 l m):x∈l∨x=m:=by
 unfold A9 V6 at h;rcases List.mem_append.1 h with h|h
 ·exact .inl (tf h)
 ·rcases dJ.1 h with h|h
  ·exact .inr h
  ·exact .inl (rD h)
def oc (l:List Mp) (s:ByteArray) (n:Int):List Mp×Int:=
 if dR s=true then(if 0≤fX l s then(l,3) else if iU n 1 12=true then(if 6≤l.length then(l,6) else(A9 l ⟨s,false,List.replicate n.toNat 0⟩,0)) else(l,4)) else(l,1)
def uq (l:List Mp) (s to:ByteArray) (fx:Bool):List Mp×Int:=
 if dR s=true∧dR to=true then(match ew l (fX l s) with
  |none=>(l,2)
  |some m=>if 0≤fX l to then(l,3) else if 6≤l.length then(l,6) else(A9 l ⟨to,fx,m.l⟩,0)) else(l,1)
def ur (l:List Mp) (s:ByteArray):List Mp×Int:=
 if dR s=true then(if fX l s<0 then(l,2) else(l.take (fX l s).toNat++l.drop ((fX l s).toNat+1),0)) else(l,1)
def KC (L:List Int) (n:Nat):List Int:=L.take n++List.replicate (n-L.length) 0
theorem RG (L:List Int) (n:Nat):(KC L n).length=n:=by
 unfold KC;rw[ct,c7,List.length_replicate];omega
theorem afW {L:List Int} {n i:Nat} (hi:i<n):(KC L n)[i]?=some (L.getD i 0):=by
 unfold KC
 by_cases h:i<L.length
 ·rw[kC (by rw[c7];omega),zG,aR hi,oG,bC h];rfl
 ·rw[m7 (by rw[c7];omega),List.getElem?_replicate,aR (by rw[c7];omega),oG,Vq au];rfl
def oe (l:List Mp) (s:ByteArray) (n:Int):List Mp×Int:=
 if dR s=false then(l,1) else match ew l (fX l s) with
  |none=>(l,2)
  |some m=>if m.fx=true then(l,5) else if iU n 1 12=true then(l.modify (fX l s).toNat (fun x=>{x with l:=KC m.l n.toNat}),0) else(l,4)
def KD (l:List Mp) (o:Kq):List Mp×Int:=
 if TU o=true then(if o.kind=1 then oc l o.name o.a else if o.kind=2 then uq l o.name o.to (decide (o.b=1)) else if o.kind=3 then ur l o.name else if o.kind=4 then nr l o.name o.a o.b else if o.kind=5 then nr l o.name o.a 0 else if o.kind=6 then oe l o.name o.a else(l,0)) else(l,1)
def Xf (l l':List Mp):Prop:=l'.length≤l.length+1∧ ∀B:Nat,12≤B→(∀x∈l,x.l.length≤B)→ ∀x∈l',x.l.length≤B
theorem Xf.refl (l:List Mp):Xf l l:=⟨Nat.le_succ _,fun _ _ h=>h⟩
theorem Hw {n a b:Int} (h:iU n a b=true):a≤n∧n≤b:=by unfold iU at h;simpa using h
theorem Xf.put {l:List Mp} {m:Mp} (h: ∀B:Nat,12≤B→(∀x∈l,x.l.length≤B)→m.l.length≤B):Xf l (A9 l m):=
 ⟨Nat.le_of_eq (Zs l m),fun B hB hl x hx=>(Zu hx).elim (hl x) fun e=>by rw[e];exact h B hB hl⟩
end Go.T
namespace Go.T
abbrev tNB (x:List (List Key)×Bool):TV:= .tu [(1,[.sub 1 (x.1.map fO)]),(0,[iB x.2])]
def Xg (s:List Key) (k:Key):Bool:=(Mc s k.b k.a).2||decide (s.length<4)
def nL (n:List (List Key)) (k:Key):List (List Key):=match n[n.length-1]? with
 |none=>n++[[k]]
 |some s=>if Xg s k=true then n.set (n.length-1) (eB s k) else n++[[k]]
def cQ (n:List (List Key)) (k:Key):List Key:=kH (eB (aB n) k)
def cF (n:List (List Key)) (k:Key):List (List Key)×Bool:=
 if gn (nL n k)=true then(nL n k,true) else if 8<(cQ n k).length then(n,false) else if gn (cE (cQ n k))=true then(cE (cQ n k),true) else(n,false)
theorem qJ (n:List (List Key)) (k:Key):(cQ n k).length≤tot c8 n+1:=by
 have h1:=cY n;have h2:=mq (aB n) k;have h3:(cQ n k).length≤(eB (aB n) k).length:=QD _ _;omega
theorem Zv {α:Type} (w:α→Nat) (l:List α) (a:α):tot w (l++[a])=tot w l+w a:=by
 induction l with
 |nil=>simp[tot]
 |cons b r ih=>simp only[FG,tot,ih];omega
theorem RH {α:Type} (w:α→Nat) (c:Nat): ∀(l:List α) (i:Nat) (a a':α),l[i]?=some a→w a'≤w a+c→tot w (l.set i a')≤tot w l+c
 |[],i,a,a',h,_=>by simp at h
 |b::r,0,a,a',h,hw=>by
  simp only[fu,bq] at h;subst h;simp only[List.set_cons_zero,tot];omega
 |b::r,i+1,a,a',h,hw=>by
  have:=RH w c r i a a' (by simpa using h) hw;simp only[List.set_cons_succ,tot];omega
theorem RI (n:List (List Key)) (k:Key):(nL n k).length≤n.length+1:=by
 unfold nL
 split
 ·rw[ct];simp
 ·split
  ·rw[List.length_set];omega
  ·rw[ct];simp
theorem RJ (n:List (List Key)) (k:Key):tot c8 (nL n k)≤tot c8 n+1:=by
 unfold nL
 split
 ·rw[Zv];exact cL _
 ·rename_i s hs
  split
  ·exact RH c8 1 _ _ s _ hs (by have:=mq s k;unfold c8;omega)
  ·rw[Zv];exact cL _
theorem Ae (l:List Key):(cE l).length≤1:=by
 unfold cE
 split<;>simp
theorem F8 (l:List Key):tot c8 (cE l)≤l.length:=by
 unfold cE
 split
 ·simp[tot]
 ·simp[tot,c8]
theorem F9 (n:List (List Key)) (k:Key):(cF n k).1.length≤n.length+1:=by
 have h1:=RI n k;have h2:=Ae (cQ n k);unfold cF
 repeat' split
 all_goals simp only[];omega
theorem Ga (n:List (List Key)) (k:Key):tot c8 (cF n k).1≤tot c8 n+1:=by
 have h1:=RJ n k;have h2:=F8 (cQ n k);have h3:=qJ n k;unfold cF
 repeat' split
 all_goals simp only[];omega
end Go.T
namespace Go.T
def uV (x y:Key):Prop:=x.b<y.b∨(x.b=y.b∧x.a<y.a)
theorem uV.trans {x y z:Key} (h1:uV x y) (h2:uV y z):uV x z:=by unfold uV at*;omega
theorem wm {x y:Key}:eJ x y=true↔uV x y:=by unfold eJ uV;simp
theorem xJ {x y:Key}:lC x y=true↔x.b=y.b∧x.a=y.a:=by unfold lC;simp
theorem KE {k y:Key}: ∀{l:List Key},y∈fm k true l→y∈l
 |[],h=>by simp[fm] at h
 |x::r,h=>by
  simp only[fm,QC,Bool.false_and,Ds,if_false,tg,Bool.true_or] at h;rcases List.mem_append.1 h with h|h
  ·split at h
   ·cases h
   ·rw[j6.1 h];exact .head _
  ·exact .tail _ (KE h)
theorem RK {k y:Key}: ∀{l:List Key} {put:Bool},y∈fm k put l→y∈l∨y=k
 |[],put,h=>by
  simp only[fm] at h
  split at h
  ·cases h
  ·exact .inr (j6.1 h)
 |x::r,put,h=>by
  simp only[fm] at h;rcases List.mem_append.1 h with h|h
  ·rcases List.mem_append.1 h with h|h
   ·split at h
    ·exact .inr (j6.1 h)
    ·cases h
   ·split at h
    ·cases h
    ·exact .inl (by rw[j6.1 h];exact .head _)
  ·exact(RK h).imp (.tail _) id
theorem Hy {k:Key}: ∀{l:List Key},l.Pairwise uV→(fm k true l).Pairwise uV
 |[],_=>by simp[fm]
 |x::r,h=>by
  obtain⟨h1,h2⟩:=List.pairwise_cons.1 h;simp only[fm,QC,Bool.false_and,Ds,if_false,tg,Bool.true_or]
  split
  ·exact Hy h2
  ·exact List.pairwise_cons.2 ⟨fun y hy=>h1 y (KE hy),Hy h2⟩
theorem V7 {k:Key}: ∀{l:List Key},l.Pairwise uV→(fm k false l).Pairwise uV
 |[],_=>by simp[fm]
 |x::r,h=>by
  obtain⟨h1,h2⟩:=List.pairwise_cons.1 h
  cases hk:eJ x k with
  |true=>
   have hlt:=wm.1 hk
   have hns:lC x k=false:=by
    cases hs:lC x k with
    |false=>rfl
    |true=>have:=xJ.1 hs;unfold uV at hlt;omega
   simp only[fm,hk,hns,Bool.not_false,QC,eO,Bool.and_false,Ds,if_false,tg,Bool.or_false,HZ];refine List.pairwise_cons.2 ⟨fun y hy=> ?_,V7 h2⟩;rcases RK hy with hy|rfl
   ·exact h1 y hy
   ·exact hlt
  |false=>
   have hge: ¬uV x k:=fun h=>by rw[wm.2 h] at hk;cases hk
   simp only[fm,hk,Bool.not_false,eO,if_true,Bool.or_true]
   have hr: ∀y∈fm k true r,uV k y:=fun y hy=>by
    have:=h1 y (KE hy);unfold uV at*;omega
   split
   ·exact List.pairwise_cons.2 ⟨hr,Hy h2⟩
   ·rename_i hns
    refine List.pairwise_cons.2 ⟨fun y hy=> ?_,List.pairwise_cons.2 ⟨fun y hy=>h1 y (KE hy),Hy h2⟩⟩;rcases dJ.1 hy with rfl|hy
    ·have: ¬(y.b=k.b∧y.a=k.a):=fun h=>hns (xJ.2 h)
     unfold uV at*;omega
    ·exact hr y hy
theorem tF {l:List Key} {k:Key} (h:l.Pairwise uV):(eB l k).Pairwise uV:=V7 h
theorem I8 {l:List Key} {k y:Key} (h:y∈eB l k):y∈l∨y=k:=RK h
theorem C0: ∀(new:List Key) {old:List Key},old.Pairwise uV→(cj old new).Pairwise uV
 |[],_,h=>h
 |x::r,_,h=>C0 r (tF h)
theorem V8 {y:Key}: ∀{new old:List Key},y∈cj old new→y∈old∨y∈new
 |[],_,h=> .inl h
 |x::r,old,h=>by
  have h:y∈cj (eB old x) r:=h;rcases V8 h with h|h
  ·exact(I8 h).imp id fun e=>by rw[e];exact .head _
  ·exact .inr (.tail _ h)
theorem I9: ∀(n:List (List Key)) {acc:List Key},acc.Pairwise uV→(n.foldl cj acc).Pairwise uV
 |[],_,h=>h
 |s::r,_,h=>I9 r (C0 s h)
theorem V9 {y:Key}: ∀{n:List (List Key)} {acc:List Key},y∈n.foldl cj acc→y∈acc∨ ∃s∈n,y∈s
 |[],_,h=> .inl h
 |s::r,acc,h=>by
  rcases V9 (n:=r) h with h|⟨s',h1,h2⟩
  ·exact(V8 h).imp id fun h=>⟨s,.head _,h⟩
  ·exact .inr ⟨s',.tail _ h1,h2⟩
theorem lJ (n:List (List Key)):(aB n).Pairwise uV:=(I9 n .nil).sublist List.filter_sublist
theorem lE {n:List (List Key)} {y:Key} (h:y∈aB n): ∃s∈n,y∈s:=by
 rcases V9 (List.mem_filter.1 h).1 with h|h
 ·cases h
 ·exact h
theorem vL (n:List (List Key)) (k:Key):(cQ n k).Pairwise uV:=(tF (lJ n)).sublist List.filter_sublist
theorem C1 {n:List (List Key)} {k y:Key} (h:y∈cQ n k):y=k∨ ∃s∈n,y∈s:=
 (I8 (List.mem_filter.1 h).1).elim (fun h=> .inr (lE h)) .inl
theorem afX {l:List Key} (h1:l.Pairwise uV) (h2: ∀y∈l,fM y=true) (h3:l.length≤60):Ku l=true:=by
 rw[Kv];simp only[dY,decide_eq_true_eq];refine⟨List.all_eq_true.2 h2,uo.2 fun i hi=> ?_,h3⟩
 cases i with
 |zero=>rfl
 |succ k=>
  simp only[jy];rw[bC (by omega:k<l.length),bC hi];exact wm.2 (List.pairwise_iff_getElem.1 h1 k (k+1) au hi au)
theorem tG {n:List (List Key)} (h:gn n=true) {s:List Key} (hs:s∈n) {y:Key} (hy:y∈s):fM y=true:=by
 unfold gn at h;simp only[dY] at h;have:=List.all_eq_true.1 h.1.1 s hs;simp only[dY] at this;have h2:=this.1;rw[Kv] at h2;simp only[dY] at h2;exact List.all_eq_true.1 h2.1 y hy
theorem yE {l:List Key} (h1:l.Pairwise uV) (h2: ∀y∈l,fM y=true) (h3:l.length≤8):gn (cE l)=true:=by
 unfold cE
 split
 ·decide
 ·rename_i h0
  unfold gn;have:=afX h1 h2 au;have h00:l≠[]:=fun e=>h0 (by rw[e];rfl);simp[this,h00,gi,tot,c8,h3]
theorem Zw {n:List (List Key)} {k:Key} (h:gn n=true) (hk:fM k=true): ∀y∈cQ n k,fM y=true:=fun y hy=>by
 rcases C1 hy with rfl|⟨s,h1,h2⟩
 ·exact hk
 ·exact tG h h1 h2
theorem Ja {n:List (List Key)} {k:Key} (h:gn n=true) (hk:fM k=true) (hp:(cF n k).2=false):8<(cQ n k).length∧cF n k=(n,false):=by
 have hn:=yE (vL n k) (Zw h hk);unfold cF at hp ⊢
 split at hp
 ·cases hp
 ·rename_i h1
  split at hp
  ·rename_i h2
   exact⟨h2,by rw[aJ h1,aR h2]⟩
  ·rename_i h2
   rw[aR (hn au)] at hp
   cases hp
end Go.T
namespace Go.T
def gw (x y:Int):Int:=FI .or .i64 (ajr .i64 (vV .i64 x) 8) (vV .i64 y)
theorem Ij: ∀l:List Int,tj (l.map jh)=some l
 |[]=>rfl
 |n::r=>by
  show(tj (r.map jh)).map (fun ns=>n::ns)=_;rw[Ij r];rfl
theorem Xh (l:List Int):tZ (l.map jh)=some l:=by unfold tZ;exact Ij l
end Go.T
namespace Go.T
abbrev FF (x:Tree×Bool):TV:= .tu [(1,afH x.1),(0,[iB x.2])]
def mM (t:Tree) (i c:Nat) (aA:List Int) (nodes:List (List (List Key))):Tree:=⟨t.aA.take i++aA++t.aA.drop (i+c),t.nodes.take i++nodes++t.nodes.drop (i+c)⟩
def jf (t:Tree) (i:Nat):List Key:=aB (t.nodes.getD i [])
def wo (t:Tree):Nat→Nat→Option Nat
 |0,_=>none
 |d+1,i=>if i+1<t.nodes.length then(if(jf t i).length+(jf t (i+1)).length≤6 then some i else wo t d (i+1)) else none
def mz (t:Tree):Option Nat:=wo t t.nodes.length 0
def cv (t:Tree) (i:Nat):Tree:=mM t i 2 [t.aA.getD i 0] [cE (jf t i++jf t (i+1))]
def j8:Nat→Tree→Tree
 |0,t=>t
 |n+1,t=>match mz t with
  |none=>t
  |some i=>j8 n (cv t i)
theorem NY {t:Tree}: ∀{d i j:Nat},wo t d i=some j→i≤j∧j+1<t.nodes.length∧(jf t j).length+(jf t (j+1)).length≤6
 |0,i,j,h=>by cases h
 |d+1,i,j,h=>by
  unfold wo at h
  split at h
  ·split at h
   ·cases h;exact⟨cL _,by assumption,by assumption⟩
   ·have:=NY h;exact⟨by omega,this.2⟩
  ·cases h
theorem x9 {t:Tree} {j:Nat} (h:mz t=some j):j+1<t.nodes.length∧(jf t j).length+(jf t (j+1)).length≤6:=(NY h).2
theorem Gb (t:Tree) (i c:Nat) (aA:List Int) (nodes:List (List (List Key))) (h:i+c≤t.nodes.length):(mM t i c aA nodes).nodes.length+c=t.nodes.length+nodes.length:=by
 unfold mM;simp only[ct,c7,gQ];omega
theorem yF (t:Tree) (i c:Nat) (aA:List Int) (nodes:List (List (List Key))) (h:i+c≤t.aA.length):(mM t i c aA nodes).aA.length+c=t.aA.length+aA.length:=by
 unfold mM;simp only[ct,c7,gQ];omega
theorem uu {t:Tree} {i:Nat} (h:i+1<t.nodes.length):(cv t i).nodes.length+1=t.nodes.length:=by
 have:=Gb t i 2 [t.aA.getD i 0] [cE (jf t i++jf t (i+1))] au;unfold cv;simp only[ic] at this;omega
def jN (t:Tree) (i:Nat) (k:Key):Tree:=
 if(cF (t.nodes.getD i []) k).2=true then
  (if 0<i∧(aB (cF (t.nodes.getD i []) k).1).length=0 then mM t i 1 [] [] else mM t i 1 [t.aA.getD i 0] [(cF (t.nodes.getD i []) k).1])
 else mM t i 1 [t.aA.getD i 0,dz ((cQ (t.nodes.getD i []) k).getD (((cQ (t.nodes.getD i []) k).length+1)/2) eK).b ((cQ (t.nodes.getD i []) k).getD (((cQ (t.nodes.getD i []) k).length+1)/2) eK).a]
  [cE ((cQ (t.nodes.getD i []) k).take (((cQ (t.nodes.getD i []) k).length+1)/2)),cE ((cQ (t.nodes.getD i []) k).drop (((cQ (t.nodes.getD i []) k).length+1)/2))]
def bB (t:Tree) (k:Key):Tree×Bool:=
 if de t=true∧fM k=true then(if de (j8 (jN t (jJ t k.b k.a).toNat k).nodes.length (jN t (jJ t k.b k.a).toNat k))=true then(j8 (jN t (jJ t k.b k.a).toNat k).nodes.length (jN t (jJ t k.b k.a).toNat k),true) else(t,false)) else(t,false)
end Go.T
namespace Go.T
theorem abr {α:Type} (w:α→Nat) (c:Nat): ∀l:List α,(∀a∈l,w a≤c)→tot w l≤c*l.length
 |[],_=>by simp[tot]
 |a::r,h=>by
  have h1:=h a (.head _);have h2:=abr w c r fun b hb=>h b (.tail _ hb);simp only[tot,gG,Nat.mul_add];omega
theorem og {n:List (List Key)} (h:gn n=true):n.length≤3∧tot c8 n≤8:=by
 unfold gn gi at h;simp only[dY,decide_eq_true_eq] at h;exact⟨h.1.2,h.2⟩
theorem Hz {t:Tree} (h:de t=true) {i:Nat} (hi:i<t.nodes.length):gW t i=true:=by
 unfold de at h;simp only[dY] at h;exact uo.1 h.2.2.2.1 i hi
theorem qv {t:Tree} (h:de t=true) {n:List (List Key)} (hn:n∈t.nodes):gn n=true:=by
 obtain⟨i,hi,rfl⟩:=List.getElem_of_mem hn;have:=Hz h hi;unfold gW at this;rw[bC hi] at this;simp only[dY] at this;exact this.2.1
theorem nM {t:Tree} (h:de t=true):1≤t.nodes.length∧t.nodes.length≤20∧t.aA.length=t.nodes.length:=by
 unfold de iU at h;simp only[dY,decide_eq_true_eq] at h;omega
theorem RL {t:Tree} (h:de t=true):t.aA[0]?=some 0:=by
 have hl:=nM h;unfold de at h;simp only[dY] at h
 have h0:0<t.aA.length:=by omega
 have:=h.2.2.1;rw[bC h0] at this ⊢;simp only[decide_eq_true_eq] at this;rw[this]
theorem Jb {t:Tree} (h:de t=true):tot aW t.nodes≤220:=by
 have h1:=abr aW 11 t.nodes fun n hn=>by
  have:=og (qv h hn);unfold aW;omega
 have h2:=nM h;omega
theorem HA {t:Tree} (h:de t=true):dZ t≤260:=by
 have h1:=Jb h;have h2:=nM h;unfold dZ xF;omega
theorem RM {t:Tree} {k:Key} (h:(bB t k).2=true):de (bB t k).1=true:=by
 unfold bB at h ⊢
 split
 ·split
  ·assumption
  ·rename_i h1 h2;rw[aR h1,aJ h2] at h;cases h
 ·rename_i h1;rw[aJ h1] at h;cases h
theorem C2 {t:Tree} {k:Key} (h:(bB t k).2=false):(bB t k).1=t:=by
 unfold bB at h ⊢
 split
 ·split
  ·rename_i h1 h2;rw[aR h1,aR h2] at h;cases h
  ·rfl
 ·rfl
theorem yG (t:Tree) (k:Key):dZ (bB t k).1≤max (dZ t) 260:=by
 cases h:(bB t k).2 with
 |true=>have:=HA (RM h);omega
 |false=>rw[C2 h];omega
theorem NZ {p:bu} (h:cK p=true):de p.t=true:=by
 simp only[cK,dY] at h;exact h.2.1
theorem xK {p:bu} (h:cK p=true):gK p.cells=true:=by
 simp only[cK,dY] at h;exact h.2.2.2.1
theorem aX {s:ByteArray} (h:dR s=true):1≤s.size∧s.size≤6:=by
 simp only[dR,dY,iU,decide_eq_true_eq] at h;omega
theorem Wa {p:bu} (h:nY p=true) {v:oO} (hv:v∈p.aD):dR v.name=true∧1≤v.size∧v.size≤12∧0≤ie p.aY v.fq:=by
 obtain⟨i,hi,rfl⟩:=List.getElem_of_mem hv;simp only[nY,dY,uo] at h;have:=h.1 i hi;unfold gy at this;rw[bC hi] at this;simp only[dY,iU,decide_eq_true_eq,yg,decide_eq_false_iff_not] at this;exact⟨this.1,this.2.1.1,this.2.1.2,by omega⟩
theorem Wb {p:bu} (h:cK p=true):aV p≤500:=by
 have h1:=HA (NZ h)
 have h2:p.aY.length≤16:=by
  have:=Zi h;simp only[iJ,dY,decide_eq_true_eq] at this;exact this.2
 have h3:p.cells.length=24:=by
  have:=xK h;simp only[gK,dY,decide_eq_true_eq] at this;exact this.2
 have hv:=wj h
 have h4:p.aD.length≤6:=by
  simp only[nY,dY,decide_eq_true_eq] at hv;exact hv.2
 have h5:=abr xh 6 p.aD fun v hm=>(aX (Wa hv hm).1).2;unfold aV sO;omega
theorem afY (p x:bu):aV (Xe p x).1≤max (aV p) 500:=by
 unfold Xe
 split
 ·rename_i h;have:=Wb h;simp only[];omega
 ·simp only[];omega
theorem Gc (p x:bu) (b:Bool):aV (HJ p x b).1≤max (aV p) 500:=by
 unfold HJ
 split
 ·exact afY p x
 ·simp only[];omega
def KF (p:bu) (k:Key):List Cell:=if(yC p.t k.b k.a).2=true∧(yC p.t k.b k.a).1.k=1 then lD p.cells (yC p.t k.b k.a).1.c else p.cells
def hJ (p:bu) (k:Key):bu×Bool:=if(bB p.t k).2=true then(⟨(bB p.t k).1,p.aY,KF p k,p.aD,p.next⟩,true) else(p,false)
theorem KG (p:bu) (k:Key):(KF p k).length=p.cells.length:=by
 unfold KF;split
 ·exact CX _ _
 ·rfl
theorem yH (p:bu) (k:Key):aV (hJ p k).1≤aV p+260:=by
 have h1:=yG p.t k;have h2:=KG p k;unfold hJ
 split
 ·unfold aV;simp only[];omega
 ·simp only[];omega
theorem KH (p:bu) (k:Key):(hJ p k).1.aY=p.aY∧(hJ p k).1.aD=p.aD∧(hJ p k).1.next=p.next∧(hJ p k).1.cells.length=p.cells.length:=by
 have h2:=KG p k;unfold hJ
 split
 ·exact⟨rfl,rfl,rfl,h2⟩
 ·exact⟨rfl,rfl,rfl,rfl⟩
def mQ (p:bu) (s:ByteArray) (b:Int):Int:=
 if wh p s=true then(match ew p.aD (dU p.aD s) with
  |none=>2
  |some v=>if v.fx=true then 5 else if iU b 0 (v.size-1)=true then 0 else 4) else 1
theorem Gd {p:bu} {s:ByteArray} {b:Int} (h:mQ p s b=0): ∃v,ew p.aD (dU p.aD s)=some v∧wh p s=true∧v.fx=false∧0≤b∧b≤v.size-1:=by
 unfold mQ at h
 split at h
 ·rename_i hf
  split at h
  ·cases h
  ·rename_i v hv
   split at h
   ·cases h
   ·split at h
    ·rename_i h1 h2
     refine⟨v,hv,hf,by simpa using h1,?_⟩;simpa [iU] using h2
    ·cases h
 ·cases h
def acM (l:List Cell) (i:Int):Int:=match ew l i with|some c=>c.g|none=>0
def abt (p:bu) (b n:Int) (v:oO):bu×Bool:=hJ ⟨p.t,p.aY,(jM p.cells n).1,p.aD,p.next⟩ ⟨b,v.fq,1,(jM p.cells n).2.1,acM (jM p.cells n).1 (jM p.cells n).2.1⟩
def sR (p:bu) (s:ByteArray) (b n:Int):bu×Int:=
 if mQ p s b=0 then(if jj n=true then(match ew p.aD (dU p.aD s) with
  |none=>(p,2)
  |some v=>if(jM p.cells n).2.2=true then HJ p (abt p b n v).1 (abt p b n v).2 else(p,6)) else(p,4)) else(p,mQ p s b)
def eU (p:bu) (fq b:Int):bu×Bool:=
 if(x8 p.t p.aY b fq).2=true∧(x8 p.t p.aY b fq).1.k=1 then hJ p ⟨b,fq,2,0,0⟩ else if(yC p.t b fq).2=true then hJ p ⟨b,fq,0,0,0⟩ else(p,true)
theorem KI (p:bu) (fq b:Int):aV (eU p fq b).1≤aV p+260:=by
 unfold eU
 split
 ·exact yH _ _
 ·split
  ·exact yH _ _
  ·simp only[];omega
theorem RN (p:bu) (fq b:Int):(eU p fq b).1.aY=p.aY∧(eU p fq b).1.aD=p.aD∧(eU p fq b).1.next=p.next∧(eU p fq b).1.cells.length=p.cells.length:=by
 unfold eU
 split
 ·exact KH _ _
 ·split
  ·exact KH _ _
  ·exact⟨rfl,rfl,rfl,rfl⟩
def qw (p:bu) (s:ByteArray) (b:Int):bu×Int:=
 if mQ p s b=0 then(match ew p.aD (dU p.aD s) with
  |none=>(p,2)
  |some v=>HJ p (eU p v.fq b).1 (eU p v.fq b).2) else(p,mQ p s b)
def Ik (fq:Int):Nat→Int→bu→bu×Bool
 |0,_,p=>(p,true)
 |n+1,b,p=>if(eU p fq b).2=true then Ik fq n (b-1) (eU p fq b).1 else(p,false)
def KJ (p:bu) (i:Int) (n:Int):bu:=⟨p.t,p.aY,p.cells,p.aD.modify i.toNat fun u=>{u with size:=n},p.next⟩
def uv (p:bu) (s:ByteArray) (n:Int):bu×Int:=
 if mQ p s 0=0 then(if iU n 1 12=true then(match ew p.aD (dU p.aD s) with
  |none=>(p,2)
  |some v=>HJ p (KJ (Ik v.fq (v.size-n).toNat (v.size-1) p).1 (dU p.aD s) n) (Ik v.fq (v.size-n).toNat (v.size-1) p).2) else(p,4)) else(p,mQ p s 0)
theorem adF (p:bu) (s:ByteArray) (b n:Int):aV (sR p s b n).1≤max (aV p) 500:=by
 unfold sR
 repeat' split
 all_goals first|exact FH _ _|exact Gc _ _ _
theorem Zx (p:bu) (s:ByteArray) (b:Int):aV (qw p s b).1≤max (aV p) 500:=by
 unfold qw
 repeat' split
 all_goals first|exact FH _ _|exact Gc _ _ _
theorem abu (p:bu) (s:ByteArray) (n:Int):aV (uv p s n).1≤max (aV p) 500:=by
 unfold uv
 repeat' split
 all_goals first|exact FH _ _|exact Gc _ _ _
def yI (i:Int) (k:Key):Bool:=decide (k.k=1)&&decide (k.c=i)
def p9 (p:bu) (i:Int):Key:=match(az p.t).find? (yI i) with|some k=>k|none=>eK
def Af (p:bu) (i n:Int):Key:=⟨(p9 p i).b,(p9 p i).a,(p9 p i).k,(jM p.cells n).2.1,acM (jM p.cells n).1 (jM p.cells n).2.1⟩
def RO (p:bu) (i n:Int):bu×Bool:=(⟨(bB p.t (Af p i n)).1,p.aY,lD (jM p.cells n).1 i,p.aD,p.next⟩,(bB p.t (Af p i n)).2)
def Ag (p:bu) (x:bu×Bool):bu×Bool:=if x.2=true∧cK x.1=true then(x.1,true) else(p,false)
theorem Zy (p:bu) (x:bu×Bool):aV (Ag p x).1≤max (aV p) 500:=by
 unfold Ag
 split
 ·rename_i h;have:=Wb h.2;simp only[];omega
 ·simp only[];omega
def jO (p:bu) (i:Int):bu×Bool:=
 if cK p=true then(match ew p.cells i with
  |none=>(p,false)
  |some c=>if c.u=true∧0≤jS p.cells∧jS p.cells≤i then Ag p (RO p i c.n) else(p,false)) else(p,false)
theorem Zz (p:bu) (i:Int):aV (jO p i).1≤max (aV p) 500:=by
 unfold jO
 split
 ·split
  ·simp only[];omega
  ·split
   ·exact Zy _ _
   ·simp only[];omega
 ·simp only[];omega
def C3 (l:List mS) (id fr:Int):List mS:=l.map fun a=>if a.fr=id then {a with fr:=fr} else a
def vq (l:List mS) (id:Int):List mS×Bool:=
 if iJ l=true then(match ew l (ie l id) with
  |none=>(l,false)
  |some a=>((C3 l id a.fr).take (ie l id).toNat++(C3 l id a.fr).drop ((ie l id).toNat+1),true)) else(l,false)
theorem RP (l:List mS) (id fr:Int):(C3 l id fr).length=l.length:=by unfold C3;simp
theorem abv (l:List mS) (id:Int):(vq l id).1.length≤l.length:=by
 unfold vq
 repeat' split
 all_goals simp only[ct,c7,gQ,RP];omega
def Qw (p:bu) (i:Int):Key:=match ew (az p.t) i with|some k=>k|none=>eK
def jK (k:Key):Key:=⟨k.b,k.a,0,0,0⟩
def Mf (p:bu) (k:Key):Key:=⟨k.b,F7 p k.a,k.k,k.c,k.g⟩
def N0 (p:bu) (k:Key):bu×Bool:=
 (⟨(bB (bB p.t (jK k)).1 (Mf p k)).1,p.aY,p.cells,p.aD,p.next⟩,(bB p.t (jK k)).2&&(bB (bB p.t (jK k)).1 (Mf p k)).2)
def adG (p:bu) (id:Int):bu×Bool:=(⟨p.t,(vq p.aY id).1,p.cells,p.aD,p.next⟩,(vq p.aY id).2)
def N3 (p:bu) (j i:Int):bu×Bool:=
 if j=4 then(match ew p.aY i with|some a=>adG p a.id|none=>(p,false)) else if j=3 then N0 p (Qw p i) else hJ p (jK (Qw p i))
def kJ (p:bu):bu×Bool:=if(gC p).1=0 then(p,false) else Ag p (N3 p (gC p).1 (gC p).2)
theorem Xi (p:bu):aV (kJ p).1≤max (aV p) 500:=by
 unfold kJ
 split
 ·simp only[];omega
 ·exact Zy _ _
def xk (x:bu×Bool):bu×Int:=if x.2=true then(x.1,0) else(x.1,2)
def p0 (p:bu) (o:Kq):bu×Int:=
 if TU o=true∧cK p=true then
  (if o.kind=1 then Ac p o.name o.a else if o.kind=2 then NX p o.name o.to (decide (o.b=1)) else if o.kind=3 then KA p o.name
   else if o.kind=4 then sR p o.name o.a o.b else if o.kind=5 then qw p o.name o.a else if o.kind=6 then uv p o.name o.a
   else if o.kind=7 then xk (kJ p) else if o.kind=8 then xk (qu p o.a) else xk (jO p o.a)) else(p,1)
theorem ZA (p:bu) (s:ByteArray) (n:Int):aV (Ac p s n).1≤max (aV p) 500:=by
 unfold Ac
 repeat' split
 all_goals first|exact FH _ _|exact Gc _ _ _
theorem adH (p:bu) (s to:ByteArray) (fx:Bool):aV (NX p s to fx).1≤max (aV p) 500:=by
 unfold NX
 repeat' split
 all_goals first|exact FH _ _|exact Gc _ _ _
theorem adI (p:bu) (s:ByteArray):aV (KA p s).1≤max (aV p) 500:=by
 have:=afQ p s;omega
theorem RQ (x:bu×Bool):aV (xk x).1=aV x.1:=by unfold xk;split<;>rfl
theorem adJ (p:bu) (o:Kq):aV (p0 p o).1≤max (aV p) 500:=by
 unfold p0
 repeat' split
 ·exact ZA _ _ _
 ·exact adH _ _ _ _
 ·exact adI _ _
 ·exact adF _ _ _ _
 ·exact Zx _ _ _
 ·exact abu _ _ _
 ·rw[RQ];exact Xi _
 ·rw[RQ];have:=Zm p o.a;omega
 ·rw[RQ];exact Zz _ _
 ·simp only[];omega
end Go.T
namespace Go.T
theorem xL {α:Type} (w:α→Nat): ∀l m:List α,tot w (l++m)=tot w l+tot w m
 |[],m=>by simp[tot]
 |a::l,m=>by simp only[FG,tot,xL w l m];omega
theorem abw {α:Type} {l:List α} {i:Nat} {a b:α} (ha:l[i]?=some a) (hb:l[i+1]?=some b):l=l.take i++a::b::l.drop (i+2):=by
 obtain⟨h1,e1⟩:=List.getElem?_eq_some_iff.1 ha;obtain⟨h2,e2⟩:=List.getElem?_eq_some_iff.1 hb
 conv=>lhs;rw[←Dv i l]
 rw[zF h1,zF h2,e1,e2]
theorem Jc (l:List Key):aW (cE l)≤l.length+1:=by
 have h1:=Ae l;have h2:=F8 l;unfold aW;omega
theorem fU {t:Tree} {i:Nat} {a:List (List Key)} (h:t.nodes[i]?=some a):jf t i=aB a:=by unfold jf;rw[oG,h];rfl
theorem vr (n:Nat) (t:Tree):j8 (n+1) t=match mz t with|none=>t|some i=>j8 n (cv t i):=rfl
theorem Ah {t:Tree} {i:Nat} (h:i+1<t.nodes.length):tot aW (cv t i).nodes+(cv t i).nodes.length≤tot aW t.nodes+t.nodes.length:=by
 obtain⟨a,ha⟩: ∃a,t.nodes[i]?=some a:=⟨_,bC au⟩;obtain⟨b,hb⟩: ∃b,t.nodes[i+1]?=some b:=⟨_,bC h⟩;have hl:=uu h;have hs:=congrArg (tot aW) (abw ha hb);rw[xL] at hs;simp only[tot] at hs;have la:=cY a;have lb:=cY b;have hn:=Jc (jf t i++jf t (i+1));rw[ct,fU ha,fU hb] at hn
 have e:tot aW (cv t i).nodes=tot aW (t.nodes.take i)+aW (cE (aB a++aB b))+tot aW (t.nodes.drop (i+2)):=by
  unfold cv mM;simp only[];rw[xL,xL,fU ha,fU hb];simp[tot]
 have sa:aW a=a.length+tot c8 a:=rfl;have sb:aW b=b.length+tot c8 b:=rfl;omega
theorem TY {t:Tree} {i:Nat} (h:i+1<t.nodes.length) (hl:t.aA.length=t.nodes.length):(cv t i).aA.length=(cv t i).nodes.length:=by
 have h1:=yF t i 2 [t.aA.getD i 0] [cE (jf t i++jf t (i+1))] au;have h2:=Gb t i 2 [t.aA.getD i 0] [cE (jf t i++jf t (i+1))] au;simp only[ic] at h1 h2;unfold cv;omega
theorem ZB: ∀(n:Nat) (t:Tree),t.aA.length=t.nodes.length→tot aW (j8 n t).nodes+(j8 n t).nodes.length≤tot aW t.nodes+t.nodes.length∧(j8 n t).aA.length=(j8 n t).nodes.length
 |0,t,h=>⟨cL _,h⟩
 |n+1,t,h=>by
  rw[vr]
  cases hp:mz t with
  |none=>exact⟨cL _,h⟩
  |some i=>
   have hlt:=(x9 hp).1;have h1:=Ah hlt;have h2:=ZB n (cv t i) (TY hlt h);exact⟨by simp only[];omega,h2.2⟩
theorem Ge {k:Key} (h:fM k=true):0≤k.b∧k.b≤15∧1≤k.a∧k.a≤60∧0≤k.k∧k.k≤2:=by
 simp only[fM,iU,dY,decide_eq_true_eq] at h;omega
theorem ah4 {b a:Int} (h: -1000≤b∧b≤1000∧ -1000≤a∧a≤1000):dz b a=64*b+a:=by
 unfold dz;rw[ahU au,aO au]
theorem C4 {k:Key} (h:fM k=true):dz k.b k.a=64*k.b+k.a:=by
 have:=Ge h;exact ah4 au
theorem RS {f:Int→Bool} {l:List Int} {x:Int} (h0:l[0]?=some x) (hx:f x=true): ∀n:Nat,0<n→n≤l.length→ ∃j:Nat,r9 f l n=j∧j<n
 |0,h,_=>by omega
 |n+1,_,hn=>by
  unfold r9;rw[bC au];simp only[]
  split
  ·exact⟨n,rfl,by omega⟩
  ·rename_i hf
   cases n with
   |zero=>
    rw[bC au] at h0
    cases h0;exact absurd hx hf
   |succ n=>
    obtain⟨j,h1,h2⟩:=RS h0 hx (n+1) au au;exact⟨j,h1,by omega⟩
theorem RT {t:Tree} {k:Key} (h:de t=true) (hk:fM k=true): ∃j:Nat,jJ t k.b k.a=j∧j<t.nodes.length:=by
 have h1:=nM h;have h2:=Ge hk;have h3:=C4 hk;unfold jJ;have:=RS (f:=fun x=>decide (x≤dz k.b k.a)) (RL h) (by simp only[decide_eq_true_eq];omega) t.aA.length au (cL _);rw[h1.2.2] at this ⊢;exact this
theorem ZC (n:List (List Key)) (k:Key):aW (cF n k).1≤aW n+2:=by
 have h1:=F9 n k;have h2:=Ga n k;unfold aW;omega
theorem adK (t:Tree) (i c:Nat) (aA:List Int) (nodes:List (List (List Key))):tot aW (mM t i c aA nodes).nodes≤tot aW t.nodes+tot aW nodes:=by
 have h:tot aW (t.nodes.take i++t.nodes.drop i)=tot aW t.nodes:=by rw[Dv]
 have h2:tot aW (t.nodes.drop (i+c))≤tot aW (t.nodes.drop i):=by
  rw[←List.drop_drop]
  have h3:tot aW ((t.nodes.drop i).take c++(t.nodes.drop i).drop c)=tot aW (t.nodes.drop i):=by rw[Dv]
  rw[xL] at h3;omega
 unfold mM;simp only[xL] at h ⊢;omega
theorem ah5 {t:Tree} {i:Nat} {k:Key} (hl:t.aA.length=t.nodes.length) (hi:i<t.nodes.length) (ht: ∀n∈t.nodes,tot c8 n≤8∧n.length≤3):
 tot aW (jN t i k).nodes≤tot aW t.nodes+40∧(jN t i k).nodes.length≤t.nodes.length+1∧(jN t i k).aA.length=(jN t i k).nodes.length:=by
 have hn:=ht t.nodes[i] (tV hi)
 have hg:t.nodes.getD i []=t.nodes[i]:=by rw[oG,bC hi];rfl
 have hp:=ZC t.nodes[i] k;have hk:=qJ t.nodes[i] k;have hz:aW t.nodes[i]=t.nodes[i].length+tot c8 t.nodes[i]:=rfl;unfold jN;rw[hg];generalize cQ t.nodes[i] k=l at*;have e1:=Jc (l.take ((l.length+1)/2));have e2:=Jc (l.drop ((l.length+1)/2));rw[c7] at e1;rw[gQ] at e2
 have key: ∀(aA:List Int) (nodes:List (List (List Key))),aA.length=nodes.length→nodes.length≤2→tot aW nodes≤40→tot aW (mM t i 1 aA nodes).nodes≤tot aW t.nodes+40∧(mM t i 1 aA nodes).nodes.length≤t.nodes.length+1∧(mM t i 1 aA nodes).aA.length=(mM t i 1 aA nodes).nodes.length:=by
  intro aA nodes h1 h2 h3;have h4:=adK t i 1 aA nodes;have h5:=Gb t i 1 aA nodes au;have h6:=yF t i 1 aA nodes au;omega
 split
 ·split
  ·exact key _ _ rfl bZ (by simp[tot])
  ·exact key _ _ rfl bZ (by simp only[tot];omega)
 ·exact key _ _ rfl bZ (by simp only[tot];omega)
theorem Xj {t:Tree} (h:de t=true): ∀n∈t.nodes,tot c8 n≤8∧n.length≤3:=fun n hn=>by
 have:=og (qv h hn);omega
theorem ZD {t:Tree} {i:Nat} {k:Key} (h:de t=true) (hi:i<t.nodes.length):
 tot aW (jN t i k).nodes+(jN t i k).nodes.length≤300∧(jN t i k).aA.length=(jN t i k).nodes.length∧dZ (j8 (jN t i k).nodes.length (jN t i k))≤600:=by
 have h1:=nM h;have h2:=Jb h;have h3:=ah5 (k:=k) h1.2.2 hi (Xj h);have h4:=ZB (jN t i k).nodes.length (jN t i k) h3.2.2;refine⟨by omega,h3.2.2,?_⟩;unfold dZ xF;omega
theorem Il {α:Type} {w:α→Nat} {f:α→α} (hf: ∀a,w (f a)=w a): ∀(l:List α) (i:Nat),tot w (l.modify i f)=tot w l
 |[],i=>by cases i<;>rfl
 |a::r,0=>by rw[List.modify_zero_cons];simp only[tot,hf]
 |a::r,i+1=>by rw[List.modify_succ_cons];simp only[tot,Il hf r i]
theorem afZ (p:bu) (i n:Int):aV (KJ p i n)=aV p:=by
 unfold aV sO KJ;simp only[NA];rw[Il (w:=xh) (f:=fun u:oO=>{u with size:=n}) fun a=>rfl]
theorem Xk {n:Nat} (h:8<n):(n+1)/2<n:=by omega
end Go.T
namespace Go.T
end Go.T
namespace Go.T
theorem eC {P:Prop} (h:P:=by
 repeat' first
  |assumption
  |exact rfl
  |exact⟨rfl,rfl⟩
  |exact⟨rfl,trivial⟩
  |refine⟨_,_,_,_,_,_,_,by assumption,?_⟩
  |refine⟨_,_,_,_,_,_,by assumption,?_⟩
  |refine⟨_,_,_,_,_,by assumption,?_⟩
  |refine⟨_,_,_,_,by assumption,?_⟩
  |refine⟨_,_,_,by assumption,?_⟩
  |refine⟨_,_,by assumption,?_⟩
  |refine⟨_,by assumption,?_⟩
  |refine aa (by first|rfl|assumption|(rw[cJ];rfl)) ?_
  |refine ak (by first|rfl|assumption|(rw[cJ];rfl)) ?_
  |refine⟨(_,_),?_,?_,rfl⟩
  |refine⟨(_,_),?_,?_,rfl,rfl⟩
  |refine⟨?_,?_⟩):P:=h
end Go.T
namespace Go.T
def Jd (b a:Int) (x:Key):Bool:=decide (x.b=b∧x.a=a)
def look (l:List Key) (b a:Int):Option Key:=l.find? (Jd b a)
theorem abx (l:List Key) (b a:Int):setAt l b a=look l b a:=rfl
theorem rO (l m:List Key) (b a:Int):look (l++m) b a=(look l b a).or (look m b a):=by unfold look;rw[List.find?_append]
theorem mT (x:Key) (l:List Key) (b a:Int):look (x::l) b a=if x.b=b∧x.a=a then some x else look l b a:=by
 unfold look;rw[List.find?_cons]
 by_cases h:x.b=b∧x.a=a
 ·rw[aR h];simp[Jd,h]
 ·rw[aJ h];simp[Jd,h]
theorem RU {k:Key} {b a:Int} (h: ¬(k.b=b∧k.a=a)): ∀(l:List Key) (put:Bool),look (fm k put l) b a=look l b a
 |[],put=>by
  unfold fm
  cases put with
  |true=>rfl
  |false=>simp only[Ds,if_false];rw[mT,aJ h]
 |x::r,put=>by
  have ih:=RU h r (put|| !eJ x k);simp only[fm,rO];rw[ih,mT]
  have h1:look (if(!put&& !eJ x k)=true then [k] else []) b a=none:=by
   split
   ·rw[mT,aJ h];rfl
   ·rfl
  rw[h1]
  by_cases hs:lC x k=true
  ·have:=xJ.1 hs
   rw[aR hs,aJ au]
   rfl
  ·rw[aJ hs,mT]
   by_cases hx:x.b=b∧x.a=a
   ·rw[aR hx,aR hx];rfl
   ·rw[aJ hx,aJ hx];rfl
theorem acN {k:Key}: ∀l:List Key,l.Pairwise uV→look (fm k false l) k.b k.a=some k
 |[],_=>by simp only[fm,Ds,if_false];rw[mT,aR ⟨rfl,rfl⟩]
 |x::r,hp=>by
  obtain⟨h1,h2⟩:=List.pairwise_cons.1 hp
  cases hk:eJ x k with
  |true=>
   have hlt:=wm.1 hk
   have hns:lC x k=false:=by
    cases hs:lC x k with
    |false=>rfl
    |true=>have:=xJ.1 hs;unfold uV at hlt;omega
   simp only[fm,hk,hns,Bool.not_false,QC,eO,Bool.and_false,Ds,if_false,tg,Bool.or_false,HZ];rw[rO,acN r h2,mT,aJ (by unfold uV at hlt;omega)];rfl
  |false=>
   simp only[fm,hk,Bool.not_false,eO,if_true,Bool.or_true];rw[rO,rO,mT,aR ⟨rfl,rfl⟩];rfl
theorem Ai {l:List Key} {k:Key} (h:l.Pairwise uV) (b a:Int):look (eB l k) b a=if k.b=b∧k.a=a then some k else look l b a:=by
 unfold eB
 by_cases hs:k.b=b∧k.a=a
 ·rw[aR hs,←hs.1,←hs.2];exact acN l h
 ·rw[aJ hs];exact RU hs l false
theorem Mg {l:List Key} {b a:Int} {x:Key} (h:look l b a=some x):x∈l∧x.b=b∧x.a=a:=by
 unfold look at h;have h1:=List.find?_some h;unfold Jd at h1;exact⟨List.mem_of_find?_eq_some h,by simpa using h1⟩
theorem ZE {l:List Key} (h:l.Pairwise uV) {x:Key} (hx:x∈l):look l x.b x.a=some x:=by
 induction l with
 |nil=>cases hx
 |cons y r ih=>
  obtain⟨h1,h2⟩:=List.pairwise_cons.1 h;rw[mT];rcases dJ.1 hx with rfl|hx
  ·rw[aR ⟨rfl,rfl⟩]
  ·have:=h1 x hx
   rw[aJ (by unfold uV at this;omega)];exact ih h2 hx
theorem BH {l:List Key} {b a:Int} (h: ∀x∈l,¬(x.b=b∧x.a=a)):look l b a=none:=by
 unfold look;rw[List.find?_eq_none];intro x hx hs;unfold Jd at hs;exact h x hx (by simpa using hs)
theorem Je: ∀(new:List Key) {old:List Key},old.Pairwise uV→new.Pairwise uV→ ∀b a,look (cj old new) b a=(look new b a).or (look old b a)
 |[],old,_,_,b,a=>rfl
 |x::r,old,ho,hn,b,a=>by
  obtain⟨h1,h2⟩:=List.pairwise_cons.1 hn;have ih:=Je r (tF (k:=x) ho) h2 b a;show look (cj (eB old x) r) b a=_;rw[ih,Ai ho,mT]
  by_cases hs:x.b=b∧x.a=a
  ·rw[aR hs,aR hs]
   have hr:look r b a=none:=BH fun y hy h=>by
    have:=h1 y hy;unfold uV at this;omega
   rw[hr];rfl
  ·rw[aJ hs,aJ hs]
theorem Gf {l:List Key} (h:l.Pairwise uV) (p:Key→Bool) (b a:Int):look (l.filter p) b a=(look l b a).filter p:=by
 induction l with
 |nil=>rfl
 |cons x r ih=>
  obtain⟨h1,h2⟩:=List.pairwise_cons.1 h;rw[mT]
  by_cases hp:p x=true
  ·rw[List.filter_cons_of_pos hp,mT,ih h2]
   by_cases hs:x.b=b∧x.a=a
   ·rw[aR hs,aR hs];simp[Option.filter,hp]
   ·rw[aJ hs,aJ hs]
  ·rw[List.filter_cons_of_neg hp,ih h2]
   by_cases hs:x.b=b∧x.a=a
   ·rw[aR hs]
    have hr:look r b a=none:=BH fun y hy h=>by
     have:=h1 y hy;unfold uV at this;omega
    rw[hr];simp[Option.filter,hp]
   ·rw[aJ hs]
theorem ZF: ∀{l m:List Key},l.Pairwise uV→m.Pairwise uV→(∀x,x∈l↔x∈m)→l=m
 |[],[],_,_,_=>rfl
 |[],y::m,_,_,h=>by have:=(h y).2 (.head _);cases this
 |x::l,[],_,_,h=>by have:=(h x).1 (.head _);cases this
 |x::l,y::m,hl,hm,h=>by
  obtain⟨h1,h2⟩:=List.pairwise_cons.1 hl;obtain⟨h3,h4⟩:=List.pairwise_cons.1 hm
  have hxy:x=y:=by
   rcases dJ.1 ((h x).1 (.head _)) with e|e
   ·exact e
   ·rcases dJ.1 ((h y).2 (.head _)) with e2|e2
    ·exact e2.symm
    ·have a1:=h3 x e
     have a2:=h1 y e2;unfold uV at a1 a2;omega
  subst hxy
  have:l=m:=ZF h2 h4 fun z=>by
   constructor
   ·intro hz
    rcases dJ.1 ((h z).1 (.tail _ hz)) with e|e
    ·subst e;have:=h1 z hz;unfold uV at this;omega
    ·exact e
   ·intro hz
    rcases dJ.1 ((h z).2 (.tail _ hz)) with e|e
    ·subst e;have:=h3 z hz;unfold uV at this;omega
    ·exact e
  rw[this]
theorem RV {l m:List Key} (hl:l.Pairwise uV) (hm:m.Pairwise uV) (h: ∀b a,look l b a=look m b a):l=m:=
 ZF hl hm fun x=>⟨fun hx=>by have:=ZE hl hx;rw[h] at this;exact(Mg this).1,fun hx=>by have:=ZE hm hx;rw[←h] at this;exact(Mg this).1⟩
def N4 (n:List (List Key)):Prop:= ∀s∈n,s.Pairwise uV
theorem aby {l:List Key} (h:Ku l=true):l.Pairwise uV:=by
 rw[Kv] at h;simp only[dY] at h;have hp:=uo.1 h.2.1
 have key: ∀(l:List Key),(∀i,i<l.length→jy l eJ i=true)→l.Pairwise uV:=by
  intro l
  induction l with
  |nil=>intro _;exact .nil
  |cons x r ih=>
   intro hq
   have hr:=ih fun i hi=>by
    have:=hq (i+1) gZ
    cases i with
    |zero=>rfl
    |succ i=>simpa [jy] using this
   refine List.pairwise_cons.2 ⟨?_,hr⟩
   cases r with
   |nil=>intro y hy;cases hy
   |cons z r=>
    have hxz:uV x z:=by have:=hq 1 bZ;simp only[jy,fu,tU] at this;exact wm.1 this
    intro y hy;rcases dJ.1 hy with rfl|hy
    ·exact hxz
    ·exact hxz.trans ((List.pairwise_cons.1 hr).1 y hy)
 exact key l hp
theorem wq {n:List (List Key)} (h:gn n=true):N4 n:=fun s hs=>by
 unfold gn at h;simp only[dY] at h;have:=List.all_eq_true.1 h.1.1 s hs;simp only[dY] at this;exact aby this.1
def xm:List (List Key)→Int→Int→Option Key
 |[],_,_=>none
 |s::r,b,a=>(xm r b a).or (look s b a)
theorem RW: ∀(n:List (List Key)) {acc:List Key},acc.Pairwise uV→N4 n→ ∀b a,look (n.foldl cj acc) b a=(xm n b a).or (look acc b a)
 |[],acc,_,_,b,a=>rfl
 |s::r,acc,ha,hn,b,a=>by
  have hs:=hn s (.head _);have ih:=RW r (C0 s ha) (fun t ht=>hn t (.tail _ ht)) b a;show look (r.foldl cj (cj acc s)) b a=_;rw[ih,Je s ha hs];show _=((xm r b a).or (look s b a)).or (look acc b a);rw[Option.or_assoc]
def qa (k:Key):Bool:= !decide (k.k=0)
theorem HB {n:List (List Key)} (h:N4 n) (b a:Int):look (aB n) b a=(xm n b a).filter qa:=by
 have hr:(tE n).Pairwise uV:=I9 n .nil;have e:=Gf hr qa b a;have e2:=RW n .nil h b a;show look ((tE n).filter qa) b a=_;rw[e];show Option.filter qa (look (n.foldl cj []) b a)=_;rw[e2];show Option.filter qa ((xm n b a).or none)=_;rw[Option.or_none]
def ZG:Option Key→Key×Bool
 |some k=>(k,true)
 |none=>(eK,false)
theorem C5 (n:List (List Key)) (s:List Key) (b a:Int):xm (n++[s]) b a=(look s b a).or (xm n b a):=by
 induction n with
 |nil=>simp[xm]
 |cons t r ih=>simp only[FG,xm,ih,Option.or_assoc]
theorem Im (n:List (List Key)) (b a:Int): ∀k,k≤n.length→rN n b a k=ZG ((xm (n.take k) b a).filter qa)
 |0,_=>rfl
 |k+1,h=>by
  have ih:=Im n b a k au
  have hk:k<n.length:=by omega
  unfold rN;rw[bC hk,List.take_add_one,bC hk];simp only[Option.toList];rw[C5];unfold Mc;rw[abx]
  cases hl:look n[k] b a with
  |none=>simp only[Ds,if_false];rw[ih];rfl
  |some x=>
   simp only[if_true,Option.some_or]
   by_cases hx:x.k=0
   ·rw[aR hx];simp[Option.filter,qa,hx,ZG]
   ·rw[aJ hx];simp[Option.filter,qa,hx,ZG]
theorem ZH {n:List (List Key)} (h:N4 n) (b a:Int):rN n b a n.length=ZG (look (aB n) b a):=by
 rw[Im n b a n.length (cL _),rj,HB h]
end Go.T
namespace Go.T
theorem adL {l:List Key} (h:l.Pairwise uV):cj [] l=l:=
 RV (C0 l .nil) h fun b a=>by rw[Je l .nil h];show(look l b a).or none=_;rw[Option.or_none]
theorem BI {l:List Key} (h:l.Pairwise uV) (hn: ∀x∈l,¬x.k=0):aB (cE l)=l:=by
 unfold cE
 split
 ·rename_i h0
  rw[List.length_eq_zero_iff.1 h0];rfl
 ·show kH (cj [] l)=l
  rw[adL h];unfold kH;rw[List.filter_eq_self];intro x hx;simpa using hn x hx
theorem HC {n:List (List Key)} {x:Key} (hx:x∈aB n): ¬x.k=0:=by
 have:=(List.mem_filter.1 hx).2;simpa using this
theorem Wc {n:List (List Key)} {k x:Key} (hx:x∈cQ n k): ¬x.k=0:=by
 have:=(List.mem_filter.1 hx).2;simpa using this
theorem af0 {n:List (List Key)} (k:Key) (h:N4 n) (b a:Int):xm (nL n k) b a=if k.b=b∧k.a=a then some k else xm n b a:=by
 have hone: ∀m:List (List Key),xm (m++[[k]]) b a=if k.b=b∧k.a=a then some k else xm m b a:=fun m=>by
  rw[C5,mT]
  by_cases hs:k.b=b∧k.a=a
  ·rw[aR hs,aR hs];rfl
  ·rw[aJ hs,aJ hs];rfl
 unfold nL
 cases hl:n[n.length-1]? with
 |none=>exact hone n
 |some s=>
  simp only[]
  split
  ·obtain⟨hlt,hs⟩:=List.getElem?_eq_some_iff.1 hl
   have hpos:0<n.length:=by omega
   have e1:n=n.take (n.length-1)++[s]:=by
    conv=>lhs;rw[←Dv (n.length-1) n]
    rw[zF hlt,hs,Bo au]
   have e2:n.set (n.length-1) (eB s k)=n.take (n.length-1)++[eB s k]:=by
    rw[List.set_eq_take_append_cons_drop,aR hlt,Bo au]
   rw[e2,C5,Ai (h s (by rw[←hs];exact tV hlt))]
   conv=>rhs;rw[e1]
   rw[C5]
   by_cases hs:k.b=b∧k.a=a
   ·rw[aR hs,aR hs];rfl
   ·rw[aJ hs,aJ hs]
  ·exact hone n
theorem Wd {n:List (List Key)} (k:Key) (h:N4 n) (b a:Int):look (cQ n k) b a=(if k.b=b∧k.a=a then some k else xm n b a).filter qa:=by
 have hr:=lJ n;show look ((eB (aB n) k).filter qa) b a=_;rw[Gf (tF hr),Ai hr]
 by_cases hs:k.b=b∧k.a=a
 ·rw[aR hs,aR hs]
 ·rw[aJ hs,aJ hs,HB h]
  cases xm n b a with
  |none=>rfl
  |some x=>by_cases hx:qa x=true<;>simp[Option.filter,hx]
theorem ah6 {n:List (List Key)} (k:Key) (h:N4 n) (h2:N4 (nL n k)):aB (nL n k)=cQ n k:=
 RV (lJ _) (vL n k) fun b a=>by rw[HB h2,af0 k h,Wd k h]
theorem Xl {n:List (List Key)} {k:Key} (h:gn n=true) (hp:(cF n k).2=true):aB (cF n k).1=cQ n k∧gn (cF n k).1=true:=by
 have hr:=wq h;unfold cF at hp ⊢
 split
 ·rename_i h1
  exact⟨ah6 k hr (wq h1),h1⟩
 ·rename_i h1
  rw[aJ h1] at hp
  split
  ·rename_i h2;rw[aR h2] at hp;cases hp
  ·rename_i h2
   rw[aJ h2] at hp
   split
   ·rename_i h3
    exact⟨BI (vL n k) fun x hx=>Wc hx,h3⟩
   ·rename_i h3;rw[aJ h3] at hp;cases hp
theorem TZ (n:List (List Key)):aB (nt n)=aB n:=BI (lJ n) fun x hx=>HC hx
theorem ZI {n:List (List Key)} (h:gn n=true):gn (nt n)=true∧(nt n).length≤1:=by
 have h1:=og h;have h2:=cY n;refine⟨yE (lJ n) (fun y hy=> ?_) au,Ae _⟩;obtain⟨s,hs,hy⟩:=lE hy;exact tG h hs hy
end Go.T
namespace Go.T
structure tH (t:Tree):Prop where
 len:t.aA.length=t.nodes.length
 low0:t.aA[0]?=some 0
 rise: ∀i x y,t.aA[i]?=some x→t.aA[i+1]?=some y→x<y
 ok: ∀n∈t.nodes,gn n=true
 lo: ∀(i:Nat) (n:List (List Key)) (x:Int),t.nodes[i]?=some n→t.aA[i]?=some x→ ∀s∈n,∀k:Key,k∈s→x≤dz k.b k.a
 hi: ∀(i:Nat) (n:List (List Key)) (x:Int),t.nodes[i]?=some n→t.aA[i+1]?=some x→ ∀s∈n,∀k:Key,k∈s→dz k.b k.a<x
theorem af1 {t:Tree} (h:de t=true):tH t:=by
 have hl:=nM h;have hat: ∀i n,t.nodes[i]?=some n→gW t i=true:=fun i n hn=>Hz h (List.getElem?_eq_some_iff.1 hn).1
 have hsp: ∀(i:Nat) (n:List (List Key)),t.nodes[i]?=some n→ ∀s∈n,∀k:Key,k∈s→Ma t.aA i (dz k.b k.a)=true:=by
  intro i n hn s hs k hk;have:=hat i n hn;unfold gW at this;rw[hn] at this;simp only[dY] at this;have h1:=List.all_eq_true.1 this.2.2.2 s hs;unfold gH at h1;exact List.all_eq_true.1 h1 k hk
 refine⟨hl.2.2,RL h,?_,fun n hn=>qv h hn,?_,?_⟩
 ·intro i x y hx hy
  obtain⟨hi,_⟩:=List.getElem?_eq_some_iff.1 hy;have:=Hz h (i:=i+1) au;unfold gW at this;simp only[dY,jy,hx,hy,decide_eq_true_eq] at this;exact this.1
 ·intro i n x hn hx s hs k hk
  have:=hsp i n hn s hs k hk;unfold Ma at this;rw[hx] at this;simp only[dY,yg,decide_eq_false_iff_not] at this;omega
 ·intro i n x hn hx s hs k hk
  have:=hsp i n hn s hs k hk;obtain⟨hi,_⟩:=List.getElem?_eq_some_iff.1 hn;unfold Ma at this;rw[bC (by omega:i<t.aA.length),hx] at this;simp only[dY,decide_eq_true_eq] at this;exact this.2
theorem tH.mono {t:Tree} (h:tH t): ∀(d i:Nat) (x y:Int),t.aA[i]?=some x→t.aA[i+d+1]?=some y→x<y
 |0,i,x,y,hx,hy=>h.rise i x y hx hy
 |d+1,i,x,y,hx,hy=>by
  obtain⟨hlt,_⟩:=List.getElem?_eq_some_iff.1 hy;have hm:t.aA[i+d+1]?=some t.aA[i+d+1]:=bC au;have h1:=h.mono d i x _ hx hm;have h2:=h.rise (i+d+1) _ y hm (by rw[show i+d+1+1=i+(d+1)+1 from by omega];exact hy);omega
theorem tH.lt {t:Tree} (h:tH t) {i j:Nat} {x y:Int} (hij:i<j) (hx:t.aA[i]?=some x) (hy:t.aA[j]?=some y):x<y:=
 h.mono (j-i-1) i x y hx (by rw[show i+(j-i-1)+1=j from by omega];exact hy)
theorem tH.key {t:Tree} (h:tH t) {i:Nat} {n:List (List Key)} (hn:t.nodes[i]?=some n) {x:Key} (hx:x∈aB n):fM x=true:=by
 obtain⟨s,hs,hy⟩:=lE hx;exact tG (h.ok n (iV hn)) hs hy
theorem KK {x y:Key} (hx:fM x=true) (hy:fM y=true):dz x.b x.a<dz y.b y.a↔uV x y:=by
 have h1:=Ge hx;have h2:=Ge hy;rw[C4 hx,C4 hy];unfold uV;omega
def yJ (t:Tree) (i:Nat):List Key:=(t.nodes.drop i).flatMap aB
theorem Io {t:Tree} {i:Nat} {n:List (List Key)} (hn:t.nodes[i]?=some n):yJ t i=aB n++yJ t (i+1):=by
 obtain⟨hi,he⟩:=List.getElem?_eq_some_iff.1 hn;unfold yJ;rw[zF hi,he,List.flatMap_cons]
theorem xM {t:Tree} {i:Nat} (h:t.nodes.length≤i):yJ t i=[]:=by
 unfold yJ;rw[Bo h];rfl
theorem tH.acO {t:Tree} (h:tH t): ∀(d i:Nat),i+d=t.nodes.length→ ∀x,t.aA[i]?=some x→ ∀k∈yJ t i,fM k=true∧x≤dz k.b k.a
 |0,i,hd,x,hx,k,hk=>by rw[xM au] at hk;cases hk
 |d+1,i,hd,x,hx,k,hk=>by
  have hn:t.nodes[i]?=some t.nodes[i]:=bC au;rw[Io hn] at hk;rcases List.mem_append.1 hk with hk|hk
  ·refine⟨h.key hn hk,?_⟩
   obtain⟨s,hs,hk⟩:=lE hk;exact h.lo i _ x hn hx s hs k hk
  ·cases hm:t.aA[i+1]? with
   |none=>
    have hl:=h.len
    have: ¬i+1<t.aA.length:=fun hlt=>by rw[bC hlt] at hm;cases hm
    rw[xM au] at hk;cases hk
   |some y=>
    obtain⟨h1,h2⟩:=h.acO d (i+1) au y hm k hk;have:=h.rise i x y hx hm;exact⟨h1,by omega⟩
theorem tH.We {t:Tree} (h:tH t): ∀(d i:Nat),i+d=t.nodes.length→(yJ t i).Pairwise uV
 |0,i,hd=>by rw[xM au];exact .nil
 |d+1,i,hd=>by
  have hn:t.nodes[i]?=some t.nodes[i]:=bC au;rw[Io hn];refine List.pairwise_append.2 ⟨lJ _,h.We d (i+1) au,fun x hx y hy=> ?_⟩
  cases hm:t.aA[i+1]? with
  |none=>
   have hl:=h.len
   have: ¬i+1<t.aA.length:=fun hlt=>by rw[bC hlt] at hm;cases hm
   rw[xM au] at hy;cases hy
  |some z=>
   obtain⟨h1,h2⟩:=h.acO d (i+1) au z hm y hy;have hxk:=h.key hn hx;obtain⟨s,hs,hx⟩:=lE hx;have h3:=h.hi i _ z hn hm s hs x hx;exact(KK hxk h1).1 au
theorem tH.HD {t:Tree} (h:tH t):(az t).Pairwise uV:=h.We t.nodes.length 0 au
theorem C6 {f:Int→Bool} {l:List Int}: ∀(n:Nat),n≤l.length→(r9 f l n= -1∧ ∀j x,j<n→l[j]?=some x→f x=false)∨ ∃i:Nat,r9 f l n=i∧i<n∧(∃x,l[i]?=some x∧f x=true)∧ ∀j x,i<j→j<n→l[j]?=some x→f x=false
 |0,_=> .inl ⟨rfl,fun j x h=>by omega⟩
 |n+1,h=>by
  have hn:n<l.length:=by omega
  unfold r9;rw[bC hn];simp only[]
  cases hf:f l[n] with
  |true=>exact .inr ⟨n,by simp,by omega,⟨_,bC hn,hf⟩,fun j x h1 h2=>by omega⟩
  |false=>
   rw[aJ bZ];rcases C6 (f:=f) (l:=l) n au with⟨h1,h2⟩|⟨i,h1,h2,h3,h4⟩
   ·refine .inl ⟨h1,fun j x hj hx=> ?_⟩
    by_cases hjn:j=n
    ·subst hjn;rw[bC hn] at hx;cases hx;exact hf
    ·exact h2 j x au hx
   ·refine .inr ⟨i,h1,by omega,h3,fun j x hij hj hx=> ?_⟩
    by_cases hjn:j=n
    ·subst hjn;rw[bC hn] at hx;cases hx;exact hf
    ·exact h4 j x hij au hx
theorem tH.acP {t:Tree} (h:tH t) {i:Nat} {x:Int} {b a:Int} (hx:t.aA[i]?=some x) (hlo:x≤dz b a) (hhi: ∀j y,i<j→t.aA[j]?=some y→dz b a<y):
 ∀(j:Nat) (n:List (List Key)),t.nodes[j]?=some n→ ¬j=i→look (aB n) b a=none:=by
 intro j n hn hne;refine BH fun k hk hs=> ?_
 have hj:j<t.aA.length:=by rw[h.len];exact(List.getElem?_eq_some_iff.1 hn).1
 obtain⟨s,JQ,Cu⟩:=lE hk;have h1:=h.lo j n t.aA[j] hn (bC hj) s JQ k Cu;rw[hs.1,hs.2] at h1
 by_cases hji:j<i
 ·have hj1:j+1<t.aA.length:=by have:=(List.getElem?_eq_some_iff.1 hx).1;omega
  have h2:=h.hi j n t.aA[j+1] hn (bC hj1) s JQ k Cu;rw[hs.1,hs.2] at h2
  by_cases he:j+1=i
  ·subst he;rw[bC hj1] at hx;cases hx;omega
  ·have:=h.lt (i:=j+1) (j:=i) au (bC hj1) hx
   omega
 ·have:=hhi j _ au (bC hj)
  omega
theorem Wf {b a:Int}: ∀(l:List (List (List Key))) (i:Nat) (n:List (List Key)),l[i]?=some n→(∀j m,l[j]?=some m→ ¬j=i→look (aB m) b a=none)→look (l.flatMap aB) b a=look (aB n) b a
 |[],i,n,h,_=>by simp at h
 |m::r,0,n,h,hn=>by
  simp only[fu,bq] at h;subst h;rw[List.flatMap_cons,rO]
  have:look (r.flatMap aB) b a=none:=BH fun x hx hs=>by
   obtain⟨q,hq,hx⟩:=List.mem_flatMap.1 hx;obtain⟨j,hj⟩:=List.mem_iff_getElem?.1 hq;have:=hn (j+1) q (by simpa using hj) au;unfold look at this;rw[List.find?_eq_none] at this;exact this x hx (by unfold Jd;simpa using hs)
  rw[this,Option.or_none]
 |m::r,i+1,n,h,hn=>by
  rw[List.flatMap_cons,rO,hn 0 m rfl au];have:=Wf r i n (by simpa using h) fun j q hj hne=>hn (j+1) q (by simpa using hj) au;rw[this];rfl
theorem tH.find {t:Tree} (h:tH t) {b a:Int} (hs:0≤dz b a):yC t b a=ZG (look (az t) b a):=by
 unfold yC jJ;rcases C6 (f:=fun x=>decide (x≤dz b a)) (l:=t.aA) t.aA.length (cL _) with⟨_,h2⟩|⟨i,h1,h2,⟨x,hx,hf⟩,h4⟩
 ·have hpos:=(List.getElem?_eq_some_iff.1 h.low0).1
  have:=h2 0 0 hpos h.low0;simp only[decide_eq_false_iff_not] at this;omega
 ·rw[h1,aK]
  have hlo:x≤dz b a:=th hf
  have hi:i<t.nodes.length:=by rw[←h.len];exact h2
  have hn:t.nodes[i]?=some t.nodes[i]:=bC hi;rw[hn];simp only[]
  have hno:=h.acP hx hlo fun j y hij hy=>by
   have:=h4 j y hij (List.getElem?_eq_some_iff.1 hy).1 hy;simp only[decide_eq_false_iff_not] at this;omega
  rw[ZH (wq (h.ok _ (tV hi)))];unfold az;rw[Wf t.nodes i t.nodes[i] hn hno]
end Go.T
namespace Go.T
abbrev Nd:=List (List Key)
def below (x:Int):Option Int→Prop
 |none=>True
 |some y=>x<y
def Xm (l:List Int) (hi:Option Int):Option Int:=match l with|[]=>hi|y::_=>some y
def Xn (x:Int) (hi:Option Int) (n:Nd):Prop:=gn n=true∧below x hi∧ ∀s∈n,∀k:Key,k∈s→x≤dz k.b k.a∧below (dz k.b k.a) hi
def TR (hi:Option Int):List Int→List Nd→Prop
 |[],[]=>True
 |x::xs,n::ns=>Xn x (Xm xs hi) n∧TR hi xs ns
 |_,_=>False
theorem acQ (l m:List Int) (hi:Option Int):Xm (l++m) hi=Xm l (Xm m hi):=by cases l<;>rfl
theorem BJ (l:List Int):Xm l none=l[0]?:=by cases l<;>rfl
theorem wu {x y:Int} {o:Option Int} (h:x≤y) (h2:below y o):below x o:=by
 cases o with
 |none=>trivial
 |some z=>have:y<z:=h2;show x<z;omega
theorem TR.app {hi:Option Int} {l2:List Int} {n2:List Nd} (h2:TR hi l2 n2): ∀{l:List Int} {n:List Nd},TR (Xm l2 hi) l n→TR hi (l++l2) (n++n2)
 |[],[],_=>h2
 |x::xs,n::ns,h=>⟨by show Xn x (Xm (xs++l2) hi) n;rw[acQ];exact h.1,TR.app h2 h.2⟩
 |[],_::_,h=>h.elim
 |_::_,[],h=>h.elim
theorem TR.split {hi:Option Int} {l2:List Int} {n2:List Nd}: ∀{l:List Int} {n:List Nd},l.length=n.length→TR hi (l++l2) (n++n2)→TR (Xm l2 hi) l n∧TR hi l2 n2
 |[],[],_,h=>⟨trivial,h⟩
 |x::xs,n::ns,hl,h=>by
  have h:Xn x (Xm (xs++l2) hi) n∧TR hi (xs++l2) (ns++n2):=h;rw[acQ] at h;have:=TR.split (by simpa using hl) h.2;exact⟨⟨h.1,this.1⟩,this.2⟩
 |[],_::_,hl,_=>by simp at hl
 |_::_,[],hl,_=>by simp at hl
theorem Xn.mono {x:Int} {n:Nd} {o o':Option Int} (hm: ∀y,below y o→below y o') (h:Xn x o n):Xn x o' n:=
 ⟨h.1,hm _ h.2.1,fun s hs k hk=>⟨(h.2.2 s hs k hk).1,hm _ (h.2.2 s hs k hk).2⟩⟩
theorem TR.mono {o o':Option Int} (hm: ∀y,below y o→below y o'): ∀{l:List Int} {n:List Nd},TR o l n→TR o' l n
 |[],[],_=>trivial
 |[x],[n],h=>⟨Xn.mono hm h.1,trivial⟩
 |x::y::xs,n::ns,h=>⟨h.1,TR.mono hm h.2⟩
 |[x],n::m::ns,h=>h.2.elim
 |[],_::_,h=>h.elim
 |_::_,[],h=>h.elim
theorem TR.len {hi:Option Int}: ∀{l:List Int} {n:List Nd},TR hi l n→l.length=n.length
 |[],[],_=>rfl
 |x::xs,n::ns,h=>by simp[TR.len h.2]
 |[],_::_,h=>h.elim
 |_::_,[],h=>h.elim
theorem TR.at {hi:Option Int}: ∀{l:List Int} {n:List Nd},TR hi l n→ ∀(i:Nat) (x:Int) (m:Nd),l[i]?=some x→n[i]?=some m→Xn x (Xm (l.drop (i+1)) hi) m
 |[],[],_,i,x,m,h1,_=>by simp at h1
 |x::xs,n::ns,h,0,y,m,h1,h2=>by
  simp only[fu,bq] at h1 h2;subst h1 h2;exact h.1
 |x::xs,n::ns,h,i+1,y,m,h1,h2=>TR.at h.2 i y m (by simpa using h1) (by simpa using h2)
 |[],_::_,h,_,_,_,_,_=>h.elim
 |_::_,[],h,_,_,_,_,_=>h.elim
theorem TR.head {hi:Option Int}: ∀{l:List Int} {n:List Nd},TR hi l n→ ∀x,l[0]?=some x→below x hi
 |[],_,_,x,hx=>by cases hx
 |[y],[n],h,x,hx=>by
  simp only[fu,bq] at hx;subst hx;exact h.1.2.1
 |y::z::r,n::ns,h,x,hx=>by
  simp only[fu,bq] at hx;subst hx;exact wu (Int.le_of_lt h.1.2.1) (TR.head h.2 z rfl)
 |[_],_::_::_,h,_,_=>h.2.elim
 |_::_,[],h,_,_=>h.elim
theorem vt (l:List Int) (i:Nat):(l.drop i)[0]?=l[i]?:=by rw[o5];rfl
theorem TR.of {t:Tree} (h:tH t): ∀(d i:Nat),i+d=t.nodes.length→TR none (t.aA.drop i) (t.nodes.drop i)
 |0,i,hd=>by
  have:=h.len;rw[Bo au,Bo au];trivial
 |d+1,i,hd=>by
  have hl:=h.len
  have h1:i<t.aA.length:=by omega
  have h2:i<t.nodes.length:=by omega
  have e1:t.aA[i]?=some t.aA[i]:=bC h1;have e2:t.nodes[i]?=some t.nodes[i]:=bC h2;rw[zF h1,zF h2];refine⟨⟨h.ok _ (tV h2),?_,fun s hs k hk=>⟨h.lo i _ _ e2 e1 s hs k hk,?_⟩⟩,TR.of h d (i+1) au⟩
  ·rw[BJ,vt]
   cases hy:t.aA[i+1]? with
   |none=>trivial
   |some y=>exact h.rise i _ y e1 hy
  ·rw[BJ,vt]
   cases hy:t.aA[i+1]? with
   |none=>trivial
   |some y=>exact h.hi i _ y e2 hy s hs k hk
theorem TR.tree {l:List Int} {n:List Nd} (h:TR none l n) (h0:l[0]?=some 0):tH ⟨l,n⟩:=by
 have hl:=h.len
 have gt: ∀(i:Nat) (x y:Int),l[i]?=some x→l[i+1]?=some y→ ∃m,n[i]?=some m∧Xn x (some y) m:=fun i x y hx hy=>by
  obtain⟨h1,_⟩:=List.getElem?_eq_some_iff.1 hx;have e2:n[i]?=some n[i]:=bC au;have:=h.at i x _ hx e2;rw[BJ,vt,hy] at this;exact⟨_,e2,this⟩
 refine⟨hl,h0,fun i x y hx hy=> ?_,fun m hm=> ?_,fun i m x hm hx=> ?_,fun i m y hm hy=> ?_⟩
 ·obtain⟨m,_,h1⟩:=gt i x y hx hy
  exact h1.2.1
 ·obtain⟨i,hi⟩:=List.mem_iff_getElem?.1 hm
  obtain⟨h1,_⟩:=List.getElem?_eq_some_iff.1 hi;have h1:i<n.length:=h1;exact(h.at i _ m (bC au) hi).1
 ·exact fun s hs k hk=>((h.at i x m hx hm).2.2 s hs k hk).1
 ·intro s hs k hk
  obtain⟨h1,_⟩:=List.getElem?_eq_some_iff.1 hm;have h1:i<n.length:=h1;have:=((h.at i _ m (bC au) hm).2.2 s hs k hk).2;have hy:l[i+1]?=some y:=hy;rw[BJ,vt,hy] at this;exact this
def NE (l:List Nd):Prop:= ∀n∈l.tail,¬aB n=[]
theorem aj2:NE []:=fun n hn=>by simp at hn
theorem abz (m:Nd):NE [m]:=fun n hn=>by simp at hn
structure uw (t:Tree):Prop where
 tr:TR none t.aA t.nodes
 z:t.aA[0]?=some 0
 ne:NE t.nodes
theorem uw.r {t:Tree} (h:uw t):tH t:=h.tr.tree h.z
theorem af2 {α:Type} {l:List α} {a:α} (h:a∈l.tail): ∃i:Nat,0<i∧l[i]?=some a:=by
 obtain⟨i,hi⟩:=List.mem_iff_getElem?.1 h;refine⟨i+1,by omega,?_⟩
 cases l with
 |nil=>simp at hi
 |cons b r=>simpa using hi
theorem RX {α:Type} {l:List α} {a:α} {i:Nat} (h0:0<i) (h:l[i]?=some a):a∈l.tail:=by
 cases l with
 |nil=>simp at h
 |cons b r=>
  cases i with
  |zero=>omega
  |succ i=>exact iV (i:=i) (by simpa using h)
theorem ZJ {t:Tree} (h:de t=true):uw t:=by
 have hr:=af1 h;refine⟨by have:=TR.of hr t.nodes.length 0 au;simpa using this,hr.low0,fun n hn=> ?_⟩;obtain⟨i,h0,hi⟩:=af2 hn;have:=Hz h (List.getElem?_eq_some_iff.1 hi).1;unfold gW at this;rw[hi] at this;simp only[dY,Bool.or_eq_true,decide_eq_true_eq,yg,decide_eq_false_iff_not] at this;rcases this.2.2.1 with h1|h1
 ·omega
 ·exact fun e=>h1 (by rw[e];rfl)
theorem uw.ok {t:Tree} (h:uw t) (h20:t.nodes.length≤20) (h60:(az t).length≤60):de t=true:=by
 have hr:=h.r;have hl:=hr.len;have h1:=(List.getElem?_eq_some_iff.1 h.z).1;unfold de iU;rw[h.z];simp only[dY,decide_eq_true_eq];refine⟨by omega,hl,trivial,uo.2 fun i hi=> ?_,h60⟩;unfold gW;have e2:t.nodes[i]?=some t.nodes[i]:=bC hi;rw[e2];simp only[dY,Bool.or_eq_true,decide_eq_true_eq,yg,decide_eq_false_iff_not];refine⟨?_,hr.ok _ (tV hi),?_,List.all_eq_true.2 fun s hs=>List.all_eq_true.2 fun k hk=> ?_⟩
 ·cases i with
  |zero=>rfl
  |succ i=>
   have a1:t.aA[i]?=some t.aA[i]:=bC au;have a2:t.aA[i+1]?=some t.aA[i+1]:=bC au;simp only[jy,a1,a2,decide_eq_true_eq];exact hr.rise i _ _ a1 a2
 ·by_cases h0:i=0
  ·exact .inl h0
  ·exact .inr fun e=>h.ne _ (RX au e2) (List.length_eq_zero_iff.1 e)
 ·unfold pP Ma
  have a1:t.aA[i]?=some t.aA[i]:=bC au;rw[a1];simp only[dY,yg,decide_eq_false_iff_not];have h3:=hr.lo i _ _ e2 a1 s hs k hk;refine⟨by omega,?_⟩
  cases hy:t.aA[i+1]? with
  |none=>rfl
  |some y=>simp only[decide_eq_true_eq];exact hr.hi i _ y e2 hy s hs k hk
theorem ZK: ∀{l:List Nd},(∀(j:Nat) (a b:Nd),l[j]?=some a→l[j+1]?=some b→6<(aB a).length+(aB b).length)→7*(l.length/2)≤(l.flatMap aB).length
 |[],_=>by simp
 |[a],_=>by simp
 |a::b::r,h=>by
  have h1:=h 0 a b rfl rfl;have h2:=ZK (l:=r) fun j x y hx hy=>h (j+2) x y (by simpa using hx) (by simpa using hy);simp only[List.flatMap_cons,ct,gG];omega
theorem Ip {t:Tree}: ∀{d i:Nat},i+d=t.nodes.length→wo t d i=none→ ∀j,i≤j→j+1<t.nodes.length→6<(jf t j).length+(jf t (j+1)).length
 |0,i,hd,_,j,h1,h2=>by omega
 |d+1,i,hd,h,j,h1,h2=>by
  unfold wo at h
  split at h
  ·split at h
   ·cases h
   ·by_cases hij:i=j
    ·subst hij;omega
    ·exact Ip au h j au h2
  ·omega
theorem af3 {t:Tree} (h:mz t=none) (h60:(az t).length≤60):t.nodes.length≤20:=by
 have:=ZK (l:=t.nodes) fun j a b ha hb=>by
  have h1:=(List.getElem?_eq_some_iff.1 hb).1;have:=Ip (t:=t) (d:=t.nodes.length) (i:=0) au h j au h1
  rwa [fU ha,fU hb] at this
 unfold az at h60;omega
theorem ZL {α:Type} {l:List α} {i:Nat} {a:α} (h:l[i]?=some a):l=l.take i++a::l.drop (i+1):=by
 obtain⟨h1,e⟩:=List.getElem?_eq_some_iff.1 h
 conv=>lhs;rw[←Dv i l]
 rw[zF h1,e]
theorem C7 {l:List Key} {s:List Key} (h:s∈cE l) {k:Key} (hk:k∈s):k∈l:=by
 unfold cE at h
 split at h
 ·cases h
 ·rw[j6.1 h] at hk;exact hk
theorem uw.aj3 {t:Tree} (h:uw t) {A A1 A2 C:List Int} {N N1 N2 M:List Nd} (e1:t.aA=A++A1++C) (e2:t.nodes=N++N1++M) (hl:A.length=N.length) (Ly:A1.length=N1.length) {x:Int} (hx:A1[0]?=some x)
 (h2:TR (Xm C none) A2 N2) (h0:A2[0]?=some x∨(A2=[]∧ ¬A=[])) (hn:NE N2) (hn2: ¬A=[]→ ∀n∈N2,¬aB n=[]):uw ⟨A++A2++C,N++N2++M⟩:=by
 obtain⟨tr,z,ne⟩:=h;rw[e1,e2,tT,tT] at tr;obtain⟨t1,t2⟩:=TR.split hl tr;obtain⟨t3,t4⟩:=TR.split Ly t2
 have hA1:Xm (A1++C) none=some x:=by
  cases A1 with
  |nil=>cases hx
  |cons a r=>simpa [Xm] using hx
 rw[hA1] at t1;rw[e2] at ne;rw[e1] at z;have hxC:below x (Xm C none):=t3.head x hx;refine⟨?_,?_,?_⟩
 ·show TR none (A++A2++C) (N++N2++M)
  rw[tT,tT];refine TR.app (TR.app t4 h2) (t1.mono fun y hy=> ?_);have hy:y<x:=hy;rcases h0 with h0|⟨h0,_⟩
  ·cases A2 with
   |nil=>cases h0
   |cons a r=>simp only[fu,bq] at h0;subst h0;exact hy
  ·subst h0;exact wu (Int.le_of_lt hy) hxC
 ·show(A++A2++C)[0]?=some 0
  cases A with
  |cons a r=>simpa using z
  |nil=>
   rcases h0 with h0|⟨_,h0⟩
   ·cases A1 with
    |nil=>cases hx
    |cons a r=>
     cases A2 with
     |nil=>cases h0
     |cons b s=>
      simp only[tg,FG,fu,bq] at z hx h0 ⊢;omega
   ·exact absurd rfl h0
 ·show NE (N++N2++M)
  have hM: ∀n∈M,(¬N1=[])→ ¬aB n=[]:=fun n hm h1=>ne n (by
   cases N with
   |cons a r=>simp[hm]
   |nil=>
    cases N1 with
    |nil=>exact absurd rfl h1
    |cons b s=>simp[hm])
  have hN1: ¬N1=[]:=fun e=>by
   subst e;rw[List.length_eq_zero_iff.1 Ly] at hx;cases hx
  intro n hnm
  cases N with
  |cons a r=>
   have hA: ¬A=[]:=fun e=>by rw[e] at hl;simp at hl
   simp only[FG,List.tail_cons,List.mem_append] at hnm;rcases hnm with(hnm|hnm)|hnm
   ·exact ne n (by simp[hnm])
   ·exact hn2 hA n hnm
   ·exact hM n hnm hN1
  |nil=>
   have hA:A=[]:=List.length_eq_zero_iff.1 (by simpa using hl)
   cases N2 with
   |nil=>
    rcases h0 with h0|⟨_,h0⟩
    ·rw[List.length_eq_zero_iff.1 h2.len] at h0;cases h0
    ·exact absurd hA h0
   |cons b s=>
    simp only[tg,FG,List.tail_cons,List.mem_append] at hnm;rcases hnm with hnm|hnm
    ·exact hn n hnm
    ·exact hM n hnm hN1
theorem uw.step {t:Tree} (h:uw t) {i:Nat} (hp:mz t=some i):uw (cv t i)∧az (cv t i)=az t:=by
 obtain⟨h1,h2⟩:=x9 hp;have hr:=h.r;have hl:=hr.len;have a1:t.nodes[i]?=some t.nodes[i]:=bC au;have a2:t.nodes[i+1]?=some t.nodes[i+1]:=bC h1;have b1:t.aA[i]?=some t.aA[i]:=bC au;have b2:t.aA[i+1]?=some t.aA[i+1]:=bC au;have en:=abw a1 a2;have el:=abw b1 b2;generalize ha:t.nodes[i]=a at*;generalize hb:t.nodes[i+1]=b at*;generalize hx:t.aA[i]=x at*;generalize hy:t.aA[i+1]=y at*;rw[fU a1,fU a2] at h2
 have e1:cv t i=⟨t.aA.take i++[x]++t.aA.drop (i+2),t.nodes.take i++[cE (aB a++aB b)]++t.nodes.drop (i+2)⟩:=by
  unfold cv mM;rw[fU a1,fU a2,oG,b1];rfl
 have el':t.aA=t.aA.take i++[x,y]++t.aA.drop (i+2):=by simpa using el
 have en':t.nodes=t.nodes.take i++[a,b]++t.nodes.drop (i+2):=by simpa using en
 have hlen:(t.aA.take i).length=(t.nodes.take i).length:=by simp[hl]
 have na:=h.tr.at i x a b1 a1;have nb:=h.tr.at (i+1) y b b2 a2;rw[BJ,vt,b2] at na
 have hka: ∀k∈aB a,fM k=true∧x≤dz k.b k.a∧dz k.b k.a<y:=fun k hk=>by
  obtain⟨s,hs,hk⟩:=lE hk;exact⟨tG na.1 hs hk,na.2.2 s hs k hk⟩
 have hkb: ∀k∈aB b,fM k=true∧y≤dz k.b k.a∧below (dz k.b k.a) (Xm (t.aA.drop (i+1+1)) none):=fun k hk=>by
  obtain⟨s,hs,hk⟩:=lE hk;exact⟨tG nb.1 hs hk,nb.2.2 s hs k hk⟩
 have hxy:x<y:=na.2.1
 have Ty:(aB a++aB b).Pairwise uV:=List.pairwise_append.2 ⟨lJ a,lJ b,fun u hu v hv=>by
  have:=hka u hu;have h4:=hkb v hv
  exact(KK this.1 h4.1).1 au⟩
 refine⟨?_,?_⟩
 ·rw[e1]
  refine h.aj3 el' en' hlen rfl (x:=x) rfl (A2:=[x]) (N2:=[cE (aB a++aB b)]) ⟨⟨yE Ty (fun k hk=> ?_) (by rw[ct];omega),?_,fun s hs k hk=> ?_⟩,trivial⟩ (.inl rfl) (abz _) fun hA n hn=> ?_
  ·rcases List.mem_append.1 hk with hk|hk
   ·exact(hka k hk).1
   ·exact(hkb k hk).1
  ·exact wu (Int.le_of_lt hxy) nb.2.1
  ·rcases List.mem_append.1 (C7 hs hk) with hk|hk
   ·exact⟨(hka k hk).2.1,wu (Int.le_of_lt (hka k hk).2.2) nb.2.1⟩
   ·exact⟨by have:=(hkb k hk).2.1;omega,(hkb k hk).2.2⟩
  ·rw[j6.1 hn,BI Ty fun u hu=>by
    rcases List.mem_append.1 hu with hu|hu<;>exact HC hu]
   have hi:0<i:=Nat.pos_of_ne_zero fun e=>hA (by subst e;rfl);have:=h.ne a (RX hi a1);intro e;exact this (List.append_eq_nil_iff.1 e).1
 ·rw[e1]
  unfold az
  conv=>rhs;rw[en']
  simp only[List.flatMap_append,List.flatMap_cons,List.flatMap_nil,m0]
  rw[BI Ty fun u hu=>by
     rcases List.mem_append.1 hu with hu|hu<;>exact HC hu]
theorem uw.join: ∀(n:Nat) {t:Tree},uw t→t.nodes.length≤n→uw (j8 n t)∧az (j8 n t)=az t∧mz (j8 n t)=none
 |0,t,h,hn=>⟨h,rfl,by
    have:t.nodes.length=0:=by omega
    show mz t=none
    unfold mz;rw[this];rfl⟩
 |n+1,t,h,hn=>by
  rw[vr]
  cases hp:mz t with
  |none=>exact⟨h,rfl,hp⟩
  |some i=>
   obtain⟨h1,h2⟩:=h.step hp;have h3:=uu (x9 hp).1;obtain⟨h4,h5,h6⟩:=uw.join n h1 au;exact⟨h4,h5.trans h2,h6⟩
theorem ZM {n:Nd} {k y:Key} {s:List Key} (hs:s∈(cF n k).1) (hy:y∈s):y=k∨ ∃s∈n,y∈s:=by
 have hin:s∈nL n k→y=k∨ ∃s∈n,y∈s:=fun hs=>by
  unfold nL at hs
  split at hs
  ·rcases List.mem_append.1 hs with hs|hs
   ·exact .inr ⟨s,hs,hy⟩
   ·rw[j6.1 hs] at hy;exact .inl (j6.1 hy)
  ·rename_i s0 h0
   split at hs
   ·rcases List.mem_or_eq_of_mem_set hs with hs|hs
    ·exact .inr ⟨s,hs,hy⟩
    ·rw[hs] at hy
     rcases I8 hy with hy|hy
     ·exact .inr ⟨s0,iV h0,hy⟩
     ·exact .inl hy
   ·rcases List.mem_append.1 hs with hs|hs
    ·exact .inr ⟨s,hs,hy⟩
    ·rw[j6.1 hs] at hy;exact .inl (j6.1 hy)
 unfold cF at hs
 split at hs
 ·exact hin hs
 ·split at hs
  ·exact .inr ⟨s,hs,hy⟩
  ·split at hs
   ·exact C1 (C7 hs hy)
   ·exact .inr ⟨s,hs,hy⟩
theorem Wg {b a:Int} {l:List Nd} (h: ∀q∈l,look (aB q) b a=none):look (l.flatMap aB) b a=none:=BH fun x hx hs=>by
 obtain⟨q,hq,hx⟩:=List.mem_flatMap.1 hx;have:=h q hq;unfold look at this;rw[List.find?_eq_none] at this;exact this x hx (by unfold Jd;simpa using hs)
theorem T2 {t:Tree} {x:Key} (h:x∈az t): ¬x.k=0:=by
 obtain⟨n,_,hx⟩:=List.mem_flatMap.1 h;exact HC hx
theorem Xo {t:Tree} (b a:Int):(look (az t) b a).filter qa=look (az t) b a:=by
 cases h:look (az t) b a with
 |none=>rfl
 |some x=>
  have:=T2 (Mg h).1;simp[Option.filter,qa,this]
theorem adM {t:Tree} {k:Key} (h:de t=true) (hk:fM k=true):uw (jN t (jJ t k.b k.a).toNat k)∧az (jN t (jJ t k.b k.a).toNat k)=kH (eB (az t) k):=by
 have hw:=ZJ h;have hr:=hw.r;have hl:=hr.len
 have wH:0≤dz k.b k.a:=by have:=Ge hk;rw[C4 hk];omega
 unfold jJ;rcases C6 (f:=fun x=>decide (x≤dz k.b k.a)) (l:=t.aA) t.aA.length (cL _) with⟨_,h2⟩|⟨i,h1,h2,⟨x,hx,hf⟩,h4⟩
 ·have hpos:=(List.getElem?_eq_some_iff.1 hr.low0).1
  have:=h2 0 0 hpos hr.low0;simp only[decide_eq_false_iff_not] at this;omega
 rw[h1];simp only[oF];have hlo:x≤dz k.b k.a:=th hf
 have hhi: ∀j y,i<j→t.aA[j]?=some y→dz k.b k.a<y:=fun j y hij hy=>by
  have:=h4 j y hij (List.getElem?_eq_some_iff.1 hy).1 hy;simp only[decide_eq_false_iff_not] at this;omega
 have hi:i<t.nodes.length:=by omega
 have hn:t.nodes[i]?=some t.nodes[i]:=bC hi;generalize hne:t.nodes[i]=n at*
 have el:t.aA=t.aA.take i++[x]++t.aA.drop (i+1):=by simpa using ZL hx
 have en:t.nodes=t.nodes.take i++[n]++t.nodes.drop (i+1):=by simpa using ZL hn
 have nd:=hw.tr.at i x n hx hn
 have hkn:below (dz k.b k.a) (Xm (t.aA.drop (i+1)) none):=by
  rw[BJ,vt]
  cases hy:t.aA[i+1]? with
  |none=>trivial
  |some y=>exact hhi (i+1) y au hy
 have hlen:(t.aA.take i).length=(t.nodes.take i).length:=by simp[hl]
 have hgd:t.nodes.getD i []=n:=by rw[oG,hn];rfl
 have hgl:t.aA.getD i 0=x:=by rw[oG,hx];rfl
 have hin: ∀y:Key,(y=k∨ ∃s∈n,y∈s)→fM y=true∧x≤dz y.b y.a∧below (dz y.b y.a) (Xm (t.aA.drop (i+1)) none):=fun y hy=>by
  rcases hy with rfl|⟨s,hs,hy⟩
  ·exact⟨hk,hlo,hkn⟩
  ·exact⟨tG nd.1 hs hy,nd.2.2 s hs y hy⟩
 have mid: ∃(A2:List Int) (N2:List Nd),jN t i k=⟨t.aA.take i++A2++t.aA.drop (i+1),t.nodes.take i++N2++t.nodes.drop (i+1)⟩∧TR (Xm (t.aA.drop (i+1)) none) A2 N2∧(A2[0]?=some x∨(A2=[]∧ ¬t.aA.take i=[]))∧NE N2∧(¬t.aA.take i=[]→ ∀m∈N2,¬aB m=[])∧N2.flatMap aB=cQ n k:=by
  unfold jN;rw[hgd,hgl]
  cases hp:(cF n k).2 with
  |true=>
   obtain⟨k1,k2⟩:=Xl nd.1 hp;rw[aR rfl];have hA: ¬t.aA.take i=[]→0<i:=fun hA=>Nat.pos_of_ne_zero fun e=>hA (by subst e;rfl)
   by_cases hz:0<i∧(aB (cF n k).1).length=0
   ·rw[aR hz]
    refine⟨[],[],rfl,trivial,.inr ⟨rfl,fun e=> ?_⟩,aj2,fun _ m hm=>(by cases hm),?_⟩
    ·have h5:(t.aA.take i).length=i:=by rw[c7];omega
     rw[e] at h5;have h6:=hz.1;have h7:0=i:=h5;omega
    ·rw[←k1,List.length_eq_zero_iff.1 hz.2];rfl
   ·rw[aJ hz]
    refine⟨[x],[(cF n k).1],rfl,⟨⟨k2,wu hlo hkn,fun s hs y hy=>(hin y (ZM hs hy)).2⟩,trivial⟩,.inl rfl,abz _,fun hA0 m hm=> ?_,by simp[k1]⟩;rw[j6.1 hm];exact fun e=>hz ⟨hA hA0,by rw[e];rfl⟩
  |false=>
   obtain⟨h8,_⟩:=Ja nd.1 hk hp;rw[aJ bZ];have Ty:=vL n k;have hall: ∀y∈cQ n k,(y=k∨ ∃s∈n,y∈s)∧ ¬y.k=0:=fun y hy=>⟨C1 hy,Wc hy⟩
   have h9:(cQ n k).length≤9:=by
    have h5:=qJ n k;have h6:=og nd.1;omega
   generalize cQ n k=L at*;have hh:=Xk h8;generalize hhe:(L.length+1)/2=HX at*;have hg:L[HX]?=some L[HX]:=bC hh
   have hgz:L.getD HX eK=L[HX]:=by rw[oG,hg];rfl
   rw[hgz];generalize hm:L[HX]=m at*;have hsplit:=ZL hg
   have aav:L.drop HX=m::L.drop (HX+1):=by rw[zF hh,hm]
   have hpw:(L.take HX++L.drop HX).Pairwise uV:=by rw[Dv];exact Ty
   obtain⟨p1,p2,p3⟩:=List.pairwise_append.1 hpw;have hmL:m∈L:=iV hg;have ok1: ∀y∈L,fM y=true∧x≤dz y.b y.a∧below (dz y.b y.a) (Xm (t.aA.drop (i+1)) none):=fun y hy=>hin y (hall y hy).1;have lt1: ∀y∈L.take HX,dz y.b y.a<dz m.b m.a:=fun y hy=>(KK (ok1 y (tf hy)).1 (ok1 m hmL).1).2 (p3 y hy m (by rw[aav];exact .head _))
   have le2: ∀y∈L.drop HX,dz m.b m.a≤dz y.b y.a:=fun y hy=>by
    rw[aav] at hy p2;rcases dJ.1 hy with rfl|hy
    ·exact Int.le_refl _
    ·have:=(KK (ok1 m hmL).1 (ok1 y (rD hy)).1).2 ((List.pairwise_cons.1 p2).1 y hy)
     omega
   have k1:aB (cE (L.take HX))=L.take HX:=BI p1 fun y hy=>(hall y (tf hy)).2;have k2:aB (cE (L.drop HX))=L.drop HX:=BI p2 fun y hy=>(hall y (rD hy)).2
   have l1:(L.take HX).length=HX:=by rw[c7];omega
   have l2:(L.drop HX).length=L.length-HX:=gQ
   have hpos:0<HX:=by omega
   have q1: ∃y,y∈L.take HX:=⟨(L.take HX)[0]'au,tV _⟩
   have hxm:x<dz m.b m.a:=by
    obtain⟨y,hy⟩:=q1;have h5:=lt1 y hy;have h6:=(ok1 y (tf hy)).2.1;omega
   have ne1: ¬aB (cE (L.take HX))=[]:=fun e=>by rw[k1] at e;have:=congrArg List.length e;rw[l1] at this;simp at this;omega
   have ne2: ¬aB (cE (L.drop HX))=[]:=fun e=>by rw[k2] at e;have:=congrArg List.length e;rw[l2] at this;simp at this;omega
   refine⟨[x,dz m.b m.a],[cE (L.take HX),cE (L.drop HX)],rfl,⟨⟨yE p1 (fun y hy=>(ok1 y (tf hy)).1) au,hxm,fun s hs y hy=>⟨(ok1 y (tf (C7 hs hy))).2.1,lt1 y (C7 hs hy)⟩⟩,⟨yE p2 (fun y hy=>(ok1 y (rD hy)).1) au,(ok1 m hmL).2.2,fun s hs y hy=>⟨le2 y (C7 hs hy),(ok1 y (rD (C7 hs hy))).2.2⟩⟩,trivial⟩,.inl rfl,fun q hq=> ?_,fun _ q hq=> ?_,?_⟩
   ·simp only[List.tail_cons,j6] at hq
    rw[hq];exact ne2
   ·simp only[dJ,List.not_mem_nil,or_false] at hq
    rcases hq with rfl|rfl
    ·exact ne1
    ·exact ne2
   ·simp only[List.flatMap_cons,List.flatMap_nil,m0,k1,k2,Dv]
 obtain⟨A2,N2,e0,m1,m2,m3,m4,m5⟩:=mid
 have hW:uw (jN t i k):=by
  rw[e0];exact hw.aj3 el en hlen rfl (x:=x) rfl m1 m2 m3 m4
 refine⟨hW,RV hW.r.HD ((tF hr.HD).sublist List.filter_sublist) fun b a=> ?_⟩
 have e3:az (jN t i k)=(t.nodes.take i).flatMap aB++cQ n k++(t.nodes.drop (i+1)).flatMap aB:=by
  rw[e0];unfold az;simp only[List.flatMap_append,m5]
 have e4:az t=(t.nodes.take i).flatMap aB++aB n++(t.nodes.drop (i+1)).flatMap aB:=by
  unfold az
  conv=>lhs;rw[en]
  simp only[List.flatMap_append,List.flatMap_cons,List.flatMap_nil,m0]
 show look (az (jN t i k)) b a=look ((eB (az t) k).filter qa) b a;rw[Gf (tF hr.HD),Ai hr.HD,e3,rO,rO,Wd k (wq nd.1)]
 by_cases hs:k.b=b∧k.a=a
 ·obtain⟨rfl,rfl⟩:=hs
  rw[aR ⟨rfl,rfl⟩,aR ⟨rfl,rfl⟩];have hno:=hr.acP hx hlo hhi
  have f1:look ((t.nodes.take i).flatMap aB) k.b k.a=none:=Wg fun q hq=>by
   obtain⟨j,hj⟩:=List.mem_iff_getElem?.1 hq
   have hj1:j<i:=by have:=(List.getElem?_eq_some_iff.1 hj).1;rw[c7] at this;omega
   rw[List.getElem?_take_of_lt hj1] at hj;exact hno j q hj au
  have f2:look ((t.nodes.drop (i+1)).flatMap aB) k.b k.a=none:=Wg fun q hq=>by
   obtain⟨j,hj⟩:=List.mem_iff_getElem?.1 hq;rw[o5] at hj;exact hno (i+1+j) q hj au
  rw[f1,f2,Option.none_or,Option.or_none]
 ·rw[aJ hs,aJ hs,Xo,←HB (wq nd.1),e4,rO,rO]
theorem RY {t:Tree} {k:Key} (h:de t=true) (hk:fM k=true):uw (j8 (jN t (jJ t k.b k.a).toNat k).nodes.length (jN t (jJ t k.b k.a).toNat k))∧az (j8 (jN t (jJ t k.b k.a).toNat k).nodes.length (jN t (jJ t k.b k.a).toNat k))=kH (eB (az t) k)∧
 ((kH (eB (az t) k)).length≤60→de (j8 (jN t (jJ t k.b k.a).toNat k).nodes.length (jN t (jJ t k.b k.a).toNat k))=true):=by
 obtain⟨h1,h2⟩:=adM h hk;obtain⟨h3,h4,h5⟩:=h1.join _ (cL _);rw[h2] at h4;exact⟨h3,h4,fun h60=>h3.ok (af3 h5 (by rw[h4];exact h60)) (by rw[h4];exact h60)⟩
theorem Xp {t:Tree} {k:Key} (h:de t=true) (hk:fM k=true) (hp:(bB t k).2=true):az (bB t k).1=kH (eB (az t) k):=by
 unfold bB at hp ⊢;rw[aR ⟨h,hk⟩] at hp ⊢
 split
 ·exact(RY h hk).2.1
 ·rename_i h1;rw[aJ h1] at hp;cases hp
theorem T3 {t:Tree} (h:de t=true):(az t).length≤60:=by
 unfold de at h;simp only[dY,decide_eq_true_eq] at h;exact h.2.2.2.2
end Go.T
namespace Go.T
end Go.T
namespace Go.T
attribute [local semireducible] FJ in
theorem Wh (l:List Int):FJ l=⟨(l.map fun n:Int=>UInt8.ofNat n.toNat).toArray⟩:=rfl
end Go.T
namespace Go.T
theorem acR {p x:bu} (h:cK p=true):cK (Xe p x).1=true:=by
 unfold Xe
 split
 ·assumption
 ·exact h
theorem KL {p x:bu} {b:Bool} (h:cK p=true):cK (HJ p x b).1=true:=by
 unfold HJ
 split
 ·exact acR h
 ·exact h
theorem ZN {p:bu} {x:bu×Bool} (h:cK p=true):cK (Ag p x).1=true:=by
 unfold Ag
 split
 ·rename_i h1;exact h1.2
 ·exact h
theorem Xq {α:Type} {l:List α} {i:Nat} {a b:α} (h:l[i]?=some a):l.modify i (fun _=>b)=l.take i++[b]++l.drop (i+1):=by
 obtain⟨h1,e⟩:=List.getElem?_eq_some_iff.1 h
 apply List.ext_getElem?
 intro j;rw[List.getElem?_modify]
 by_cases hj:i=j
 ·subst hj
  rw[h,tT,m7 (by rw[c7];omega)];rw[show i-(l.take i).length=0 from by rw[c7];omega];simp
 ·have e2:(if i=j then(fun _=>b) else id)<$>l[j]?=l[j]?:=by rw[aJ hj];cases l[j]?<;>rfl
  first
   |rw[e2]
   |(simp only[hj,if_false];skip)
  rw[tT]
  by_cases hlt:j<i
  ·rw[kC (by rw[c7];omega),List.getElem?_take_of_lt hlt]
   try (cases l[j]?<;>rfl)
  ·rw[m7 (by rw[c7];omega)]
   rw[show j-(l.take i).length=(j-i-1)+1 from by rw[c7];omega];rw[List.singleton_append,tU,o5,show i+1+(j-i-1)=j from by omega]
   try (cases l[j]?<;>rfl)
theorem ZO (n:Nd):aB (nt n)=aB n:=TZ n
theorem ZP {t:Tree} (h:de t=true) (i:Int):de (wk t i)=true∧az (wk t i)=az t:=by
 unfold wk
 cases hg:ew t.nodes i with
 |none=>exact⟨h,rfl⟩
 |some n=>
  simp only[]
  have hi:t.nodes[i.toNat]?=some n:=by
   unfold ew at hg
   split at hg
   ·exact hg
   ·cases hg
  generalize i.toNat=i at*;have hw:=ZJ h;have hr:=hw.r;have hl:=hr.len;have hlt:=(List.getElem?_eq_some_iff.1 hi).1;have hx:t.aA[i]?=some t.aA[i]:=bC au;generalize t.aA[i]=x at*
  have el:t.aA=t.aA.take i++[x]++t.aA.drop (i+1):=by simpa using ZL hx
  have en:t.nodes=t.nodes.take i++[n]++t.nodes.drop (i+1):=by simpa using ZL hi
  have nd:=hw.tr.at i x n hx hi;rw[Xq hi]
  have hW:uw ⟨t.aA.take i++[x]++t.aA.drop (i+1),t.nodes.take i++[nt n]++t.nodes.drop (i+1)⟩:=by
   refine hw.aj3 el en (by simp[hl]) rfl (x:=x) rfl ⟨⟨(ZI nd.1).1,nd.2.1,fun s hs k hk=> ?_⟩,trivial⟩ (.inl rfl) (abz _) fun hA m hm=> ?_
   ·obtain⟨s',hs',hk'⟩:=lE (C7 (l:=aB n) hs hk)
    exact nd.2.2 s' hs' k hk'
   ·rw[j6.1 hm,ZO]
    exact hw.ne n (RX (Nat.pos_of_ne_zero fun e=>hA (by subst e;rfl)) hi)
  rw[←el] at hW
  have hk:az ⟨t.aA,t.nodes.take i++[nt n]++t.nodes.drop (i+1)⟩=az t:=by
   unfold az
   conv=>rhs;rw[en]
   simp only[List.flatMap_append,List.flatMap_cons,List.flatMap_nil,m0,ZO]
  refine⟨hW.ok ?_ ?_,hk⟩
  ·have:=(nM h).2.1
   have h2:=congrArg List.length en;simp only[ct,ic] at h2 ⊢;omega
  ·rw[hk];exact T3 h
theorem af4 {p:bu} {t:Tree} (h:cK p=true) (ht:de t=true) (hk:az t=az p.t):cK ⟨t,p.aY,p.cells,p.aD,p.next⟩=true:=by
 unfold cK at h ⊢;simp only[dY] at h ⊢;refine⟨h.1,ht,h.2.2.1,h.2.2.2.1,h.2.2.2.2.1,h.2.2.2.2.2.1,?_⟩;have:=h.2.2.2.2.2.2;unfold qI at this ⊢;simp only[hk] at this ⊢;exact this
theorem ZQ {p:bu} (h:cK p=true) (i:Int):cK (qu p i).1=true:=by
 unfold qu
 split
 ·have:=ZP (NZ h) i
  exact af4 h this.1 this.2
 ·exact h
theorem ZR {p:bu} (h:cK p=true) (i:Int):cK (jO p i).1=true:=by
 unfold jO
 repeat' split
 all_goals first|exact ZN h|exact h
theorem Xt {p:bu} (h:cK p=true):cK (kJ p).1=true:=by
 unfold kJ
 split
 ·exact h
 ·exact ZN h
theorem Mh (x:bu×Bool):(xk x).1=x.1:=by unfold xk;split<;>rfl
theorem adN {p:bu} (h:cK p=true) (o:Kq):cK (p0 p o).1=true:=by
 unfold p0
 split
 ·split
  ·unfold Ac;repeat' split
   all_goals first|exact KL h|exact h
  ·split
   ·unfold NX;repeat' split
    all_goals first|exact KL h|exact h
   ·split
    ·unfold KA;repeat' split
     all_goals first|exact acR h|exact h
    ·split
     ·unfold sR;repeat' split
      all_goals first|exact KL h|exact h
     ·split
      ·unfold qw;repeat' split
       all_goals first|exact KL h|exact h
      ·split
       ·unfold uv;repeat' split
        all_goals first|exact KL h|exact h
       ·split
        ·rw[Mh];exact Xt h
        ·split
         ·rw[Mh];exact ZQ h _
         ·rw[Mh];exact ZR h _
 ·exact h
theorem zC.lt: ∀{l:List oO},zC l→l.Pairwise fun a b=>LA a.name b.name=true
 |[],_=> .nil
 |[a],_=>by simp
 |a::b::r,h=>by
  have ih:=zC.lt (l:=b::r) h.2;refine List.pairwise_cons.2 ⟨fun c hc=> ?_,ih⟩;rcases dJ.1 hc with rfl|hc
  ·exact h.1
  ·exact V2 h.1 ((List.pairwise_cons.1 ih).1 c hc)
theorem abA:cK W7=true:=by decide+kernel
theorem abB:de ⟨[0],[[]]⟩=true:=by decide+kernel
theorem ZS {p:bu} (h:cK p=true) {v:oO} (hv:v∈p.aD):1≤v.size∧v.size≤12:=by
 have:=Wa (wj h) hv;omega
end Go.T
namespace Go.T
set_option maxRecDepth 100000
end Go.T
namespace Go.T
theorem af5 {b a k c g:Int} (hb:0≤b∧b≤15) (ha:1≤a∧a≤60) (hk:0≤k∧k≤2) (h:(k=1∧0≤c∧c≤23∧0≤g∧g≤999)∨(¬k=1∧c=0∧g=0)):fM ⟨b,a,k,c,g⟩=true:=by
 unfold fM iU;simp only[dY,decide_eq_true_eq];refine⟨⟨⟨hb,ha⟩,hk⟩,?_⟩;rcases h with⟨h1,h2⟩|⟨h1,h2⟩
 ·rw[aR h1];simp only[dY,decide_eq_true_eq];omega
 ·rw[aJ h1];simp only[dY,decide_eq_true_eq];exact h2
theorem ah7 {x:Key} (h:fM x=true) {b:Int} (hb:0≤b∧b≤15):fM ⟨b,x.a,x.k,x.c,x.g⟩=true:=by
 unfold fM iU at h ⊢;simp only[dY,decide_eq_true_eq] at h ⊢;exact⟨⟨⟨hb,h.1.1.2⟩,h.1.2⟩,h.2⟩
theorem N5 {n:List (List Key)} (h:gn n=true) (k:Key):gn (cF n k).1=true:=by
 unfold cF
 repeat' split
 all_goals first|assumption|exact h
theorem abC {n:List (List Key)} (h:gn n=true):aW n≤11:=by
 have:=og h;unfold aW;omega
theorem adO {l:List mS} (h:iJ l=true) (id fr:Int):iJ (mw l id fr).1=true:=by
 unfold mw
 repeat' split
 all_goals first|assumption|exact h|(rename_i h1;exact h1.2)|(rename_i h1 _;exact h1.2)
theorem ZT {t:Tree} (h:de t=true) (k:Key):de (bB t k).1=true:=by
 cases hp:(bB t k).2 with
 |true=>exact RM hp
 |false=>rw[C2 hp];exact h
theorem Xu {t:Tree} {k:Key} (h:de t=true) (hk:fM k=true):(az (bB t k).1).length≤(az t).length+1:=by
 cases hp:(bB t k).2 with
 |true=>
  rw[Xp h hk hp];have h3:(kH (eB (az t) k)).length≤(eB (az t) k).length:=QD _ _;have h4:=mq (az t) k;omega
 |false=>rw[C2 hp];omega
theorem RZ {l:List mS} (h:iJ l=true):l.length≤16:=by
 unfold iJ at h;simp only[dY,decide_eq_true_eq] at h;exact h.2
end Go.T
namespace Go.T
def als (m:Mp):Prop:=1≤m.l.length∧m.l.length≤12∧m.name.size≤6
def rB (l:List Mp):Prop:=l.length≤6∧ ∀m∈l,als m
theorem ZU:rB []:=⟨cW _,fun m h=>by cases h⟩
theorem ZV {l:List Mp} {m:Mp} (h:rB l) (hl: ¬6≤l.length) (hm:als m):rB (A9 l m):=
 ⟨by rw[Zs];omega,fun x hx=>(Zu hx).elim (h.2 x) fun e=>by rw[e];exact hm⟩
theorem C8 {l:List Mp} (h:rB l) (s:ByteArray) (n:Int):rB (oc l s n).1:=by
 unfold oc
 split
 ·rename_i hs
  split
  ·exact h
  ·split
   ·rename_i hn
    have:=Hw hn
    split
    ·exact h
    ·rename_i h6
     refine ZV h h6 ⟨?_,?_,(aX hs).2⟩
     ·show 1≤(List.replicate n.toNat (0:Int)).length;rw[List.length_replicate];omega
     ·show(List.replicate n.toNat (0:Int)).length≤12;rw[List.length_replicate];omega
   ·exact h
 ·exact h
theorem R0 {l:List Mp} (h:rB l) (s to:ByteArray) (fx:Bool):rB (uq l s to fx).1:=by
 unfold uq
 split
 ·rename_i hs
  split
  ·exact h
  ·rename_i m hm
   split
   ·exact h
   ·split
    ·exact h
    ·rename_i h6
     have:=h.2 m (nj hm);exact ZV h h6 ⟨this.1,this.2.1,(aX hs.2).2⟩
 ·exact h
theorem R1 {l:List Mp} (h:rB l) (s:ByteArray):rB (ur l s).1:=by
 unfold ur
 split
 ·split
  ·exact h
  ·refine⟨?_,fun x hx=>h.2 x ((List.mem_append.1 hx).elim tf rD)⟩
   have:=h.1;show(List.take _ l++List.drop _ l).length≤6;rw[ct,c7,gQ];omega
 ·exact h
theorem N6 {l:List Mp} (h:rB l) (s:ByteArray) (b n:Int):rB (nr l s b n).1:=by
 refine⟨by rw[Xd];exact h.1,?_⟩;unfold nr
 split
 ·exact h.2
 ·split
  ·exact h.2
  ·rename_i m hm
   unfold kW
   split
   ·exact h.2
   ·split
    ·intro x hx
     have hmm:=h.2 m (nj hm);rcases mem_modify hx with hx|⟨y,hy,rfl⟩
     ·exact h.2 x hx
     ·have hy2:=h.2 y hy
      refine⟨?_,?_,hy2.2.2⟩
      ·show 1≤(m.l.modify b.toNat fun _=>n).length;rw[NA];exact hmm.1
      ·show(m.l.modify b.toNat fun _=>n).length≤12;rw[NA];exact hmm.2.1
    ·exact h.2
theorem KM {l:List Mp} (h:rB l) (s:ByteArray) (n:Int):rB (oe l s n).1:=by
 unfold oe
 split
 ·exact h
 ·split
  ·exact h
  ·rename_i m hm
   split
   ·exact h
   ·split
    ·rename_i hn
     have:=Hw hn;refine⟨by simp;exact h.1,fun x hx=> ?_⟩;rcases mem_modify hx with hx|⟨y,hy,rfl⟩
     ·exact h.2 x hx
     ·have hy2:=h.2 y hy
      refine⟨?_,?_,hy2.2.2⟩
      ·show 1≤(KC m.l n.toNat).length;rw[RG];omega
      ·show(KC m.l n.toNat).length≤12;rw[RG];omega
    ·exact h
theorem N7 {l:List Mp} (h:rB l) (o:Kq):rB (KD l o).1:=by
 unfold KD
 repeat' split
 all_goals first|exact h|exact C8 h _ _|exact R0 h _ _ _|exact R1 h _|exact N6 h _ _ _|exact KM h _ _
end Go.T
namespace Go.T
variable {C : mG} {f : FuncId} {vs : List TV} {b : List Int}
theorem cg {P:Int→Prop} {K:Int→RR→Int→Int→Prop} (h:aU C f vs (Dr b fun r=> ∃x,r=vI x∧P x)) (k: ∀x i h,0≤i→P x→K x (b.map jh) i h):
 ∃(n:Int) (l:List (List TC)) (n2 n3:Int),ai C f vs (TV.c (TC.sc (Value.int IntKind.i64 n))) [TV.bx [TC.sub 1 l,TC.sc (Value.int IntKind.i64 n2),TC.sc (Value.int IntKind.i64 n3)]]∧K n l n2 n3:=by
 obtain⟨_,_,hr,i,h',hi,rfl,x,rfl,hx⟩:=h;exact⟨x,_,i,h',hr,k x i h' hi hx⟩
theorem Xv {K:Bool→RR→Int→Int→Prop} (h:aU C f vs (Dr b fun r=> ∃x,r=vB x)) (k: ∀x i h,0≤i→K x (b.map jh) i h):
 ∃(n:Bool) (l:List (List TC)) (n2 n3:Int),ai C f vs (TV.c (TC.sc (Value.bool n))) [TV.bx [TC.sub 1 l,TC.sc (Value.int IntKind.i64 n2),TC.sc (Value.int IntKind.i64 n3)]]∧K n l n2 n3:=by
 obtain⟨_,_,hr,i,h',hi,rfl,x,rfl⟩:=h;exact⟨x,_,i,h',hr,k x i h' hi⟩
theorem vu {P:ByteArray→Prop} {K:ByteArray→RR→Int→Int→Prop} (h:aU C f vs (Dr b fun r=> ∃x,r=vS x∧P x)) (k: ∀x i h,0≤i→P x→K x (b.map jh) i h):
 ∃(n:ByteArray) (l:List (List TC)) (n2 n3:Int),ai C f vs (TV.c (TC.sc (Value.string n))) [TV.bx [TC.sub 1 l,TC.sc (Value.int IntKind.i64 n2),TC.sc (Value.int IntKind.i64 n3)]]∧K n l n2 n3:=by
 obtain⟨_,_,hr,i,h',hi,rfl,x,rfl,hx⟩:=h;exact⟨x,_,i,h',hr,k x i h' hi hx⟩
theorem Gg {P:Key→Prop} {K:Int→Int→Int→Int→Int→RR→Int→Int→Prop} (h:aU C f vs (Dr b fun r=> ∃x,r=TV.ag (bK x)∧P x)) (k: ∀x i h,0≤i→P x→K x.b x.a x.k x.c x.g (b.map jh) i h):
 ∃(m1 m2 m3 m4 m5:Int) (l:List (List TC)) (n2 n3:Int),ai C f vs (TV.ag [TC.sc (Value.int IntKind.i64 m1),TC.sc (Value.int IntKind.i64 m2),TC.sc (Value.int IntKind.i64 m3),TC.sc (Value.int IntKind.i64 m4),TC.sc (Value.int IntKind.i64 m5)]) [TV.bx [TC.sub 1 l,TC.sc (Value.int IntKind.i64 n2),TC.sc (Value.int IntKind.i64 n3)]]∧K m1 m2 m3 m4 m5 l n2 n3:=by
 obtain⟨_,_,hr,i,h',hi,rfl,x,rfl,hx⟩:=h;exact⟨x.b,x.a,x.k,x.c,x.g,_,i,h',hr,k x i h' hi hx⟩
theorem ux {α:Type} {e:α→List TC} {z:Nat} {P:List α→Prop} {K:RR→RR→Int→Int→Prop} (h:aU C f vs (Dr b fun r=> ∃x:List α,r=TV.c (TC.sub z (x.map e))∧P x)) (k: ∀(x:List α) i h,0≤i→P x→K (x.map e) (b.map jh) i h):
 ∃(l0 l:List (List TC)) (n2 n3:Int),ai C f vs (TV.c (TC.sub z l0)) [TV.bx [TC.sub 1 l,TC.sc (Value.int IntKind.i64 n2),TC.sc (Value.int IntKind.i64 n3)]]∧K l0 l n2 n3:=by
 obtain⟨_,_,hr,i,h',hi,rfl,x,rfl,hx⟩:=h;exact⟨_,_,i,h',hr,k x i h' hi hx⟩
theorem Xw {P:List (List Key)→Prop} {K:RR→RR→Int→Int→Prop} (h:aU C f vs (Dr b fun r=> ∃x:List (List Key),r=TV.ag [TC.sub 1 (x.map fO)]∧P x)) (k: ∀(x:List (List Key)) i h,0≤i→P x→K (x.map fO) (b.map jh) i h):
 ∃(l0 l:List (List TC)) (n2 n3:Int),ai C f vs (TV.ag [TC.sub 1 l0]) [TV.bx [TC.sub 1 l,TC.sc (Value.int IntKind.i64 n2),TC.sc (Value.int IntKind.i64 n3)]]∧K l0 l n2 n3:=by
 obtain⟨_,_,hr,i,h',hi,rfl,x,rfl,hx⟩:=h;exact⟨_,_,i,h',hr,k x i h' hi hx⟩
theorem acS {P:Tree→Prop} {K:RR→RR→RR→Int→Int→Prop} (h:aU C f vs (Dr b fun r=> ∃x:Tree,r=eR x∧P x)) (k: ∀(x:Tree) i h,0≤i→P x→K (x.aA.map bA) (x.nodes.map bn) (b.map jh) i h):
 ∃(l0 l1 l:List (List TC)) (n2 n3:Int),ai C f vs (TV.ag [TC.sub 1 l0,TC.sub 1 l1]) [TV.bx [TC.sub 1 l,TC.sc (Value.int IntKind.i64 n2),TC.sc (Value.int IntKind.i64 n3)]]∧K l0 l1 l n2 n3:=by
 obtain⟨_,_,hr,i,h',hi,rfl,x,rfl,hx⟩:=h;exact⟨_,_,_,i,h',hr,k x i h' hi hx⟩
theorem af6 {P:Kq→Prop} {K:Int→ByteArray→ByteArray→Int→Int→RR→Int→Int→Prop} (h:aU C f vs (Dr b fun r=> ∃x,r=TV.ag (NS x)∧P x)) (k: ∀x i h,0≤i→P x→K x.kind x.name x.to x.a x.b (b.map jh) i h):
 ∃(m1:Int) (m2 m3:ByteArray) (m4 m5:Int) (l:List (List TC)) (n2 n3:Int),ai C f vs (TV.ag [TC.sc (Value.int IntKind.i64 m1),TC.sc (Value.string m2),TC.sc (Value.string m3),TC.sc (Value.int IntKind.i64 m4),TC.sc (Value.int IntKind.i64 m5)]) [TV.bx [TC.sub 1 l,TC.sc (Value.int IntKind.i64 n2),TC.sc (Value.int IntKind.i64 n3)]]∧K m1 m2 m3 m4 m5 l n2 n3:=by
 obtain⟨_,_,hr,i,h',hi,rfl,x,rfl,hx⟩:=h;exact⟨x.kind,x.name,x.to,x.a,x.b,_,i,h',hr,k x i h' hi hx⟩
theorem acT {P:bu→Prop} {K:RR→RR→RR→RR→RR→Int→RR→Int→Int→Prop} (h:aU C f vs (Dr b fun r=> ∃x:bu,r=fz x∧P x)) (k: ∀(x:bu) i h,0≤i→P x→K (x.t.aA.map bA) (x.t.nodes.map bn) (x.aY.map cn) (x.cells.map cC) (x.aD.map dh) x.next (b.map jh) i h):
 ∃(l0 l1 l2 l3 l4:List (List TC)) (m:Int) (l:List (List TC)) (n2 n3:Int),ai C f vs (TV.ag [TC.sub 1 l0,TC.sub 1 l1,TC.sub 2 l2,TC.sub 3 l3,TC.sub 4 l4,TC.sc (Value.int IntKind.i64 m)]) [TV.bx [TC.sub 1 l,TC.sc (Value.int IntKind.i64 n2),TC.sc (Value.int IntKind.i64 n3)]]∧K l0 l1 l2 l3 l4 m l n2 n3:=by
 obtain⟨_,_,hr,i,h',hi,rfl,x,rfl,hx⟩:=h;exact⟨_,_,_,_,_,_,_,i,h',hr,k x i h' hi hx⟩
theorem Jf {K:RR→Int→Int→Prop} (h:aU C f vs (fun r fs=>fs=[]∧ ∃h,r=ki b 0 h)) (k: ∀h,K (b.map jh) 0 h):
 ∃(l:List (List TC)) (n2 n3:Int),ai C f vs (TV.bx [TC.sub 1 l,TC.sc (Value.int IntKind.i64 n2),TC.sc (Value.int IntKind.i64 n3)]) []∧K l n2 n3:=by
 obtain⟨_,_,hr,rfl,x,rfl⟩:=h;exact⟨_,_,_,hr,k x⟩
theorem bO {P:TV→Prop} {r:TV} {i h:Int} (hi:0≤i) (hP:P r):Dr b P r [TV.bx [TC.sub 1 (b.map jh),TC.sc (Value.int IntKind.i64 i),TC.sc (Value.int IntKind.i64 h)]]:=⟨i,h,hi,rfl,hP⟩
end Go.T
namespace Go.T
noncomputable def Jg (C:mG) (f:FuncId) (vs:List TV):Option (TV×List TV):=
 open Classical in if h : ∃ p : TV × List TV, ai C f vs p.1 p.2 then some (Classical.choose h) else none
theorem af7 {C:mG} {f:FuncId} {vs:List TV} {r:TV} {fs:List TV} (h:Jg C f vs=some (r,fs)):ai C f vs r fs:=by
 unfold Jg at h
 split at h
 ·rename_i hx
  have h1:=Classical.choose_spec hx;have h2:Classical.choose hx=(r,fs):=Option.some.inj h;rw[h2] at h1;exact h1
 ·cases h
theorem ah8 {C:mG} {f:FuncId} {vs:List TV} {r:TV} {fs:List TV} (h:ai C f vs r fs):Jg C f vs=some (r,fs):=by
 unfold Jg;have hx: ∃p:TV×List TV,ai C f vs p.1 p.2:=⟨(r,fs),h⟩;rw[dif_pos hx];have h1:=Classical.choose_spec hx;obtain⟨e1,e2⟩:=h.det h1;rw[show Classical.choose hx=(r,fs) from Prod.ext e1 e2]
theorem up {C C':mG} {f:FuncId} {vs:List TV} {r:TV} {fs:List TV} (hx:C'.ext f=some (Jg C f)) (h:ai C f vs r fs):ai C' f vs r fs:=ai.ext hx (ah8 h)
theorem upQ {C C':mG} {f:FuncId} {vs:List TV} {Q:TV→List TV→Prop} (hx:C'.ext f=some (Jg C f)) (h:aU C f vs Q):aU C' f vs Q:=by
 obtain⟨r,fs,h1,h2⟩:=h;exact⟨r,fs,up hx h1,h2⟩
theorem down {C C':mG} {f:FuncId} {vs:List TV} {r:TV} {fs:List TV} (hx:C'.ext f=some (Jg C f)) (h:ai C' f vs r fs):ai C f vs r fs:=by
 obtain⟨k,h⟩:=h
 cases k with
 |zero=>exact h.elim
 |succ k=>
  unfold j7 at h;rw[hx] at h;exact af7 h
end Go.T
