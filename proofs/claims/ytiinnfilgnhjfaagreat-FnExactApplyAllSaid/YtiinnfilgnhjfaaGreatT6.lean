/- A run has one result; the formulas, simplified. -/
import Derived.Test.YtiinnfilgnhjfaaGreatT5
set_option linter.unusedVariables false
set_option linter.unusedSimpArgs false
namespace Go.T
def amk (cf:Cf):Prop:= ∀f vs r fs r' fs',cf f vs r fs→cf f vs r' fs'→r=r'∧fs=fs'
def aoD (lp:Lp):Prop:= ∀f i c st (Q Q':TX→TS→Prop),lp f i c st Q→lp f i c st Q'→ ∃x s,Q x s∧Q' x s
theorem tL {R:Type} {cf:Cf} {lp:Lp} (hc:amk cf) (hl:aoD lp) {Q Q':R→Prop}: ∀(e:Ev R),e.holds cf lp Q→e.holds cf lp Q'→ ∃r,Q r∧Q' r
 | .fail,h,_=>h.elim
 | .ret r,h,h'=>⟨r,h,h'⟩
 | .test b k,h,h'=>tL hc hl (k b) h h'
 | .row rows i k,⟨c,h1,h2⟩,⟨c',h1',h2'⟩=>by
   rw[h1] at h1';cases h1';exact tL hc hl (k c) h2 h2'
 | .byte rows i k,⟨c,h1,h2⟩,⟨c',h1',h2'⟩=>by
   rw[h1] at h1';cases h1';exact tL hc hl (k c) h2 h2'
 | .bytes rows k,⟨c,h1,h2⟩,⟨c',h1',h2'⟩=>by
   rw[h1] at h1';cases h1';exact tL hc hl (k c) h2 h2'
 | .call f vs k,⟨r,fs,h1,h2⟩,⟨r',fs',h1',h2'⟩=>by
   obtain⟨rfl,rfl⟩:=hc _ _ _ _ _ _ h1 h1';exact tL hc hl (k r fs) h2 h2'
 | .loop f i c st k,h,h'=>by
   obtain⟨x,s,h1,h2⟩:=hl _ _ _ _ _ _ h h';exact tL hc hl (k x s) h1 h2
 | .both a b,⟨r,h1,h2,h3⟩,⟨r',h1',h2',h3'⟩=>by
   obtain⟨r0,e1,e2⟩:=tL hc hl a h1 h1';subst e1 e2;exact⟨_,h3,h3'⟩
section
variable {C : pO}
theorem aea {cf:Cf} {lp:Lp} (hc:amk cf) (hl:aoD lp) {fx:List Nat} {f i:Nat} {c:Code} {Q Q':TX→TS→Prop}: ∀(n:Nat) (st:TS),iter C cf lp fx f i c Q n st→iter C cf lp fx f i c Q' n st→ ∃x s,Q x s∧Q' x s
 |0,_,h,_=>h.elim
 |n+1,st,h,h'=>by
  obtain⟨⟨x,s⟩,h1,h2⟩:=tL hc hl _ h h'
  cases x with
  |norm=>
   simp only at h1 h2;rw[xI] at h1 h2;exact aea hc hl n _ h1 h2
  |ex id=>exact⟨_,_,h1,h2⟩
  |ret=>exact⟨_,_,h1,h2⟩
theorem ahh {cf:Cf} (hc:amk cf) (k:Nat) (fx:List Nat): ∀n,aoD (lpN C cf k fx n)
 |0=>fun _ _ _ _ _ _ h _=>h.elim
 |n+1=>fun f i c st Q Q' h h'=>aea hc (ahh hc k fx n) k st h h'
theorem PN: ∀k,amk (lG C k)
 |0=>fun _ _ _ _ _ _ h _=>h.elim
 |k+1=>fun f vs r fs r' fs' h h'=>by
  unfold lG at h h'
  cases hx:C.ext f with
  |some p=>rw[hx] at h h';have h:p vs=some (r,fs):=h;have h':p vs=some (r',fs'):=h';rw[h] at h';cases h';exact⟨rfl,rfl⟩
  |none=>
  rw[hx] at h h';simp only at h h';obtain⟨p,h1,h2⟩:=tL (PN k) (ahh (PN k) k _ 4) _ h h';rw[h1] at h2
  cases h2
  exact⟨rfl,rfl⟩
theorem an.det {f:FuncId} {vs:List TV} {r r':TV} {fs fs':List TV} (h:an C f vs r fs) (h':an C f vs r' fs'):r'=r∧fs'=fs:=by
 obtain⟨k,h⟩:=h;obtain⟨k',h'⟩:=h';obtain⟨h1,h2⟩:=PN (max k k') _ _ _ _ _ _ (qv (I9 _ _) h) (qv (Nat.le_max_right _ _) h');exact⟨h1.symm,h2.symm⟩
end
def ff {α:Type} (l:List α) (i:Int):Option α:=if 0≤i then l[i.toNat]? else none
theorem aH {α:Type} (l:List α) (i:Nat):ff l (i:Int)=l[i]?:=by
 unfold ff;rw[aI (Int.natCast_nonneg i),lV]
theorem mg {α:Type} {l:List α} {i:Int} (h0:0≤i) (h1:i<l.length): ∃a,ff l i=some a:=by
 unfold ff;rw[aI h0];exact⟨_,ck ay⟩
theorem gD {α:Type} {l:List α} {i:Int} (h: ¬(0≤i∧i<l.length)):ff l i=none:=by
 unfold ff
 split
 ·exact Vz ay
 ·rfl
theorem aR {α:Type} (e:α→List TC) (l:List α) (i:Int):rowAt (l.map e) i=(ff l i).map e:=by
 unfold rowAt ff
 split
 ·rw[lW]
 ·rfl
theorem Ek {α:Type} {l:List α} {i:Int} {a:α} (h:ff l i=some a):a∈l:=by
 unfold ff at h
 split at h
 ·exact gP h
 ·cases h
def aqo {α:Type} (l:List α) (i:Int) (a:α):List α:=l.set i.toNat a
theorem aeb {α:Type} {e:α→List TC} {l:List α} {i:Int} {a a':α} {f:Nat} {cs:List TC} (h:ff l i=some a) (he:(e a).take f++cs++(e a).drop (f+cs.length)=e a'):setRow (l.map e) i f cs=(aqo l i a').map e:=by
 unfold ff at h
 split at h
 ·unfold setRow aqo
  rw[lW,h];simp only[pL,he,List.map_set]
 ·cases h
@[simp] theorem cJ {α:Type} (e:α→List TC) (l:List α) (a b:Int):aC (l.map e) a b=((l.take b.toNat).drop a.toNat).map e:=by
  unfold aC;rw[←I8,←D3]
theorem Au {rows:List (List TC)} (h: ∀r∈rows,∀c∈r,∃v,c= .sc v):bR rows=true:=by
 unfold bR;rw[List.all_eq_true];intro r hr;rw[List.all_eq_true];intro c hc;obtain⟨v,rfl⟩:=h r hr c hc
 rfl
@[simp] theorem Mb (s:ByteArray):(ByteArray.data s).1.length=s.size:=rfl
@[simp] theorem Jw (l h n:Int):gf l h n=decide (0≤l∧l≤h∧h≤n):=by unfold gf;rfl
end Go.T
namespace Go.T
structure Key where
 b:Int
 a:Int
 k:Int
 c:Int
 g:Int
 deriving DecidableEq
structure Age where
 id:Int
 fr:Int
 deriving DecidableEq
structure Cell where
 g:Int
 u:Bool
 n:Int
 deriving DecidableEq
structure Vol where
 name:ByteArray
 cT:Int
 size:Int
 fx:Bool
structure Mp where
 name:ByteArray
 fx:Bool
 l:List Int
structure Tree where
 aE:List Int
 nodes:List (List (List Key))
structure Pool where
 t:Tree
 aL:List Age
 cells:List Cell
 au:List Vol
 next:Int
structure Av where
 kind:Int
 name:ByteArray
 to:ByteArray
 a:Int
 b:Int
abbrev iI (n:Int):TC:= .sc (.int .i64 n)
abbrev iB (b:Bool):TC:= .sc (.bool b)
abbrev iS (s:ByteArray):TC:= .sc (.string s)
abbrev cI (n:Int):CE:= .sc (.int .i64 n)
abbrev cB (b:Bool):CE:= .sc (.bool b)
abbrev cS (s:ByteArray):CE:= .sc (.string s)
abbrev aA (a b:Int):Int:=afk .i64 a b
abbrev cN (a b:Int):Int:=VC .i64 a b
abbrev aml (a b:Int):Int:=afl .i64 a b
theorem aG {a b:Int} (h: -9223372036854775808≤a+b∧a+b≤9223372036854775807):aA a b=a+b:=amg h
theorem de {a b:Int} (h: -9223372036854775808≤a-b∧a-b≤9223372036854775807):cN a b=a-b:=amh h
theorem amm {a b:Int} (h: -9223372036854775808≤a*b∧a*b≤9223372036854775807):aml a b=a*b:=ami h
abbrev RR:=List (List TC)
abbrev QV:=TV→List TV→Prop
abbrev QX:=TX→TS→Prop
abbrev sI:Sh:= .int .i64
abbrev sB:Sh:= .bool
abbrev sS:Sh:= .str
abbrev hz:Hint:= .z
abbrev hb:Hint→Hint→Hint:= .br
abbrev hr:List Sh→Hint→Hint:= .row
abbrev hc:Ej→List Ej→Hint→Hint:= .call
abbrev wO:ByteArray:=⟨#[]⟩
def bO (n:Int):List TC:=[.sc (.int .i64 n)]
def anI (n:Int):List TC:=[.sc (.int .u8 n)]
def Sa (n:Bool):List TC:=[.sc (.bool n)]
def bP (x:Key):List TC:=[.sc (.int .i64 x.b),.sc (.int .i64 x.a),.sc (.int .i64 x.k),.sc (.int .i64 x.c),.sc (.int .i64 x.g)]
def bQ (x:Age):List TC:=[.sc (.int .i64 x.id),.sc (.int .i64 x.fr)]
def bL (x:Cell):List TC:=[.sc (.int .i64 x.g),.sc (.bool x.u),.sc (.int .i64 x.n)]
def cg (x:Vol):List TC:=[.sc (.string x.name),.sc (.int .i64 x.cT),.sc (.int .i64 x.size),.sc (.bool x.fx)]
def DF (x:Av):List TC:=[.sc (.int .i64 x.kind),.sc (.string x.name),.sc (.string x.to),.sc (.int .i64 x.a),.sc (.int .i64 x.b)]
def cU (x:List Key):List TC:=[.sub 5 (x.map bP)]
def aQ (x:List (List Key)):List TC:=[.sub 1 (x.map cU)]
abbrev ahi (t:Tree):List TC:=[.sub 1 (t.aE.map bO),.sub 1 (t.nodes.map aQ)]
abbrev wh (p:Pool):List TC:=[.sub 1 (p.t.aE.map bO),.sub 1 (p.t.nodes.map aQ),.sub 2 (p.aL.map bQ),.sub 3 (p.cells.map bL),.sub 4 (p.au.map cg),.sc (.int .i64 p.next)]
abbrev vI (n:Int):TV:= .c (.sc (.int .i64 n))
abbrev vB (b:Bool):TV:= .c (.sc (.bool b))
abbrev vS (s:ByteArray):TV:= .c (.sc (.string s))
abbrev oz (l:List Int):TV:= .c (.sub 1 (l.map bO))
abbrev dL (l:List Key):TV:= .c (.sub 5 (l.map bP))
abbrev NS (l:List (List Key)):TV:= .c (.sub 1 (l.map cU))
abbrev Aw (l:List (List (List Key))):TV:= .c (.sub 1 (l.map aQ))
abbrev gx (l:List Age):TV:= .c (.sub 2 (l.map bQ))
abbrev jw (l:List Cell):TV:= .c (.sub 3 (l.map bL))
abbrev qR (l:List Vol):TV:= .c (.sub 4 (l.map cg))
abbrev Wk (l:List Av):TV:= .c (.sub 5 (l.map DF))
abbrev uE (k:Key):TV:= .ag [.sc (.int .i64 k.b),.sc (.int .i64 k.a),.sc (.int .i64 k.k),.sc (.int .i64 k.c),.sc (.int .i64 k.g)]
abbrev g9 (n:List (List Key)):TV:= .ag [.sub 1 (n.map cU)]
abbrev dW (t:Tree):TV:= .ag (ahi t)
abbrev cY (p:Pool):TV:= .ag (wh p)
section
variable {i : Int}
@[simp] theorem wP {l:List Int} {K:Int→Prop}:(∃n,rowAt (l.map bO) i=some [.sc (.int .i64 n)]∧K n)↔ ∃a,ff l i=some a∧K a:=by
  rw[aR]
  constructor
  ·rintro⟨n,h,hK⟩
   obtain⟨a,ha,h⟩:=Option.map_eq_some_iff.1 h;unfold bO at h;cases h;exact⟨_,ha,hK⟩
  ·rintro⟨a,ha,hK⟩
   exact⟨_,by rw[ha];rfl,hK⟩
@[simp] theorem amn {l:List Bool} {K:Bool→Prop}:(∃n,rowAt (l.map Sa) i=some [.sc (.bool n)]∧K n)↔ ∃a,ff l i=some a∧K a:=by
  rw[aR]
  constructor
  ·rintro⟨n,h,hK⟩
   obtain⟨a,ha,h⟩:=Option.map_eq_some_iff.1 h;unfold Sa at h;cases h;exact⟨_,ha,hK⟩
  ·rintro⟨a,ha,hK⟩
   exact⟨_,by rw[ha];rfl,hK⟩
@[simp] theorem lJ {l:List Key} {K:Int→Int→Int→Int→Int→Prop}:(∃b a k c g,rowAt (l.map bP) i=some [.sc (.int .i64 b),.sc (.int .i64 a),.sc (.int .i64 k),.sc (.int .i64 c),.sc (.int .i64 g)]∧K b a k c g)↔ ∃x,ff l i=some x∧K x.b x.a x.k x.c x.g:=by
  rw[aR]
  constructor
  ·rintro⟨_,_,_,_,_,h,hK⟩
   obtain⟨a,ha,h⟩:=Option.map_eq_some_iff.1 h;unfold bP at h;cases h;exact⟨_,ha,hK⟩
  ·rintro⟨a,ha,hK⟩
   exact⟨_,_,_,_,_,by rw[ha];rfl,hK⟩
@[simp] theorem wQ {l:List Age} {K:Int→Int→Prop}:(∃b a,rowAt (l.map bQ) i=some [.sc (.int .i64 b),.sc (.int .i64 a)]∧K b a)↔ ∃x,ff l i=some x∧K x.id x.fr:=by
  rw[aR]
  constructor
  ·rintro⟨_,_,h,hK⟩
   obtain⟨a,ha,h⟩:=Option.map_eq_some_iff.1 h;unfold bQ at h;cases h;exact⟨_,ha,hK⟩
  ·rintro⟨a,ha,hK⟩
   exact⟨_,_,by rw[ha];rfl,hK⟩
@[simp] theorem pR {l:List Cell} {K:Int→Bool→Int→Prop}:(∃g u n,rowAt (l.map bL) i=some [.sc (.int .i64 g),.sc (.bool u),.sc (.int .i64 n)]∧K g u n)↔ ∃x,ff l i=some x∧K x.g x.u x.n:=by
  rw[aR]
  constructor
  ·rintro⟨_,_,_,h,hK⟩
   obtain⟨a,ha,h⟩:=Option.map_eq_some_iff.1 h;unfold bL at h;cases h;exact⟨_,ha,hK⟩
  ·rintro⟨a,ha,hK⟩
   exact⟨_,_,_,by rw[ha];rfl,hK⟩
@[simp] theorem yQ {l:List Vol} {K:ByteArray→Int→Int→Bool→Prop}:(∃s a z f,rowAt (l.map cg) i=some [.sc (.string s),.sc (.int .i64 a),.sc (.int .i64 z),.sc (.bool f)]∧K s a z f)↔ ∃x,ff l i=some x∧K x.name x.cT x.size x.fx:=by
  rw[aR]
  constructor
  ·rintro⟨_,_,_,_,h,hK⟩
   obtain⟨a,ha,h⟩:=Option.map_eq_some_iff.1 h;unfold cg at h;cases h;exact⟨_,ha,hK⟩
  ·rintro⟨a,ha,hK⟩
   exact⟨_,_,_,_,by rw[ha];rfl,hK⟩
@[simp] theorem aqp {l:List Av} {K:Int→ByteArray→ByteArray→Int→Int→Prop}:(∃k s t a b,rowAt (l.map DF) i=some [.sc (.int .i64 k),.sc (.string s),.sc (.string t),.sc (.int .i64 a),.sc (.int .i64 b)]∧K k s t a b)↔ ∃x,ff l i=some x∧K x.kind x.name x.to x.a x.b:=by
  rw[aR]
  constructor
  ·rintro⟨_,_,_,_,_,h,hK⟩
   obtain⟨a,ha,h⟩:=Option.map_eq_some_iff.1 h;unfold DF at h;cases h;exact⟨_,ha,hK⟩
  ·rintro⟨a,ha,hK⟩
   exact⟨_,_,_,_,_,by rw[ha];rfl,hK⟩
@[simp] theorem xS {l:List (List Key)} {K:List (List TC)→Prop}:(∃r,rowAt (l.map cU) i=some [.sub 5 r]∧K r)↔ ∃x,ff l i=some x∧K (x.map bP):=by
  rw[aR]
  constructor
  ·rintro⟨_,h,hK⟩
   obtain⟨a,ha,h⟩:=Option.map_eq_some_iff.1 h;unfold cU at h;cases h;exact⟨_,ha,hK⟩
  ·rintro⟨a,ha,hK⟩
   exact⟨_,by rw[ha];rfl,hK⟩
@[simp] theorem tM {l:List (List (List Key))} {K:List (List TC)→Prop}:(∃r,rowAt (l.map aQ) i=some [.sub 1 r]∧K r)↔ ∃x,ff l i=some x∧K (x.map cU):=by
  rw[aR]
  constructor
  ·rintro⟨_,h,hK⟩
   obtain⟨a,ha,h⟩:=Option.map_eq_some_iff.1 h;unfold aQ at h;cases h;exact⟨_,ha,hK⟩
  ·rintro⟨a,ha,hK⟩
   exact⟨_,by rw[ha];rfl,hK⟩
end
theorem gT (n:Nat):Int.ofNat n=(n:Int):=rfl
@[simp] theorem natAdd (a b:Nat):Nat.add a b=a+b:=rfl
@[simp] theorem ahj {α:Type} (a b:List α):List.append a b=a++b:=rfl
theorem nS (l:List Int):bR (l.map bO)=true:=Au fun r hr c hc=>by
 obtain⟨a,_,rfl⟩:=List.mem_map.1 hr;unfold bO at hc;simp only[qn] at hc;exact⟨_,hc⟩
theorem af1 (l:List Int):bR (l.map anI)=true:=Au fun r hr c hc=>by
 obtain⟨a,_,rfl⟩:=List.mem_map.1 hr;unfold anI at hc;simp only[qn] at hc;exact⟨_,hc⟩
theorem m8 (l:List Key):bR (l.map bP)=true:=Au fun r hr c hc=>by
 obtain⟨a,_,rfl⟩:=List.mem_map.1 hr;unfold bP at hc;simp only[fX,List.not_mem_nil,or_false] at hc;rcases hc with h|h|h|h|h<;>exact⟨_,h⟩
theorem z7 (l:List Age):bR (l.map bQ)=true:=Au fun r hr c hc=>by
 obtain⟨a,_,rfl⟩:=List.mem_map.1 hr;unfold bQ at hc;simp only[fX,List.not_mem_nil,or_false] at hc;rcases hc with h|h<;>exact⟨_,h⟩
theorem Mc (l:List Cell):bR (l.map bL)=true:=Au fun r hr c hc=>by
 obtain⟨a,_,rfl⟩:=List.mem_map.1 hr;unfold bL at hc;simp only[fX,List.not_mem_nil,or_false] at hc;rcases hc with h|h|h<;>exact⟨_,h⟩
theorem wj (l:List Vol):bR (l.map cg)=true:=Au fun r hr c hc=>by
 obtain⟨a,_,rfl⟩:=List.mem_map.1 hr;unfold cg at hc;simp only[fX,List.not_mem_nil,or_false] at hc;rcases hc with h|h|h|h<;>exact⟨_,h⟩
@[simp] theorem ab5 (v:Value):bR [[.sc v]]=true:=Au fun r hr c hc=>by
  simp only[qn] at hr;subst hr;simp only[qn] at hc;exact⟨_,hc⟩
attribute [simp] nS af1 m8 z7 Mc wj
end Go.T
namespace Go.T
theorem PO {α:Type} (g:α→α): ∀(l:List α) (i:Nat) (a:α),l[i]?=some a→l.modify i g=l.set i (g a)
 |[],i,a,h=>by simp at h
 |x::r,0,a,h=>by simp only[gE,aY] at h;subst h;rfl
 |x::r,i+1,a,h=>by
  simp only[yo] at h;rw[List.modify_succ_cons,List.set_cons_succ,PO g r i a h]
theorem dJ {α:Type} {e:α→List TC} {l:List α} {i:Int} {f:Nat} {cs:List TC} {g:α→α} (he: ∀a,(e a).take f++cs++(e a).drop (f+cs.length)=e (g a)):setRow (l.map e) i f cs=(l.modify i.toNat g).map e:=by
 unfold setRow;rw[lW]
 cases h:l[i.toNat]? with
 |none=>
  have:l.length≤i.toNat:=List.getElem?_eq_none_iff.1 h;simp only[Option.map_none];rw[List.modify_eq_self this]
 |some a=>
  simp only[pL];rw[he,PO g l _ a h,List.map_set]
theorem p6 {α:Type} {l:List α} {i:Int} {g:α→α}:ff (l.modify i.toNat g) i=(ff l i).map g:=by
 unfold ff
 split
 ·simp
 ·rfl
theorem mod_mod {α:Type} {l:List α} {i:Nat} {f g:α→α}:(l.modify i f).modify i g=l.modify i (fun x=>g (f x)):=by
 rw[List.modify_modify_eq];rfl
theorem jF {α β:Type} {o:Option α} {f:α→β} {K:β→Prop}:(∃x,o.map f=some x∧K x)↔ ∃x,o=some x∧K (f x):=by
 cases o with
 |none=>simp
 |some a=>simp
theorem ny {α:Type} {d r:List α} {a:α}:ff (d++a::r) (d.length:Int)=some a:=by
 rw[aH];simp
theorem BV {α:Type} {d r:List α} {a:α} {f:α→α}:(d++a::r).modify ((d.length:Int).toNat) f=d++f a::r:=by
 rw[lV,PO f _ _ a cW];simp
@[simp] theorem aj8 {l:List Key} {i:Int} {v:Int}:setRow (l.map bP) i 0 [.sc (.int .i64 v)]=(l.modify i.toNat fun x=>{x with b:=v}).map bP:=dJ fun a=>rfl
@[simp] theorem aj9 {l:List Key} {i:Int} {v:Int}:setRow (l.map bP) i 1 [.sc (.int .i64 v)]=(l.modify i.toNat fun x=>{x with a:=v}).map bP:=dJ fun a=>rfl
@[simp] theorem aka {l:List Key} {i:Int} {v:Int}:setRow (l.map bP) i 2 [.sc (.int .i64 v)]=(l.modify i.toNat fun x=>{x with k:=v}).map bP:=dJ fun a=>rfl
@[simp] theorem akb {l:List Key} {i:Int} {v:Int}:setRow (l.map bP) i 3 [.sc (.int .i64 v)]=(l.modify i.toNat fun x=>{x with c:=v}).map bP:=dJ fun a=>rfl
@[simp] theorem akc {l:List Key} {i:Int} {v:Int}:setRow (l.map bP) i 4 [.sc (.int .i64 v)]=(l.modify i.toNat fun x=>{x with g:=v}).map bP:=dJ fun a=>rfl
@[simp] theorem aoE {l:List Key} {i:Int} {v0:Int} {v1:Int} {v2:Int} {v3:Int} {v4:Int}:setRow (l.map bP) i 0 [.sc (.int .i64 v0),.sc (.int .i64 v1),.sc (.int .i64 v2),.sc (.int .i64 v3),.sc (.int .i64 v4)]=(l.modify i.toNat fun _=>⟨v0,v1,v2,v3,v4⟩).map bP:=dJ fun a=>rfl
@[simp] theorem ah0 {l:List Age} {i:Int} {v:Int}:setRow (l.map bQ) i 0 [.sc (.int .i64 v)]=(l.modify i.toNat fun x=>{x with id:=v}).map bQ:=dJ fun a=>rfl
@[simp] theorem aa7 {l:List Age} {i:Int} {v:Int}:setRow (l.map bQ) i 1 [.sc (.int .i64 v)]=(l.modify i.toNat fun x=>{x with fr:=v}).map bQ:=dJ fun a=>rfl
@[simp] theorem aoF {l:List Age} {i:Int} {v0:Int} {v1:Int}:setRow (l.map bQ) i 0 [.sc (.int .i64 v0),.sc (.int .i64 v1)]=(l.modify i.toNat fun _=>⟨v0,v1⟩).map bQ:=dJ fun a=>rfl
@[simp] theorem ah1 {l:List Cell} {i:Int} {v:Int}:setRow (l.map bL) i 0 [.sc (.int .i64 v)]=(l.modify i.toNat fun x=>{x with g:=v}).map bL:=dJ fun a=>rfl
@[simp] theorem PR {l:List Cell} {i:Int} {v:Bool}:setRow (l.map bL) i 1 [.sc (.bool v)]=(l.modify i.toNat fun x=>{x with u:=v}).map bL:=dJ fun a=>rfl
@[simp] theorem PS {l:List Cell} {i:Int} {v:Int}:setRow (l.map bL) i 2 [.sc (.int .i64 v)]=(l.modify i.toNat fun x=>{x with n:=v}).map bL:=dJ fun a=>rfl
@[simp] theorem ab6 {l:List Cell} {i:Int} {v0:Int} {v1:Bool} {v2:Int}:setRow (l.map bL) i 0 [.sc (.int .i64 v0),.sc (.bool v1),.sc (.int .i64 v2)]=(l.modify i.toNat fun _=>⟨v0,v1,v2⟩).map bL:=dJ fun a=>rfl
@[simp] theorem aec {l:List Vol} {i:Int} {v:ByteArray}:setRow (l.map cg) i 0 [.sc (.string v)]=(l.modify i.toNat fun x=>{x with name:=v}).map cg:=dJ fun a=>rfl
@[simp] theorem Md {l:List Vol} {i:Int} {v:Int}:setRow (l.map cg) i 1 [.sc (.int .i64 v)]=(l.modify i.toNat fun x=>{x with cT:=v}).map cg:=dJ fun a=>rfl
@[simp] theorem Jx {l:List Vol} {i:Int} {v:Int}:setRow (l.map cg) i 2 [.sc (.int .i64 v)]=(l.modify i.toNat fun x=>{x with size:=v}).map cg:=dJ fun a=>rfl
@[simp] theorem ah2 {l:List Vol} {i:Int} {v:Bool}:setRow (l.map cg) i 3 [.sc (.bool v)]=(l.modify i.toNat fun x=>{x with fx:=v}).map cg:=dJ fun a=>rfl
@[simp] theorem aoG {l:List Vol} {i:Int} {v0:ByteArray} {v1:Int} {v2:Int} {v3:Bool}:setRow (l.map cg) i 0 [.sc (.string v0),.sc (.int .i64 v1),.sc (.int .i64 v2),.sc (.bool v3)]=(l.modify i.toNat fun _=>⟨v0,v1,v2,v3⟩).map cg:=dJ fun a=>rfl
@[simp] theorem af2 {l:List Av} {i:Int} {v:Int}:setRow (l.map DF) i 0 [.sc (.int .i64 v)]=(l.modify i.toNat fun x=>{x with kind:=v}).map DF:=dJ fun a=>rfl
@[simp] theorem af3 {l:List Av} {i:Int} {v:ByteArray}:setRow (l.map DF) i 1 [.sc (.string v)]=(l.modify i.toNat fun x=>{x with name:=v}).map DF:=dJ fun a=>rfl
@[simp] theorem akd {l:List Av} {i:Int} {v:ByteArray}:setRow (l.map DF) i 2 [.sc (.string v)]=(l.modify i.toNat fun x=>{x with to:=v}).map DF:=dJ fun a=>rfl
@[simp] theorem amo {l:List Av} {i:Int} {v:Int}:setRow (l.map DF) i 3 [.sc (.int .i64 v)]=(l.modify i.toNat fun x=>{x with a:=v}).map DF:=dJ fun a=>rfl
@[simp] theorem amp {l:List Av} {i:Int} {v:Int}:setRow (l.map DF) i 4 [.sc (.int .i64 v)]=(l.modify i.toNat fun x=>{x with b:=v}).map DF:=dJ fun a=>rfl
@[simp] theorem aqq {l:List Av} {i:Int} {v0:Int} {v1:ByteArray} {v2:ByteArray} {v3:Int} {v4:Int}:setRow (l.map DF) i 0 [.sc (.int .i64 v0),.sc (.string v1),.sc (.string v2),.sc (.int .i64 v3),.sc (.int .i64 v4)]=(l.modify i.toNat fun _=>⟨v0,v1,v2,v3,v4⟩).map DF:=dJ fun a=>rfl
@[simp] theorem aoH {l:List (Int)} {i:Int} {v:Int}:setRow (l.map bO) i 0 [.sc (.int .i64 v)]=(l.modify i.toNat fun _=>v).map bO:=dJ fun a=>rfl
@[simp] theorem amq {l:List (Bool)} {i:Int} {v:Bool}:setRow (l.map Sa) i 0 [.sc (.bool v)]=(l.modify i.toNat fun _=>v).map Sa:=dJ fun a=>rfl
@[simp] theorem aoI {l:List (List Key)} {i:Int} {v:List Key}:setRow (l.map cU) i 0 [.sub 5 (v.map bP)]=(l.modify i.toNat fun _=>v).map cU:=dJ fun a=>rfl
@[simp] theorem ab7 {l:List (List (List Key))} {i:Int} {v:List (List Key)}:setRow (l.map aQ) i 0 [.sub 1 (v.map cU)]=(l.modify i.toNat fun _=>v).map aQ:=dJ fun a=>rfl
end Go.T
namespace Go.T
theorem aZ {α:Type} (l:List α) (P:Nat→Prop) (fin:P l.length) (step: ∀i a,i<l.length→l[i]?=some a→l.drop i=a::l.drop (i+1)→l.take (i+1)=l.take i++[a]→P (i+1)→P i):P 0:=by
 have: ∀k i,i+k=l.length→P i:=by
  intro k
  induction k with
  |zero=>intro i h;have:i=l.length:=by omega
         subst this;exact fin
  |succ k ih=>
   intro i h
   have hi:i<l.length:=by omega
   refine step i l[i] hi (ck hi) (Gi hi) ?_ (ih (i+1) ay);rw[List.take_add_one,ck hi];rfl
 exact this l.length 0 ay
theorem BW {α:Type} {e:α→List TC} {z:List TC} (l:List α) (P:Int→RR→Prop) (hz: ∀a,(e a).length=z.length) (fin:P l.length (l.map e))
 (step: ∀(i:Nat) rows a,i<l.length→l[i]?=some a→rowAt rows i=some z→P ((i:Int)+1) (setRow rows i 0 (e a))→P i rows):P 0 (List.replicate l.length z):=by
 have: ∀i:Nat,i≤l.length→P (i:Int) ((l.take i).map e++List.replicate (l.length-i) z)→P 0 (List.replicate l.length z):=by
  intro i
  induction i with
  |zero=>intro _ h;simpa using h
  |succ i ih=>
   intro hi h;refine ih ay ?_
   have hlt:i<l.length:=by omega
   have ha:=ck hlt
   have hk:l.length-i=(l.length-(i+1))+1:=by omega
   rw[hk];refine step i _ l[i] hlt ha (aj6 ay) ?_;rw[ad7 (e:=e) ha rfl (hz _).symm];exact h
 refine this l.length (cV _) ?_;simpa using fin
def tot {α:Type} (w:α→Nat):List α→Nat
 |[]=>0
 |a::r=>w a+tot w r
def jd {α:Type} (mk:α→Int→α) (w:α→Nat):List α→Int→List α
 |[],_=>[]
 |a::r,k=>mk a k::jd mk w r (k+w a)
theorem xT {α:Type} {e:α→List TC} (mk:α→Int→α) (w:α→Nat) (P:Int→Int→RR→Prop) (B:Int)
 (step: ∀(d:List α) a r (k:Int),0≤k→k+w a≤B→d.length<1099511627776→P (k+w a) ((d.length:Int)+1) ((d++mk a k::r).map e)→P k d.length ((d++a::r).map e)):
 ∀(r d:List α) (k:Int),0≤k→k+tot w r≤B→d.length+r.length≤1099511627776→P (k+tot w r) ((d.length+r.length:Nat):Int) ((d++jd mk w r k).map e)→P k d.length ((d++r).map e)
 |[],d,k,_,_,_,h=>by simpa [jd,tot] using h
 |a::r,d,k,h0,h1,h2,h=>by
  simp only[tot,fW] at h1 h2 h;refine step d a r k h0 ay ay ?_
  have:=xT mk w P B step r (d++[mk a k]) (k+w a) ay ay eI (by
   simp only[Af,List.singleton_append,cF,gK];rw[show k+(w a:Int)+(tot w r:Int)=k+((w a+tot w r:Nat):Int) by omega,show d.length+1+r.length=d.length+(r.length+1) by omega]
   exact h)
  simpa using this
theorem z8 {α:Type} {e:α→List TC} (mk:α→Int→α) (w:α→Nat) (P:Int→Int→RR→Prop) (B:Int)
 (step: ∀(d:List α) a r (k:Int),0≤k→k+w a≤B→d.length<1099511627776→P (k+w a) ((d.length:Int)+1) ((d++mk a k::r).map e)→P k d.length ((d++mk a k::r).map e)):
 ∀(r d:List α) (k:Int),0≤k→k+tot w r≤B→d.length+r.length≤1099511627776→P (k+tot w r) ((d.length+r.length:Nat):Int) ((d++jd mk w r k).map e)→P k d.length ((d++jd mk w r k).map e)
 |[],d,k,_,_,_,h=>by simpa [jd,tot] using h
 |a::r,d,k,h0,h1,h2,h=>by
  simp only[tot,fW,jd] at h1 h2 h ⊢;refine step d a _ k h0 ay ay ?_
  have:=z8 mk w P B step r (d++[mk a k]) (k+w a) ay ay eI (by
   simp only[Af,List.singleton_append,cF,gK];rw[show k+(w a:Int)+(tot w r:Int)=k+((w a+tot w r:Nat):Int) by omega,show d.length+1+r.length=d.length+(r.length+1) by omega]
   exact h)
  simpa using this
theorem Aa {α:Type} (n:Nat): ∀l:List α,tot (fun _=>n) l=n*l.length
 |[]=>rfl
 |a::r=>by simp only[tot,Aa n r,fW,Nat.mul_add];omega
theorem nT {α:Type} (mk:α→Int→α) (w:α→Nat): ∀(l:List α) (k:Int),(jd mk w l k).length=l.length
 |[],_=>rfl
 |a::r,k=>by simp[jd,nT mk w r]
theorem Wl {α:Type} (w:α→Nat): ∀(l m:List α),tot w (l++m)=tot w l+tot w m
 |[],m=>by simp[tot]
 |a::r,m=>by simp only[RS,tot,Wl w r];omega
theorem oA {α:Type} {w:α→Nat}: ∀{l:List α} {a:α},a∈l→w a≤tot w l
 |[],_,h=>by cases h
 |b::r,a,h=>by
  simp only[tot];rcases fX.1 h with rfl|h
  ·omega
  ·have:=oA (w:=w) h;omega
theorem oB {α:Type} {w:α→Nat} {l:List α} {i:Nat} {a:α} (h:l[i]?=some a):w a≤tot w l:=oA (gP h)
def bY (s:List Key):Nat:=s.length
def aP (n:List (List Key)):Nat:=n.length+tot bY n
def wR (n:List (List (List Key))):Nat:=n.length+tot aP n
def cG (t:Tree):Nat:=t.aE.length+wR t.nodes
def p8 (v:Vol):Nat:=v.name.size
def DG (l:List Vol):Nat:=l.length+tot p8 l
def aJ (p:Pool):Nat:=cG p.t+p.aL.length+p.cells.length+DG p.au
def Lb (o:Av):Nat:=o.name.size+o.to.size
def aqr (l:List Av):Nat:=l.length+tot Lb l
def nB (left:Int) (n:Nat):Int:=if left<n then-1 else left-n
end Go.T
namespace Go.T
section
variable {C : pO} {f : FuncId} {vs : List TV}
theorem vL {x b:Bool} (h:an C f vs (vB x) []):an C f vs (vB b) []↔b=x:=⟨fun h'=>by have:=(h.det h').1;simpa using this,fun e=>e▸h⟩
theorem ake {x b:Int} (h:an C f vs (vI x) []):an C f vs (vI b) []↔b=x:=⟨fun h'=>by have:=(h.det h').1;simpa using this,fun e=>e▸h⟩
theorem ar2 {x b:ByteArray} (h:an C f vs (vS x) []):an C f vs (vS b) []↔b=x:=⟨fun h'=>by have:=(h.det h').1;simpa using this,fun e=>e▸h⟩
theorem aed {z:Nat} {x b:RR} (h:an C f vs (.c (.sub z x)) []):an C f vs (.c (.sub z b)) []↔b=x:=⟨fun h'=>by have:=(h.det h').1;simpa using this,fun e=>e▸h⟩
theorem anJ {x b:Int} {y c:Bool} (h:an C f vs (.tu [(0,[iI x]),(0,[iB y])]) []):an C f vs (.tu [(0,[iI b]),(0,[iB c])]) []↔b=x∧c=y:=⟨fun h'=>by have:=(h.det h').1;simpa using this,fun⟨e,e'⟩=>e▸e'▸h⟩
end
theorem aa8 {s:ByteArray} {i:Nat} (h:i<s.size): ∃n:Int,xG s i=some n∧0≤n∧n≤255:=by
 unfold xG;rw[aI (Int.natCast_nonneg i),lV];have:s[i]?=some s[i]:=getElem?_pos s i h;rw[this];have:=(s[i]).toNat_lt;refine⟨_,rfl,?_,?_⟩<;>show _≤_<;>simp only[]<;>omega
theorem aee {n:Int} (h: -9223372036854775808≤n∧n≤9223372036854775807):zn .i64 n=n:=by unfold zn;exact IntWalk.i64_in _ h
def iA (a lo hi:Int):Bool:=decide (lo≤a∧a≤hi)
def iC (a:Int):Bool:=iA a 0 65535
def jU (x:Key):Bool:=iA x.b 0 15&&iA x.a 1 60&&iA x.k 0 2&&(if x.k=1 then iA x.c 0 23&&iA x.g 0 999 else decide (x.c=0)&&decide (x.g=0))
def fR (x y:Key):Bool:=decide (x.b<y.b∨(x.b=y.b∧x.a<y.a))
def p9 (x y:Key):Bool:=decide (x.b=y.b∧x.a=y.a)
def dS (n:Nat) (f:Nat→Bool):Bool:=(om 0 n).all f
theorem nC {i n:Nat} (h:i<n):om i (n-i)=i::om (i+1) (n-(i+1)):=by
 obtain⟨k,hk⟩: ∃k,n-i=k+1:=⟨n-i-1,by omega⟩;rw[hk,show n-(i+1)=k by omega]
 rfl
theorem sX (n:Nat) (P:Nat→Prop) (fin:P n) (step: ∀i,i<n→P (i+1)→P i):P 0:=by
 have: ∀k i,i+k=n→P i:=by
  intro k
  induction k with
  |zero=>intro i h;have:i=n:=by omega
         subst this;exact fin
  |succ k ih=>intro i h;exact step i ay (ih (i+1) ay)
 exact this n 0 ay
theorem ahk {α:Type} (f g:α→Bool): ∀l:List α,l.all (fun x=>f x&&g x)=(l.all f&&l.all g)
 |[]=>rfl
 |a::r=>by simp only[ql,ahk f g r];cases f a<;>cases g a<;>simp
theorem akf (n:Nat) (f g:Nat→Bool):dS n (fun i=>f i&&g i)=(dS n f&&dS n g):=ahk f g _
theorem wS {n:Nat} {f:Nat→Bool}:dS n f=true↔ ∀i,i<n→f i=true:=by
 unfold dS;rw[List.all_eq_true]
 constructor
 ·intro h i hi;exact h i (by simp[List.mem_range'];exact hi)
 ·intro h i hi
  simp[List.mem_range'] at hi;exact h i hi
def atL {α:Type} (l:List α) (f:α→Bool) (i:Nat):Bool:=match l[i]? with|some a=>f a|none=>true
def jv {α:Type} (l:List α) (f:α→α→Bool):Nat→Bool
 |0=>true
 |k+1=>match l[k]?,l[k+1]? with|some x,some y=>f x y|_,_=>true
theorem amr {α:Type} (l:List α) (f:α→Bool):dS l.length (atL l f)=l.all f:=by
 rw[Bool.eq_iff_iff,wS,List.all_eq_true]
 constructor
 ·intro h a ha
  obtain⟨i,hi,rfl⟩:=List.getElem_of_mem ha;have:=h i hi;simpa [atL,hi] using this
 ·intro h i hi
  simp only[atL,ck hi];exact h _ (D2 hi)
def pT (l:List Key) (i:Nat):Bool:=atL l jU i&&jv l fR i
def Jy (l:List Key):Bool:=dS l.length (pT l)&&decide (l.length≤60)
theorem Wm (l:List Key):Jy l=(l.all jU&&(dS l.length (jv l fR)&&decide (l.length≤60))):=by
 rw[←Bool.and_assoc,←amr,←akf];rfl
def fT:Key:=⟨0,0,0,0,0⟩
def setAt (l:List Key) (b a:Int):Option Key:=l.find? fun x=>decide (x.b=b∧x.a=a)
def iD (k:Key):Bool→List Key→List Key
 |put,[]=>if put then [] else [k]
 |put,x::r=>(if !put&& !fR x k then [k] else [])++(if p9 x k then [] else [x])++iD k (put|| !fR x k) r
def iE (l:List Key) (k:Key):List Key:=iD k false l
theorem Sb (k:Key): ∀(l:List Key) (put:Bool),(iD k put l).length≤l.length+(if put then 0 else 1)
 |[],put=>by simp only[iD];split<;>simp
 |x::r,put=>by
  have:=Sb k r (put|| !fR x k);simp only[iD,cF,fW]
  have h1:(if p9 x k then([]:List Key) else [x]).length≤1:=by split<;>simp
  revert h1
  generalize (if p9 x k then([]:List Key) else [x])=m;intro h1
  cases put<;>cases hk:fR x k<;>simp[hk] at this ⊢ <;>omega
theorem sY (l:List Key) (k:Key):(iE l k).length≤l.length+1:=by have:=Sb k l false;simpa [iE] using this
def dN (old new:List Key):List Key:=new.foldl iE old
theorem ya: ∀(new old:List Key),(dN old new).length≤old.length+new.length
 |[],old=>by simp[dN]
 |x::r,old=>by
  have:=ya r (iE old x);have h2:=sY old x;simp only[dN,List.foldl_cons,fW] at this ⊢;omega
def r6 (l:List Key):List Key:=l.filter fun k=> !decide (k.k=0)
def Ab (n:List (List Key)):List Key:=n.foldl dN []
def aU (n:List (List Key)):List Key:=r6 (Ab n)
theorem Gn: ∀(n:List (List Key)) (a:List Key),(n.foldl dN a).length≤a.length+tot bY n
 |[],a=>by simp[tot]
 |s::r,a=>by
  have:=Gn r (dN a s);have h2:=ya s a;simp only[List.foldl_cons,tot,bY] at this ⊢;omega
theorem dn (n:List (List Key)):(aU n).length≤tot bY n:=by
 have h1:=Gn n [];have h2:=aaB (fun k:Key=> !decide (k.k=0)) (Ab n);simp only[List.length_nil,nr] at h1;exact uL h2 h1
def dg (n:List (List Key)):Nat:=tot bY n
def iF (n:List (List Key)):Bool:=n.all (fun s=>Jy s&& !decide (s.length=0))&&decide (n.length≤3)&&decide (dg n≤8)
def dM (l:List Key):List (List Key):=if l.length=0 then [] else [l]
def aD (t:Tree):List Key:=t.nodes.flatMap aU
theorem NT: ∀(l:List (List (List Key))),(l.flatMap aU).length≤tot aP l
 |[]=>by simp[tot]
 |n::r=>by
  have:=NT r;have h2:=dn n;simp only[List.flatMap_cons,cF,tot,aP];omega
theorem fh (t:Tree):(aD t).length≤cG t:=by
 have:=NT t.nodes;unfold aD cG wR;omega
def iO (t:Tree) (b:Int):List Key:=(aD t).filter fun k=>decide (k.b=b)
theorem Wn (t:Tree) (b:Int):(iO t b).length≤(aD t).length:=aaB _ _
def jV (b a:Int):Int:=aA (aml 64 b) a
def eR {α:Type} (p:α→Bool):List α→Int→Int
 |[],_=> -1
 |a::r,i=>if p a then i else eR p r (i+1)
theorem NU {α:Type} (p:α→Bool): ∀(l:List α) (i:Int),0≤i→decide (0≤eR p l i)=l.any p
 |[],i,_=>by simp[eR]
 |a::r,i,h=>by
  by_cases hp:p a=true
  ·simp[eR,hp,h]
  ·have:=NU p r (i+1) ay
   simp only[eR,aF hp,List.any_cons];rw[this];simp[hp]
theorem PT {α:Type} (p:α→Bool): ∀(l:List α) (i:Int),0≤i→(eR p l i= -1∧ ∀a∈l,p a=false)∨ ∃(j:Nat) (a:α),eR p l i=i+j∧l[j]?=some a∧p a=true∧j<l.length∧ ∀k,k<j→ ∀b,l[k]?=some b→p b=false
 |[],i,_=> .inl ⟨rfl,fun a h=>by cases h⟩
 |a::r,i,h=>by
  simp only[eR]
  cases hp:p a with
  |true=>exact .inr ⟨0,a,by simp,rfl,hp,by simp,fun k hk=>by omega⟩
  |false=>
   rcases PT p r (i+1) ay with⟨h1,h2⟩|⟨j,b,h1,h2,h3,h4,h5⟩
   ·refine .inl ⟨by simpa using h1,fun b hb=> ?_⟩
    rcases fX.1 hb with rfl|hb
    ·exact hp
    ·exact h2 b hb
   ·refine .inr ⟨j+1,b,by simp[h1];omega,h2,h3,by simp;omega,fun k hk c hc=> ?_⟩
    cases k with
    |zero=>simp at hc;rw[←hc];exact hp
    |succ k=>exact h5 k ay c hc
theorem ahl {α:Type} (p:α→Bool) (l:List α): -1≤eR p l 0∧eR p l 0<l.length:=by
 rcases PT p l 0 ay with⟨h,_⟩|⟨j,a,h,_,_,h4,_⟩<;>omega
theorem wT {α:Type} (p:α→Bool) (l:List α) (h: ¬eR p l 0<0): ∃a,ff l (eR p l 0)=some a∧p a=true:=by
 rcases PT p l 0 ay with⟨h1,_⟩|⟨j,a,h1,h2,h3,_⟩
 ·omega
 ·refine⟨a,?_,h3⟩
  rw[h1,Int.zero_add,aH];exact h2
def fk (l:List Age) (id:Int):Int:=eR (fun a=>decide (a.id=id)) l 0
theorem aef (l:List Age) (id:Int): -1≤fk l id∧fk l id<l.length:=ahl _ _
theorem K1 (l:List Age) (id:Int) (h: ¬fk l id<0): ∃a,ff l (fk l id)=some a∧a.id=id:=by
 obtain⟨a,h1,h2⟩:=wT _ l h;exact⟨a,h1,yp h2⟩
def Jz (l:List Age):Nat→Int→List Int
 |0,_=>[]
 |n+1,id=>if fk l id<0 then [] else id::(match ff l (fk l id) with|some a=>Jz l n a.fr|none=>[])
def pathOf (l:List Age) (id:Int):List Int:=Jz l (l.length+1) id
theorem aa9 (l:List Age): ∀(n:Nat) (id:Int),(Jz l n id).length≤n
 |0,_=>by simp[Jz]
 |n+1,id=>by
  simp only[Jz]
  split
  ·simp
  ·split
   ·have:=aa9 l n
    simp only[fW];rename_i a _;have:=this a.fr;omega
   ·simp
theorem FL (l:List Age) (id:Int):(pathOf l id).length≤l.length+1:=aa9 l _ id
def Lc (l:List Int) (n:Int):Bool:=l.any fun a=>decide (a=n)
def NV (path:List Int):Key×Bool→Key→Key×Bool:=fun p k=>if Lc path k.a&&(!p.2||decide (p.1.a<k.a)) then(k,true) else p
def near (keys:List Key) (path:List Int):Key×Bool:=keys.foldl (NV path) (fT,false)
def Lw (t:Tree) (l:List Age) (b id:Int):Key×Bool:=near (iO t b) (pathOf l id)
def tN (t:Tree) (l:List Age) (b id:Int):Key×Bool:=near (iO t b) ((pathOf l id).drop 1)
theorem akg (keys:List Key):near keys []=(fT,false):=by
 unfold near
 suffices ∀(l:List Key),l.foldl (NV []) (fT,false)=(fT,false) from this keys
 intro l
 induction l with
 |nil=>rfl
 |cons a r ih=>simpa [NV,Lc] using ih
def nD (t:Tree) (l:List Age) (k:Key) (id:Int):Bool:=(Lw t l k.b id).2&&decide ((Lw t l k.b id).1.a=k.a)
def PU (p:Pool) (k:Key):Bool:=p.au.any fun v=>decide (k.b<v.size)&&nD p.t p.aL k v.cT
def eA (l:List Age) (id:Int):List Int:=if id=0 then [] else(l.filter fun a=>decide (a.fr=id)).map (·.id)
theorem Wo (l:List Age) (id:Int):(eA l id).length≤l.length:=by
 unfold eA
 split
 ·simp
 ·rw[bX];exact aaB _ _
abbrev Yg (p:Key×Bool):TV:= .tu [(1,[iI p.1.b,iI p.1.a,iI p.1.k,iI p.1.c,iI p.1.g]),(0,[iB p.2])]
def akh (n:Int):Bool:=iA n 97 122||iA n 48 57
def gl (s:ByteArray) (i:Nat):Bool:=match xG s i with|some n=>akh n|none=>true
def jR (s:ByteArray):Bool:=dS s.size (gl s)&&iA s.size 1 6
def gu (l:List Age) (i:Nat):Bool:=atL l (fun a=>iA a.id 1 60) i&&(jv l (fun x y=>decide (x.id<y.id)) i&&atL l (fun a=>decide (a.fr=0)|| !decide (fk (l.take i) a.fr<0)) i)
def gU (l:List Age):Bool:=dS l.length (gu l)&&decide (l.length≤16)
def bZ (l:List Vol) (s:ByteArray):Int:=eR (fun v=>decide (v.name=s)) l 0
def qS (l:List Vol) (id:Int):Bool:= !l.any fun v=>decide (v.cT=id)
def cellAt (l:List Cell) (i gen:Int):Int×Bool:=match ff l i with
 |none=>(0,false)
 |some c=>if c.u=true∧c.g=gen then(c.n,true) else(0,false)
def cu (l:List Cell):Nat:=(l.filter (·.u)).length
def kH (c:Cell):Bool:=iA c.g 0 999&&(iC c.n&&(c.u||decide (c.n=0)))
def eJ (l:List Cell):Bool:=l.all kH&&decide (l.length=24)
abbrev tIB (p:Int×Bool):TV:= .tu [(0,[iI p.1]),(0,[iB p.2])]
@[simp] theorem BX {l:List Key} {b a k c g:Int}:List.append (l.map bP) [[iI b,iI a,iI k,iI c,iI g]]=(l++[(⟨b,a,k,c,g⟩:Key)]).map bP:=by simp[bP]
@[simp] theorem Vq {l:List Int} {b:Int}:List.append (l.map bO) [[iI b]]=(l++[b]).map bO:=by simp[bO]
@[simp] theorem BZ {l:List Age} {b a:Int}:List.append (l.map bQ) [[iI b,iI a]]=(l++[(⟨b,a⟩:Age)]).map bQ:=by simp[bQ]
@[simp] theorem FM {l:List Vol} {s:ByteArray} {b a:Int} {q:Bool}:List.append (l.map cg) [[iS s,iI b,iI a,iB q]]=(l++[(⟨s,b,a,q⟩:Vol)]).map cg:=by simp[cg]
@[simp] theorem NW {l:List (List (List Key))} {s:List (List Key)}:List.append (l.map aQ) [[.sub 1 (s.map cU)]]=(l++[s]).map aQ:=by simp[aQ]
@[simp] theorem nE {α:Type} {e:α→List TC} {l m:List α}:List.append (l.map e) (m.map e)=(l++m).map e:=by simp
@[simp] theorem cQ {α:Type} (l:List α):Nat.succ (List.length l)=l.length+1:=rfl
theorem qB (b a k c g:Int):bR [[iI b,iI a,iI k,iI c,iI g]]=true:=m8 [⟨b,a,k,c,g⟩]
theorem vM (b a:Int):bR [[iI b,iI a]]=true:=z7 [⟨b,a⟩]
theorem vN (s:ByteArray) (b a:Int) (q:Bool):bR [[iS s,iI b,iI a,iB q]]=true:=wj [⟨s,b,a,q⟩]
attribute [simp] qB vM vN
@[simp] theorem eo (k:Key):(⟨k.b,k.a,k.k,k.c,k.g⟩:Key)=k:=rfl
@[simp] theorem fA (k:Age):(⟨k.id,k.fr⟩:Age)=k:=rfl
@[simp] theorem dQ (k:Cell):(⟨k.g,k.u,k.n⟩:Cell)=k:=rfl
@[simp] theorem fC (k:Vol):(⟨k.name,k.cT,k.size,k.fx⟩:Vol)=k:=rfl
@[simp] theorem fD (k:Mp):(⟨k.name,k.fx,k.l⟩:Mp)=k:=rfl
@[simp] theorem g7 (k:Av):(⟨k.kind,k.name,k.to,k.a,k.b⟩:Av)=k:=rfl
theorem cO {n b:Nat} (h:n*b≤140737488355328∧n≤140737488355328):fits n b=true:=by rw[ame];exact fj h
end Go.T
namespace Go.T
def eH (s:List Key):Bool:=Jy s&& !decide (s.length=0)
theorem aba (n:List (List Key)):iF n=(n.all eH&&(decide (n.length≤3)&&decide (dg n≤8))):=by
 unfold iF;rw[Bool.and_assoc];rfl
def af4 (aE:List Int) (i:Nat) (x:Int):Bool:=match aE[i]? with
 |some lo=> !decide (x<lo)&&(match aE[i+1]? with|some hi=>decide (x<hi)|none=>true)
 |none=>true
def jG (aE:List Int) (i:Nat) (k:Key):Bool:=af4 aE i (jV k.b k.a)
def cD (aE:List Int) (i:Nat) (s:List Key):Bool:=s.all (jG aE i)
def dX (t:Tree) (i:Nat):Bool:=jv t.aE (fun x y=>decide (x<y)) i&&(match t.nodes[i]? with
 |some n=>iF n&&((decide (i=0)|| !decide ((aU n).length=0))&&n.all (cD t.aE i))
 |none=>true)
def gG (t:Tree):Bool:=iA t.nodes.length 1 20&&(decide (t.aE.length=t.nodes.length)&&((match t.aE[0]? with|some x=>decide (x=0)|none=>true)&&(dS t.nodes.length (dX t)&&decide ((aD t).length≤60))))
def cK (p:Pool) (i:Nat):Bool:=match p.au[i]? with
 |some v=>jR v.name&&(iA v.size 1 12&&(!decide (fk p.aL v.cT<0)&&(decide ((eA p.aL v.cT).length=0)&&(jv p.au (fun x y=>Su x.name y.name) i&& !(p.au.take i).any fun u=>decide (u.cT=v.cT)))))
 |none=>true
def jS (p:Pool):Bool:=dS p.au.length (cK p)&&decide (p.au.length≤6)
def dA (p:Pool) (l:List Key) (i:Nat):Bool:=match l[i]? with
 |some k=> !decide (fk p.aL k.a<0)&&(!decide (k.k=1)||((cellAt p.cells k.c k.g).2&& !(l.take i).any fun x=>decide (x.k=1)&&decide (x.c=k.c)))
 |none=>true
def cR (l:List Key):Nat:=(l.filter fun k=>decide (k.k=1)).length
def gY (p:Pool):Bool:=dS (aD p.t).length (dA p (aD p.t))&&decide ((cu p.cells:Int)=cR (aD p.t))
def cZ (p:Pool):Bool:=p.aL.all (fun a=>decide (a.id<p.next))&&(gG p.t&&(gU p.aL&&(eJ p.cells&&(iA p.next 1 61&&(jS p&&gY p)))))
def ams (p:Pool) (i b:Int):Int:=match ff p.au i with
 |none=>0
 |some v=>if 0≤b∧b<v.size then(if(Lw p.t p.aL b v.cT).2=true∧(Lw p.t p.aL b v.cT).1.k=1 then(cellAt p.cells (Lw p.t p.aL b v.cT).1.c (Lw p.t p.aL b v.cT).1.g).1 else 0) else 0
def tO (l:List Key):List Bool:=(List.range 24).map fun m:Nat=>l.any fun x=>decide (x.k=1)&&decide (x.c=(m:Int))
theorem aeg:tO []=List.replicate 24 false:=by decide
theorem aeh (l:List Key) {c:Int} (h:0≤c∧c<24):ff (tO l) c=some (l.any fun x=>decide (x.k=1)&&decide (x.c=c)):=by
 obtain⟨n,rfl⟩: ∃n:Nat,c=n:=⟨c.toNat,by omega⟩;rw[aH];unfold tO;rw[lW,List.getElem?_range ay]
 rfl
theorem aei (l:List Key) (k:Key) (hk:k.k=1) (h:0≤k.c∧k.c<24):(tO l).modify k.c.toNat (fun _=>true)=tO (l++[k]):=by
 apply List.ext_getElem?
 intro m;rw[List.getElem?_modify];unfold tO;rw[lW,lW]
 by_cases hm:m<24
 ·rw[List.getElem?_range hm]
  simp only[pL,List.any_append,List.any_cons,List.any_nil,Bool.or_false,hk,decide_true,dx]
  by_cases e:k.c.toNat=m
  ·have:k.c=(m:Int):=by omega
   simp[e,this]
  ·have: ¬k.c=(m:Int):=by omega
   simp[e,this]
 ·rw[Vz eI];rfl
theorem ab8 (l:List Key) (k:Key) (hk: ¬k.k=1):tO (l++[k])=tO l:=by
 unfold tO;simp[hk]
theorem Lx (k:Key) (l:List Key):cR (k::l)=(if k.k=1 then 1 else 0)+cR l:=by
 unfold cR
 by_cases h:k.k=1<;>simp[h]
 omega
theorem ah4 {l:List Cell} {i g:Int} (h:(cellAt l i g).2=true):0≤i∧i<l.length:=by
 unfold cellAt at h
 apply Classical.byContradiction
 intro hn;rw[gD hn] at h
 cases h
theorem cC {p:Pool} (h:aJ p≤4194304):cG p.t≤4194304∧p.aL.length≤4194304∧p.cells.length≤4194304∧p.au.length≤4194304∧tot p8 p.au≤4194304:=by
 unfold aJ DG at h;omega
end Go.T
namespace Go.T
def blocks (p:Pool) (i:Nat) (k:Nat):List Int:=(List.range k).map fun b:Nat=>ams p i b
def jW (l:List Cell) (i:Int):List Cell:=match ff l i with
 |none=>l
 |some c=>if eJ l=true∧c.u=true then l.modify i.toNat (fun _=>⟨Dw (aA c.g 1) 1000,false,0⟩) else l
theorem Ly {l:List Cell} {i:Int} (h:ff l i=none):jW l i=l:=by unfold jW;rw[h]
theorem NX {l:List Cell} {i:Int} (h:eJ l=false):jW l i=l:=by
 unfold jW
 cases ff l i with
 |none=>rfl
 |some c=>exact aF (fun hh=>by rw[h] at hh;cases hh.1)
theorem Sc {l:List Cell} {i:Int} {c:Cell} (hc:ff l i=some c) (h:c.u=false):jW l i=l:=by
 unfold jW;rw[hc];exact aF (fun hh=>by rw[h] at hh;cases hh.2)
theorem NY {l:List Cell} {i:Int} {c:Cell} (hc:ff l i=some c) (h:eJ l=true) (hu:c.u=true):jW l i=l.modify i.toNat (fun _=>⟨Dw (aA c.g 1) 1000,false,0⟩):=by
 unfold jW;rw[hc];exact aI ⟨h,hu⟩
theorem FN (l:List Cell) (i:Int):(jW l i).length=l.length:=by
 unfold jW
 cases ff l i with
 |none=>rfl
 |some c=>simp only[];split<;>simp
def Ax (c:Cell):Bool:= !c.u
def fe (l:List Cell):Int:=eR Ax l 0
def jH (l:List Cell) (n:Int):List Cell×Int×Bool:=
 if eJ l=true∧iC n=true∧0≤fe l then(l.modify (fe l).toNat (fun c=>⟨c.g,true,n⟩),fe l,true) else(l,0,false)
theorem qt {l:List Cell} {n:Int} (h: ¬(eJ l=true∧iC n=true∧0≤fe l)):jH l n=(l,0,false):=aF h
theorem wU {l:List Cell} {n:Int} (h:eJ l=true∧iC n=true∧0≤fe l):jH l n=(l.modify (fe l).toNat (fun c=>⟨c.g,true,n⟩),fe l,true):=aI h
theorem NZ (l:List Cell) (n:Int):(jH l n).1.length=l.length:=by
 unfold jH;split<;>simp
abbrev amt (x:List Cell×Int×Bool):TV:= .tu [(0,[.sub 3 (x.1.map bL)]),(0,[iI x.2.1]),(0,[iB x.2.2])]
def PV (o:Av):Bool:=if o.kind=2 then decide (o.a=0)&&iA o.b 0 1 else if o.kind=3∨o.kind=7 then decide (o.a=0)&&decide (o.b=0) else if o.kind=4 then true else decide (o.b=0)
def opName (o:Av):Bool:=if 7≤o.kind then decide (o.name=wO) else jR o.name
def aoJ (o:Av):Bool:=if o.kind=2 then jR o.to else decide (o.to=wO)
def Wp (o:Av):Bool:=iA o.kind 1 9&&(opName o&&(aoJ o&&(iC o.a&&(iC o.b&&PV o))))
abbrev tII (x:Int×Int):TV:= .tu [(0,[iI x.1]),(0,[iI x.2])]
def uz (p:Pool) (s:ByteArray):Bool:=cZ p&&jR s
theorem wk {p:Pool} (h:cZ p=true):jS p=true:=by
 simp only[cZ,eX] at h;exact h.2.2.2.2.2.1
theorem Sd {p:Pool} (h:cZ p=true):gU p.aL=true:=by
 simp only[cZ,eX] at h;exact h.2.2.1
theorem B0 {p:Pool} {i:Int} {v:Vol} (h:jS p=true) (hv:ff p.au i=some v):1≤v.size∧v.size≤12:=by
 obtain⟨n,rfl,hn⟩: ∃n:Nat,i=n∧n<p.au.length:=by
  have:0≤i∧i<p.au.length:=Classical.byContradiction fun hn=>by rw[gD hn] at hv;cases hv
  exact⟨i.toNat,by omega,by omega⟩
 simp only[jS,eX,wS] at h;have:=h.1 n hn;rw[aH] at hv;simp only[cK,hv,eX] at this;have:=this.2.1;simp[iA] at this;omega
theorem aki {l:List Age} (h:gU l=true): ∀a∈l,1≤a.id:=by
 intro a ha;simp only[gU,eX,wS] at h;obtain⟨i,hi,rfl⟩:=List.getElem_of_mem ha;have h1:=h.1 i hi;simp only[gu,eX] at h1;have h2:=h1.1;simp only[atL,ck hi] at h2;simp[iA] at h2;omega
theorem akj {l:List Age} {id:Int} (h:gU l=true): ∀x∈eA l id,1≤x:=by
 intro x hx;unfold eA at hx
 split at hx
 ·cases hx
 ·obtain⟨a,ha,rfl⟩:=List.mem_map.1 hx
  exact aki h a (List.mem_filter.1 ha).1
def El (l:List Key) (b a:Int):Key×Bool:=match setAt l b a with|some k=>(k,true)|none=>(fT,false)
def qT (n:List (List Key)) (b a:Int):Nat→Key×Bool
 |0=>(fT,false)
 |k+1=>match n[k]? with
  |some s=>if(El s b a).2=true then(if(El s b a).1.k=0 then(fT,false) else El s b a) else qT n b a k
  |none=>(fT,false)
def wV (f:Int→Bool) (l:List Int):Nat→Int
 |0=> -1
 |k+1=>match l[k]? with
  |some x=>if f x=true then(k:Int) else wV f l k
  |none=> -1
def pU (t:Tree) (b a:Int):Int:=wV (fun x=>decide (x≤jV b a)) t.aE t.aE.length
def wW (t:Tree) (b a:Int):Key×Bool:=match ff t.nodes (pU t b a) with
 |some n=>qT n b a n.length
 |none=>(fT,false)
def Em (p:Pool) (id:Int):Int:=if qS p.au id=true∧(eA p.aL id).length=1 then(match ff (eA p.aL id) 0 with|some x=>x|none=>0) else 0
def abb (p:Pool) (k:Key):Bool:=if Em p k.a=0 then false else !(wW p.t k.b (Em p k.a)).2
def r7 (p:Pool) (step:Int) (k:Key):Bool:=if step=1 then !PU p k else if step=2 then decide (k.k=2)&& !(tN p.t p.aL k.b k.a).2 else abb p k
def hasB (id:Int) (k:Key):Bool:=decide (k.a=id)
def JA (id:Int) (k:Key):Bool:= !hasB id k
theorem akk (id:Int) (l:List Key):l.all (JA id)= !(l.any (hasB id)):=by
 induction l with
 |nil=>rfl
 |cons k r ih=>simp[ql,List.any_cons,ih,JA]
def u7 (p:Pool) (a:Age):Bool:=(aD p.t).all (JA a.id)&&(qS p.au a.id&&decide ((eA p.aL a.id).length≤1))
def mR (p:Pool) (j:Int):Int:=eR (r7 p j) (aD p.t) 0
def Me (p:Pool):Int:=eR (u7 p) p.aL 0
def c6 (p:Pool):Int×Int:=
 if cZ p=true then(if 0≤mR p 1 then(1,mR p 1) else if 0≤mR p 2 then(2,mR p 2) else if 0≤mR p 3 then(3,mR p 3) else if 0≤Me p then(4,Me p) else(0,0)) else(0,0)
def newNode (l:List Key):List (List Key):=if l.length=0 then [] else [l]
def wX (n:List (List Key)):List (List Key):=newNode (aU n)
def Ay (t:Tree) (i:Int):Tree:=match ff t.nodes i with
 |none=>t
 |some n=>⟨t.aE,t.nodes.modify i.toNat (fun _=>wX n)⟩
def qa (p:Pool) (i:Int):Pool×Bool:=if cZ p=true∧0≤i∧i<p.t.nodes.length then(⟨Ay p.t i,p.aL,p.cells,p.au,p.next⟩,true) else(p,false)
abbrev tPB (x:Pool×Bool):TV:= .tu [(1,[.sub 1 (x.1.t.aE.map bO),.sub 1 (x.1.t.nodes.map aQ),.sub 2 (x.1.aL.map bQ),.sub 3 (x.1.cells.map bL),.sub 4 (x.1.au.map cg),iI x.1.next]),(0,[iB x.2])]
theorem Mf {α:Type} {w:α→Nat} {f:α→α}: ∀{l:List α} {i:Nat},(∀a,l[i]?=some a→w (f a)≤w a)→tot w (l.modify i f)≤tot w l
 |[],i,h=>by cases i<;>exact cV _
 |a::r,0,h=>by
  rw[List.modify_zero_cons];have:=h a rfl;simp only[tot];omega
 |a::r,i+1,h=>by
  rw[List.modify_succ_cons];have:=Mf (l:=r) (i:=i) (w:=w) (f:=f) fun b hb=>h b (by simpa using hb);simp only[tot];omega
theorem aek (n:List (List Key)):aP (wX n)≤aP n:=by
 have h1:=dn n;unfold wX newNode
 split
 ·exact D4 _
 ·rename_i h
  have h2:aP [aU n]=1+((aU n).length+0):=rfl;have h3:aP n=n.length+tot bY n:=rfl
  cases n with
  |nil=>exact absurd rfl h
  |cons s r=>rw[h2,h3,fW];omega
theorem ael (t:Tree) (i:Int):cG (Ay t i)≤cG t:=by
 unfold Ay
 split
 ·exact cV _
 ·rename_i n hn
  have hi:0≤i∧i<t.nodes.length:=Classical.byContradiction fun h=>by rw[gD h] at hn;cases hn
  obtain⟨k,rfl⟩: ∃k:Nat,i=k:=⟨i.toNat,by omega⟩;rw[aH] at hn
  have:=Mf (w:=aP) (f:=fun _=>wX n) (l:=t.nodes) (i:=k) fun a ha=>by
   rw[hn] at ha
   cases ha
   exact aek n
  have e1:cG t=t.aE.length+(t.nodes.length+tot aP t.nodes):=rfl;have e2:cG ⟨t.aE,t.nodes.modify ((k:Int)).toNat (fun _=>wX n)⟩=t.aE.length+((t.nodes.modify ((k:Int)).toNat (fun _=>wX n)).length+tot aP (t.nodes.modify ((k:Int)).toNat (fun _=>wX n))):=rfl;rw[e1,e2,RT,lV];omega
theorem aem (p:Pool) (i:Int):aJ (qa p i).1≤aJ p:=by
 unfold qa
 split
 ·have:=ael p.t i
  unfold aJ;simp only[];omega
 ·exact cV _
end Go.T
namespace Go.T
def ab9 (p x:Pool):Pool×Int:=if cZ x=true then(x,0) else(p,6)
def FO (p:Pool) (i:Int):Pool:=⟨p.t,p.aL,p.cells,p.au.take i.toNat++p.au.drop (i.toNat+1),p.next⟩
def JB (p:Pool) (s:ByteArray):Pool×Int:=
 if uz p s=true then(if bZ p.au s<0 then(p,2) else ab9 p (FO p (bZ p.au s))) else(p,1)
abbrev PW (x:Pool×Int):TV:= .tu [(1,[.sub 1 (x.1.t.aE.map bO),.sub 1 (x.1.t.nodes.map aQ),.sub 2 (x.1.aL.map bQ),.sub 3 (x.1.cells.map bL),.sub 4 (x.1.au.map cg),iI x.1.next]),(0,[iI x.2])]
theorem amu {α:Type} (w:α→Nat) (l:List α) (k:Nat):tot w (l.take k++l.drop (k+1))≤tot w l:=by
 have h:tot w (l.take k++l.drop k)=tot w l:=by rw[Nk]
 rw[Wl] at h ⊢
 have h2:tot w (l.drop (k+1))≤tot w (l.drop k):=by
  cases hk:l.drop k with
  |nil=>
   have:l.drop (k+1)=[]:=by rw[←List.drop_drop];simp[hk]
   rw[this];exact cV _
  |cons a r=>
   have:l.drop (k+1)=r:=by
    have e:l.drop (k+1)=(l.drop k).drop 1:=by rw[List.drop_drop]
    rw[e,hk];rfl
   rw[this];simp only[tot];omega
 omega
theorem PX (p:Pool) (i:Int):aJ (FO p i)≤aJ p:=by
 have h1:=amu p8 p.au i.toNat
 have h2:(p.au.take i.toNat++p.au.drop (i.toNat+1)).length≤p.au.length:=by
  rw[cF,eO,iR];omega
 unfold aJ DG FO;simp only[];omega
theorem akl (p:Pool) (s:ByteArray):aJ (JB p s).1≤aJ p:=by
 unfold JB ab9
 split
 ·split
  ·exact cV _
  ·split
   ·exact PX p _
   ·exact cV _
 ·exact cV _
end Go.T
namespace Go.T
end Go.T
namespace Go.T
theorem af5 {α:Type} (p:α→Bool): ∀(l:List α) (i:Nat),i≤l.length→(l.take i).all p=true→(∀a,l[i]?=some a→p a=false)→(l.takeWhile p).length=i
 |[],i,h,_,_=>by simp at h;simp[h]
 |a::r,0,_,_,h=>by
  have:=h a rfl;simp[this]
 |a::r,i+1,h1,h2,h3=>by
  simp only[List.take_succ_cons,ql,eX] at h2;rw[List.takeWhile_cons,aI h2.1,fW,af5 p r i (by simpa using h1) h2.2 fun b hb=>h3 b (by simpa using hb)]
theorem amv {α:Type} (p:α→Bool) (l:List α):l.take (l.takeWhile p).length=l.takeWhile p:=by
 have h:=List.takeWhile_append_dropWhile (p:=p) (l:=l)
 conv=>lhs;rhs;rw[←h]
 rw[RU (cV _),vZ]
theorem amw {α:Type} (p:α→Bool) (l:List α):l.drop (l.takeWhile p).length=l.dropWhile p:=by
 have h:=List.takeWhile_append_dropWhile (p:=p) (l:=l)
 conv=>lhs;rhs;rw[←h]
 rw[List.drop_append_of_le_length (cV _),eu,xB]
def yz {α:Type} (p:α→Bool) (x:α) (l:List α):List α:=l.takeWhile p++x::l.dropWhile p
theorem Mg {α:Type} {p:α→Bool} {x a:α} {l:List α}:yz p x (a::l)=if p a then a::yz p x l else x::a::l:=by
 unfold yz
 by_cases h:p a=true
 ·simp[List.takeWhile_cons,List.dropWhile_cons,h]
 ·simp[List.takeWhile_cons,List.dropWhile_cons,h]
theorem Ac {α:Type} (p:α→Bool) (x:α) (l:List α):(yz p x l).length=l.length+1:=by
 unfold yz;have h:=congrArg List.length (List.takeWhile_append_dropWhile (p:=p) (l:=l));rw[cF] at h ⊢;rw[fW];omega
theorem Wq {α:Type} (p:α→Bool) (x:α) (l:List α) {k:Nat} (h:(l.takeWhile p).length=k):l.take k++x::l.drop k=yz p x l:=by
 unfold yz;rw[←h,amv,amw]
theorem PY {α:Type} (w:α→Nat) (p:α→Bool) (x:α): ∀l:List α,tot w (yz p x l)=tot w l+w x
 |[]=>by simp[yz,tot]
 |a::l=>by
  rw[Mg]
  split
  ·simp only[tot,PY w p x l];omega
  ·simp only[tot];omega
def leA (id:Int) (a:Age):Bool:=decide (a.id≤id)
def rV (l:List Age) (id fr:Int):List Age:=yz (leA id) ⟨id,fr⟩ l
def iG (l:List Age) (id fr:Int):List Age×Bool:=if 0≤fk l id then(l,false) else if gU (rV l id fr)=true then(rV l id fr,true) else(l,false)
theorem Az (l:List Age) (id fr:Int):(iG l id fr).1.length≤l.length+1:=by
 unfold iG
 split
 ·exact Nat.le_succ _
 ·split
  ·exact Nat.le_of_eq (Ac _ _ _)
  ·exact Nat.le_succ _
def Se (v u:Vol):Bool:=Su u.name v.name||uw u.name v.name
def lK (l:List Vol) (v:Vol):List Vol:=yz (Se v) v l
theorem aen: ∀(x y z:List UInt8),Op.bytesLess x y=true→Op.bytesLess y z=true→Op.bytesLess x z=true
 |x,y,[],_,h=>by cases y<;>simp[Op.bytesLess] at h
 |x,[],c::z,h,_=>by cases x<;>simp[Op.bytesLess] at h
 |[],_::_,_::_,_,_=>by simp[Op.bytesLess]
 |a::x,b::y,c::z,h1,h2=>by
  simp only[Op.bytesLess,Bool.or_eq_true,eX,decide_eq_true_eq,beq_iff_eq] at h1 h2 ⊢;rcases h1 with h1|⟨rfl,h1⟩
  ·rcases h2 with h2|⟨rfl,h2⟩
   ·exact .inl (UInt8.lt_trans h1 h2)
   ·exact .inl h1
  ·rcases h2 with h2|⟨rfl,h2⟩
   ·exact .inl h2
   ·exact .inr ⟨rfl,aen x y z h1 h2⟩
theorem ah5 {a b c:ByteArray} (h1:Su a b=true) (h2:Su b c=true):Su a c=true:=by
 unfold Su at*;exact aen _ _ _ h1 h2
def DH:List Vol→Prop
 |[]=>True
 |[_]=>True
 |a::b::r=>Su a.name b.name=true∧DH (b::r)
theorem akn {v a b:Vol} (h:Su a.name b.name=true) (hb:Se v b=true):Se v a=true:=by
 unfold Se at*;rw[Bool.or_eq_true] at*;rcases hb with hb|hb
 ·exact .inl (ah5 h hb)
 ·have:b.name.toList=v.name.toList:=by
   unfold uw at hb;exact eq_of_beq hb
  unfold Su at h ⊢;rw[←this];exact .inl h
theorem DH.tail {a:Vol} {l:List Vol} (h:DH (a::l)):DH l:=by
 cases l with
 |nil=>trivial
 |cons b r=>exact h.2
theorem DH.cut {v:Vol}: ∀{l:List Vol} {k:Nat},DH l→k≤l.length→(∀u∈l.drop k,Se v u=false)→(∀u,0<k→l[k-1]?=some u→Se v u=true)→(l.takeWhile (Se v)).length=k
 |[],k,_,hk,_,_=>by simp at hk;simp[hk]
 |a::l,0,_,_,h1,_=>by
  have:=h1 a (.head _);simp[this]
 |a::l,k+1,hr,hk,h1,h2=>by
  have ih:=DH.cut (v:=v) (l:=l) (k:=k) hr.tail (by simpa using hk) (fun u hu=>h1 u (by simpa using hu)) fun u h0 hu=>by
   obtain⟨j,rfl⟩: ∃j,k=j+1:=⟨k-1,by omega⟩;exact h2 u ay (by simpa using hu)
  have ha:Se v a=true:=by
   cases k with
   |zero=>exact h2 a ay rfl
   |succ k=>
    cases l with
    |nil=>simp at hk
    |cons b r=>
     refine akn hr.1 ?_;rw[List.takeWhile_cons] at ih
     cases hb:Se v b with
     |true=>rfl
     |false=>rw[hb] at ih;simp at ih
  rw[List.takeWhile_cons,aI ha,fW,ih]
theorem amx {l:List Vol} (h: ∀i,jv l (fun x y=>Su x.name y.name) i=true):DH l:=by
 induction l with
 |nil=>trivial
 |cons a l ih=>
  cases l with
  |nil=>trivial
  |cons b r=>
   refine⟨?_,ih fun i=> ?_⟩
   ·have:=h 1;simpa [jv] using this
   ·cases i with
    |zero=>rfl
    |succ i=>have:=h (i+2);simpa [jv] using this
theorem DH.modify {f:Vol→Vol} (hf: ∀u,(f u).name=u.name): ∀{l:List Vol} (i:Nat),DH l→DH (l.modify i f)
 |[],i,h=>by cases i<;>exact h
 |[a],0,_=>trivial
 |[a],i+1,_=>by cases i<;>trivial
 |a::b::r,0,h=>by
  show DH (f a::b::r);exact⟨by rw[hf];exact h.1,h.2⟩
 |a::b::r,1,h=>by
  show DH (a::f b::r);refine⟨by rw[hf];exact h.1,?_⟩;exact DH.modify hf (l:=b::r) 0 h.2
 |a::b::r,i+2,h=>⟨h.1,DH.modify hf (l:=b::r) (i+1) h.2⟩
theorem PZ {p:Pool} (h:cZ p=true):DH p.au:=by
 have hv:=wk h;unfold jS at hv;simp only[eX] at hv;refine amx fun i=> ?_
 by_cases hi:i<p.au.length
 ·have:=wS.1 hv.1 i hi
  unfold cK at this;rw[ck hi] at this;simp only[eX] at this;exact this.2.2.2.2.1
 ·cases i with
  |zero=>rfl
  |succ k=>
   have hn:p.au[k+1]?=none:=Vz ay;simp only[jv,hn]
   cases p.au[k]?<;>rfl
def En (p x:Pool) (ok:Bool):Pool×Int:=if ok=true then ab9 p x else(p,6)
def FP (p:Pool) (s:ByteArray) (n:Int):Pool:=⟨p.t,(iG p.aL p.next 0).1,p.cells,lK p.au ⟨s,p.next,n,false⟩,p.next+1⟩
def yc (p:Pool) (s:ByteArray) (n:Int):Pool×Int:=
 if uz p s=true then(if 0≤bZ p.au s then(p,3) else if iA n 1 12=true then En p (FP p s n) (iG p.aL p.next 0).2 else(p,4)) else(p,1)
def ako (p:Pool) (v:Vol):List Age×Bool:=iG (iG p.aL p.next v.cT).1 (p.next+1) v.cT
def N0 (p:Pool) (to:ByteArray) (i:Int) (v:Vol) (fx:Bool):Pool:=⟨p.t,(ako p v).1,p.cells,lK (p.au.modify i.toNat fun u=>{u with cT:=p.next}) ⟨to,p.next+1,v.size,fx⟩,p.next+2⟩
def LA (p:Pool) (s to:ByteArray) (fx:Bool):Pool×Int:=
 if uz p s=true∧jR to=true then(match ff p.au (bZ p.au s) with
  |none=>(p,2)
  |some v=>if 0≤bZ p.au to then(p,3) else En p (N0 p to (bZ p.au s) v fx) ((iG p.aL p.next v.cT).2&&(ako p v).2)) else(p,1)
theorem Ws (p:Pool) (s:ByteArray) (n:Int):aJ (FP p s n)≤aJ p+s.size+2:=by
 have h1:=Az p.aL p.next 0;have h2:=Ac (Se ⟨s,p.next,n,false⟩) ⟨s,p.next,n,false⟩ p.au;have h3:=PY p8 (Se ⟨s,p.next,n,false⟩) ⟨s,p.next,n,false⟩ p.au;unfold aJ DG FP lK;simp only[h2,h3,p8];omega
theorem aeo (p:Pool) (to:ByteArray) (i:Int) (v:Vol) (fx:Bool):aJ (N0 p to i v fx)≤aJ p+to.size+3:=by
 have h0:=Az p.aL p.next v.cT;have h1:=Az (iG p.aL p.next v.cT).1 (p.next+1) v.cT;have h2:=Ac (Se ⟨to,p.next+1,v.size,fx⟩) ⟨to,p.next+1,v.size,fx⟩ (p.au.modify i.toNat fun u=>{u with cT:=p.next});have h3:=PY p8 (Se ⟨to,p.next+1,v.size,fx⟩) ⟨to,p.next+1,v.size,fx⟩ (p.au.modify i.toNat fun u=>{u with cT:=p.next});have h4:=Mf (w:=p8) (f:=fun u:Vol=>{u with cT:=p.next}) (l:=p.au) (i:=i.toNat) fun a _=>cV _
 rw[RT] at h2;unfold aJ DG N0 ako lK;simp only[h2,h3];simp only[p8] at*;omega
end Go.T
namespace Go.T
def gtM (m u:Mp):Bool:= !(Su u.name m.name||uw u.name m.name)
def amy (l:List Mp) (m:Mp):Nat→Nat
 |0=>0
 |k+1=>match l[k]? with
  |some u=>if gtM m u=true then amy l m k else k+1
  |none=>k+1
theorem ahm (l:List Mp) (m:Mp): ∀k,amy l m k≤k
 |0=>cV _
 |k+1=>by
  unfold amy
  split
  ·split
   ·exact Nat.le_succ_of_le (ahm l m k)
   ·exact cV _
  ·exact cV _
def akp {α:Type} (l:List α) (k:Nat) (x:α):List α:=l.take k++x::l.drop k
def akq (l:List Mp) (m:Mp):List Mp:=akp l (amy l m l.length) m
theorem akr (l:List Mp) (m:Mp):(akq l m).length=l.length+1:=by
 have:=ahm l m l.length;unfold akq akp;rw[cF,fW,eO,iR];omega
theorem aks {l:List Mp} {m x:Mp} (h:x∈akq l m):x∈l∨x=m:=by
 unfold akq akp at h;rcases List.mem_append.1 h with h|h
 ·exact .inl (Ah h)
 ·rcases fX.1 h with h|h
  ·exact .inr h
  ·exact .inl (zm h)
def acd (l l':List Mp):Prop:=l'.length≤l.length+1∧ ∀B:Nat,12≤B→(∀x∈l,x.l.length≤B)→ ∀x∈l',x.l.length≤B
theorem acd.refl (l:List Mp):acd l l:=⟨Nat.le_succ _,fun _ _ h=>h⟩
theorem acd.put {l:List Mp} {m:Mp} (h: ∀B:Nat,12≤B→(∀x∈l,x.l.length≤B)→m.l.length≤B):acd l (akq l m):=
 ⟨Nat.le_of_eq (akr l m),fun B hB hl x hx=>(aks hx).elim (hl x) fun e=>by rw[e];exact h B hB hl⟩
end Go.T
namespace Go.T
abbrev tNB (x:List (List Key)×Bool):TV:= .tu [(1,[.sub 1 (x.1.map cU)]),(0,[iB x.2])]
def Mh (s:List Key) (k:Key):Bool:=(El s k.b k.a).2||decide (s.length<4)
def mS (n:List (List Key)) (k:Key):List (List Key):=match n[n.length-1]? with
 |none=>n++[[k]]
 |some s=>if Mh s k=true then n.set (n.length-1) (iE s k) else n++[[k]]
def dw (n:List (List Key)) (k:Key):List Key:=r6 (iE (aU n) k)
def cX (n:List (List Key)) (k:Key):List (List Key)×Bool:=
 if iF (mS n k)=true then(mS n k,true) else if 8<(dw n k).length then(n,false) else if iF (dM (dw n k))=true then(dM (dw n k),true) else(n,false)
theorem tP (n:List (List Key)) (k:Key):(dw n k).length≤tot bY n+1:=by
 have h1:=dn n;have h2:=sY (aU n) k;have h3:(dw n k).length≤(iE (aU n) k).length:=aaB _ _;omega
theorem aep {α:Type} (w:α→Nat) (l:List α) (a:α):tot w (l++[a])=tot w l+w a:=by
 induction l with
 |nil=>simp[tot]
 |cons b r ih=>simp only[RS,tot,ih];omega
theorem aeq {α:Type} (w:α→Nat) (c:Nat): ∀(l:List α) (i:Nat) (a a':α),l[i]?=some a→w a'≤w a+c→tot w (l.set i a')≤tot w l+c
 |[],i,a,a',h,_=>by simp at h
 |b::r,0,a,a',h,hw=>by
  simp only[gE,aY] at h;subst h;simp only[List.set_cons_zero,tot];omega
 |b::r,i+1,a,a',h,hw=>by
  have:=aeq w c r i a a' (by simpa using h) hw;simp only[List.set_cons_succ,tot];omega
theorem Mi (n:List (List Key)) (k:Key):(mS n k).length≤n.length+1:=by
 unfold mS
 split
 ·rw[cF];simp
 ·split
  ·rw[List.length_set];omega
  ·rw[cF];simp
theorem Mj (n:List (List Key)) (k:Key):tot bY (mS n k)≤tot bY n+1:=by
 unfold mS
 split
 ·rw[aep];exact cV _
 ·rename_i s hs
  split
  ·exact aeq bY 1 _ _ s _ hs (by have:=sY s k;unfold bY;omega)
  ·rw[aep];exact cV _
theorem B1 (l:List Key):(dM l).length≤1:=by
 unfold dM
 split<;>simp
theorem B2 (l:List Key):tot bY (dM l)≤l.length:=by
 unfold dM
 split
 ·simp[tot]
 ·simp[tot,bY]
theorem JC (n:List (List Key)) (k:Key):(cX n k).1.length≤n.length+1:=by
 have h1:=Mi n k;have h2:=B1 (dw n k);unfold cX
 repeat' split
 all_goals simp only[];omega
theorem JD (n:List (List Key)) (k:Key):tot bY (cX n k).1≤tot bY n+1:=by
 have h1:=Mj n k;have h2:=B2 (dw n k);have h3:=tP n k;unfold cX
 repeat' split
 all_goals simp only[];omega
end Go.T
namespace Go.T
def Sf (x y:Key):Prop:=x.b<y.b∨(x.b=y.b∧x.a<y.a)
theorem Sf.trans {x y z:Key} (h1:Sf x y) (h2:Sf y z):Sf x z:=by unfold Sf at*;omega
theorem JE {x y:Key}:fR x y=true↔Sf x y:=by unfold fR Sf;simp
theorem N1 {x y:Key}:p9 x y=true↔x.b=y.b∧x.a=y.a:=by unfold p9;simp
theorem N2 {k y:Key}: ∀{l:List Key},y∈iD k true l→y∈l
 |[],h=>by simp[iD] at h
 |x::r,h=>by
  simp only[iD,By,Bool.false_and,Nj,if_false,xB,Bool.true_or] at h;rcases List.mem_append.1 h with h|h
  ·split at h
   ·cases h
   ·rw[qn.1 h];exact .head _
  ·exact .tail _ (N2 h)
theorem Wt {k y:Key}: ∀{l:List Key} {put:Bool},y∈iD k put l→y∈l∨y=k
 |[],put,h=>by
  simp only[iD] at h
  split at h
  ·cases h
  ·exact .inr (qn.1 h)
 |x::r,put,h=>by
  simp only[iD] at h;rcases List.mem_append.1 h with h|h
  ·rcases List.mem_append.1 h with h|h
   ·split at h
    ·exact .inr (qn.1 h)
    ·cases h
   ·split at h
    ·cases h
    ·exact .inl (by rw[qn.1 h];exact .head _)
  ·exact(Wt h).imp (.tail _) id
theorem K2 {k:Key}: ∀{l:List Key},l.Pairwise Sf→(iD k true l).Pairwise Sf
 |[],_=>by simp[iD]
 |x::r,h=>by
  obtain⟨h1,h2⟩:=List.pairwise_cons.1 h;simp only[iD,By,Bool.false_and,Nj,if_false,xB,Bool.true_or]
  split
  ·exact K2 h2
  ·exact List.pairwise_cons.2 ⟨fun y hy=>h1 y (N2 hy),K2 h2⟩
theorem abc {k:Key}: ∀{l:List Key},l.Pairwise Sf→(iD k false l).Pairwise Sf
 |[],_=>by simp[iD]
 |x::r,h=>by
  obtain⟨h1,h2⟩:=List.pairwise_cons.1 h
  cases hk:fR x k with
  |true=>
   have hlt:=JE.1 hk
   have hns:p9 x k=false:=by
    cases hs:p9 x k with
    |false=>rfl
    |true=>have:=N1.1 hs;unfold Sf at hlt;omega
   simp only[iD,hk,hns,Bool.not_false,By,dx,Bool.and_false,Nj,if_false,xB,Bool.or_false,I7];refine List.pairwise_cons.2 ⟨fun y hy=> ?_,abc h2⟩;rcases Wt hy with hy|rfl
   ·exact h1 y hy
   ·exact hlt
  |false=>
   have hge: ¬Sf x k:=fun h=>by rw[JE.2 h] at hk;cases hk
   simp only[iD,hk,Bool.not_false,dx,if_true,Bool.or_true]
   have hr: ∀y∈iD k true r,Sf k y:=fun y hy=>by
    have:=h1 y (N2 hy);unfold Sf at*;omega
   split
   ·exact List.pairwise_cons.2 ⟨hr,K2 h2⟩
   ·rename_i hns
    refine List.pairwise_cons.2 ⟨fun y hy=> ?_,List.pairwise_cons.2 ⟨fun y hy=>h1 y (N2 hy),K2 h2⟩⟩;rcases fX.1 hy with rfl|hy
    ·have: ¬(y.b=k.b∧y.a=k.a):=fun h=>hns (N1.2 h)
     unfold Sf at*;omega
    ·exact hr y hy
theorem Sg {l:List Key} {k:Key} (h:l.Pairwise Sf):(iE l k).Pairwise Sf:=abc h
theorem Wu {l:List Key} {k y:Key} (h:y∈iE l k):y∈l∨y=k:=Wt h
theorem Wv: ∀(new:List Key) {old:List Key},old.Pairwise Sf→(dN old new).Pairwise Sf
 |[],_,h=>h
 |x::r,_,h=>Wv r (Sg h)
theorem abd {y:Key}: ∀{new old:List Key},y∈dN old new→y∈old∨y∈new
 |[],_,h=> .inl h
 |x::r,old,h=>by
  have h:y∈dN (iE old x) r:=h;rcases abd h with h|h
  ·exact(Wu h).imp id fun e=>by rw[e];exact .head _
  ·exact .inr (.tail _ h)
theorem Ww: ∀(n:List (List Key)) {acc:List Key},acc.Pairwise Sf→(n.foldl dN acc).Pairwise Sf
 |[],_,h=>h
 |s::r,_,h=>Ww r (Wv s h)
theorem abe {y:Key}: ∀{n:List (List Key)} {acc:List Key},y∈n.foldl dN acc→y∈acc∨ ∃s∈n,y∈s
 |[],_,h=> .inl h
 |s::r,acc,h=>by
  rcases abe (n:=r) h with h|⟨s',h1,h2⟩
  ·exact(abd h).imp id fun h=>⟨s,.head _,h⟩
  ·exact .inr ⟨s',.tail _ h1,h2⟩
theorem Yu (n:List (List Key)):(aU n).Pairwise Sf:=(Ww n .nil).sublist List.filter_sublist
theorem ace {n:List (List Key)} {y:Key} (h:y∈aU n): ∃s∈n,y∈s:=by
 rcases abe (List.mem_filter.1 h).1 with h|h
 ·cases h
 ·exact h
theorem Yv (n:List (List Key)) (k:Key):(dw n k).Pairwise Sf:=(Sg (Yu n)).sublist List.filter_sublist
theorem acf {n:List (List Key)} {k y:Key} (h:y∈dw n k):y=k∨ ∃s∈n,y∈s:=
 (Wu (List.mem_filter.1 h).1).elim (fun h=> .inr (ace h)) .inl
theorem akt {l:List Key} (h1:l.Pairwise Sf) (h2: ∀y∈l,jU y=true) (h3:l.length≤60):Jy l=true:=by
 rw[Wm];simp only[eX,decide_eq_true_eq];refine⟨List.all_eq_true.2 h2,wS.2 fun i hi=> ?_,h3⟩
 cases i with
 |zero=>rfl
 |succ k=>
  simp only[jv];rw[ck (by omega:k<l.length),ck hi];exact JE.2 (List.pairwise_iff_getElem.1 h1 k (k+1) ay hi ay)
theorem aer {n:List (List Key)} (h:iF n=true) {s:List Key} (hs:s∈n) {y:Key} (hy:y∈s):jU y=true:=by
 unfold iF at h;simp only[eX] at h;have:=List.all_eq_true.1 h.1.1 s hs;simp only[eX] at this;have h2:=this.1;rw[Wm] at h2;simp only[eX] at h2;exact List.all_eq_true.1 h2.1 y hy
theorem af6 {l:List Key} (h1:l.Pairwise Sf) (h2: ∀y∈l,jU y=true) (h3:l.length≤8):iF (dM l)=true:=by
 unfold dM
 split
 ·decide
 ·rename_i h0
  unfold iF;have:=akt h1 h2 ay;have h00:l≠[]:=fun e=>h0 (by rw[e];rfl);simp[this,h00,dg,tot,bY,h3]
theorem aes {n:List (List Key)} {k:Key} (h:iF n=true) (hk:jU k=true): ∀y∈dw n k,jU y=true:=fun y hy=>by
 rcases acf hy with rfl|⟨s,h1,h2⟩
 ·exact hk
 ·exact aer h h1 h2
theorem Wx {n:List (List Key)} {k:Key} (h:iF n=true) (hk:jU k=true) (hp:(cX n k).2=false):8<(dw n k).length∧cX n k=(n,false):=by
 have hn:=af6 (Yv n k) (aes h hk);unfold cX at hp ⊢
 split at hp
 ·cases hp
 ·rename_i h1
  split at hp
  ·rename_i h2
   exact⟨h2,by rw[aF h1,aI h2]⟩
  ·rename_i h2
   rw[aI (hn ay)] at hp
   cases hp
end Go.T
namespace Go.T
def gw (x y:Int):Int:=afm .or .i64 (an7 .i64 (zn .i64 x) 8) (zn .i64 y)
end Go.T
namespace Go.T
abbrev Fl (x:Tree×Bool):TV:= .tu [(1,ahi x.1),(0,[iB x.2])]
def oC (t:Tree) (i c:Nat) (aE:List Int) (nodes:List (List (List Key))):Tree:=⟨t.aE.take i++aE++t.aE.drop (i+c),t.nodes.take i++nodes++t.nodes.drop (i+c)⟩
def lM (t:Tree) (i:Nat):List Key:=aU (t.nodes.getD i [])
def yA (t:Tree):Nat→Nat→Option Nat
 |0,_=>none
 |d+1,i=>if i+1<t.nodes.length then(if(lM t i).length+(lM t (i+1)).length≤6 then some i else yA t d (i+1)) else none
def uF (t:Tree):Option Nat:=yA t t.nodes.length 0
def dR (t:Tree) (i:Nat):Tree:=oC t i 2 [t.aE.getD i 0] [dM (lM t i++lM t (i+1))]
def oD:Nat→Tree→Tree
 |0,t=>t
 |n+1,t=>match uF t with
  |none=>t
  |some i=>oD n (dR t i)
theorem Si {t:Tree}: ∀{d i j:Nat},yA t d i=some j→i≤j∧j+1<t.nodes.length∧(lM t j).length+(lM t (j+1)).length≤6
 |0,i,j,h=>by cases h
 |d+1,i,j,h=>by
  unfold yA at h
  split at h
  ·split at h
   ·cases h;exact⟨cV _,by assumption,by assumption⟩
   ·have:=Si h;exact⟨by omega,this.2⟩
  ·cases h
theorem xU {t:Tree} {j:Nat} (h:uF t=some j):j+1<t.nodes.length∧(lM t j).length+(lM t (j+1)).length≤6:=(Si h).2
theorem JF (t:Tree) (i c:Nat) (aE:List Int) (nodes:List (List (List Key))) (h:i+c≤t.nodes.length):(oC t i c aE nodes).nodes.length+c=t.nodes.length+nodes.length:=by
 unfold oC;simp only[cF,eO,iR];omega
theorem FQ (t:Tree) (i c:Nat) (aE:List Int) (nodes:List (List (List Key))) (h:i+c≤t.aE.length):(oC t i c aE nodes).aE.length+c=t.aE.length+aE.length:=by
 unfold oC;simp only[cF,eO,iR];omega
theorem zP {t:Tree} {i:Nat} (h:i+1<t.nodes.length):(dR t i).nodes.length+1=t.nodes.length:=by
 have:=JF t i 2 [t.aE.getD i 0] [dM (lM t i++lM t (i+1))] ay;unfold dR;simp only[gK] at this;omega
def nP (t:Tree) (i:Nat) (k:Key):Tree:=
 if(cX (t.nodes.getD i []) k).2=true then
  (if 0<i∧(aU (cX (t.nodes.getD i []) k).1).length=0 then oC t i 1 [] [] else oC t i 1 [t.aE.getD i 0] [(cX (t.nodes.getD i []) k).1])
 else oC t i 1 [t.aE.getD i 0,jV ((dw (t.nodes.getD i []) k).getD (((dw (t.nodes.getD i []) k).length+1)/2) fT).b ((dw (t.nodes.getD i []) k).getD (((dw (t.nodes.getD i []) k).length+1)/2) fT).a]
  [dM ((dw (t.nodes.getD i []) k).take (((dw (t.nodes.getD i []) k).length+1)/2)),dM ((dw (t.nodes.getD i []) k).drop (((dw (t.nodes.getD i []) k).length+1)/2))]
def bw (t:Tree) (k:Key):Tree×Bool:=
 if gG t=true∧jU k=true then(if gG (oD (nP t (pU t k.b k.a).toNat k).nodes.length (nP t (pU t k.b k.a).toNat k))=true then(oD (nP t (pU t k.b k.a).toNat k).nodes.length (nP t (pU t k.b k.a).toNat k),true) else(t,false)) else(t,false)
end Go.T
namespace Go.T
theorem P0 {α:Type} (w:α→Nat) (c:Nat): ∀l:List α,(∀a∈l,w a≤c)→tot w l≤c*l.length
 |[],_=>by simp[tot]
 |a::r,h=>by
  have h1:=h a (.head _);have h2:=P0 w c r fun b hb=>h b (.tail _ hb);simp only[tot,fW,Nat.mul_add];omega
theorem K3 {n:List (List Key)} (h:iF n=true):n.length≤3∧tot bY n≤8:=by
 unfold iF dg at h;simp only[eX,decide_eq_true_eq] at h;exact⟨h.1.2,h.2⟩
theorem ah7 {t:Tree} (h:gG t=true) {i:Nat} (hi:i<t.nodes.length):dX t i=true:=by
 unfold gG at h;simp only[eX] at h;exact wS.1 h.2.2.2.1 i hi
theorem B3 {t:Tree} (h:gG t=true) {n:List (List Key)} (hn:n∈t.nodes):iF n=true:=by
 obtain⟨i,hi,rfl⟩:=List.getElem_of_mem hn;have:=ah7 h hi;unfold dX at this;rw[ck hi] at this;simp only[eX] at this;exact this.2.1
theorem vO {t:Tree} (h:gG t=true):1≤t.nodes.length∧t.nodes.length≤20∧t.aE.length=t.nodes.length:=by
 unfold gG iA at h;simp only[eX,decide_eq_true_eq] at h;omega
theorem af7 {t:Tree} (h:gG t=true):t.aE[0]?=some 0:=by
 have hl:=vO h;unfold gG at h;simp only[eX] at h
 have h0:0<t.aE.length:=by omega
 have:=h.2.2.1;rw[ck h0] at this ⊢;simp only[decide_eq_true_eq] at this;rw[this]
theorem Wy {t:Tree} (h:gG t=true):tot aP t.nodes≤220:=by
 have h1:=P0 aP 11 t.nodes fun n hn=>by
  have:=K3 (B3 h hn);unfold aP;omega
 have h2:=vO h;omega
theorem abf {t:Tree} (h:gG t=true):cG t≤260:=by
 have h1:=Wy h;have h2:=vO h;unfold cG wR;omega
theorem af8 {t:Tree} {k:Key} (h:(bw t k).2=true):gG (bw t k).1=true:=by
 unfold bw at h ⊢
 split
 ·split
  ·assumption
  ·rename_i h1 h2;rw[aI h1,aF h2] at h;cases h
 ·rename_i h1;rw[aF h1] at h;cases h
theorem Mk {t:Tree} {k:Key} (h:(bw t k).2=false):(bw t k).1=t:=by
 unfold bw at h ⊢
 split
 ·split
  ·rename_i h1 h2;rw[aI h1,aI h2] at h;cases h
  ·rfl
 ·rfl
theorem vP (t:Tree) (k:Key):cG (bw t k).1≤max (cG t) 260:=by
 cases h:(bw t k).2 with
 |true=>have:=abf (af8 h);omega
 |false=>rw[Mk h];omega
theorem aet {p:Pool} (h:cZ p=true):gG p.t=true:=by
 simp only[cZ,eX] at h;exact h.2.1
theorem wY {p:Pool} (h:cZ p=true):eJ p.cells=true:=by
 simp only[cZ,eX] at h;exact h.2.2.2.1
theorem af9 {p:Pool} (h:cZ p=true):gY p=true:=by
 simp only[cZ,eX] at h;exact h.2.2.2.2.2.2
theorem ah8 {s:ByteArray} (h:jR s=true):1≤s.size∧s.size≤6:=by
 simp only[jR,eX,iA,decide_eq_true_eq] at h;omega
theorem ah9 {p:Pool} (h:jS p=true) {v:Vol} (hv:v∈p.au):jR v.name=true∧1≤v.size∧v.size≤12∧0≤fk p.aL v.cT:=by
 obtain⟨i,hi,rfl⟩:=List.getElem_of_mem hv;simp only[jS,eX,wS] at h;have:=h.1 i hi;unfold cK at this;rw[ck hi] at this;simp only[eX,iA,decide_eq_true_eq,Gh,decide_eq_false_iff_not] at this;exact⟨this.1,this.2.1.1,this.2.1.2,by omega⟩
theorem abg {p:Pool} (h:cZ p=true):aJ p≤500:=by
 have h1:=abf (aet h)
 have h2:p.aL.length≤16:=by
  have:=Sd h;simp only[gU,eX,decide_eq_true_eq] at this;exact this.2
 have h3:p.cells.length=24:=by
  have:=wY h;simp only[eJ,eX,decide_eq_true_eq] at this;exact this.2
 have hv:=wk h
 have h4:p.au.length≤6:=by
  simp only[jS,eX,decide_eq_true_eq] at hv;exact hv.2
 have h5:=P0 p8 6 p.au fun v hm=>(ah8 (ah9 hv hm).1).2;unfold aJ DG;omega
theorem aku (p x:Pool):aJ (ab9 p x).1≤max (aJ p) 500:=by
 unfold ab9
 split
 ·rename_i h;have:=abg h;simp only[];omega
 ·simp only[];omega
theorem JG (p x:Pool) (b:Bool):aJ (En p x b).1≤max (aJ p) 500:=by
 unfold En
 split
 ·exact aku p x
 ·simp only[];omega
def JH (p:Pool) (k:Key):List Cell:=if(wW p.t k.b k.a).2=true∧(wW p.t k.b k.a).1.k=1 then jW p.cells (wW p.t k.b k.a).1.c else p.cells
def dU (p:Pool) (k:Key):Pool×Bool:=if(bw p.t k).2=true then(⟨(bw p.t k).1,p.aL,JH p k,p.au,p.next⟩,true) else(p,false)
theorem N3 (p:Pool) (k:Key):(JH p k).length=p.cells.length:=by
 unfold JH;split
 ·exact FN _ _
 ·rfl
theorem sZ (p:Pool) (k:Key):aJ (dU p k).1≤aJ p+260:=by
 have h1:=vP p.t k;have h2:=N3 p k;unfold dU
 split
 ·unfold aJ;simp only[];omega
 ·simp only[];omega
theorem N4 (p:Pool) (k:Key):(dU p k).1.aL=p.aL∧(dU p k).1.au=p.au∧(dU p k).1.next=p.next∧(dU p k).1.cells.length=p.cells.length:=by
 have h2:=N3 p k;unfold dU
 split
 ·exact⟨rfl,rfl,rfl,h2⟩
 ·exact⟨rfl,rfl,rfl,rfl⟩
def g8 (p:Pool) (s:ByteArray) (b:Int):Int:=
 if uz p s=true then(match ff p.au (bZ p.au s) with
  |none=>2
  |some v=>if v.fx=true then 5 else if iA b 0 (v.size-1)=true then 0 else 4) else 1
theorem wm {p:Pool} {s:ByteArray} {b:Int} (h:g8 p s b=0): ∃v,ff p.au (bZ p.au s)=some v∧uz p s=true∧v.fx=false∧0≤b∧b≤v.size-1:=by
 unfold g8 at h
 split at h
 ·rename_i hf
  split at h
  ·cases h
  ·rename_i v hv
   split at h
   ·cases h
   ·split at h
    ·rename_i h1 h2
     refine⟨v,hv,hf,by simpa using h1,?_⟩;simpa [iA] using h2
    ·cases h
 ·cases h
def ahn (l:List Cell) (i:Int):Int:=match ff l i with|some c=>c.g|none=>0
def acg (p:Pool) (b n:Int) (v:Vol):Pool×Bool:=dU ⟨p.t,p.aL,(jH p.cells n).1,p.au,p.next⟩ ⟨b,v.cT,1,(jH p.cells n).2.1,ahn (jH p.cells n).1 (jH p.cells n).2.1⟩
def mT (p:Pool) (s:ByteArray) (b n:Int):Pool×Int:=
 if g8 p s b=0 then(if iC n=true then(match ff p.au (bZ p.au s) with
  |none=>(p,2)
  |some v=>if(jH p.cells n).2.2=true then En p (acg p b n v).1 (acg p b n v).2 else(p,6)) else(p,4)) else(p,g8 p s b)
def cE (p:Pool) (cT b:Int):Pool×Bool:=
 if(tN p.t p.aL b cT).2=true∧(tN p.t p.aL b cT).1.k=1 then dU p ⟨b,cT,2,0,0⟩ else if(wW p.t b cT).2=true then dU p ⟨b,cT,0,0,0⟩ else(p,true)
theorem zQ (p:Pool) (cT b:Int):aJ (cE p cT b).1≤aJ p+260:=by
 unfold cE
 split
 ·exact sZ _ _
 ·split
  ·exact sZ _ _
  ·simp only[];omega
theorem JI (p:Pool) (cT b:Int):(cE p cT b).1.aL=p.aL∧(cE p cT b).1.au=p.au∧(cE p cT b).1.next=p.next∧(cE p cT b).1.cells.length=p.cells.length:=by
 unfold cE
 split
 ·exact N4 _ _
 ·split
  ·exact N4 _ _
  ·exact⟨rfl,rfl,rfl,rfl⟩
def mN (p:Pool) (s:ByteArray) (b:Int):Pool×Int:=
 if g8 p s b=0 then(match ff p.au (bZ p.au s) with
  |none=>(p,2)
  |some v=>En p (cE p v.cT b).1 (cE p v.cT b).2) else(p,g8 p s b)
def yB (cT:Int):Nat→Int→Pool→Pool×Bool
 |0,_,p=>(p,true)
 |n+1,b,p=>if(cE p cT b).2=true then yB cT n (b-1) (cE p cT b).1 else(p,false)
def B4 (p:Pool) (i:Int) (n:Int):Pool:=⟨p.t,p.aL,p.cells,p.au.modify i.toNat fun u=>{u with size:=n},p.next⟩
def pV (p:Pool) (s:ByteArray) (n:Int):Pool×Int:=
 if g8 p s 0=0 then(if iA n 1 12=true then(match ff p.au (bZ p.au s) with
  |none=>(p,2)
  |some v=>En p (B4 (yB v.cT (v.size-n).toNat (v.size-1) p).1 (bZ p.au s) n) (yB v.cT (v.size-n).toNat (v.size-1) p).2) else(p,4)) else(p,g8 p s 0)
theorem aia (p:Pool) (s:ByteArray) (b n:Int):aJ (mT p s b n).1≤max (aJ p) 500:=by
 unfold mT
 repeat' split
 all_goals first|exact I9 _ _|exact JG _ _ _
theorem aeu (p:Pool) (s:ByteArray) (b:Int):aJ (mN p s b).1≤max (aJ p) 500:=by
 unfold mN
 repeat' split
 all_goals first|exact I9 _ _|exact JG _ _ _
theorem aga (p:Pool) (s:ByteArray) (n:Int):aJ (pV p s n).1≤max (aJ p) 500:=by
 unfold pV
 repeat' split
 all_goals first|exact I9 _ _|exact JG _ _ _
def pG (i:Int) (k:Key):Bool:=decide (k.k=1)&&decide (k.c=i)
def jQ (p:Pool) (i:Int):Key:=match(aD p.t).find? (pG i) with|some k=>k|none=>fT
def r8 (p:Pool) (i n:Int):Key:=⟨(jQ p i).b,(jQ p i).a,(jQ p i).k,(jH p.cells n).2.1,ahn (jH p.cells n).1 (jH p.cells n).2.1⟩
def Gp (p:Pool) (i n:Int):Pool×Bool:=(⟨(bw p.t (r8 p i n)).1,p.aL,jW (jH p.cells n).1 i,p.au,p.next⟩,(bw p.t (r8 p i n)).2)
def Gq (p:Pool) (x:Pool×Bool):Pool×Bool:=if x.2=true∧cZ x.1=true then(x.1,true) else(p,false)
theorem aev (p:Pool) (x:Pool×Bool):aJ (Gq p x).1≤max (aJ p) 500:=by
 unfold Gq
 split
 ·rename_i h;have:=abg h.2;simp only[];omega
 ·simp only[];omega
def jI (p:Pool) (i:Int):Pool×Bool:=
 if cZ p=true then(match ff p.cells i with
  |none=>(p,false)
  |some c=>if c.u=true∧0≤fe p.cells∧fe p.cells≤i then Gq p (Gp p i c.n) else(p,false)) else(p,false)
theorem aew (p:Pool) (i:Int):aJ (jI p i).1≤max (aJ p) 500:=by
 unfold jI
 split
 ·split
  ·simp only[];omega
  ·split
   ·exact aev _ _
   ·simp only[];omega
 ·simp only[];omega
def pH (l:List Age) (id fr:Int):List Age:=l.map fun a=>if a.fr=id then {a with fr:=fr} else a
def vQ (l:List Age) (id:Int):List Age×Bool:=
 if gU l=true then(match ff l (fk l id) with
  |none=>(l,false)
  |some a=>((pH l id a.fr).take (fk l id).toNat++(pH l id a.fr).drop ((fk l id).toNat+1),true)) else(l,false)
theorem FR (l:List Age) (id fr:Int):(pH l id fr).length=l.length:=by unfold pH;simp
theorem agb (l:List Age) (id:Int):(vQ l id).1.length≤l.length:=by
 unfold vQ
 repeat' split
 all_goals simp only[cF,eO,iR,FR];omega
def Vr (p:Pool) (i:Int):Key:=match ff (aD p.t) i with|some k=>k|none=>fT
def fU (k:Key):Key:=⟨k.b,k.a,0,0,0⟩
def FT (p:Pool) (k:Key):Key:=⟨k.b,Em p k.a,k.k,k.c,k.g⟩
def B5 (p:Pool) (k:Key):Pool×Bool:=
 (⟨(bw (bw p.t (fU k)).1 (FT p k)).1,p.aL,p.cells,p.au,p.next⟩,(bw p.t (fU k)).2&&(bw (bw p.t (fU k)).1 (FT p k)).2)
def Yw (p:Pool) (id:Int):Pool×Bool:=(⟨p.t,(vQ p.aL id).1,p.cells,p.au,p.next⟩,(vQ p.aL id).2)
def Sj (p:Pool) (j i:Int):Pool×Bool:=
 if j=4 then(match ff p.aL i with|some a=>Yw p a.id|none=>(p,false)) else if j=3 then B5 p (Vr p i) else dU p (fU (Vr p i))
def jJ (p:Pool):Pool×Bool:=if(c6 p).1=0 then(p,false) else Gq p (Sj p (c6 p).1 (c6 p).2)
theorem ach (p:Pool):aJ (jJ p).1≤max (aJ p) 500:=by
 unfold jJ
 split
 ·simp only[];omega
 ·exact aev _ _
def wo (x:Pool×Bool):Pool×Int:=if x.2=true then(x.1,0) else(x.1,2)
def iH (p:Pool) (o:Av):Pool×Int:=
 if Wp o=true∧cZ p=true then
  (if o.kind=1 then yc p o.name o.a else if o.kind=2 then LA p o.name o.to (decide (o.b=1)) else if o.kind=3 then JB p o.name
   else if o.kind=4 then mT p o.name o.a o.b else if o.kind=5 then mN p o.name o.a else if o.kind=6 then pV p o.name o.a
   else if o.kind=7 then wo (jJ p) else if o.kind=8 then wo (qa p o.a) else wo (jI p o.a)) else(p,1)
def applyN (p:Pool) (l:List Av):Pool:=l.foldl (fun p o=>(iH p o).1) p
def AA (p:Pool) (l:List Av):Pool:=applyN p (l.take 200)
theorem aex (p:Pool) (s:ByteArray) (n:Int):aJ (yc p s n).1≤max (aJ p) 500:=by
 unfold yc
 repeat' split
 all_goals first|exact I9 _ _|exact JG _ _ _
theorem aib (p:Pool) (s to:ByteArray) (fx:Bool):aJ (LA p s to fx).1≤max (aJ p) 500:=by
 unfold LA
 repeat' split
 all_goals first|exact I9 _ _|exact JG _ _ _
theorem aic (p:Pool) (s:ByteArray):aJ (JB p s).1≤max (aJ p) 500:=by
 have:=akl p s;omega
theorem Wz (x:Pool×Bool):aJ (wo x).1=aJ x.1:=by unfold wo;split<;>rfl
theorem K4 (p:Pool) (o:Av):aJ (iH p o).1≤max (aJ p) 500:=by
 unfold iH
 repeat' split
 ·exact aex _ _ _
 ·exact aib _ _ _ _
 ·exact aic _ _
 ·exact aia _ _ _ _
 ·exact aeu _ _ _
 ·exact aga _ _ _
 ·rw[Wz];exact ach _
 ·rw[Wz];have:=aem p o.a;omega
 ·rw[Wz];exact aew _ _
 ·simp only[];omega
theorem abh: ∀(l:List Av) (p:Pool),aJ (applyN p l)≤max (aJ p) 500
 |[],p=>by show aJ p≤_;omega
 |o::r,p=>by
  have h1:=abh r (iH p o).1;have h2:=K4 p o;show aJ (applyN (iH p o).1 r)≤_;omega
end Go.T
namespace Go.T
theorem K5 {α:Type} (w:α→Nat): ∀l m:List α,tot w (l++m)=tot w l+tot w m
 |[],m=>by simp[tot]
 |a::l,m=>by simp only[RS,tot,K5 w l m];omega
theorem aoK {α:Type} {l:List α} {i:Nat} {a b:α} (ha:l[i]?=some a) (hb:l[i+1]?=some b):l=l.take i++a::b::l.drop (i+2):=by
 obtain⟨h1,e1⟩:=List.getElem?_eq_some_iff.1 ha;obtain⟨h2,e2⟩:=List.getElem?_eq_some_iff.1 hb
 conv=>lhs;rw[←Nk i l]
 rw[Gi h1,Gi h2,e1,e2]
theorem Ml (l:List Key):aP (dM l)≤l.length+1:=by
 have h1:=B1 l;have h2:=B2 l;unfold aP;omega
theorem ke {t:Tree} {i:Nat} {a:List (List Key)} (h:t.nodes[i]?=some a):lM t i=aU a:=by unfold lM;rw[wE,h];rfl
theorem xV (n:Nat) (t:Tree):oD (n+1) t=match uF t with|none=>t|some i=>oD n (dR t i):=rfl
theorem B6 {t:Tree} {i:Nat} (h:i+1<t.nodes.length):tot aP (dR t i).nodes+(dR t i).nodes.length≤tot aP t.nodes+t.nodes.length:=by
 obtain⟨a,ha⟩: ∃a,t.nodes[i]?=some a:=⟨_,ck ay⟩;obtain⟨b,hb⟩: ∃b,t.nodes[i+1]?=some b:=⟨_,ck h⟩;have hl:=zP h;have hs:=congrArg (tot aP) (aoK ha hb);rw[K5] at hs;simp only[tot] at hs;have la:=dn a;have lb:=dn b;have hn:=Ml (lM t i++lM t (i+1));rw[cF,ke ha,ke hb] at hn
 have e:tot aP (dR t i).nodes=tot aP (t.nodes.take i)+aP (dM (aU a++aU b))+tot aP (t.nodes.drop (i+2)):=by
  unfold dR oC;simp only[];rw[K5,K5,ke ha,ke hb];simp[tot]
 have sa:aP a=a.length+tot bY a:=rfl;have sb:aP b=b.length+tot bY b:=rfl;omega
theorem agc {n:Nat} {t:Tree} (h:uF t=none):oD n t=t:=by
 cases n with
 |zero=>rfl
 |succ n=>rw[xV,h]
theorem LB {t:Tree} {i:Nat} (h:i+1<t.nodes.length) (hl:t.aE.length=t.nodes.length):(dR t i).aE.length=(dR t i).nodes.length:=by
 have h1:=FQ t i 2 [t.aE.getD i 0] [dM (lM t i++lM t (i+1))] ay;have h2:=JF t i 2 [t.aE.getD i 0] [dM (lM t i++lM t (i+1))] ay;simp only[gK] at h1 h2;unfold dR;omega
theorem aey: ∀(n:Nat) (t:Tree),t.aE.length=t.nodes.length→tot aP (oD n t).nodes+(oD n t).nodes.length≤tot aP t.nodes+t.nodes.length∧(oD n t).aE.length=(oD n t).nodes.length
 |0,t,h=>⟨cV _,h⟩
 |n+1,t,h=>by
  rw[xV]
  cases hp:uF t with
  |none=>exact⟨cV _,h⟩
  |some i=>
   have hlt:=(xU hp).1;have h1:=B6 hlt;have h2:=aey n (dR t i) (LB hlt h);exact⟨by simp only[];omega,h2.2⟩
theorem aez {k:Key} (h:jU k=true):0≤k.b∧k.b≤15∧1≤k.a∧k.a≤60∧0≤k.k∧k.k≤2:=by
 simp only[jU,iA,eX,decide_eq_true_eq] at h;omega
theorem amz {b a:Int} (h: -1000≤b∧b≤1000∧ -1000≤a∧a≤1000):jV b a=64*b+a:=by
 unfold jV;rw[amm ay,aG ay]
theorem agd {k:Key} (h:jU k=true):jV k.b k.a=64*k.b+k.a:=by
 have:=aez h;exact amz ay
theorem WA {f:Int→Bool} {l:List Int} {x:Int} (h0:l[0]?=some x) (hx:f x=true): ∀n:Nat,0<n→n≤l.length→ ∃j:Nat,wV f l n=j∧j<n
 |0,h,_=>by omega
 |n+1,_,hn=>by
  unfold wV;rw[ck ay];simp only[]
  split
  ·exact⟨n,rfl,by omega⟩
  ·rename_i hf
   cases n with
   |zero=>
    rw[ck ay] at h0
    cases h0;exact absurd hx hf
   |succ n=>
    obtain⟨j,h1,h2⟩:=WA h0 hx (n+1) ay ay;exact⟨j,h1,by omega⟩
theorem WB {t:Tree} {k:Key} (h:gG t=true) (hk:jU k=true): ∃j:Nat,pU t k.b k.a=j∧j<t.nodes.length:=by
 have h1:=vO h;have h2:=aez hk;have h3:=agd hk;unfold pU;have:=WA (f:=fun x=>decide (x≤jV k.b k.a)) (af7 h) (by simp only[decide_eq_true_eq];omega) t.aE.length ay (cV _);rw[h1.2.2] at this ⊢;exact this
theorem aeA (n:List (List Key)) (k:Key):aP (cX n k).1≤aP n+2:=by
 have h1:=JC n k;have h2:=JD n k;unfold aP;omega
theorem aid (t:Tree) (i c:Nat) (aE:List Int) (nodes:List (List (List Key))):tot aP (oC t i c aE nodes).nodes≤tot aP t.nodes+tot aP nodes:=by
 have h:tot aP (t.nodes.take i++t.nodes.drop i)=tot aP t.nodes:=by rw[Nk]
 have h2:tot aP (t.nodes.drop (i+c))≤tot aP (t.nodes.drop i):=by
  rw[←List.drop_drop]
  have h3:tot aP ((t.nodes.drop i).take c++(t.nodes.drop i).drop c)=tot aP (t.nodes.drop i):=by rw[Nk]
  rw[K5] at h3;omega
 unfold oC;simp only[K5] at h ⊢;omega
theorem amA {t:Tree} {i:Nat} {k:Key} (hl:t.aE.length=t.nodes.length) (hi:i<t.nodes.length) (ht: ∀n∈t.nodes,tot bY n≤8∧n.length≤3):
 tot aP (nP t i k).nodes≤tot aP t.nodes+40∧(nP t i k).nodes.length≤t.nodes.length+1∧(nP t i k).aE.length=(nP t i k).nodes.length:=by
 have hn:=ht t.nodes[i] (D2 hi)
 have hg:t.nodes.getD i []=t.nodes[i]:=by rw[wE,ck hi];rfl
 have hp:=aeA t.nodes[i] k;have hk:=tP t.nodes[i] k;have hz:aP t.nodes[i]=t.nodes[i].length+tot bY t.nodes[i]:=rfl;unfold nP;rw[hg];generalize dw t.nodes[i] k=l at*;have e1:=Ml (l.take ((l.length+1)/2));have e2:=Ml (l.drop ((l.length+1)/2));rw[eO] at e1;rw[iR] at e2
 have key: ∀(aE:List Int) (nodes:List (List (List Key))),aE.length=nodes.length→nodes.length≤2→tot aP nodes≤40→tot aP (oC t i 1 aE nodes).nodes≤tot aP t.nodes+40∧(oC t i 1 aE nodes).nodes.length≤t.nodes.length+1∧(oC t i 1 aE nodes).aE.length=(oC t i 1 aE nodes).nodes.length:=by
  intro aE nodes h1 h2 h3;have h4:=aid t i 1 aE nodes;have h5:=JF t i 1 aE nodes ay;have h6:=FQ t i 1 aE nodes ay;omega
 split
 ·split
  ·exact key _ _ rfl cW (by simp[tot])
  ·exact key _ _ rfl cW (by simp only[tot];omega)
 ·exact key _ _ rfl cW (by simp only[tot];omega)
theorem aci {t:Tree} (h:gG t=true): ∀n∈t.nodes,tot bY n≤8∧n.length≤3:=fun n hn=>by
 have:=K3 (B3 h hn);omega
theorem aeB {t:Tree} {i:Nat} {k:Key} (h:gG t=true) (hi:i<t.nodes.length):
 tot aP (nP t i k).nodes+(nP t i k).nodes.length≤300∧(nP t i k).aE.length=(nP t i k).nodes.length∧cG (oD (nP t i k).nodes.length (nP t i k))≤600:=by
 have h1:=vO h;have h2:=Wy h;have h3:=amA (k:=k) h1.2.2 hi (aci h);have h4:=aey (nP t i k).nodes.length (nP t i k) h3.2.2;refine⟨by omega,h3.2.2,?_⟩;unfold cG wR;omega
theorem LC {α:Type} {w:α→Nat} {f:α→α} (hf: ∀a,w (f a)=w a): ∀(l:List α) (i:Nat),tot w (l.modify i f)=tot w l
 |[],i=>by cases i<;>rfl
 |a::r,0=>by rw[List.modify_zero_cons];simp only[tot,hf]
 |a::r,i+1=>by rw[List.modify_succ_cons];simp only[tot,LC hf r i]
theorem aeC (p:Pool) (i n:Int):aJ (B4 p i n)=aJ p:=by
 unfold aJ DG B4;simp only[RT];rw[LC (w:=p8) (f:=fun u:Vol=>{u with size:=n}) fun a=>rfl]
theorem aho {n:Nat} (h:8<n):(n+1)/2<n:=by omega
end Go.T
namespace Go.T
def B7:List Cell→Int→List Int
 |[],_=>[]
 |c::r,s=>if c.u=true then s::B7 r (s+1) else B7 r (s+1)
theorem JJ: ∀(l:List Cell) (s:Int),(B7 l s).length=cu l
 |[],s=>rfl
 |c::r,s=>by
  have:=JJ r (s+1);unfold cu at this ⊢;unfold B7
  cases h:c.u<;>simp[h,this]
theorem JK: ∀{l:List Cell} {s:Int} {j:Nat} {c:Cell},l[j]?=some c→c.u=true→s+j∈B7 l s
 |[],s,j,c,h,_=>by simp at h
 |d::r,s,0,c,h,hu=>by
  simp only[gE,aY] at h;subst h;unfold B7;rw[aI hu];simp
 |d::r,s,j+1,c,h,hu=>by
  have:=JK (l:=r) (s:=s+1) (j:=j) (by simpa using h) hu
  have e:s+((j+1:Nat):Int)=s+1+(j:Int):=by omega
  rw[e];unfold B7
  split
  ·exact .tail _ this
  ·exact this
theorem ahp {α:Type} [DecidableEq α]: ∀(l m:List α),l.Nodup→(∀x∈l,x∈m)→l.length≤m.length
 |[],m,_,_=>D4 _
 |a::l,m,hn,hs=>by
  obtain⟨h1,h2⟩:=List.nodup_cons.1 hn;have hm:=hs a (.head _);have:=ahp l (m.erase a) h2 fun x hx=>(List.mem_erase_of_ne (fun e=>by subst e;exact h1 hx)).2 (hs x (.tail _ hx));rw[List.length_erase_of_mem hm] at this;have:=List.length_pos_of_mem hm;simp only[fW];omega
theorem aeD {l:List Cell} {i g:Int} (h:(cellAt l i g).2=true): ∃c,ff l i=some c∧c.u=true:=by
 unfold cellAt at h
 cases hc:ff l i with
 |none=>rw[hc] at h;cases h
 |some c=>
  rw[hc] at h;simp only at h
  split at h
  ·rename_i h1;exact⟨c,rfl,h1.1⟩
  ·cases h
theorem ahq {p:Pool} (h:gY p=true) {i j:Nat} {x y:Key} (hi:(aD p.t)[i]?=some x) (hj:(aD p.t)[j]?=some y) (hx:x.k=1) (hy:y.k=1) (hc:x.c=y.c):i=j:=by
 unfold gY at h;simp only[eX,wS] at h
 have key: ∀{i j:Nat} {x y:Key},(aD p.t)[i]?=some x→(aD p.t)[j]?=some y→x.k=1→y.k=1→x.c=y.c→ ¬i<j:=by
  intro i j x y hi hj hx hy hc hlt;obtain⟨hjl,_⟩:=List.getElem?_eq_some_iff.1 hj;have:=h.1 j hjl;unfold dA at this;rw[hj] at this;simp only[eX,hy,decide_true,By,I7,Gh,List.any_eq_false] at this;have hm:x∈(aD p.t).take j:=gP (i:=i) (by rw[Bz];simp[hlt,hi]);have:=this.2.2 x hm;simp[hx,hc] at this
 have h1:=key hi hj hx hy hc;have h2:=key hj hi hy hx hc.symm;omega
theorem akv {p:Pool} (h:gY p=true) {x:Key} (hx:x∈aD p.t) (hk:x.k=1): ∃c,ff p.cells x.c=some c∧c.u=true:=by
 unfold gY at h;simp only[eX,wS] at h;obtain⟨i,hi,rfl⟩:=List.getElem_of_mem hx;have:=h.1 i hi;unfold dA at this;rw[ck hi] at this;simp only[eX,hk,decide_true,By,I7] at this;exact aeD this.2.1
theorem WC: ∀(l:List Key),(∀(i j:Nat) (x y:Key),l[i]?=some x→l[j]?=some y→x.k=1→y.k=1→x.c=y.c→i=j)→((l.filter fun k=>decide (k.k=1)).map (·.c)).Nodup
 |[],_=> .nil
 |a::l,h=>by
  have ih:=WC l fun i j x y h1 h2 h3 h4 h5=>by have:=h (i+1) (j+1) x y (by simpa using h1) (by simpa using h2) h3 h4 h5;omega
  by_cases ha:a.k=1
  ·rw[List.filter_cons_of_pos (by simpa using ha),List.map_cons]
   refine List.nodup_cons.2 ⟨fun hm=> ?_,ih⟩;obtain⟨b,hb,e⟩:=List.mem_map.1 hm;obtain⟨hb1,hb2⟩:=List.mem_filter.1 hb;obtain⟨j,hj⟩:=List.mem_iff_getElem?.1 hb1;have:=h 0 (j+1) a b rfl (by simpa using hj) ha (by simpa using hb2) e.symm;omega
  ·rw[List.filter_cons_of_neg (by simpa using ha)];exact ih
theorem akw {p:Pool} (h:gY p=true) {i:Int} {c:Cell} (hc:ff p.cells i=some c) (hu:c.u=true): ∃x∈aD p.t,pG i x=true:=by
 have hi:0≤i∧i<p.cells.length:=Classical.byContradiction fun hn=>by rw[gD hn] at hc;cases hc
 obtain⟨n,rfl⟩: ∃n:Nat,i=n:=⟨i.toNat,by omega⟩;rw[aH] at hc
 apply Classical.byContradiction
 intro hno;have hn:=WC (aD p.t) fun i j x y h1 h2 h3 h4 h5=>ahq h h1 h2 h3 h4 h5
 have hsub: ∀y∈((aD p.t).filter fun k=>decide (k.k=1)).map (·.c),y∈(B7 p.cells 0).erase (n:Int):=by
  intro y hy;obtain⟨x,hx,rfl⟩:=List.mem_map.1 hy;obtain⟨hx1,hx2⟩:=List.mem_filter.1 hx
  have hx2:x.k=1:=by simpa using hx2
  obtain⟨d,hd,hdu⟩:=akv h hx1 hx2
  have hxi:0≤x.c∧x.c<p.cells.length:=Classical.byContradiction fun hn=>by rw[gD hn] at hd;cases hd
  obtain⟨m,hm⟩: ∃m:Nat,x.c=m:=⟨x.c.toNat,by omega⟩;rw[hm,aH] at hd;have:=JK (s:=0) hd hdu;refine(List.mem_erase_of_ne fun e=>hno ⟨x,hx1,by unfold pG;simp[hx2,e]⟩).2 ?_;rw[hm];simpa using this
 have hlen:=ahp _ _ hn hsub;have hm0:=JK (s:=0) hc hu;rw[List.length_erase_of_mem (by simpa using hm0),JJ,bX] at hlen;have hpos:=List.length_pos_of_mem hm0;rw[JJ] at hpos;unfold gY cR at h;simp only[eX,decide_eq_true_eq] at h;have:=h.2;omega
theorem agf {p:Pool} (h:gY p=true) {i:Int} {c:Cell} (hc:ff p.cells i=some c) (hu:c.u=true):
 ∃m:Nat,(aD p.t)[m]?=some (jQ p i)∧pG i (jQ p i)=true∧(∀j x,(aD p.t)[j]?=some x→pG i x=true→j=m):=by
 obtain⟨x,hx,ho⟩:=akw h hc hu;unfold jQ
 cases hf:(aD p.t).find? (pG i) with
 |none=>exact absurd ho (by simpa using List.find?_eq_none.1 hf x hx)
 |some k=>
  have h1:=List.find?_some hf;obtain⟨m,hm⟩:=List.mem_iff_getElem?.1 (List.mem_of_find?_eq_some hf);refine⟨m,hm,h1,fun j y hj hy=> ?_⟩;unfold pG at h1 hy;simp only[eX,decide_eq_true_eq] at h1 hy;exact ahq h hj hm hy.1 h1.1 (by rw[hy.2,h1.2])
end Go.T
namespace Go.T
theorem bM {P:Prop} (h:P:=by
 repeat' first
  |assumption
  |exact rfl
  |exact⟨rfl,rfl⟩
  |exact⟨rfl,trivial⟩
  |refine⟨_,_,_,_,_,_,_,by assumption,?_⟩
  |refine⟨_,_,_,_,_,_,by assumption,?_⟩
  |refine⟨_,_,_,_,_,by assumption,?_⟩
  |refine⟨_,_,_,_,by assumption,?_⟩
  |refine⟨_,_,_,by assumption,?_⟩
  |refine⟨_,_,by assumption,?_⟩
  |refine⟨_,by assumption,?_⟩
  |refine ah (by first|rfl|assumption|(rw[bD];rfl)) ?_
  |refine ak (by first|rfl|assumption|(rw[bD];rfl)) ?_
  |refine⟨(_,_),?_,?_,rfl⟩
  |refine⟨(_,_),?_,?_,rfl,rfl⟩
  |refine⟨?_,?_⟩):P:=h
end Go.T
