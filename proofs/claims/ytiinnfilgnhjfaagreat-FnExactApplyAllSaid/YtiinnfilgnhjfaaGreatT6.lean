/- A run has one result; the formulas, simplified. -/
import Derived.Test.YtiinnfilgnhjfaaGreatT5
set_option linter.unusedVariables false
set_option linter.unusedSimpArgs false
namespace Go.T
def amv (cf:Cf):Prop:= ∀f vs r fs r' fs',cf f vs r fs→cf f vs r' fs'→r=r'∧fs=fs'
def aoO (lp:Lp):Prop:= ∀f i c st (Q Q':TX→TS→Prop),lp f i c st Q→lp f i c st Q'→ ∃x s,Q x s∧Q' x s
theorem tQ {R:Type} {cf:Cf} {lp:Lp} (hc:amv cf) (hl:aoO lp) {Q Q':R→Prop}: ∀(e:Ev R),e.holds cf lp Q→e.holds cf lp Q'→ ∃r,Q r∧Q' r
 | .fail,h,_=>h.elim
 | .ret r,h,h'=>⟨r,h,h'⟩
 | .test b k,h,h'=>tQ hc hl (k b) h h'
 | .row rows i k,⟨c,h1,h2⟩,⟨c',h1',h2'⟩=>by
   rw[h1] at h1';cases h1';exact tQ hc hl (k c) h2 h2'
 | .byte rows i k,⟨c,h1,h2⟩,⟨c',h1',h2'⟩=>by
   rw[h1] at h1';cases h1';exact tQ hc hl (k c) h2 h2'
 | .bytes rows k,⟨c,h1,h2⟩,⟨c',h1',h2'⟩=>by
   rw[h1] at h1';cases h1';exact tQ hc hl (k c) h2 h2'
 | .call f vs k,⟨r,fs,h1,h2⟩,⟨r',fs',h1',h2'⟩=>by
   obtain⟨rfl,rfl⟩:=hc _ _ _ _ _ _ h1 h1';exact tQ hc hl (k r fs) h2 h2'
 | .loop f i c st k,h,h'=>by
   obtain⟨x,s,h1,h2⟩:=hl _ _ _ _ _ _ h h';exact tQ hc hl (k x s) h1 h2
 | .both a b,⟨r,h1,h2,h3⟩,⟨r',h1',h2',h3'⟩=>by
   obtain⟨r0,e1,e2⟩:=tQ hc hl a h1 h1';subst e1 e2;exact⟨_,h3,h3'⟩
section
variable {C : pU}
theorem aej {cf:Cf} {lp:Lp} (hc:amv cf) (hl:aoO lp) {fx:List Nat} {f i:Nat} {c:Code} {Q Q':TX→TS→Prop}: ∀(n:Nat) (st:TS),iter C cf lp fx f i c Q n st→iter C cf lp fx f i c Q' n st→ ∃x s,Q x s∧Q' x s
 |0,_,h,_=>h.elim
 |n+1,st,h,h'=>by
  obtain⟨⟨x,s⟩,h1,h2⟩:=tQ hc hl _ h h'
  cases x with
  |norm=>
   simp only at h1 h2;rw[xO] at h1 h2;exact aej hc hl n _ h1 h2
  |ex id=>exact⟨_,_,h1,h2⟩
  |ret=>exact⟨_,_,h1,h2⟩
theorem ahr {cf:Cf} (hc:amv cf) (k:Nat) (fx:List Nat): ∀n,aoO (lpN C cf k fx n)
 |0=>fun _ _ _ _ _ _ h _=>h.elim
 |n+1=>fun f i c st Q Q' h h'=>aej hc (ahr hc k fx n) k st h h'
theorem P0: ∀k,amv (lJ C k)
 |0=>fun _ _ _ _ _ _ h _=>h.elim
 |k+1=>fun f vs r fs r' fs' h h'=>by
  unfold lJ at h h'
  cases hx:C.ext f with
  |some p=>rw[hx] at h h';have h:p vs=some (r,fs):=h;have h':p vs=some (r',fs'):=h';rw[h] at h';cases h';exact⟨rfl,rfl⟩
  |none=>
  rw[hx] at h h';simp only at h h';obtain⟨p,h1,h2⟩:=tQ (P0 k) (ahr (P0 k) k _ 4) _ h h';rw[h1] at h2
  cases h2
  exact⟨rfl,rfl⟩
theorem ai.det {f:FuncId} {vs:List TV} {r r':TV} {fs fs':List TV} (h:ai C f vs r fs) (h':ai C f vs r' fs'):r'=r∧fs'=fs:=by
 obtain⟨k,h⟩:=h;obtain⟨k',h'⟩:=h';obtain⟨h1,h2⟩:=P0 (max k k') _ _ _ _ _ _ (qA (Jk _ _) h) (qA (Nat.le_max_right _ _) h');exact⟨h1.symm,h2.symm⟩
end
def fh {α:Type} (l:List α) (i:Int):Option α:=if 0≤i then l[i.toNat]? else none
theorem aH {α:Type} (l:List α) (i:Nat):fh l (i:Int)=l[i]?:=by
 unfold fh;rw[aI (Int.natCast_nonneg i),lY]
theorem mm {α:Type} {l:List α} {i:Int} (h0:0≤i) (h1:i<l.length): ∃a,fh l i=some a:=by
 unfold fh;rw[aI h0];exact⟨_,cm ay⟩
theorem gE {α:Type} {l:List α} {i:Int} (h: ¬(0≤i∧i<l.length)):fh l i=none:=by
 unfold fh
 split
 ·exact VJ ay
 ·rfl
theorem aR {α:Type} (e:α→List TC) (l:List α) (i:Int):rowAt (l.map e) i=(fh l i).map e:=by
 unfold rowAt fh
 split
 ·rw[me]
 ·rfl
theorem Ew {α:Type} {l:List α} {i:Int} {a:α} (h:fh l i=some a):a∈l:=by
 unfold fh at h
 split at h
 ·exact gQ h
 ·cases h
def aqz {α:Type} (l:List α) (i:Int) (a:α):List α:=l.set i.toNat a
theorem aek {α:Type} {e:α→List TC} {l:List α} {i:Int} {a a':α} {f:Nat} {cs:List TC} (h:fh l i=some a) (he:(e a).take f++cs++(e a).drop (f+cs.length)=e a'):setRow (l.map e) i f cs=(aqz l i a').map e:=by
 unfold fh at h
 split at h
 ·unfold setRow aqz
  rw[me,h];simp only[pP,he,List.map_set]
 ·cases h
@[simp] theorem cK {α:Type} (e:α→List TC) (l:List α) (a b:Int):aC (l.map e) a b=((l.take b.toNat).drop a.toNat).map e:=by
  unfold aC;rw[←Jj,←Ed]
theorem AE {rows:List (List TC)} (h: ∀r∈rows,∀c∈r,∃v,c= .sc v):bS rows=true:=by
 unfold bS;rw[List.all_eq_true];intro r hr;rw[List.all_eq_true];intro c hc;obtain⟨v,rfl⟩:=h r hr c hc
 rfl
@[simp] theorem Mm (s:ByteArray):(ByteArray.data s).1.length=s.size:=rfl
@[simp] theorem JH (l h n:Int):gh l h n=decide (0≤l∧l≤h∧h≤n):=by unfold gh;rfl
end Go.T
namespace Go.T
structure Key where
 b:Int
 a:Int
 k:Int
 c:Int
 g:Int
 deriving DecidableEq
structure Age where
 id:Int
 fr:Int
 deriving DecidableEq
structure Cell where
 g:Int
 u:Bool
 n:Int
 deriving DecidableEq
structure Vol where
 name:ByteArray
 cV:Int
 size:Int
 fx:Bool
structure Mp where
 name:ByteArray
 fx:Bool
 l:List Int
structure Tree where
 aE:List Int
 nodes:List (List (List Key))
structure Pool where
 t:Tree
 aL:List Age
 cells:List Cell
 au:List Vol
 next:Int
structure AF where
 kind:Int
 name:ByteArray
 to:ByteArray
 a:Int
 b:Int
abbrev iI (n:Int):TC:= .sc (.int .i64 n)
abbrev iB (b:Bool):TC:= .sc (.bool b)
abbrev iS (s:ByteArray):TC:= .sc (.string s)
abbrev cI (n:Int):CE:= .sc (.int .i64 n)
abbrev cB (b:Bool):CE:= .sc (.bool b)
abbrev cS (s:ByteArray):CE:= .sc (.string s)
abbrev aA (a b:Int):Int:=afu .i64 a b
abbrev cO (a b:Int):Int:=VM .i64 a b
abbrev amw (a b:Int):Int:=afv .i64 a b
theorem aG {a b:Int} (h: -9223372036854775808≤a+b∧a+b≤9223372036854775807):aA a b=a+b:=amr h
theorem dh {a b:Int} (h: -9223372036854775808≤a-b∧a-b≤9223372036854775807):cO a b=a-b:=ams h
theorem amx {a b:Int} (h: -9223372036854775808≤a*b∧a*b≤9223372036854775807):amw a b=a*b:=amt h
abbrev RR:=List (List TC)
abbrev QV:=TV→List TV→Prop
abbrev QX:=TX→TS→Prop
abbrev sI:Sh:= .int .i64
abbrev sB:Sh:= .bool
abbrev sS:Sh:= .str
abbrev hz:Hint:= .z
abbrev hb:Hint→Hint→Hint:= .br
abbrev hr:List Sh→Hint→Hint:= .row
abbrev hc:Eu→List Eu→Hint→Hint:= .call
abbrev wV:ByteArray:=⟨#[]⟩
def bP (n:Int):List TC:=[.sc (.int .i64 n)]
def anT (n:Int):List TC:=[.sc (.int .u8 n)]
def Sm (n:Bool):List TC:=[.sc (.bool n)]
def bQ (x:Key):List TC:=[.sc (.int .i64 x.b),.sc (.int .i64 x.a),.sc (.int .i64 x.k),.sc (.int .i64 x.c),.sc (.int .i64 x.g)]
def bR (x:Age):List TC:=[.sc (.int .i64 x.id),.sc (.int .i64 x.fr)]
def bM (x:Cell):List TC:=[.sc (.int .i64 x.g),.sc (.bool x.u),.sc (.int .i64 x.n)]
def cj (x:Vol):List TC:=[.sc (.string x.name),.sc (.int .i64 x.cV),.sc (.int .i64 x.size),.sc (.bool x.fx)]
def DP (x:AF):List TC:=[.sc (.int .i64 x.kind),.sc (.string x.name),.sc (.string x.to),.sc (.int .i64 x.a),.sc (.int .i64 x.b)]
def cW (x:List Key):List TC:=[.sub 5 (x.map bQ)]
def aQ (x:List (List Key)):List TC:=[.sub 1 (x.map cW)]
abbrev ahs (t:Tree):List TC:=[.sub 1 (t.aE.map bP),.sub 1 (t.nodes.map aQ)]
abbrev wq (p:Pool):List TC:=[.sub 1 (p.t.aE.map bP),.sub 1 (p.t.nodes.map aQ),.sub 2 (p.aL.map bR),.sub 3 (p.cells.map bM),.sub 4 (p.au.map cj),.sc (.int .i64 p.next)]
abbrev vI (n:Int):TV:= .c (.sc (.int .i64 n))
abbrev vB (b:Bool):TV:= .c (.sc (.bool b))
abbrev vS (s:ByteArray):TV:= .c (.sc (.string s))
abbrev oD (l:List Int):TV:= .c (.sub 1 (l.map bP))
abbrev dM (l:List Key):TV:= .c (.sub 5 (l.map bQ))
abbrev N3 (l:List (List Key)):TV:= .c (.sub 1 (l.map cW))
abbrev AG (l:List (List (List Key))):TV:= .c (.sub 1 (l.map aQ))
abbrev gy (l:List Age):TV:= .c (.sub 2 (l.map bR))
abbrev jx (l:List Cell):TV:= .c (.sub 3 (l.map bM))
abbrev qW (l:List Vol):TV:= .c (.sub 4 (l.map cj))
abbrev Wv (l:List AF):TV:= .c (.sub 5 (l.map DP))
abbrev uJ (k:Key):TV:= .ag [.sc (.int .i64 k.b),.sc (.int .i64 k.a),.sc (.int .i64 k.k),.sc (.int .i64 k.c),.sc (.int .i64 k.g)]
abbrev hD (n:List (List Key)):TV:= .ag [.sub 1 (n.map cW)]
abbrev dX (t:Tree):TV:= .ag (ahs t)
abbrev c6 (p:Pool):TV:= .ag (wq p)
section
variable {i : Int}
@[simp] theorem wW {l:List Int} {K:Int→Prop}:(∃n,rowAt (l.map bP) i=some [.sc (.int .i64 n)]∧K n)↔ ∃a,fh l i=some a∧K a:=by
  rw[aR]
  constructor
  ·rintro⟨n,h,hK⟩
   obtain⟨a,ha,h⟩:=Option.map_eq_some_iff.1 h;unfold bP at h;cases h;exact⟨_,ha,hK⟩
  ·rintro⟨a,ha,hK⟩
   exact⟨_,by rw[ha];rfl,hK⟩
@[simp] theorem amy {l:List Bool} {K:Bool→Prop}:(∃n,rowAt (l.map Sm) i=some [.sc (.bool n)]∧K n)↔ ∃a,fh l i=some a∧K a:=by
  rw[aR]
  constructor
  ·rintro⟨n,h,hK⟩
   obtain⟨a,ha,h⟩:=Option.map_eq_some_iff.1 h;unfold Sm at h;cases h;exact⟨_,ha,hK⟩
  ·rintro⟨a,ha,hK⟩
   exact⟨_,by rw[ha];rfl,hK⟩
@[simp] theorem lN {l:List Key} {K:Int→Int→Int→Int→Int→Prop}:(∃b a k c g,rowAt (l.map bQ) i=some [.sc (.int .i64 b),.sc (.int .i64 a),.sc (.int .i64 k),.sc (.int .i64 c),.sc (.int .i64 g)]∧K b a k c g)↔ ∃x,fh l i=some x∧K x.b x.a x.k x.c x.g:=by
  rw[aR]
  constructor
  ·rintro⟨_,_,_,_,_,h,hK⟩
   obtain⟨a,ha,h⟩:=Option.map_eq_some_iff.1 h;unfold bQ at h;cases h;exact⟨_,ha,hK⟩
  ·rintro⟨a,ha,hK⟩
   exact⟨_,_,_,_,_,by rw[ha];rfl,hK⟩
@[simp] theorem wX {l:List Age} {K:Int→Int→Prop}:(∃b a,rowAt (l.map bR) i=some [.sc (.int .i64 b),.sc (.int .i64 a)]∧K b a)↔ ∃x,fh l i=some x∧K x.id x.fr:=by
  rw[aR]
  constructor
  ·rintro⟨_,_,h,hK⟩
   obtain⟨a,ha,h⟩:=Option.map_eq_some_iff.1 h;unfold bR at h;cases h;exact⟨_,ha,hK⟩
  ·rintro⟨a,ha,hK⟩
   exact⟨_,_,by rw[ha];rfl,hK⟩
@[simp] theorem pX {l:List Cell} {K:Int→Bool→Int→Prop}:(∃g u n,rowAt (l.map bM) i=some [.sc (.int .i64 g),.sc (.bool u),.sc (.int .i64 n)]∧K g u n)↔ ∃x,fh l i=some x∧K x.g x.u x.n:=by
  rw[aR]
  constructor
  ·rintro⟨_,_,_,h,hK⟩
   obtain⟨a,ha,h⟩:=Option.map_eq_some_iff.1 h;unfold bM at h;cases h;exact⟨_,ha,hK⟩
  ·rintro⟨a,ha,hK⟩
   exact⟨_,_,_,by rw[ha];rfl,hK⟩
@[simp] theorem yX {l:List Vol} {K:ByteArray→Int→Int→Bool→Prop}:(∃s a z f,rowAt (l.map cj) i=some [.sc (.string s),.sc (.int .i64 a),.sc (.int .i64 z),.sc (.bool f)]∧K s a z f)↔ ∃x,fh l i=some x∧K x.name x.cV x.size x.fx:=by
  rw[aR]
  constructor
  ·rintro⟨_,_,_,_,h,hK⟩
   obtain⟨a,ha,h⟩:=Option.map_eq_some_iff.1 h;unfold cj at h;cases h;exact⟨_,ha,hK⟩
  ·rintro⟨a,ha,hK⟩
   exact⟨_,_,_,_,by rw[ha];rfl,hK⟩
@[simp] theorem aqA {l:List AF} {K:Int→ByteArray→ByteArray→Int→Int→Prop}:(∃k s t a b,rowAt (l.map DP) i=some [.sc (.int .i64 k),.sc (.string s),.sc (.string t),.sc (.int .i64 a),.sc (.int .i64 b)]∧K k s t a b)↔ ∃x,fh l i=some x∧K x.kind x.name x.to x.a x.b:=by
  rw[aR]
  constructor
  ·rintro⟨_,_,_,_,_,h,hK⟩
   obtain⟨a,ha,h⟩:=Option.map_eq_some_iff.1 h;unfold DP at h;cases h;exact⟨_,ha,hK⟩
  ·rintro⟨a,ha,hK⟩
   exact⟨_,_,_,_,_,by rw[ha];rfl,hK⟩
@[simp] theorem xY {l:List (List Key)} {K:List (List TC)→Prop}:(∃r,rowAt (l.map cW) i=some [.sub 5 r]∧K r)↔ ∃x,fh l i=some x∧K (x.map bQ):=by
  rw[aR]
  constructor
  ·rintro⟨_,h,hK⟩
   obtain⟨a,ha,h⟩:=Option.map_eq_some_iff.1 h;unfold cW at h;cases h;exact⟨_,ha,hK⟩
  ·rintro⟨a,ha,hK⟩
   exact⟨_,by rw[ha];rfl,hK⟩
@[simp] theorem tT {l:List (List (List Key))} {K:List (List TC)→Prop}:(∃r,rowAt (l.map aQ) i=some [.sub 1 r]∧K r)↔ ∃x,fh l i=some x∧K (x.map cW):=by
  rw[aR]
  constructor
  ·rintro⟨_,h,hK⟩
   obtain⟨a,ha,h⟩:=Option.map_eq_some_iff.1 h;unfold aQ at h;cases h;exact⟨_,ha,hK⟩
  ·rintro⟨a,ha,hK⟩
   exact⟨_,by rw[ha];rfl,hK⟩
end
theorem gU (n:Nat):Int.ofNat n=(n:Int):=rfl
@[simp] theorem natAdd (a b:Nat):Nat.add a b=a+b:=rfl
@[simp] theorem aht {α:Type} (a b:List α):List.append a b=a++b:=rfl
theorem nW (l:List Int):bS (l.map bP)=true:=AE fun r hr c hc=>by
 obtain⟨a,_,rfl⟩:=List.mem_map.1 hr;unfold bP at hc;simp only[qu] at hc;exact⟨_,hc⟩
theorem agb (l:List Int):bS (l.map anT)=true:=AE fun r hr c hc=>by
 obtain⟨a,_,rfl⟩:=List.mem_map.1 hr;unfold anT at hc;simp only[qu] at hc;exact⟨_,hc⟩
theorem ni (l:List Key):bS (l.map bQ)=true:=AE fun r hr c hc=>by
 obtain⟨a,_,rfl⟩:=List.mem_map.1 hr;unfold bQ at hc;simp only[fY,List.not_mem_nil,or_false] at hc;rcases hc with h|h|h|h|h<;>exact⟨_,h⟩
theorem Ah (l:List Age):bS (l.map bR)=true:=AE fun r hr c hc=>by
 obtain⟨a,_,rfl⟩:=List.mem_map.1 hr;unfold bR at hc;simp only[fY,List.not_mem_nil,or_false] at hc;rcases hc with h|h<;>exact⟨_,h⟩
theorem Mn (l:List Cell):bS (l.map bM)=true:=AE fun r hr c hc=>by
 obtain⟨a,_,rfl⟩:=List.mem_map.1 hr;unfold bM at hc;simp only[fY,List.not_mem_nil,or_false] at hc;rcases hc with h|h|h<;>exact⟨_,h⟩
theorem wu (l:List Vol):bS (l.map cj)=true:=AE fun r hr c hc=>by
 obtain⟨a,_,rfl⟩:=List.mem_map.1 hr;unfold cj at hc;simp only[fY,List.not_mem_nil,or_false] at hc;rcases hc with h|h|h|h<;>exact⟨_,h⟩
@[simp] theorem acg (v:Value):bS [[.sc v]]=true:=AE fun r hr c hc=>by
  simp only[qu] at hr;subst hr;simp only[qu] at hc;exact⟨_,hc⟩
attribute [simp] nW agb ni Ah Mn wu
end Go.T
namespace Go.T
theorem P1 {α:Type} (g:α→α): ∀(l:List α) (i:Nat) (a:α),l[i]?=some a→l.modify i g=l.set i (g a)
 |[],i,a,h=>by simp at h
 |x::r,0,a,h=>by simp only[gG,aY] at h;subst h;rfl
 |x::r,i+1,a,h=>by
  simp only[yx] at h;rw[List.modify_succ_cons,List.set_cons_succ,P1 g r i a h]
theorem dK {α:Type} {e:α→List TC} {l:List α} {i:Int} {f:Nat} {cs:List TC} {g:α→α} (he: ∀a,(e a).take f++cs++(e a).drop (f+cs.length)=e (g a)):setRow (l.map e) i f cs=(l.modify i.toNat g).map e:=by
 unfold setRow;rw[me]
 cases h:l[i.toNat]? with
 |none=>
  have:l.length≤i.toNat:=List.getElem?_eq_none_iff.1 h;simp only[Option.map_none];rw[List.modify_eq_self this]
 |some a=>
  simp only[pP];rw[he,P1 g l _ a h,List.map_set]
theorem qc {α:Type} {l:List α} {i:Int} {g:α→α}:fh (l.modify i.toNat g) i=(fh l i).map g:=by
 unfold fh
 split
 ·simp
 ·rfl
theorem mod_mod {α:Type} {l:List α} {i:Nat} {f g:α→α}:(l.modify i f).modify i g=l.modify i (fun x=>g (f x)):=by
 rw[List.modify_modify_eq];rfl
theorem jH {α β:Type} {o:Option α} {f:α→β} {K:β→Prop}:(∃x,o.map f=some x∧K x)↔ ∃x,o=some x∧K (f x):=by
 cases o with
 |none=>simp
 |some a=>simp
theorem nF {α:Type} {d r:List α} {a:α}:fh (d++a::r) (d.length:Int)=some a:=by
 rw[aH];simp
theorem B5 {α:Type} {d r:List α} {a:α} {f:α→α}:(d++a::r).modify ((d.length:Int).toNat) f=d++f a::r:=by
 rw[lY,P1 f _ _ a cY];simp
@[simp] theorem akj {l:List Key} {i:Int} {v:Int}:setRow (l.map bQ) i 0 [.sc (.int .i64 v)]=(l.modify i.toNat fun x=>{x with b:=v}).map bQ:=dK fun a=>rfl
@[simp] theorem akk {l:List Key} {i:Int} {v:Int}:setRow (l.map bQ) i 1 [.sc (.int .i64 v)]=(l.modify i.toNat fun x=>{x with a:=v}).map bQ:=dK fun a=>rfl
@[simp] theorem akl {l:List Key} {i:Int} {v:Int}:setRow (l.map bQ) i 2 [.sc (.int .i64 v)]=(l.modify i.toNat fun x=>{x with k:=v}).map bQ:=dK fun a=>rfl
@[simp] theorem akm {l:List Key} {i:Int} {v:Int}:setRow (l.map bQ) i 3 [.sc (.int .i64 v)]=(l.modify i.toNat fun x=>{x with c:=v}).map bQ:=dK fun a=>rfl
@[simp] theorem akn {l:List Key} {i:Int} {v:Int}:setRow (l.map bQ) i 4 [.sc (.int .i64 v)]=(l.modify i.toNat fun x=>{x with g:=v}).map bQ:=dK fun a=>rfl
@[simp] theorem aoP {l:List Key} {i:Int} {v0:Int} {v1:Int} {v2:Int} {v3:Int} {v4:Int}:setRow (l.map bQ) i 0 [.sc (.int .i64 v0),.sc (.int .i64 v1),.sc (.int .i64 v2),.sc (.int .i64 v3),.sc (.int .i64 v4)]=(l.modify i.toNat fun _=>⟨v0,v1,v2,v3,v4⟩).map bQ:=dK fun a=>rfl
@[simp] theorem aib {l:List Age} {i:Int} {v:Int}:setRow (l.map bR) i 0 [.sc (.int .i64 v)]=(l.modify i.toNat fun x=>{x with id:=v}).map bR:=dK fun a=>rfl
@[simp] theorem abf {l:List Age} {i:Int} {v:Int}:setRow (l.map bR) i 1 [.sc (.int .i64 v)]=(l.modify i.toNat fun x=>{x with fr:=v}).map bR:=dK fun a=>rfl
@[simp] theorem aoQ {l:List Age} {i:Int} {v0:Int} {v1:Int}:setRow (l.map bR) i 0 [.sc (.int .i64 v0),.sc (.int .i64 v1)]=(l.modify i.toNat fun _=>⟨v0,v1⟩).map bR:=dK fun a=>rfl
@[simp] theorem aic {l:List Cell} {i:Int} {v:Int}:setRow (l.map bM) i 0 [.sc (.int .i64 v)]=(l.modify i.toNat fun x=>{x with g:=v}).map bM:=dK fun a=>rfl
@[simp] theorem P2 {l:List Cell} {i:Int} {v:Bool}:setRow (l.map bM) i 1 [.sc (.bool v)]=(l.modify i.toNat fun x=>{x with u:=v}).map bM:=dK fun a=>rfl
@[simp] theorem P3 {l:List Cell} {i:Int} {v:Int}:setRow (l.map bM) i 2 [.sc (.int .i64 v)]=(l.modify i.toNat fun x=>{x with n:=v}).map bM:=dK fun a=>rfl
@[simp] theorem ach {l:List Cell} {i:Int} {v0:Int} {v1:Bool} {v2:Int}:setRow (l.map bM) i 0 [.sc (.int .i64 v0),.sc (.bool v1),.sc (.int .i64 v2)]=(l.modify i.toNat fun _=>⟨v0,v1,v2⟩).map bM:=dK fun a=>rfl
@[simp] theorem ael {l:List Vol} {i:Int} {v:ByteArray}:setRow (l.map cj) i 0 [.sc (.string v)]=(l.modify i.toNat fun x=>{x with name:=v}).map cj:=dK fun a=>rfl
@[simp] theorem Mo {l:List Vol} {i:Int} {v:Int}:setRow (l.map cj) i 1 [.sc (.int .i64 v)]=(l.modify i.toNat fun x=>{x with cV:=v}).map cj:=dK fun a=>rfl
@[simp] theorem JI {l:List Vol} {i:Int} {v:Int}:setRow (l.map cj) i 2 [.sc (.int .i64 v)]=(l.modify i.toNat fun x=>{x with size:=v}).map cj:=dK fun a=>rfl
@[simp] theorem aid {l:List Vol} {i:Int} {v:Bool}:setRow (l.map cj) i 3 [.sc (.bool v)]=(l.modify i.toNat fun x=>{x with fx:=v}).map cj:=dK fun a=>rfl
@[simp] theorem aoR {l:List Vol} {i:Int} {v0:ByteArray} {v1:Int} {v2:Int} {v3:Bool}:setRow (l.map cj) i 0 [.sc (.string v0),.sc (.int .i64 v1),.sc (.int .i64 v2),.sc (.bool v3)]=(l.modify i.toNat fun _=>⟨v0,v1,v2,v3⟩).map cj:=dK fun a=>rfl
@[simp] theorem agc {l:List AF} {i:Int} {v:Int}:setRow (l.map DP) i 0 [.sc (.int .i64 v)]=(l.modify i.toNat fun x=>{x with kind:=v}).map DP:=dK fun a=>rfl
@[simp] theorem agd {l:List AF} {i:Int} {v:ByteArray}:setRow (l.map DP) i 1 [.sc (.string v)]=(l.modify i.toNat fun x=>{x with name:=v}).map DP:=dK fun a=>rfl
@[simp] theorem ako {l:List AF} {i:Int} {v:ByteArray}:setRow (l.map DP) i 2 [.sc (.string v)]=(l.modify i.toNat fun x=>{x with to:=v}).map DP:=dK fun a=>rfl
@[simp] theorem amz {l:List AF} {i:Int} {v:Int}:setRow (l.map DP) i 3 [.sc (.int .i64 v)]=(l.modify i.toNat fun x=>{x with a:=v}).map DP:=dK fun a=>rfl
@[simp] theorem amA {l:List AF} {i:Int} {v:Int}:setRow (l.map DP) i 4 [.sc (.int .i64 v)]=(l.modify i.toNat fun x=>{x with b:=v}).map DP:=dK fun a=>rfl
@[simp] theorem aqB {l:List AF} {i:Int} {v0:Int} {v1:ByteArray} {v2:ByteArray} {v3:Int} {v4:Int}:setRow (l.map DP) i 0 [.sc (.int .i64 v0),.sc (.string v1),.sc (.string v2),.sc (.int .i64 v3),.sc (.int .i64 v4)]=(l.modify i.toNat fun _=>⟨v0,v1,v2,v3,v4⟩).map DP:=dK fun a=>rfl
@[simp] theorem aoS {l:List (Int)} {i:Int} {v:Int}:setRow (l.map bP) i 0 [.sc (.int .i64 v)]=(l.modify i.toNat fun _=>v).map bP:=dK fun a=>rfl
@[simp] theorem amB {l:List (Bool)} {i:Int} {v:Bool}:setRow (l.map Sm) i 0 [.sc (.bool v)]=(l.modify i.toNat fun _=>v).map Sm:=dK fun a=>rfl
@[simp] theorem aoT {l:List (List Key)} {i:Int} {v:List Key}:setRow (l.map cW) i 0 [.sub 5 (v.map bQ)]=(l.modify i.toNat fun _=>v).map cW:=dK fun a=>rfl
@[simp] theorem aci {l:List (List (List Key))} {i:Int} {v:List (List Key)}:setRow (l.map aQ) i 0 [.sub 1 (v.map cW)]=(l.modify i.toNat fun _=>v).map aQ:=dK fun a=>rfl
end Go.T
namespace Go.T
theorem aZ {α:Type} (l:List α) (P:Nat→Prop) (fin:P l.length) (step: ∀i a,i<l.length→l[i]?=some a→l.drop i=a::l.drop (i+1)→l.take (i+1)=l.take i++[a]→P (i+1)→P i):P 0:=by
 have: ∀k i,i+k=l.length→P i:=by
  intro k
  induction k with
  |zero=>intro i h;have:i=l.length:=by omega
         subst this;exact fin
  |succ k ih=>
   intro i h
   have hi:i<l.length:=by omega
   refine step i l[i] hi (cm hi) (Gu hi) ?_ (ih (i+1) ay);rw[List.take_add_one,cm hi];rfl
 exact this l.length 0 ay
theorem B6 {α:Type} {e:α→List TC} {z:List TC} (l:List α) (P:Int→RR→Prop) (hz: ∀a,(e a).length=z.length) (fin:P l.length (l.map e))
 (step: ∀(i:Nat) rows a,i<l.length→l[i]?=some a→rowAt rows i=some z→P ((i:Int)+1) (setRow rows i 0 (e a))→P i rows):P 0 (List.replicate l.length z):=by
 have: ∀i:Nat,i≤l.length→P (i:Int) ((l.take i).map e++List.replicate (l.length-i) z)→P 0 (List.replicate l.length z):=by
  intro i
  induction i with
  |zero=>intro _ h;simpa using h
  |succ i ih=>
   intro hi h;refine ih ay ?_
   have hlt:i<l.length:=by omega
   have ha:=cm hlt
   have hk:l.length-i=(l.length-(i+1))+1:=by omega
   rw[hk];refine step i _ l[i] hlt ha (akh ay) ?_;rw[aeg (e:=e) ha rfl (hz _).symm];exact h
 refine this l.length (cX _) ?_;simpa using fin
def tot {α:Type} (w:α→Nat):List α→Nat
 |[]=>0
 |a::r=>w a+tot w r
def je {α:Type} (mk:α→Int→α) (w:α→Nat):List α→Int→List α
 |[],_=>[]
 |a::r,k=>mk a k::je mk w r (k+w a)
theorem xZ {α:Type} {e:α→List TC} (mk:α→Int→α) (w:α→Nat) (P:Int→Int→RR→Prop) (B:Int)
 (step: ∀(d:List α) a r (k:Int),0≤k→k+w a≤B→d.length<1099511627776→P (k+w a) ((d.length:Int)+1) ((d++mk a k::r).map e)→P k d.length ((d++a::r).map e)):
 ∀(r d:List α) (k:Int),0≤k→k+tot w r≤B→d.length+r.length≤1099511627776→P (k+tot w r) ((d.length+r.length:Nat):Int) ((d++je mk w r k).map e)→P k d.length ((d++r).map e)
 |[],d,k,_,_,_,h=>by simpa [je,tot] using h
 |a::r,d,k,h0,h1,h2,h=>by
  simp only[tot,fX] at h1 h2 h;refine step d a r k h0 ay ay ?_
  have:=xZ mk w P B step r (d++[mk a k]) (k+w a) ay ay eJ (by
   simp only[Ap,List.singleton_append,cG,gL];rw[show k+(w a:Int)+(tot w r:Int)=k+((w a+tot w r:Nat):Int) by omega,show d.length+1+r.length=d.length+(r.length+1) by omega]
   exact h)
  simpa using this
theorem Ai {α:Type} {e:α→List TC} (mk:α→Int→α) (w:α→Nat) (P:Int→Int→RR→Prop) (B:Int)
 (step: ∀(d:List α) a r (k:Int),0≤k→k+w a≤B→d.length<1099511627776→P (k+w a) ((d.length:Int)+1) ((d++mk a k::r).map e)→P k d.length ((d++mk a k::r).map e)):
 ∀(r d:List α) (k:Int),0≤k→k+tot w r≤B→d.length+r.length≤1099511627776→P (k+tot w r) ((d.length+r.length:Nat):Int) ((d++je mk w r k).map e)→P k d.length ((d++je mk w r k).map e)
 |[],d,k,_,_,_,h=>by simpa [je,tot] using h
 |a::r,d,k,h0,h1,h2,h=>by
  simp only[tot,fX,je] at h1 h2 h ⊢;refine step d a _ k h0 ay ay ?_
  have:=Ai mk w P B step r (d++[mk a k]) (k+w a) ay ay eJ (by
   simp only[Ap,List.singleton_append,cG,gL];rw[show k+(w a:Int)+(tot w r:Int)=k+((w a+tot w r:Nat):Int) by omega,show d.length+1+r.length=d.length+(r.length+1) by omega]
   exact h)
  simpa using this
theorem Aj {α:Type} (n:Nat): ∀l:List α,tot (fun _=>n) l=n*l.length
 |[]=>rfl
 |a::r=>by simp only[tot,Aj n r,fX,Nat.mul_add];omega
theorem nX {α:Type} (mk:α→Int→α) (w:α→Nat): ∀(l:List α) (k:Int),(je mk w l k).length=l.length
 |[],_=>rfl
 |a::r,k=>by simp[je,nX mk w r]
theorem Ww {α:Type} (w:α→Nat): ∀(l m:List α),tot w (l++m)=tot w l+tot w m
 |[],m=>by simp[tot]
 |a::r,m=>by simp only[R4,tot,Ww w r];omega
theorem oE {α:Type} {w:α→Nat}: ∀{l:List α} {a:α},a∈l→w a≤tot w l
 |[],_,h=>by cases h
 |b::r,a,h=>by
  simp only[tot];rcases fY.1 h with rfl|h
  ·omega
  ·have:=oE (w:=w) h;omega
theorem oF {α:Type} {w:α→Nat} {l:List α} {i:Nat} {a:α} (h:l[i]?=some a):w a≤tot w l:=oE (gQ h)
def bZ (s:List Key):Nat:=s.length
def aP (n:List (List Key)):Nat:=n.length+tot bZ n
def wY (n:List (List (List Key))):Nat:=n.length+tot aP n
def cH (t:Tree):Nat:=t.aE.length+wY t.nodes
def qd (v:Vol):Nat:=v.name.size
def DQ (l:List Vol):Nat:=l.length+tot qd l
def aJ (p:Pool):Nat:=cH p.t+p.aL.length+p.cells.length+DQ p.au
def Lm (o:AF):Nat:=o.name.size+o.to.size
def aqC (l:List AF):Nat:=l.length+tot Lm l
def nG (left:Int) (n:Nat):Int:=if left<n then-1 else left-n
end Go.T
namespace Go.T
section
variable {C : pU} {f : FuncId} {vs : List TV}
theorem vQ {x b:Bool} (h:ai C f vs (vB x) []):ai C f vs (vB b) []↔b=x:=⟨fun h'=>by have:=(h.det h').1;simpa using this,fun e=>e▸h⟩
theorem akp {x b:Int} (h:ai C f vs (vI x) []):ai C f vs (vI b) []↔b=x:=⟨fun h'=>by have:=(h.det h').1;simpa using this,fun e=>e▸h⟩
theorem asf {x b:ByteArray} (h:ai C f vs (vS x) []):ai C f vs (vS b) []↔b=x:=⟨fun h'=>by have:=(h.det h').1;simpa using this,fun e=>e▸h⟩
theorem aem {z:Nat} {x b:RR} (h:ai C f vs (.c (.sub z x)) []):ai C f vs (.c (.sub z b)) []↔b=x:=⟨fun h'=>by have:=(h.det h').1;simpa using this,fun e=>e▸h⟩
theorem anU {x b:Int} {y c:Bool} (h:ai C f vs (.tu [(0,[iI x]),(0,[iB y])]) []):ai C f vs (.tu [(0,[iI b]),(0,[iB c])]) []↔b=x∧c=y:=⟨fun h'=>by have:=(h.det h').1;simpa using this,fun⟨e,e'⟩=>e▸e'▸h⟩
end
theorem abg {s:ByteArray} {i:Nat} (h:i<s.size): ∃n:Int,xM s i=some n∧0≤n∧n≤255:=by
 unfold xM;rw[aI (Int.natCast_nonneg i),lY];have:s[i]?=some s[i]:=getElem?_pos s i h;rw[this];have:=(s[i]).toNat_lt;refine⟨_,rfl,?_,?_⟩<;>show _≤_<;>simp only[]<;>omega
theorem aen {n:Int} (h: -9223372036854775808≤n∧n≤9223372036854775807):zz .i64 n=n:=by unfold zz;exact IntWalk.i64_in _ h
def iC (a lo hi:Int):Bool:=decide (lo≤a∧a≤hi)
def iD (a:Int):Bool:=iC a 0 65535
def jW (x:Key):Bool:=iC x.b 0 15&&iC x.a 1 60&&iC x.k 0 2&&(if x.k=1 then iC x.c 0 23&&iC x.g 0 999 else decide (x.c=0)&&decide (x.g=0))
def fT (x y:Key):Bool:=decide (x.b<y.b∨(x.b=y.b∧x.a<y.a))
def qe (x y:Key):Bool:=decide (x.b=y.b∧x.a=y.a)
def dU (n:Nat) (f:Nat→Bool):Bool:=(ov 0 n).all f
theorem nH {i n:Nat} (h:i<n):ov i (n-i)=i::ov (i+1) (n-(i+1)):=by
 obtain⟨k,hk⟩: ∃k,n-i=k+1:=⟨n-i-1,by omega⟩;rw[hk,show n-(i+1)=k by omega]
 rfl
theorem tg (n:Nat) (P:Nat→Prop) (fin:P n) (step: ∀i,i<n→P (i+1)→P i):P 0:=by
 have: ∀k i,i+k=n→P i:=by
  intro k
  induction k with
  |zero=>intro i h;have:i=n:=by omega
         subst this;exact fin
  |succ k ih=>intro i h;exact step i ay (ih (i+1) ay)
 exact this n 0 ay
theorem ahu {α:Type} (f g:α→Bool): ∀l:List α,l.all (fun x=>f x&&g x)=(l.all f&&l.all g)
 |[]=>rfl
 |a::r=>by simp only[qq,ahu f g r];cases f a<;>cases g a<;>simp
theorem akq (n:Nat) (f g:Nat→Bool):dU n (fun i=>f i&&g i)=(dU n f&&dU n g):=ahu f g _
theorem wZ {n:Nat} {f:Nat→Bool}:dU n f=true↔ ∀i,i<n→f i=true:=by
 unfold dU;rw[List.all_eq_true]
 constructor
 ·intro h i hi;exact h i (by simp[List.mem_range'];exact hi)
 ·intro h i hi
  simp[List.mem_range'] at hi;exact h i hi
def atL {α:Type} (l:List α) (f:α→Bool) (i:Nat):Bool:=match l[i]? with|some a=>f a|none=>true
def jw {α:Type} (l:List α) (f:α→α→Bool):Nat→Bool
 |0=>true
 |k+1=>match l[k]?,l[k+1]? with|some x,some y=>f x y|_,_=>true
theorem amC {α:Type} (l:List α) (f:α→Bool):dU l.length (atL l f)=l.all f:=by
 rw[Bool.eq_iff_iff,wZ,List.all_eq_true]
 constructor
 ·intro h a ha
  obtain⟨i,hi,rfl⟩:=List.getElem_of_mem ha;have:=h i hi;simpa [atL,hi] using this
 ·intro h i hi
  simp only[atL,cm hi];exact h _ (Ec hi)
def pY (l:List Key) (i:Nat):Bool:=atL l jW i&&jw l fT i
def JJ (l:List Key):Bool:=dU l.length (pY l)&&decide (l.length≤60)
theorem Wx (l:List Key):JJ l=(l.all jW&&(dU l.length (jw l fT)&&decide (l.length≤60))):=by
 rw[←Bool.and_assoc,←amC,←akq];rfl
def fU:Key:=⟨0,0,0,0,0⟩
def setAt (l:List Key) (b a:Int):Option Key:=l.find? fun x=>decide (x.b=b∧x.a=a)
def iE (k:Key):Bool→List Key→List Key
 |put,[]=>if put then [] else [k]
 |put,x::r=>(if !put&& !fT x k then [k] else [])++(if qe x k then [] else [x])++iE k (put|| !fT x k) r
def iF (l:List Key) (k:Key):List Key:=iE k false l
theorem Sn (k:Key): ∀(l:List Key) (put:Bool),(iE k put l).length≤l.length+(if put then 0 else 1)
 |[],put=>by simp only[iE];split<;>simp
 |x::r,put=>by
  have:=Sn k r (put|| !fT x k);simp only[iE,cG,fX]
  have h1:(if qe x k then([]:List Key) else [x]).length≤1:=by split<;>simp
  revert h1
  generalize (if qe x k then([]:List Key) else [x])=m;intro h1
  cases put<;>cases hk:fT x k<;>simp[hk] at this ⊢ <;>omega
theorem th (l:List Key) (k:Key):(iF l k).length≤l.length+1:=by have:=Sn k l false;simpa [iF] using this
def dO (old new:List Key):List Key:=new.foldl iF old
theorem yh: ∀(new old:List Key),(dO old new).length≤old.length+new.length
 |[],old=>by simp[dO]
 |x::r,old=>by
  have:=yh r (iF old x);have h2:=th old x;simp only[dO,List.foldl_cons,fX] at this ⊢;omega
def si (l:List Key):List Key:=l.filter fun k=> !decide (k.k=0)
def Ak (n:List (List Key)):List Key:=n.foldl dO []
def aU (n:List (List Key)):List Key:=si (Ak n)
theorem Gz: ∀(n:List (List Key)) (a:List Key),(n.foldl dO a).length≤a.length+tot bZ n
 |[],a=>by simp[tot]
 |s::r,a=>by
  have:=Gz r (dO a s);have h2:=yh s a;simp only[List.foldl_cons,tot,bZ] at this ⊢;omega
theorem dx (n:List (List Key)):(aU n).length≤tot bZ n:=by
 have h1:=Gz n [];have h2:=aaJ (fun k:Key=> !decide (k.k=0)) (Ak n);simp only[List.length_nil,ny] at h1;exact uQ h2 h1
def dj (n:List (List Key)):Nat:=tot bZ n
def iG (n:List (List Key)):Bool:=n.all (fun s=>JJ s&& !decide (s.length=0))&&decide (n.length≤3)&&decide (dj n≤8)
def dN (l:List Key):List (List Key):=if l.length=0 then [] else [l]
def aD (t:Tree):List Key:=t.nodes.flatMap aU
theorem N4: ∀(l:List (List (List Key))),(l.flatMap aU).length≤tot aP l
 |[]=>by simp[tot]
 |n::r=>by
  have:=N4 r;have h2:=dx n;simp only[List.flatMap_cons,cG,tot,aP];omega
theorem fj (t:Tree):(aD t).length≤cH t:=by
 have:=N4 t.nodes;unfold aD cH wY;omega
def iP (t:Tree) (b:Int):List Key:=(aD t).filter fun k=>decide (k.b=b)
theorem Wy (t:Tree) (b:Int):(iP t b).length≤(aD t).length:=aaJ _ _
def jX (b a:Int):Int:=aA (amw 64 b) a
def eT {α:Type} (p:α→Bool):List α→Int→Int
 |[],_=> -1
 |a::r,i=>if p a then i else eT p r (i+1)
theorem N5 {α:Type} (p:α→Bool): ∀(l:List α) (i:Int),0≤i→decide (0≤eT p l i)=l.any p
 |[],i,_=>by simp[eT]
 |a::r,i,h=>by
  by_cases hp:p a=true
  ·simp[eT,hp,h]
  ·have:=N5 p r (i+1) ay
   simp only[eT,aF hp,List.any_cons];rw[this];simp[hp]
theorem P4 {α:Type} (p:α→Bool): ∀(l:List α) (i:Int),0≤i→(eT p l i= -1∧ ∀a∈l,p a=false)∨ ∃(j:Nat) (a:α),eT p l i=i+j∧l[j]?=some a∧p a=true∧j<l.length∧ ∀k,k<j→ ∀b,l[k]?=some b→p b=false
 |[],i,_=> .inl ⟨rfl,fun a h=>by cases h⟩
 |a::r,i,h=>by
  simp only[eT]
  cases hp:p a with
  |true=>exact .inr ⟨0,a,by simp,rfl,hp,by simp,fun k hk=>by omega⟩
  |false=>
   rcases P4 p r (i+1) ay with⟨h1,h2⟩|⟨j,b,h1,h2,h3,h4,h5⟩
   ·refine .inl ⟨by simpa using h1,fun b hb=> ?_⟩
    rcases fY.1 hb with rfl|hb
    ·exact hp
    ·exact h2 b hb
   ·refine .inr ⟨j+1,b,by simp[h1];omega,h2,h3,by simp;omega,fun k hk c hc=> ?_⟩
    cases k with
    |zero=>simp at hc;rw[←hc];exact hp
    |succ k=>exact h5 k ay c hc
theorem ahv {α:Type} (p:α→Bool) (l:List α): -1≤eT p l 0∧eT p l 0<l.length:=by
 rcases P4 p l 0 ay with⟨h,_⟩|⟨j,a,h,_,_,h4,_⟩<;>omega
theorem w4 {α:Type} (p:α→Bool) (l:List α) (h: ¬eT p l 0<0): ∃a,fh l (eT p l 0)=some a∧p a=true:=by
 rcases P4 p l 0 ay with⟨h1,_⟩|⟨j,a,h1,h2,h3,_⟩
 ·omega
 ·refine⟨a,?_,h3⟩
  rw[h1,Int.zero_add,aH];exact h2
def fm (l:List Age) (id:Int):Int:=eT (fun a=>decide (a.id=id)) l 0
theorem aeo (l:List Age) (id:Int): -1≤fm l id∧fm l id<l.length:=ahv _ _
theorem Lc (l:List Age) (id:Int) (h: ¬fm l id<0): ∃a,fh l (fm l id)=some a∧a.id=id:=by
 obtain⟨a,h1,h2⟩:=w4 _ l h;exact⟨a,h1,yy h2⟩
def JK (l:List Age):Nat→Int→List Int
 |0,_=>[]
 |n+1,id=>if fm l id<0 then [] else id::(match fh l (fm l id) with|some a=>JK l n a.fr|none=>[])
def pathOf (l:List Age) (id:Int):List Int:=JK l (l.length+1) id
theorem abh (l:List Age): ∀(n:Nat) (id:Int),(JK l n id).length≤n
 |0,_=>by simp[JK]
 |n+1,id=>by
  simp only[JK]
  split
  ·simp
  ·split
   ·have:=abh l n
    simp only[fX];rename_i a _;have:=this a.fr;omega
   ·simp
theorem FW (l:List Age) (id:Int):(pathOf l id).length≤l.length+1:=abh l _ id
def Ln (l:List Int) (n:Int):Bool:=l.any fun a=>decide (a=n)
def N6 (path:List Int):Key×Bool→Key→Key×Bool:=fun p k=>if Ln path k.a&&(!p.2||decide (p.1.a<k.a)) then(k,true) else p
def near (keys:List Key) (path:List Int):Key×Bool:=keys.foldl (N6 path) (fU,false)
def LJ (t:Tree) (l:List Age) (b id:Int):Key×Bool:=near (iP t b) (pathOf l id)
def tU (t:Tree) (l:List Age) (b id:Int):Key×Bool:=near (iP t b) ((pathOf l id).drop 1)
theorem akr (keys:List Key):near keys []=(fU,false):=by
 unfold near
 suffices ∀(l:List Key),l.foldl (N6 []) (fU,false)=(fU,false) from this keys
 intro l
 induction l with
 |nil=>rfl
 |cons a r ih=>simpa [N6,Ln] using ih
def nI (t:Tree) (l:List Age) (k:Key) (id:Int):Bool:=(LJ t l k.b id).2&&decide ((LJ t l k.b id).1.a=k.a)
def P5 (p:Pool) (k:Key):Bool:=p.au.any fun v=>decide (k.b<v.size)&&nI p.t p.aL k v.cV
def eB (l:List Age) (id:Int):List Int:=if id=0 then [] else(l.filter fun a=>decide (a.fr=id)).map (·.id)
theorem Wz (l:List Age) (id:Int):(eB l id).length≤l.length:=by
 unfold eB
 split
 ·simp
 ·rw[bY];exact aaJ _ _
abbrev Yq (p:Key×Bool):TV:= .tu [(1,[iI p.1.b,iI p.1.a,iI p.1.k,iI p.1.c,iI p.1.g]),(0,[iB p.2])]
def aks (n:Int):Bool:=iC n 97 122||iC n 48 57
def gm (s:ByteArray) (i:Nat):Bool:=match xM s i with|some n=>aks n|none=>true
def jT (s:ByteArray):Bool:=dU s.size (gm s)&&iC s.size 1 6
def gv (l:List Age) (i:Nat):Bool:=atL l (fun a=>iC a.id 1 60) i&&(jw l (fun x y=>decide (x.id<y.id)) i&&atL l (fun a=>decide (a.fr=0)|| !decide (fm (l.take i) a.fr<0)) i)
def gV (l:List Age):Bool:=dU l.length (gv l)&&decide (l.length≤16)
def cc (l:List Vol) (s:ByteArray):Int:=eT (fun v=>decide (v.name=s)) l 0
def qX (l:List Vol) (id:Int):Bool:= !l.any fun v=>decide (v.cV=id)
def cellAt (l:List Cell) (i gen:Int):Int×Bool:=match fh l i with
 |none=>(0,false)
 |some c=>if c.u=true∧c.g=gen then(c.n,true) else(0,false)
def cv (l:List Cell):Nat:=(l.filter (·.u)).length
def kK (c:Cell):Bool:=iC c.g 0 999&&(iD c.n&&(c.u||decide (c.n=0)))
def eK (l:List Cell):Bool:=l.all kK&&decide (l.length=24)
abbrev tIB (p:Int×Bool):TV:= .tu [(0,[iI p.1]),(0,[iB p.2])]
@[simp] theorem B7 {l:List Key} {b a k c g:Int}:List.append (l.map bQ) [[iI b,iI a,iI k,iI c,iI g]]=(l++[(⟨b,a,k,c,g⟩:Key)]).map bQ:=by simp[bQ]
@[simp] theorem VA {l:List Int} {b:Int}:List.append (l.map bP) [[iI b]]=(l++[b]).map bP:=by simp[bP]
@[simp] theorem B8 {l:List Age} {b a:Int}:List.append (l.map bR) [[iI b,iI a]]=(l++[(⟨b,a⟩:Age)]).map bR:=by simp[bR]
@[simp] theorem FX {l:List Vol} {s:ByteArray} {b a:Int} {q:Bool}:List.append (l.map cj) [[iS s,iI b,iI a,iB q]]=(l++[(⟨s,b,a,q⟩:Vol)]).map cj:=by simp[cj]
@[simp] theorem N7 {l:List (List (List Key))} {s:List (List Key)}:List.append (l.map aQ) [[.sub 1 (s.map cW)]]=(l++[s]).map aQ:=by simp[aQ]
@[simp] theorem nJ {α:Type} {e:α→List TC} {l m:List α}:List.append (l.map e) (m.map e)=(l++m).map e:=by simp
@[simp] theorem cT {α:Type} (l:List α):Nat.succ (List.length l)=l.length+1:=rfl
theorem qG (b a k c g:Int):bS [[iI b,iI a,iI k,iI c,iI g]]=true:=ni [⟨b,a,k,c,g⟩]
theorem vR (b a:Int):bS [[iI b,iI a]]=true:=Ah [⟨b,a⟩]
theorem vT (s:ByteArray) (b a:Int) (q:Bool):bS [[iS s,iI b,iI a,iB q]]=true:=wu [⟨s,b,a,q⟩]
attribute [simp] qG vR vT
@[simp] theorem eu (k:Key):(⟨k.b,k.a,k.k,k.c,k.g⟩:Key)=k:=rfl
@[simp] theorem fC (k:Age):(⟨k.id,k.fr⟩:Age)=k:=rfl
@[simp] theorem dR (k:Cell):(⟨k.g,k.u,k.n⟩:Cell)=k:=rfl
@[simp] theorem fD (k:Vol):(⟨k.name,k.cV,k.size,k.fx⟩:Vol)=k:=rfl
@[simp] theorem fE (k:Mp):(⟨k.name,k.fx,k.l⟩:Mp)=k:=rfl
@[simp] theorem g8 (k:AF):(⟨k.kind,k.name,k.to,k.a,k.b⟩:AF)=k:=rfl
theorem cP {n b:Nat} (h:n*b≤140737488355328∧n≤140737488355328):fits n b=true:=by rw[amp];exact fk h
end Go.T
namespace Go.T
def eI (s:List Key):Bool:=JJ s&& !decide (s.length=0)
theorem abi (n:List (List Key)):iG n=(n.all eI&&(decide (n.length≤3)&&decide (dj n≤8))):=by
 unfold iG;rw[Bool.and_assoc];rfl
def agf (aE:List Int) (i:Nat) (x:Int):Bool:=match aE[i]? with
 |some lo=> !decide (x<lo)&&(match aE[i+1]? with|some hi=>decide (x<hi)|none=>true)
 |none=>true
def jI (aE:List Int) (i:Nat) (k:Key):Bool:=agf aE i (jX k.b k.a)
def cE (aE:List Int) (i:Nat) (s:List Key):Bool:=s.all (jI aE i)
def dY (t:Tree) (i:Nat):Bool:=jw t.aE (fun x y=>decide (x<y)) i&&(match t.nodes[i]? with
 |some n=>iG n&&((decide (i=0)|| !decide ((aU n).length=0))&&n.all (cE t.aE i))
 |none=>true)
def gH (t:Tree):Bool:=iC t.nodes.length 1 20&&(decide (t.aE.length=t.nodes.length)&&((match t.aE[0]? with|some x=>decide (x=0)|none=>true)&&(dU t.nodes.length (dY t)&&decide ((aD t).length≤60))))
def cL (p:Pool) (i:Nat):Bool:=match p.au[i]? with
 |some v=>jT v.name&&(iC v.size 1 12&&(!decide (fm p.aL v.cV<0)&&(decide ((eB p.aL v.cV).length=0)&&(jw p.au (fun x y=>SE x.name y.name) i&& !(p.au.take i).any fun u=>decide (u.cV=v.cV)))))
 |none=>true
def jU (p:Pool):Bool:=dU p.au.length (cL p)&&decide (p.au.length≤6)
def dD (p:Pool) (l:List Key) (i:Nat):Bool:=match l[i]? with
 |some k=> !decide (fm p.aL k.a<0)&&(!decide (k.k=1)||((cellAt p.cells k.c k.g).2&& !(l.take i).any fun x=>decide (x.k=1)&&decide (x.c=k.c)))
 |none=>true
def cU (l:List Key):Nat:=(l.filter fun k=>decide (k.k=1)).length
def gZ (p:Pool):Bool:=dU (aD p.t).length (dD p (aD p.t))&&decide ((cv p.cells:Int)=cU (aD p.t))
def c7 (p:Pool):Bool:=p.aL.all (fun a=>decide (a.id<p.next))&&(gH p.t&&(gV p.aL&&(eK p.cells&&(iC p.next 1 61&&(jU p&&gZ p)))))
def amD (p:Pool) (i b:Int):Int:=match fh p.au i with
 |none=>0
 |some v=>if 0≤b∧b<v.size then(if(LJ p.t p.aL b v.cV).2=true∧(LJ p.t p.aL b v.cV).1.k=1 then(cellAt p.cells (LJ p.t p.aL b v.cV).1.c (LJ p.t p.aL b v.cV).1.g).1 else 0) else 0
def tV (l:List Key):List Bool:=(List.range 24).map fun m:Nat=>l.any fun x=>decide (x.k=1)&&decide (x.c=(m:Int))
theorem aep:tV []=List.replicate 24 false:=by decide
theorem aeq (l:List Key) {c:Int} (h:0≤c∧c<24):fh (tV l) c=some (l.any fun x=>decide (x.k=1)&&decide (x.c=c)):=by
 obtain⟨n,rfl⟩: ∃n:Nat,c=n:=⟨c.toNat,by omega⟩;rw[aH];unfold tV;rw[me,List.getElem?_range ay]
 rfl
theorem aer (l:List Key) (k:Key) (hk:k.k=1) (h:0≤k.c∧k.c<24):(tV l).modify k.c.toNat (fun _=>true)=tV (l++[k]):=by
 apply List.ext_getElem?
 intro m;rw[List.getElem?_modify];unfold tV;rw[me,me]
 by_cases hm:m<24
 ·rw[List.getElem?_range hm]
  simp only[pP,List.any_append,List.any_cons,List.any_nil,Bool.or_false,hk,decide_true,dz]
  by_cases e:k.c.toNat=m
  ·have:k.c=(m:Int):=by omega
   simp[e,this]
  ·have: ¬k.c=(m:Int):=by omega
   simp[e,this]
 ·rw[VJ eJ];rfl
theorem acj (l:List Key) (k:Key) (hk: ¬k.k=1):tV (l++[k])=tV l:=by
 unfold tV;simp[hk]
theorem LK (k:Key) (l:List Key):cU (k::l)=(if k.k=1 then 1 else 0)+cU l:=by
 unfold cU
 by_cases h:k.k=1<;>simp[h]
 omega
theorem aif {l:List Cell} {i g:Int} (h:(cellAt l i g).2=true):0≤i∧i<l.length:=by
 unfold cellAt at h
 apply Classical.byContradiction
 intro hn;rw[gE hn] at h
 cases h
theorem cD {p:Pool} (h:aJ p≤4194304):cH p.t≤4194304∧p.aL.length≤4194304∧p.cells.length≤4194304∧p.au.length≤4194304∧tot qd p.au≤4194304:=by
 unfold aJ DQ at h;omega
end Go.T
namespace Go.T
def blocks (p:Pool) (i:Nat) (k:Nat):List Int:=(List.range k).map fun b:Nat=>amD p i b
def jY (l:List Cell) (i:Int):List Cell:=match fh l i with
 |none=>l
 |some c=>if eK l=true∧c.u=true then l.modify i.toNat (fun _=>⟨DG (aA c.g 1) 1000,false,0⟩) else l
theorem LL {l:List Cell} {i:Int} (h:fh l i=none):jY l i=l:=by unfold jY;rw[h]
theorem N8 {l:List Cell} {i:Int} (h:eK l=false):jY l i=l:=by
 unfold jY
 cases fh l i with
 |none=>rfl
 |some c=>exact aF (fun hh=>by rw[h] at hh;cases hh.1)
theorem So {l:List Cell} {i:Int} {c:Cell} (hc:fh l i=some c) (h:c.u=false):jY l i=l:=by
 unfold jY;rw[hc];exact aF (fun hh=>by rw[h] at hh;cases hh.2)
theorem N9 {l:List Cell} {i:Int} {c:Cell} (hc:fh l i=some c) (h:eK l=true) (hu:c.u=true):jY l i=l.modify i.toNat (fun _=>⟨DG (aA c.g 1) 1000,false,0⟩):=by
 unfold jY;rw[hc];exact aI ⟨h,hu⟩
theorem FY (l:List Cell) (i:Int):(jY l i).length=l.length:=by
 unfold jY
 cases fh l i with
 |none=>rfl
 |some c=>simp only[];split<;>simp
def AH (c:Cell):Bool:= !c.u
def ff (l:List Cell):Int:=eT AH l 0
def jJ (l:List Cell) (n:Int):List Cell×Int×Bool:=
 if eK l=true∧iD n=true∧0≤ff l then(l.modify (ff l).toNat (fun c=>⟨c.g,true,n⟩),ff l,true) else(l,0,false)
theorem qy {l:List Cell} {n:Int} (h: ¬(eK l=true∧iD n=true∧0≤ff l)):jJ l n=(l,0,false):=aF h
theorem w5 {l:List Cell} {n:Int} (h:eK l=true∧iD n=true∧0≤ff l):jJ l n=(l.modify (ff l).toNat (fun c=>⟨c.g,true,n⟩),ff l,true):=aI h
theorem Oa (l:List Cell) (n:Int):(jJ l n).1.length=l.length:=by
 unfold jJ;split<;>simp
abbrev amE (x:List Cell×Int×Bool):TV:= .tu [(0,[.sub 3 (x.1.map bM)]),(0,[iI x.2.1]),(0,[iB x.2.2])]
def P6 (o:AF):Bool:=if o.kind=2 then decide (o.a=0)&&iC o.b 0 1 else if o.kind=3∨o.kind=7 then decide (o.a=0)&&decide (o.b=0) else if o.kind=4 then true else decide (o.b=0)
def opName (o:AF):Bool:=if 7≤o.kind then decide (o.name=wV) else jT o.name
def aoU (o:AF):Bool:=if o.kind=2 then jT o.to else decide (o.to=wV)
def WA (o:AF):Bool:=iC o.kind 1 9&&(opName o&&(aoU o&&(iD o.a&&(iD o.b&&P6 o))))
abbrev tII (x:Int×Int):TV:= .tu [(0,[iI x.1]),(0,[iI x.2])]
def uE (p:Pool) (s:ByteArray):Bool:=c7 p&&jT s
theorem wz {p:Pool} (h:c7 p=true):jU p=true:=by
 simp only[c7,eY] at h;exact h.2.2.2.2.2.1
theorem Sp {p:Pool} (h:c7 p=true):gV p.aL=true:=by
 simp only[c7,eY] at h;exact h.2.2.1
theorem B9 {p:Pool} {i:Int} {v:Vol} (h:jU p=true) (hv:fh p.au i=some v):1≤v.size∧v.size≤12:=by
 obtain⟨n,rfl,hn⟩: ∃n:Nat,i=n∧n<p.au.length:=by
  have:0≤i∧i<p.au.length:=Classical.byContradiction fun hn=>by rw[gE hn] at hv;cases hv
  exact⟨i.toNat,by omega,by omega⟩
 simp only[jU,eY,wZ] at h;have:=h.1 n hn;rw[aH] at hv;simp only[cL,hv,eY] at this;have:=this.2.1;simp[iC] at this;omega
theorem akt {l:List Age} (h:gV l=true): ∀a∈l,1≤a.id:=by
 intro a ha;simp only[gV,eY,wZ] at h;obtain⟨i,hi,rfl⟩:=List.getElem_of_mem ha;have h1:=h.1 i hi;simp only[gv,eY] at h1;have h2:=h1.1;simp only[atL,cm hi] at h2;simp[iC] at h2;omega
theorem aku {l:List Age} {id:Int} (h:gV l=true): ∀x∈eB l id,1≤x:=by
 intro x hx;unfold eB at hx
 split at hx
 ·cases hx
 ·obtain⟨a,ha,rfl⟩:=List.mem_map.1 hx
  exact akt h a (List.mem_filter.1 ha).1
def Ex (l:List Key) (b a:Int):Key×Bool:=match setAt l b a with|some k=>(k,true)|none=>(fU,false)
def qY (n:List (List Key)) (b a:Int):Nat→Key×Bool
 |0=>(fU,false)
 |k+1=>match n[k]? with
  |some s=>if(Ex s b a).2=true then(if(Ex s b a).1.k=0 then(fU,false) else Ex s b a) else qY n b a k
  |none=>(fU,false)
def w6 (f:Int→Bool) (l:List Int):Nat→Int
 |0=> -1
 |k+1=>match l[k]? with
  |some x=>if f x=true then(k:Int) else w6 f l k
  |none=> -1
def pZ (t:Tree) (b a:Int):Int:=w6 (fun x=>decide (x≤jX b a)) t.aE t.aE.length
def w7 (t:Tree) (b a:Int):Key×Bool:=match fh t.nodes (pZ t b a) with
 |some n=>qY n b a n.length
 |none=>(fU,false)
def Ey (p:Pool) (id:Int):Int:=if qX p.au id=true∧(eB p.aL id).length=1 then(match fh (eB p.aL id) 0 with|some x=>x|none=>0) else 0
def abj (p:Pool) (k:Key):Bool:=if Ey p k.a=0 then false else !(w7 p.t k.b (Ey p k.a)).2
def sj (p:Pool) (step:Int) (k:Key):Bool:=if step=1 then !P5 p k else if step=2 then decide (k.k=2)&& !(tU p.t p.aL k.b k.a).2 else abj p k
def hasB (id:Int) (k:Key):Bool:=decide (k.a=id)
def JL (id:Int) (k:Key):Bool:= !hasB id k
theorem akv (id:Int) (l:List Key):l.all (JL id)= !(l.any (hasB id)):=by
 induction l with
 |nil=>rfl
 |cons k r ih=>simp[qq,List.any_cons,ih,JL]
def vg (p:Pool) (a:Age):Bool:=(aD p.t).all (JL a.id)&&(qX p.au a.id&&decide ((eB p.aL a.id).length≤1))
def mV (p:Pool) (j:Int):Int:=eT (sj p j) (aD p.t) 0
def Mq (p:Pool):Int:=eT (vg p) p.aL 0
def c8 (p:Pool):Int×Int:=
 if c7 p=true then(if 0≤mV p 1 then(1,mV p 1) else if 0≤mV p 2 then(2,mV p 2) else if 0≤mV p 3 then(3,mV p 3) else if 0≤Mq p then(4,Mq p) else(0,0)) else(0,0)
def newNode (l:List Key):List (List Key):=if l.length=0 then [] else [l]
def w8 (n:List (List Key)):List (List Key):=newNode (aU n)
def AI (t:Tree) (i:Int):Tree:=match fh t.nodes i with
 |none=>t
 |some n=>⟨t.aE,t.nodes.modify i.toNat (fun _=>w8 n)⟩
def qf (p:Pool) (i:Int):Pool×Bool:=if c7 p=true∧0≤i∧i<p.t.nodes.length then(⟨AI p.t i,p.aL,p.cells,p.au,p.next⟩,true) else(p,false)
abbrev tPB (x:Pool×Bool):TV:= .tu [(1,[.sub 1 (x.1.t.aE.map bP),.sub 1 (x.1.t.nodes.map aQ),.sub 2 (x.1.aL.map bR),.sub 3 (x.1.cells.map bM),.sub 4 (x.1.au.map cj),iI x.1.next]),(0,[iB x.2])]
theorem Mr {α:Type} {w:α→Nat} {f:α→α}: ∀{l:List α} {i:Nat},(∀a,l[i]?=some a→w (f a)≤w a)→tot w (l.modify i f)≤tot w l
 |[],i,h=>by cases i<;>exact cX _
 |a::r,0,h=>by
  rw[List.modify_zero_cons];have:=h a rfl;simp only[tot];omega
 |a::r,i+1,h=>by
  rw[List.modify_succ_cons];have:=Mr (l:=r) (i:=i) (w:=w) (f:=f) fun b hb=>h b (by simpa using hb);simp only[tot];omega
theorem aet (n:List (List Key)):aP (w8 n)≤aP n:=by
 have h1:=dx n;unfold w8 newNode
 split
 ·exact Ee _
 ·rename_i h
  have h2:aP [aU n]=1+((aU n).length+0):=rfl;have h3:aP n=n.length+tot bZ n:=rfl
  cases n with
  |nil=>exact absurd rfl h
  |cons s r=>rw[h2,h3,fX];omega
theorem aeu (t:Tree) (i:Int):cH (AI t i)≤cH t:=by
 unfold AI
 split
 ·exact cX _
 ·rename_i n hn
  have hi:0≤i∧i<t.nodes.length:=Classical.byContradiction fun h=>by rw[gE h] at hn;cases hn
  obtain⟨k,rfl⟩: ∃k:Nat,i=k:=⟨i.toNat,by omega⟩;rw[aH] at hn
  have:=Mr (w:=aP) (f:=fun _=>w8 n) (l:=t.nodes) (i:=k) fun a ha=>by
   rw[hn] at ha
   cases ha
   exact aet n
  have e1:cH t=t.aE.length+(t.nodes.length+tot aP t.nodes):=rfl;have e2:cH ⟨t.aE,t.nodes.modify ((k:Int)).toNat (fun _=>w8 n)⟩=t.aE.length+((t.nodes.modify ((k:Int)).toNat (fun _=>w8 n)).length+tot aP (t.nodes.modify ((k:Int)).toNat (fun _=>w8 n))):=rfl;rw[e1,e2,R5,lY];omega
theorem aev (p:Pool) (i:Int):aJ (qf p i).1≤aJ p:=by
 unfold qf
 split
 ·have:=aeu p.t i
  unfold aJ;simp only[];omega
 ·exact cX _
end Go.T
namespace Go.T
def ack (p x:Pool):Pool×Int:=if c7 x=true then(x,0) else(p,6)
def FZ (p:Pool) (i:Int):Pool:=⟨p.t,p.aL,p.cells,p.au.take i.toNat++p.au.drop (i.toNat+1),p.next⟩
def JM (p:Pool) (s:ByteArray):Pool×Int:=
 if uE p s=true then(if cc p.au s<0 then(p,2) else ack p (FZ p (cc p.au s))) else(p,1)
abbrev P7 (x:Pool×Int):TV:= .tu [(1,[.sub 1 (x.1.t.aE.map bP),.sub 1 (x.1.t.nodes.map aQ),.sub 2 (x.1.aL.map bR),.sub 3 (x.1.cells.map bM),.sub 4 (x.1.au.map cj),iI x.1.next]),(0,[iI x.2])]
theorem amF {α:Type} (w:α→Nat) (l:List α) (k:Nat):tot w (l.take k++l.drop (k+1))≤tot w l:=by
 have h:tot w (l.take k++l.drop k)=tot w l:=by rw[Nv]
 rw[Ww] at h ⊢
 have h2:tot w (l.drop (k+1))≤tot w (l.drop k):=by
  cases hk:l.drop k with
  |nil=>
   have:l.drop (k+1)=[]:=by rw[←List.drop_drop];simp[hk]
   rw[this];exact cX _
  |cons a r=>
   have:l.drop (k+1)=r:=by
    have e:l.drop (k+1)=(l.drop k).drop 1:=by rw[List.drop_drop]
    rw[e,hk];rfl
   rw[this];simp only[tot];omega
 omega
theorem P8 (p:Pool) (i:Int):aJ (FZ p i)≤aJ p:=by
 have h1:=amF qd p.au i.toNat
 have h2:(p.au.take i.toNat++p.au.drop (i.toNat+1)).length≤p.au.length:=by
  rw[cG,eP,iT];omega
 unfold aJ DQ FZ;simp only[];omega
theorem akw (p:Pool) (s:ByteArray):aJ (JM p s).1≤aJ p:=by
 unfold JM ack
 split
 ·split
  ·exact cX _
  ·split
   ·exact P8 p _
   ·exact cX _
 ·exact cX _
end Go.T
namespace Go.T
end Go.T
namespace Go.T
theorem agh {α:Type} (p:α→Bool): ∀(l:List α) (i:Nat),i≤l.length→(l.take i).all p=true→(∀a,l[i]?=some a→p a=false)→(l.takeWhile p).length=i
 |[],i,h,_,_=>by simp at h;simp[h]
 |a::r,0,_,_,h=>by
  have:=h a rfl;simp[this]
 |a::r,i+1,h1,h2,h3=>by
  simp only[List.take_succ_cons,qq,eY] at h2;rw[List.takeWhile_cons,aI h2.1,fX,agh p r i (by simpa using h1) h2.2 fun b hb=>h3 b (by simpa using hb)]
theorem amG {α:Type} (p:α→Bool) (l:List α):l.take (l.takeWhile p).length=l.takeWhile p:=by
 have h:=List.takeWhile_append_dropWhile (p:=p) (l:=l)
 conv=>lhs;rhs;rw[←h]
 rw[R6 (cX _),wh]
theorem amH {α:Type} (p:α→Bool) (l:List α):l.drop (l.takeWhile p).length=l.dropWhile p:=by
 have h:=List.takeWhile_append_dropWhile (p:=p) (l:=l)
 conv=>lhs;rhs;rw[←h]
 rw[List.drop_append_of_le_length (cX _),ew,xI]
def yF {α:Type} (p:α→Bool) (x:α) (l:List α):List α:=l.takeWhile p++x::l.dropWhile p
theorem Ms {α:Type} {p:α→Bool} {x a:α} {l:List α}:yF p x (a::l)=if p a then a::yF p x l else x::a::l:=by
 unfold yF
 by_cases h:p a=true
 ·simp[List.takeWhile_cons,List.dropWhile_cons,h]
 ·simp[List.takeWhile_cons,List.dropWhile_cons,h]
theorem Al {α:Type} (p:α→Bool) (x:α) (l:List α):(yF p x l).length=l.length+1:=by
 unfold yF;have h:=congrArg List.length (List.takeWhile_append_dropWhile (p:=p) (l:=l));rw[cG] at h ⊢;rw[fX];omega
theorem WB {α:Type} (p:α→Bool) (x:α) (l:List α) {k:Nat} (h:(l.takeWhile p).length=k):l.take k++x::l.drop k=yF p x l:=by
 unfold yF;rw[←h,amG,amH]
theorem P9 {α:Type} (w:α→Nat) (p:α→Bool) (x:α): ∀l:List α,tot w (yF p x l)=tot w l+w x
 |[]=>by simp[yF,tot]
 |a::l=>by
  rw[Ms]
  split
  ·simp only[tot,P9 w p x l];omega
  ·simp only[tot];omega
def leA (id:Int) (a:Age):Bool:=decide (a.id≤id)
def r5 (l:List Age) (id fr:Int):List Age:=yF (leA id) ⟨id,fr⟩ l
def iH (l:List Age) (id fr:Int):List Age×Bool:=if 0≤fm l id then(l,false) else if gV (r5 l id fr)=true then(r5 l id fr,true) else(l,false)
theorem AJ (l:List Age) (id fr:Int):(iH l id fr).1.length≤l.length+1:=by
 unfold iH
 split
 ·exact Nat.le_succ _
 ·split
  ·exact Nat.le_of_eq (Al _ _ _)
  ·exact Nat.le_succ _
def Sq (v u:Vol):Bool:=SE u.name v.name||uB u.name v.name
def lO (l:List Vol) (v:Vol):List Vol:=yF (Sq v) v l
theorem aew: ∀(x y z:List UInt8),Op.bytesLess x y=true→Op.bytesLess y z=true→Op.bytesLess x z=true
 |x,y,[],_,h=>by cases y<;>simp[Op.bytesLess] at h
 |x,[],c::z,h,_=>by cases x<;>simp[Op.bytesLess] at h
 |[],_::_,_::_,_,_=>by simp[Op.bytesLess]
 |a::x,b::y,c::z,h1,h2=>by
  simp only[Op.bytesLess,Bool.or_eq_true,eY,decide_eq_true_eq,beq_iff_eq] at h1 h2 ⊢;rcases h1 with h1|⟨rfl,h1⟩
  ·rcases h2 with h2|⟨rfl,h2⟩
   ·exact .inl (UInt8.lt_trans h1 h2)
   ·exact .inl h1
  ·rcases h2 with h2|⟨rfl,h2⟩
   ·exact .inl h2
   ·exact .inr ⟨rfl,aew x y z h1 h2⟩
theorem aih {a b c:ByteArray} (h1:SE a b=true) (h2:SE b c=true):SE a c=true:=by
 unfold SE at*;exact aew _ _ _ h1 h2
def DR:List Vol→Prop
 |[]=>True
 |[_]=>True
 |a::b::r=>SE a.name b.name=true∧DR (b::r)
theorem aky {v a b:Vol} (h:SE a.name b.name=true) (hb:Sq v b=true):Sq v a=true:=by
 unfold Sq at*;rw[Bool.or_eq_true] at*;rcases hb with hb|hb
 ·exact .inl (aih h hb)
 ·have:b.name.toList=v.name.toList:=by
   unfold uB at hb;exact eq_of_beq hb
  unfold SE at h ⊢;rw[←this];exact .inl h
theorem DR.tail {a:Vol} {l:List Vol} (h:DR (a::l)):DR l:=by
 cases l with
 |nil=>trivial
 |cons b r=>exact h.2
theorem DR.cut {v:Vol}: ∀{l:List Vol} {k:Nat},DR l→k≤l.length→(∀u∈l.drop k,Sq v u=false)→(∀u,0<k→l[k-1]?=some u→Sq v u=true)→(l.takeWhile (Sq v)).length=k
 |[],k,_,hk,_,_=>by simp at hk;simp[hk]
 |a::l,0,_,_,h1,_=>by
  have:=h1 a (.head _);simp[this]
 |a::l,k+1,hr,hk,h1,h2=>by
  have ih:=DR.cut (v:=v) (l:=l) (k:=k) hr.tail (by simpa using hk) (fun u hu=>h1 u (by simpa using hu)) fun u h0 hu=>by
   obtain⟨j,rfl⟩: ∃j,k=j+1:=⟨k-1,by omega⟩;exact h2 u ay (by simpa using hu)
  have ha:Sq v a=true:=by
   cases k with
   |zero=>exact h2 a ay rfl
   |succ k=>
    cases l with
    |nil=>simp at hk
    |cons b r=>
     refine aky hr.1 ?_;rw[List.takeWhile_cons] at ih
     cases hb:Sq v b with
     |true=>rfl
     |false=>rw[hb] at ih;simp at ih
  rw[List.takeWhile_cons,aI ha,fX,ih]
theorem amI {l:List Vol} (h: ∀i,jw l (fun x y=>SE x.name y.name) i=true):DR l:=by
 induction l with
 |nil=>trivial
 |cons a l ih=>
  cases l with
  |nil=>trivial
  |cons b r=>
   refine⟨?_,ih fun i=> ?_⟩
   ·have:=h 1;simpa [jw] using this
   ·cases i with
    |zero=>rfl
    |succ i=>have:=h (i+2);simpa [jw] using this
theorem DR.modify {f:Vol→Vol} (hf: ∀u,(f u).name=u.name): ∀{l:List Vol} (i:Nat),DR l→DR (l.modify i f)
 |[],i,h=>by cases i<;>exact h
 |[a],0,_=>trivial
 |[a],i+1,_=>by cases i<;>trivial
 |a::b::r,0,h=>by
  show DR (f a::b::r);exact⟨by rw[hf];exact h.1,h.2⟩
 |a::b::r,1,h=>by
  show DR (a::f b::r);refine⟨by rw[hf];exact h.1,?_⟩;exact DR.modify hf (l:=b::r) 0 h.2
 |a::b::r,i+2,h=>⟨h.1,DR.modify hf (l:=b::r) (i+1) h.2⟩
theorem Qa {p:Pool} (h:c7 p=true):DR p.au:=by
 have hv:=wz h;unfold jU at hv;simp only[eY] at hv;refine amI fun i=> ?_
 by_cases hi:i<p.au.length
 ·have:=wZ.1 hv.1 i hi
  unfold cL at this;rw[cm hi] at this;simp only[eY] at this;exact this.2.2.2.2.1
 ·cases i with
  |zero=>rfl
  |succ k=>
   have hn:p.au[k+1]?=none:=VJ ay;simp only[jw,hn]
   cases p.au[k]?<;>rfl
def Ez (p x:Pool) (ok:Bool):Pool×Int:=if ok=true then ack p x else(p,6)
def F0 (p:Pool) (s:ByteArray) (n:Int):Pool:=⟨p.t,(iH p.aL p.next 0).1,p.cells,lO p.au ⟨s,p.next,n,false⟩,p.next+1⟩
def yj (p:Pool) (s:ByteArray) (n:Int):Pool×Int:=
 if uE p s=true then(if 0≤cc p.au s then(p,3) else if iC n 1 12=true then Ez p (F0 p s n) (iH p.aL p.next 0).2 else(p,4)) else(p,1)
def akz (p:Pool) (v:Vol):List Age×Bool:=iH (iH p.aL p.next v.cV).1 (p.next+1) v.cV
def Ob (p:Pool) (to:ByteArray) (i:Int) (v:Vol) (fx:Bool):Pool:=⟨p.t,(akz p v).1,p.cells,lO (p.au.modify i.toNat fun u=>{u with cV:=p.next}) ⟨to,p.next+1,v.size,fx⟩,p.next+2⟩
def LM (p:Pool) (s to:ByteArray) (fx:Bool):Pool×Int:=
 if uE p s=true∧jT to=true then(match fh p.au (cc p.au s) with
  |none=>(p,2)
  |some v=>if 0≤cc p.au to then(p,3) else Ez p (Ob p to (cc p.au s) v fx) ((iH p.aL p.next v.cV).2&&(akz p v).2)) else(p,1)
theorem WC (p:Pool) (s:ByteArray) (n:Int):aJ (F0 p s n)≤aJ p+s.size+2:=by
 have h1:=AJ p.aL p.next 0;have h2:=Al (Sq ⟨s,p.next,n,false⟩) ⟨s,p.next,n,false⟩ p.au;have h3:=P9 qd (Sq ⟨s,p.next,n,false⟩) ⟨s,p.next,n,false⟩ p.au;unfold aJ DQ F0 lO;simp only[h2,h3,qd];omega
theorem aex (p:Pool) (to:ByteArray) (i:Int) (v:Vol) (fx:Bool):aJ (Ob p to i v fx)≤aJ p+to.size+3:=by
 have h0:=AJ p.aL p.next v.cV;have h1:=AJ (iH p.aL p.next v.cV).1 (p.next+1) v.cV;have h2:=Al (Sq ⟨to,p.next+1,v.size,fx⟩) ⟨to,p.next+1,v.size,fx⟩ (p.au.modify i.toNat fun u=>{u with cV:=p.next});have h3:=P9 qd (Sq ⟨to,p.next+1,v.size,fx⟩) ⟨to,p.next+1,v.size,fx⟩ (p.au.modify i.toNat fun u=>{u with cV:=p.next});have h4:=Mr (w:=qd) (f:=fun u:Vol=>{u with cV:=p.next}) (l:=p.au) (i:=i.toNat) fun a _=>cX _
 rw[R5] at h2;unfold aJ DQ Ob akz lO;simp only[h2,h3];simp only[qd] at*;omega
end Go.T
namespace Go.T
def gtM (m u:Mp):Bool:= !(SE u.name m.name||uB u.name m.name)
def amJ (l:List Mp) (m:Mp):Nat→Nat
 |0=>0
 |k+1=>match l[k]? with
  |some u=>if gtM m u=true then amJ l m k else k+1
  |none=>k+1
theorem ahw (l:List Mp) (m:Mp): ∀k,amJ l m k≤k
 |0=>cX _
 |k+1=>by
  unfold amJ
  split
  ·split
   ·exact Nat.le_succ_of_le (ahw l m k)
   ·exact cX _
  ·exact cX _
def akA {α:Type} (l:List α) (k:Nat) (x:α):List α:=l.take k++x::l.drop k
def akB (l:List Mp) (m:Mp):List Mp:=akA l (amJ l m l.length) m
theorem akC (l:List Mp) (m:Mp):(akB l m).length=l.length+1:=by
 have:=ahw l m l.length;unfold akB akA;rw[cG,fX,eP,iT];omega
theorem akD {l:List Mp} {m x:Mp} (h:x∈akB l m):x∈l∨x=m:=by
 unfold akB akA at h;rcases List.mem_append.1 h with h|h
 ·exact .inl (Ar h)
 ·rcases fY.1 h with h|h
  ·exact .inr h
  ·exact .inl (zy h)
def acm (l l':List Mp):Prop:=l'.length≤l.length+1∧ ∀B:Nat,12≤B→(∀x∈l,x.l.length≤B)→ ∀x∈l',x.l.length≤B
theorem acm.refl (l:List Mp):acm l l:=⟨Nat.le_succ _,fun _ _ h=>h⟩
theorem acm.put {l:List Mp} {m:Mp} (h: ∀B:Nat,12≤B→(∀x∈l,x.l.length≤B)→m.l.length≤B):acm l (akB l m):=
 ⟨Nat.le_of_eq (akC l m),fun B hB hl x hx=>(akD hx).elim (hl x) fun e=>by rw[e];exact h B hB hl⟩
end Go.T
namespace Go.T
abbrev tNB (x:List (List Key)×Bool):TV:= .tu [(1,[.sub 1 (x.1.map cW)]),(0,[iB x.2])]
def Mt (s:List Key) (k:Key):Bool:=(Ex s k.b k.a).2||decide (s.length<4)
def mW (n:List (List Key)) (k:Key):List (List Key):=match n[n.length-1]? with
 |none=>n++[[k]]
 |some s=>if Mt s k=true then n.set (n.length-1) (iF s k) else n++[[k]]
def dy (n:List (List Key)) (k:Key):List Key:=si (iF (aU n) k)
def cZ (n:List (List Key)) (k:Key):List (List Key)×Bool:=
 if iG (mW n k)=true then(mW n k,true) else if 8<(dy n k).length then(n,false) else if iG (dN (dy n k))=true then(dN (dy n k),true) else(n,false)
theorem tW (n:List (List Key)) (k:Key):(dy n k).length≤tot bZ n+1:=by
 have h1:=dx n;have h2:=th (aU n) k;have h3:(dy n k).length≤(iF (aU n) k).length:=aaJ _ _;omega
theorem aey {α:Type} (w:α→Nat) (l:List α) (a:α):tot w (l++[a])=tot w l+w a:=by
 induction l with
 |nil=>simp[tot]
 |cons b r ih=>simp only[R4,tot,ih];omega
theorem aez {α:Type} (w:α→Nat) (c:Nat): ∀(l:List α) (i:Nat) (a a':α),l[i]?=some a→w a'≤w a+c→tot w (l.set i a')≤tot w l+c
 |[],i,a,a',h,_=>by simp at h
 |b::r,0,a,a',h,hw=>by
  simp only[gG,aY] at h;subst h;simp only[List.set_cons_zero,tot];omega
 |b::r,i+1,a,a',h,hw=>by
  have:=aez w c r i a a' (by simpa using h) hw;simp only[List.set_cons_succ,tot];omega
theorem Mu (n:List (List Key)) (k:Key):(mW n k).length≤n.length+1:=by
 unfold mW
 split
 ·rw[cG];simp
 ·split
  ·rw[List.length_set];omega
  ·rw[cG];simp
theorem Mv (n:List (List Key)) (k:Key):tot bZ (mW n k)≤tot bZ n+1:=by
 unfold mW
 split
 ·rw[aey];exact cX _
 ·rename_i s hs
  split
  ·exact aez bZ 1 _ _ s _ hs (by have:=th s k;unfold bZ;omega)
  ·rw[aey];exact cX _
theorem Ca (l:List Key):(dN l).length≤1:=by
 unfold dN
 split<;>simp
theorem Cb (l:List Key):tot bZ (dN l)≤l.length:=by
 unfold dN
 split
 ·simp[tot]
 ·simp[tot,bZ]
theorem JN (n:List (List Key)) (k:Key):(cZ n k).1.length≤n.length+1:=by
 have h1:=Mu n k;have h2:=Ca (dy n k);unfold cZ
 repeat' split
 all_goals simp only[];omega
theorem JO (n:List (List Key)) (k:Key):tot bZ (cZ n k).1≤tot bZ n+1:=by
 have h1:=Mv n k;have h2:=Cb (dy n k);have h3:=tW n k;unfold cZ
 repeat' split
 all_goals simp only[];omega
end Go.T
namespace Go.T
def Ss (x y:Key):Prop:=x.b<y.b∨(x.b=y.b∧x.a<y.a)
theorem Ss.trans {x y z:Key} (h1:Ss x y) (h2:Ss y z):Ss x z:=by unfold Ss at*;omega
theorem JP {x y:Key}:fT x y=true↔Ss x y:=by unfold fT Ss;simp
theorem Oc {x y:Key}:qe x y=true↔x.b=y.b∧x.a=y.a:=by unfold qe;simp
theorem Od {k y:Key}: ∀{l:List Key},y∈iE k true l→y∈l
 |[],h=>by simp[iE] at h
 |x::r,h=>by
  simp only[iE,BI,Bool.false_and,Nu,if_false,xI,Bool.true_or] at h;rcases List.mem_append.1 h with h|h
  ·split at h
   ·cases h
   ·rw[qu.1 h];exact .head _
  ·exact .tail _ (Od h)
theorem WD {k y:Key}: ∀{l:List Key} {put:Bool},y∈iE k put l→y∈l∨y=k
 |[],put,h=>by
  simp only[iE] at h
  split at h
  ·cases h
  ·exact .inr (qu.1 h)
 |x::r,put,h=>by
  simp only[iE] at h;rcases List.mem_append.1 h with h|h
  ·rcases List.mem_append.1 h with h|h
   ·split at h
    ·exact .inr (qu.1 h)
    ·cases h
   ·split at h
    ·cases h
    ·exact .inl (by rw[qu.1 h];exact .head _)
  ·exact(WD h).imp (.tail _) id
theorem Ld {k:Key}: ∀{l:List Key},l.Pairwise Ss→(iE k true l).Pairwise Ss
 |[],_=>by simp[iE]
 |x::r,h=>by
  obtain⟨h1,h2⟩:=List.pairwise_cons.1 h;simp only[iE,BI,Bool.false_and,Nu,if_false,xI,Bool.true_or]
  split
  ·exact Ld h2
  ·exact List.pairwise_cons.2 ⟨fun y hy=>h1 y (Od hy),Ld h2⟩
theorem abk {k:Key}: ∀{l:List Key},l.Pairwise Ss→(iE k false l).Pairwise Ss
 |[],_=>by simp[iE]
 |x::r,h=>by
  obtain⟨h1,h2⟩:=List.pairwise_cons.1 h
  cases hk:fT x k with
  |true=>
   have hlt:=JP.1 hk
   have hns:qe x k=false:=by
    cases hs:qe x k with
    |false=>rfl
    |true=>have:=Oc.1 hs;unfold Ss at hlt;omega
   simp only[iE,hk,hns,Bool.not_false,BI,dz,Bool.and_false,Nu,if_false,xI,Bool.or_false,Ji];refine List.pairwise_cons.2 ⟨fun y hy=> ?_,abk h2⟩;rcases WD hy with hy|rfl
   ·exact h1 y hy
   ·exact hlt
  |false=>
   have hge: ¬Ss x k:=fun h=>by rw[JP.2 h] at hk;cases hk
   simp only[iE,hk,Bool.not_false,dz,if_true,Bool.or_true]
   have hr: ∀y∈iE k true r,Ss k y:=fun y hy=>by
    have:=h1 y (Od hy);unfold Ss at*;omega
   split
   ·exact List.pairwise_cons.2 ⟨hr,Ld h2⟩
   ·rename_i hns
    refine List.pairwise_cons.2 ⟨fun y hy=> ?_,List.pairwise_cons.2 ⟨fun y hy=>h1 y (Od hy),Ld h2⟩⟩;rcases fY.1 hy with rfl|hy
    ·have: ¬(y.b=k.b∧y.a=k.a):=fun h=>hns (Oc.2 h)
     unfold Ss at*;omega
    ·exact hr y hy
theorem St {l:List Key} {k:Key} (h:l.Pairwise Ss):(iF l k).Pairwise Ss:=abk h
theorem WE {l:List Key} {k y:Key} (h:y∈iF l k):y∈l∨y=k:=WD h
theorem WG: ∀(new:List Key) {old:List Key},old.Pairwise Ss→(dO old new).Pairwise Ss
 |[],_,h=>h
 |x::r,_,h=>WG r (St h)
theorem abl {y:Key}: ∀{new old:List Key},y∈dO old new→y∈old∨y∈new
 |[],_,h=> .inl h
 |x::r,old,h=>by
  have h:y∈dO (iF old x) r:=h;rcases abl h with h|h
  ·exact(WE h).imp id fun e=>by rw[e];exact .head _
  ·exact .inr (.tail _ h)
theorem WH: ∀(n:List (List Key)) {acc:List Key},acc.Pairwise Ss→(n.foldl dO acc).Pairwise Ss
 |[],_,h=>h
 |s::r,_,h=>WH r (WG s h)
theorem abm {y:Key}: ∀{n:List (List Key)} {acc:List Key},y∈n.foldl dO acc→y∈acc∨ ∃s∈n,y∈s
 |[],_,h=> .inl h
 |s::r,acc,h=>by
  rcases abm (n:=r) h with h|⟨s',h1,h2⟩
  ·exact(abl h).imp id fun h=>⟨s,.head _,h⟩
  ·exact .inr ⟨s',.tail _ h1,h2⟩
theorem YE (n:List (List Key)):(aU n).Pairwise Ss:=(WH n .nil).sublist List.filter_sublist
theorem acn {n:List (List Key)} {y:Key} (h:y∈aU n): ∃s∈n,y∈s:=by
 rcases abm (List.mem_filter.1 h).1 with h|h
 ·cases h
 ·exact h
theorem YF (n:List (List Key)) (k:Key):(dy n k).Pairwise Ss:=(St (YE n)).sublist List.filter_sublist
theorem aco {n:List (List Key)} {k y:Key} (h:y∈dy n k):y=k∨ ∃s∈n,y∈s:=
 (WE (List.mem_filter.1 h).1).elim (fun h=> .inr (acn h)) .inl
theorem akE {l:List Key} (h1:l.Pairwise Ss) (h2: ∀y∈l,jW y=true) (h3:l.length≤60):JJ l=true:=by
 rw[Wx];simp only[eY,decide_eq_true_eq];refine⟨List.all_eq_true.2 h2,wZ.2 fun i hi=> ?_,h3⟩
 cases i with
 |zero=>rfl
 |succ k=>
  simp only[jw];rw[cm (by omega:k<l.length),cm hi];exact JP.2 (List.pairwise_iff_getElem.1 h1 k (k+1) ay hi ay)
theorem aeA {n:List (List Key)} (h:iG n=true) {s:List Key} (hs:s∈n) {y:Key} (hy:y∈s):jW y=true:=by
 unfold iG at h;simp only[eY] at h;have:=List.all_eq_true.1 h.1.1 s hs;simp only[eY] at this;have h2:=this.1;rw[Wx] at h2;simp only[eY] at h2;exact List.all_eq_true.1 h2.1 y hy
theorem agi {l:List Key} (h1:l.Pairwise Ss) (h2: ∀y∈l,jW y=true) (h3:l.length≤8):iG (dN l)=true:=by
 unfold dN
 split
 ·decide
 ·rename_i h0
  unfold iG;have:=akE h1 h2 ay;have h00:l≠[]:=fun e=>h0 (by rw[e];rfl);simp[this,h00,dj,tot,bZ,h3]
theorem aeB {n:List (List Key)} {k:Key} (h:iG n=true) (hk:jW k=true): ∀y∈dy n k,jW y=true:=fun y hy=>by
 rcases aco hy with rfl|⟨s,h1,h2⟩
 ·exact hk
 ·exact aeA h h1 h2
theorem WI {n:List (List Key)} {k:Key} (h:iG n=true) (hk:jW k=true) (hp:(cZ n k).2=false):8<(dy n k).length∧cZ n k=(n,false):=by
 have hn:=agi (YF n k) (aeB h hk);unfold cZ at hp ⊢
 split at hp
 ·cases hp
 ·rename_i h1
  split at hp
  ·rename_i h2
   exact⟨h2,by rw[aF h1,aI h2]⟩
  ·rename_i h2
   rw[aI (hn ay)] at hp
   cases hp
end Go.T
namespace Go.T
def gw (x y:Int):Int:=afw .or .i64 (aoi .i64 (zz .i64 x) 8) (zz .i64 y)
end Go.T
namespace Go.T
abbrev Fy (x:Tree×Bool):TV:= .tu [(1,ahs x.1),(0,[iB x.2])]
def oG (t:Tree) (i c:Nat) (aE:List Int) (nodes:List (List (List Key))):Tree:=⟨t.aE.take i++aE++t.aE.drop (i+c),t.nodes.take i++nodes++t.nodes.drop (i+c)⟩
def lP (t:Tree) (i:Nat):List Key:=aU (t.nodes.getD i [])
def yG (t:Tree):Nat→Nat→Option Nat
 |0,_=>none
 |d+1,i=>if i+1<t.nodes.length then(if(lP t i).length+(lP t (i+1)).length≤6 then some i else yG t d (i+1)) else none
def uK (t:Tree):Option Nat:=yG t t.nodes.length 0
def dS (t:Tree) (i:Nat):Tree:=oG t i 2 [t.aE.getD i 0] [dN (lP t i++lP t (i+1))]
def oH:Nat→Tree→Tree
 |0,t=>t
 |n+1,t=>match uK t with
  |none=>t
  |some i=>oH n (dS t i)
theorem Su {t:Tree}: ∀{d i j:Nat},yG t d i=some j→i≤j∧j+1<t.nodes.length∧(lP t j).length+(lP t (j+1)).length≤6
 |0,i,j,h=>by cases h
 |d+1,i,j,h=>by
  unfold yG at h
  split at h
  ·split at h
   ·cases h;exact⟨cX _,by assumption,by assumption⟩
   ·have:=Su h;exact⟨by omega,this.2⟩
  ·cases h
theorem x8 {t:Tree} {j:Nat} (h:uK t=some j):j+1<t.nodes.length∧(lP t j).length+(lP t (j+1)).length≤6:=(Su h).2
theorem JQ (t:Tree) (i c:Nat) (aE:List Int) (nodes:List (List (List Key))) (h:i+c≤t.nodes.length):(oG t i c aE nodes).nodes.length+c=t.nodes.length+nodes.length:=by
 unfold oG;simp only[cG,eP,iT];omega
theorem F1 (t:Tree) (i c:Nat) (aE:List Int) (nodes:List (List (List Key))) (h:i+c≤t.aE.length):(oG t i c aE nodes).aE.length+c=t.aE.length+aE.length:=by
 unfold oG;simp only[cG,eP,iT];omega
theorem zY {t:Tree} {i:Nat} (h:i+1<t.nodes.length):(dS t i).nodes.length+1=t.nodes.length:=by
 have:=JQ t i 2 [t.aE.getD i 0] [dN (lP t i++lP t (i+1))] ay;unfold dS;simp only[gL] at this;omega
def nU (t:Tree) (i:Nat) (k:Key):Tree:=
 if(cZ (t.nodes.getD i []) k).2=true then
  (if 0<i∧(aU (cZ (t.nodes.getD i []) k).1).length=0 then oG t i 1 [] [] else oG t i 1 [t.aE.getD i 0] [(cZ (t.nodes.getD i []) k).1])
 else oG t i 1 [t.aE.getD i 0,jX ((dy (t.nodes.getD i []) k).getD (((dy (t.nodes.getD i []) k).length+1)/2) fU).b ((dy (t.nodes.getD i []) k).getD (((dy (t.nodes.getD i []) k).length+1)/2) fU).a]
  [dN ((dy (t.nodes.getD i []) k).take (((dy (t.nodes.getD i []) k).length+1)/2)),dN ((dy (t.nodes.getD i []) k).drop (((dy (t.nodes.getD i []) k).length+1)/2))]
def bw (t:Tree) (k:Key):Tree×Bool:=
 if gH t=true∧jW k=true then(if gH (oH (nU t (pZ t k.b k.a).toNat k).nodes.length (nU t (pZ t k.b k.a).toNat k))=true then(oH (nU t (pZ t k.b k.a).toNat k).nodes.length (nU t (pZ t k.b k.a).toNat k),true) else(t,false)) else(t,false)
end Go.T
namespace Go.T
theorem Qb {α:Type} (w:α→Nat) (c:Nat): ∀l:List α,(∀a∈l,w a≤c)→tot w l≤c*l.length
 |[],_=>by simp[tot]
 |a::r,h=>by
  have h1:=h a (.head _);have h2:=Qb w c r fun b hb=>h b (.tail _ hb);simp only[tot,fX,Nat.mul_add];omega
theorem Le {n:List (List Key)} (h:iG n=true):n.length≤3∧tot bZ n≤8:=by
 unfold iG dj at h;simp only[eY,decide_eq_true_eq] at h;exact⟨h.1.2,h.2⟩
theorem aij {t:Tree} (h:gH t=true) {i:Nat} (hi:i<t.nodes.length):dY t i=true:=by
 unfold gH at h;simp only[eY] at h;exact wZ.1 h.2.2.2.1 i hi
theorem Cc {t:Tree} (h:gH t=true) {n:List (List Key)} (hn:n∈t.nodes):iG n=true:=by
 obtain⟨i,hi,rfl⟩:=List.getElem_of_mem hn;have:=aij h hi;unfold dY at this;rw[cm hi] at this;simp only[eY] at this;exact this.2.1
theorem vU {t:Tree} (h:gH t=true):1≤t.nodes.length∧t.nodes.length≤20∧t.aE.length=t.nodes.length:=by
 unfold gH iC at h;simp only[eY,decide_eq_true_eq] at h;omega
theorem agj {t:Tree} (h:gH t=true):t.aE[0]?=some 0:=by
 have hl:=vU h;unfold gH at h;simp only[eY] at h
 have h0:0<t.aE.length:=by omega
 have:=h.2.2.1;rw[cm h0] at this ⊢;simp only[decide_eq_true_eq] at this;rw[this]
theorem WJ {t:Tree} (h:gH t=true):tot aP t.nodes≤220:=by
 have h1:=Qb aP 11 t.nodes fun n hn=>by
  have:=Le (Cc h hn);unfold aP;omega
 have h2:=vU h;omega
theorem abn {t:Tree} (h:gH t=true):cH t≤260:=by
 have h1:=WJ h;have h2:=vU h;unfold cH wY;omega
theorem agk {t:Tree} {k:Key} (h:(bw t k).2=true):gH (bw t k).1=true:=by
 unfold bw at h ⊢
 split
 ·split
  ·assumption
  ·rename_i h1 h2;rw[aI h1,aF h2] at h;cases h
 ·rename_i h1;rw[aF h1] at h;cases h
theorem Mw {t:Tree} {k:Key} (h:(bw t k).2=false):(bw t k).1=t:=by
 unfold bw at h ⊢
 split
 ·split
  ·rename_i h1 h2;rw[aI h1,aI h2] at h;cases h
  ·rfl
 ·rfl
theorem vV (t:Tree) (k:Key):cH (bw t k).1≤max (cH t) 260:=by
 cases h:(bw t k).2 with
 |true=>have:=abn (agk h);omega
 |false=>rw[Mw h];omega
theorem aeC {p:Pool} (h:c7 p=true):gH p.t=true:=by
 simp only[c7,eY] at h;exact h.2.1
theorem w9 {p:Pool} (h:c7 p=true):eK p.cells=true:=by
 simp only[c7,eY] at h;exact h.2.2.2.1
theorem agl {p:Pool} (h:c7 p=true):gZ p=true:=by
 simp only[c7,eY] at h;exact h.2.2.2.2.2.2
theorem aik {s:ByteArray} (h:jT s=true):1≤s.size∧s.size≤6:=by
 simp only[jT,eY,iC,decide_eq_true_eq] at h;omega
theorem ail {p:Pool} (h:jU p=true) {v:Vol} (hv:v∈p.au):jT v.name=true∧1≤v.size∧v.size≤12∧0≤fm p.aL v.cV:=by
 obtain⟨i,hi,rfl⟩:=List.getElem_of_mem hv;simp only[jU,eY,wZ] at h;have:=h.1 i hi;unfold cL at this;rw[cm hi] at this;simp only[eY,iC,decide_eq_true_eq,Gt,decide_eq_false_iff_not] at this;exact⟨this.1,this.2.1.1,this.2.1.2,by omega⟩
theorem abo {p:Pool} (h:c7 p=true):aJ p≤500:=by
 have h1:=abn (aeC h)
 have h2:p.aL.length≤16:=by
  have:=Sp h;simp only[gV,eY,decide_eq_true_eq] at this;exact this.2
 have h3:p.cells.length=24:=by
  have:=w9 h;simp only[eK,eY,decide_eq_true_eq] at this;exact this.2
 have hv:=wz h
 have h4:p.au.length≤6:=by
  simp only[jU,eY,decide_eq_true_eq] at hv;exact hv.2
 have h5:=Qb qd 6 p.au fun v hm=>(aik (ail hv hm).1).2;unfold aJ DQ;omega
theorem akF (p x:Pool):aJ (ack p x).1≤max (aJ p) 500:=by
 unfold ack
 split
 ·rename_i h;have:=abo h;simp only[];omega
 ·simp only[];omega
theorem JR (p x:Pool) (b:Bool):aJ (Ez p x b).1≤max (aJ p) 500:=by
 unfold Ez
 split
 ·exact akF p x
 ·simp only[];omega
def JS (p:Pool) (k:Key):List Cell:=if(w7 p.t k.b k.a).2=true∧(w7 p.t k.b k.a).1.k=1 then jY p.cells (w7 p.t k.b k.a).1.c else p.cells
def dV (p:Pool) (k:Key):Pool×Bool:=if(bw p.t k).2=true then(⟨(bw p.t k).1,p.aL,JS p k,p.au,p.next⟩,true) else(p,false)
theorem Oe (p:Pool) (k:Key):(JS p k).length=p.cells.length:=by
 unfold JS;split
 ·exact FY _ _
 ·rfl
theorem tj (p:Pool) (k:Key):aJ (dV p k).1≤aJ p+260:=by
 have h1:=vV p.t k;have h2:=Oe p k;unfold dV
 split
 ·unfold aJ;simp only[];omega
 ·simp only[];omega
theorem Of (p:Pool) (k:Key):(dV p k).1.aL=p.aL∧(dV p k).1.au=p.au∧(dV p k).1.next=p.next∧(dV p k).1.cells.length=p.cells.length:=by
 have h2:=Oe p k;unfold dV
 split
 ·exact⟨rfl,rfl,rfl,h2⟩
 ·exact⟨rfl,rfl,rfl,rfl⟩
def g9 (p:Pool) (s:ByteArray) (b:Int):Int:=
 if uE p s=true then(match fh p.au (cc p.au s) with
  |none=>2
  |some v=>if v.fx=true then 5 else if iC b 0 (v.size-1)=true then 0 else 4) else 1
theorem wA {p:Pool} {s:ByteArray} {b:Int} (h:g9 p s b=0): ∃v,fh p.au (cc p.au s)=some v∧uE p s=true∧v.fx=false∧0≤b∧b≤v.size-1:=by
 unfold g9 at h
 split at h
 ·rename_i hf
  split at h
  ·cases h
  ·rename_i v hv
   split at h
   ·cases h
   ·split at h
    ·rename_i h1 h2
     refine⟨v,hv,hf,by simpa using h1,?_⟩;simpa [iC] using h2
    ·cases h
 ·cases h
def ahx (l:List Cell) (i:Int):Int:=match fh l i with|some c=>c.g|none=>0
def acp (p:Pool) (b n:Int) (v:Vol):Pool×Bool:=dV ⟨p.t,p.aL,(jJ p.cells n).1,p.au,p.next⟩ ⟨b,v.cV,1,(jJ p.cells n).2.1,ahx (jJ p.cells n).1 (jJ p.cells n).2.1⟩
def mX (p:Pool) (s:ByteArray) (b n:Int):Pool×Int:=
 if g9 p s b=0 then(if iD n=true then(match fh p.au (cc p.au s) with
  |none=>(p,2)
  |some v=>if(jJ p.cells n).2.2=true then Ez p (acp p b n v).1 (acp p b n v).2 else(p,6)) else(p,4)) else(p,g9 p s b)
def cF (p:Pool) (cV b:Int):Pool×Bool:=
 if(tU p.t p.aL b cV).2=true∧(tU p.t p.aL b cV).1.k=1 then dV p ⟨b,cV,2,0,0⟩ else if(w7 p.t b cV).2=true then dV p ⟨b,cV,0,0,0⟩ else(p,true)
theorem zZ (p:Pool) (cV b:Int):aJ (cF p cV b).1≤aJ p+260:=by
 unfold cF
 split
 ·exact tj _ _
 ·split
  ·exact tj _ _
  ·simp only[];omega
theorem JT (p:Pool) (cV b:Int):(cF p cV b).1.aL=p.aL∧(cF p cV b).1.au=p.au∧(cF p cV b).1.next=p.next∧(cF p cV b).1.cells.length=p.cells.length:=by
 unfold cF
 split
 ·exact Of _ _
 ·split
  ·exact Of _ _
  ·exact⟨rfl,rfl,rfl,rfl⟩
def mQ (p:Pool) (s:ByteArray) (b:Int):Pool×Int:=
 if g9 p s b=0 then(match fh p.au (cc p.au s) with
  |none=>(p,2)
  |some v=>Ez p (cF p v.cV b).1 (cF p v.cV b).2) else(p,g9 p s b)
def yH (cV:Int):Nat→Int→Pool→Pool×Bool
 |0,_,p=>(p,true)
 |n+1,b,p=>if(cF p cV b).2=true then yH cV n (b-1) (cF p cV b).1 else(p,false)
def Cd (p:Pool) (i:Int) (n:Int):Pool:=⟨p.t,p.aL,p.cells,p.au.modify i.toNat fun u=>{u with size:=n},p.next⟩
def p5 (p:Pool) (s:ByteArray) (n:Int):Pool×Int:=
 if g9 p s 0=0 then(if iC n 1 12=true then(match fh p.au (cc p.au s) with
  |none=>(p,2)
  |some v=>Ez p (Cd (yH v.cV (v.size-n).toNat (v.size-1) p).1 (cc p.au s) n) (yH v.cV (v.size-n).toNat (v.size-1) p).2) else(p,4)) else(p,g9 p s 0)
theorem aim (p:Pool) (s:ByteArray) (b n:Int):aJ (mX p s b n).1≤max (aJ p) 500:=by
 unfold mX
 repeat' split
 all_goals first|exact Jk _ _|exact JR _ _ _
theorem aeD (p:Pool) (s:ByteArray) (b:Int):aJ (mQ p s b).1≤max (aJ p) 500:=by
 unfold mQ
 repeat' split
 all_goals first|exact Jk _ _|exact JR _ _ _
theorem agm (p:Pool) (s:ByteArray) (n:Int):aJ (p5 p s n).1≤max (aJ p) 500:=by
 unfold p5
 repeat' split
 all_goals first|exact Jk _ _|exact JR _ _ _
def pK (i:Int) (k:Key):Bool:=decide (k.k=1)&&decide (k.c=i)
def jS (p:Pool) (i:Int):Key:=match(aD p.t).find? (pK i) with|some k=>k|none=>fU
def sn (p:Pool) (i n:Int):Key:=⟨(jS p i).b,(jS p i).a,(jS p i).k,(jJ p.cells n).2.1,ahx (jJ p.cells n).1 (jJ p.cells n).2.1⟩
def GA (p:Pool) (i n:Int):Pool×Bool:=(⟨(bw p.t (sn p i n)).1,p.aL,jY (jJ p.cells n).1 i,p.au,p.next⟩,(bw p.t (sn p i n)).2)
def GB (p:Pool) (x:Pool×Bool):Pool×Bool:=if x.2=true∧c7 x.1=true then(x.1,true) else(p,false)
theorem aeE (p:Pool) (x:Pool×Bool):aJ (GB p x).1≤max (aJ p) 500:=by
 unfold GB
 split
 ·rename_i h;have:=abo h.2;simp only[];omega
 ·simp only[];omega
def jK (p:Pool) (i:Int):Pool×Bool:=
 if c7 p=true then(match fh p.cells i with
  |none=>(p,false)
  |some c=>if c.u=true∧0≤ff p.cells∧ff p.cells≤i then GB p (GA p i c.n) else(p,false)) else(p,false)
theorem aeF (p:Pool) (i:Int):aJ (jK p i).1≤max (aJ p) 500:=by
 unfold jK
 split
 ·split
  ·simp only[];omega
  ·split
   ·exact aeE _ _
   ·simp only[];omega
 ·simp only[];omega
def pL (l:List Age) (id fr:Int):List Age:=l.map fun a=>if a.fr=id then {a with fr:=fr} else a
def vW (l:List Age) (id:Int):List Age×Bool:=
 if gV l=true then(match fh l (fm l id) with
  |none=>(l,false)
  |some a=>((pL l id a.fr).take (fm l id).toNat++(pL l id a.fr).drop ((fm l id).toNat+1),true)) else(l,false)
theorem F2 (l:List Age) (id fr:Int):(pL l id fr).length=l.length:=by unfold pL;simp
theorem agn (l:List Age) (id:Int):(vW l id).1.length≤l.length:=by
 unfold vW
 repeat' split
 all_goals simp only[cG,eP,iT,F2];omega
def VB (p:Pool) (i:Int):Key:=match fh (aD p.t) i with|some k=>k|none=>fU
def fW (k:Key):Key:=⟨k.b,k.a,0,0,0⟩
def F3 (p:Pool) (k:Key):Key:=⟨k.b,Ey p k.a,k.k,k.c,k.g⟩
def Ce (p:Pool) (k:Key):Pool×Bool:=
 (⟨(bw (bw p.t (fW k)).1 (F3 p k)).1,p.aL,p.cells,p.au,p.next⟩,(bw p.t (fW k)).2&&(bw (bw p.t (fW k)).1 (F3 p k)).2)
def YG (p:Pool) (id:Int):Pool×Bool:=(⟨p.t,(vW p.aL id).1,p.cells,p.au,p.next⟩,(vW p.aL id).2)
def Sv (p:Pool) (j i:Int):Pool×Bool:=
 if j=4 then(match fh p.aL i with|some a=>YG p a.id|none=>(p,false)) else if j=3 then Ce p (VB p i) else dV p (fW (VB p i))
def jL (p:Pool):Pool×Bool:=if(c8 p).1=0 then(p,false) else GB p (Sv p (c8 p).1 (c8 p).2)
theorem acq (p:Pool):aJ (jL p).1≤max (aJ p) 500:=by
 unfold jL
 split
 ·simp only[];omega
 ·exact aeE _ _
def wB (x:Pool×Bool):Pool×Int:=if x.2=true then(x.1,0) else(x.1,2)
def iJ (p:Pool) (o:AF):Pool×Int:=
 if WA o=true∧c7 p=true then
  (if o.kind=1 then yj p o.name o.a else if o.kind=2 then LM p o.name o.to (decide (o.b=1)) else if o.kind=3 then JM p o.name
   else if o.kind=4 then mX p o.name o.a o.b else if o.kind=5 then mQ p o.name o.a else if o.kind=6 then p5 p o.name o.a
   else if o.kind=7 then wB (jL p) else if o.kind=8 then wB (qf p o.a) else wB (jK p o.a)) else(p,1)
def applyN (p:Pool) (l:List AF):Pool:=l.foldl (fun p o=>(iJ p o).1) p
def AK (p:Pool) (l:List AF):Pool:=applyN p (l.take 200)
theorem aeG (p:Pool) (s:ByteArray) (n:Int):aJ (yj p s n).1≤max (aJ p) 500:=by
 unfold yj
 repeat' split
 all_goals first|exact Jk _ _|exact JR _ _ _
theorem ain (p:Pool) (s to:ByteArray) (fx:Bool):aJ (LM p s to fx).1≤max (aJ p) 500:=by
 unfold LM
 repeat' split
 all_goals first|exact Jk _ _|exact JR _ _ _
theorem aio (p:Pool) (s:ByteArray):aJ (JM p s).1≤max (aJ p) 500:=by
 have:=akw p s;omega
theorem WK (x:Pool×Bool):aJ (wB x).1=aJ x.1:=by unfold wB;split<;>rfl
theorem Lf (p:Pool) (o:AF):aJ (iJ p o).1≤max (aJ p) 500:=by
 unfold iJ
 repeat' split
 ·exact aeG _ _ _
 ·exact ain _ _ _ _
 ·exact aio _ _
 ·exact aim _ _ _ _
 ·exact aeD _ _ _
 ·exact agm _ _ _
 ·rw[WK];exact acq _
 ·rw[WK];have:=aev p o.a;omega
 ·rw[WK];exact aeF _ _
 ·simp only[];omega
theorem abp: ∀(l:List AF) (p:Pool),aJ (applyN p l)≤max (aJ p) 500
 |[],p=>by show aJ p≤_;omega
 |o::r,p=>by
  have h1:=abp r (iJ p o).1;have h2:=Lf p o;show aJ (applyN (iJ p o).1 r)≤_;omega
end Go.T
namespace Go.T
theorem Lg {α:Type} (w:α→Nat): ∀l m:List α,tot w (l++m)=tot w l+tot w m
 |[],m=>by simp[tot]
 |a::l,m=>by simp only[R4,tot,Lg w l m];omega
theorem aoV {α:Type} {l:List α} {i:Nat} {a b:α} (ha:l[i]?=some a) (hb:l[i+1]?=some b):l=l.take i++a::b::l.drop (i+2):=by
 obtain⟨h1,e1⟩:=List.getElem?_eq_some_iff.1 ha;obtain⟨h2,e2⟩:=List.getElem?_eq_some_iff.1 hb
 conv=>lhs;rw[←Nv i l]
 rw[Gu h1,Gu h2,e1,e2]
theorem Mx (l:List Key):aP (dN l)≤l.length+1:=by
 have h1:=Ca l;have h2:=Cb l;unfold aP;omega
theorem kg {t:Tree} {i:Nat} {a:List (List Key)} (h:t.nodes[i]?=some a):lP t i=aU a:=by unfold lP;rw[wL,h];rfl
theorem x9 (n:Nat) (t:Tree):oH (n+1) t=match uK t with|none=>t|some i=>oH n (dS t i):=rfl
theorem Cg {t:Tree} {i:Nat} (h:i+1<t.nodes.length):tot aP (dS t i).nodes+(dS t i).nodes.length≤tot aP t.nodes+t.nodes.length:=by
 obtain⟨a,ha⟩: ∃a,t.nodes[i]?=some a:=⟨_,cm ay⟩;obtain⟨b,hb⟩: ∃b,t.nodes[i+1]?=some b:=⟨_,cm h⟩;have hl:=zY h;have hs:=congrArg (tot aP) (aoV ha hb);rw[Lg] at hs;simp only[tot] at hs;have la:=dx a;have lb:=dx b;have hn:=Mx (lP t i++lP t (i+1));rw[cG,kg ha,kg hb] at hn
 have e:tot aP (dS t i).nodes=tot aP (t.nodes.take i)+aP (dN (aU a++aU b))+tot aP (t.nodes.drop (i+2)):=by
  unfold dS oG;simp only[];rw[Lg,Lg,kg ha,kg hb];simp[tot]
 have sa:aP a=a.length+tot bZ a:=rfl;have sb:aP b=b.length+tot bZ b:=rfl;omega
theorem ago {n:Nat} {t:Tree} (h:uK t=none):oH n t=t:=by
 cases n with
 |zero=>rfl
 |succ n=>rw[x9,h]
theorem LN {t:Tree} {i:Nat} (h:i+1<t.nodes.length) (hl:t.aE.length=t.nodes.length):(dS t i).aE.length=(dS t i).nodes.length:=by
 have h1:=F1 t i 2 [t.aE.getD i 0] [dN (lP t i++lP t (i+1))] ay;have h2:=JQ t i 2 [t.aE.getD i 0] [dN (lP t i++lP t (i+1))] ay;simp only[gL] at h1 h2;unfold dS;omega
theorem aeH: ∀(n:Nat) (t:Tree),t.aE.length=t.nodes.length→tot aP (oH n t).nodes+(oH n t).nodes.length≤tot aP t.nodes+t.nodes.length∧(oH n t).aE.length=(oH n t).nodes.length
 |0,t,h=>⟨cX _,h⟩
 |n+1,t,h=>by
  rw[x9]
  cases hp:uK t with
  |none=>exact⟨cX _,h⟩
  |some i=>
   have hlt:=(x8 hp).1;have h1:=Cg hlt;have h2:=aeH n (dS t i) (LN hlt h);exact⟨by simp only[];omega,h2.2⟩
theorem aeI {k:Key} (h:jW k=true):0≤k.b∧k.b≤15∧1≤k.a∧k.a≤60∧0≤k.k∧k.k≤2:=by
 simp only[jW,iC,eY,decide_eq_true_eq] at h;omega
theorem amK {b a:Int} (h: -1000≤b∧b≤1000∧ -1000≤a∧a≤1000):jX b a=64*b+a:=by
 unfold jX;rw[amx ay,aG ay]
theorem agp {k:Key} (h:jW k=true):jX k.b k.a=64*k.b+k.a:=by
 have:=aeI h;exact amK ay
theorem WL {f:Int→Bool} {l:List Int} {x:Int} (h0:l[0]?=some x) (hx:f x=true): ∀n:Nat,0<n→n≤l.length→ ∃j:Nat,w6 f l n=j∧j<n
 |0,h,_=>by omega
 |n+1,_,hn=>by
  unfold w6;rw[cm ay];simp only[]
  split
  ·exact⟨n,rfl,by omega⟩
  ·rename_i hf
   cases n with
   |zero=>
    rw[cm ay] at h0
    cases h0;exact absurd hx hf
   |succ n=>
    obtain⟨j,h1,h2⟩:=WL h0 hx (n+1) ay ay;exact⟨j,h1,by omega⟩
theorem WM {t:Tree} {k:Key} (h:gH t=true) (hk:jW k=true): ∃j:Nat,pZ t k.b k.a=j∧j<t.nodes.length:=by
 have h1:=vU h;have h2:=aeI hk;have h3:=agp hk;unfold pZ;have:=WL (f:=fun x=>decide (x≤jX k.b k.a)) (agj h) (by simp only[decide_eq_true_eq];omega) t.aE.length ay (cX _);rw[h1.2.2] at this ⊢;exact this
theorem aeJ (n:List (List Key)) (k:Key):aP (cZ n k).1≤aP n+2:=by
 have h1:=JN n k;have h2:=JO n k;unfold aP;omega
theorem aip (t:Tree) (i c:Nat) (aE:List Int) (nodes:List (List (List Key))):tot aP (oG t i c aE nodes).nodes≤tot aP t.nodes+tot aP nodes:=by
 have h:tot aP (t.nodes.take i++t.nodes.drop i)=tot aP t.nodes:=by rw[Nv]
 have h2:tot aP (t.nodes.drop (i+c))≤tot aP (t.nodes.drop i):=by
  rw[←List.drop_drop]
  have h3:tot aP ((t.nodes.drop i).take c++(t.nodes.drop i).drop c)=tot aP (t.nodes.drop i):=by rw[Nv]
  rw[Lg] at h3;omega
 unfold oG;simp only[Lg] at h ⊢;omega
theorem amL {t:Tree} {i:Nat} {k:Key} (hl:t.aE.length=t.nodes.length) (hi:i<t.nodes.length) (ht: ∀n∈t.nodes,tot bZ n≤8∧n.length≤3):
 tot aP (nU t i k).nodes≤tot aP t.nodes+40∧(nU t i k).nodes.length≤t.nodes.length+1∧(nU t i k).aE.length=(nU t i k).nodes.length:=by
 have hn:=ht t.nodes[i] (Ec hi)
 have hg:t.nodes.getD i []=t.nodes[i]:=by rw[wL,cm hi];rfl
 have hp:=aeJ t.nodes[i] k;have hk:=tW t.nodes[i] k;have hz:aP t.nodes[i]=t.nodes[i].length+tot bZ t.nodes[i]:=rfl;unfold nU;rw[hg];generalize dy t.nodes[i] k=l at*;have e1:=Mx (l.take ((l.length+1)/2));have e2:=Mx (l.drop ((l.length+1)/2));rw[eP] at e1;rw[iT] at e2
 have key: ∀(aE:List Int) (nodes:List (List (List Key))),aE.length=nodes.length→nodes.length≤2→tot aP nodes≤40→tot aP (oG t i 1 aE nodes).nodes≤tot aP t.nodes+40∧(oG t i 1 aE nodes).nodes.length≤t.nodes.length+1∧(oG t i 1 aE nodes).aE.length=(oG t i 1 aE nodes).nodes.length:=by
  intro aE nodes h1 h2 h3;have h4:=aip t i 1 aE nodes;have h5:=JQ t i 1 aE nodes ay;have h6:=F1 t i 1 aE nodes ay;omega
 split
 ·split
  ·exact key _ _ rfl cY (by simp[tot])
  ·exact key _ _ rfl cY (by simp only[tot];omega)
 ·exact key _ _ rfl cY (by simp only[tot];omega)
theorem acr {t:Tree} (h:gH t=true): ∀n∈t.nodes,tot bZ n≤8∧n.length≤3:=fun n hn=>by
 have:=Le (Cc h hn);omega
theorem aeK {t:Tree} {i:Nat} {k:Key} (h:gH t=true) (hi:i<t.nodes.length):
 tot aP (nU t i k).nodes+(nU t i k).nodes.length≤300∧(nU t i k).aE.length=(nU t i k).nodes.length∧cH (oH (nU t i k).nodes.length (nU t i k))≤600:=by
 have h1:=vU h;have h2:=WJ h;have h3:=amL (k:=k) h1.2.2 hi (acr h);have h4:=aeH (nU t i k).nodes.length (nU t i k) h3.2.2;refine⟨by omega,h3.2.2,?_⟩;unfold cH wY;omega
theorem LO {α:Type} {w:α→Nat} {f:α→α} (hf: ∀a,w (f a)=w a): ∀(l:List α) (i:Nat),tot w (l.modify i f)=tot w l
 |[],i=>by cases i<;>rfl
 |a::r,0=>by rw[List.modify_zero_cons];simp only[tot,hf]
 |a::r,i+1=>by rw[List.modify_succ_cons];simp only[tot,LO hf r i]
theorem aeL (p:Pool) (i n:Int):aJ (Cd p i n)=aJ p:=by
 unfold aJ DQ Cd;simp only[R5];rw[LO (w:=qd) (f:=fun u:Vol=>{u with size:=n}) fun a=>rfl]
theorem ahy {n:Nat} (h:8<n):(n+1)/2<n:=by omega
end Go.T
namespace Go.T
def Ch:List Cell→Int→List Int
 |[],_=>[]
 |c::r,s=>if c.u=true then s::Ch r (s+1) else Ch r (s+1)
theorem JU: ∀(l:List Cell) (s:Int),(Ch l s).length=cv l
 |[],s=>rfl
 |c::r,s=>by
  have:=JU r (s+1);unfold cv at this ⊢;unfold Ch
  cases h:c.u<;>simp[h,this]
theorem JV: ∀{l:List Cell} {s:Int} {j:Nat} {c:Cell},l[j]?=some c→c.u=true→s+j∈Ch l s
 |[],s,j,c,h,_=>by simp at h
 |d::r,s,0,c,h,hu=>by
  simp only[gG,aY] at h;subst h;unfold Ch;rw[aI hu];simp
 |d::r,s,j+1,c,h,hu=>by
  have:=JV (l:=r) (s:=s+1) (j:=j) (by simpa using h) hu
  have e:s+((j+1:Nat):Int)=s+1+(j:Int):=by omega
  rw[e];unfold Ch
  split
  ·exact .tail _ this
  ·exact this
theorem ahz {α:Type} [DecidableEq α]: ∀(l m:List α),l.Nodup→(∀x∈l,x∈m)→l.length≤m.length
 |[],m,_,_=>Ee _
 |a::l,m,hn,hs=>by
  obtain⟨h1,h2⟩:=List.nodup_cons.1 hn;have hm:=hs a (.head _);have:=ahz l (m.erase a) h2 fun x hx=>(List.mem_erase_of_ne (fun e=>by subst e;exact h1 hx)).2 (hs x (.tail _ hx));rw[List.length_erase_of_mem hm] at this;have:=List.length_pos_of_mem hm;simp only[fX];omega
theorem aeM {l:List Cell} {i g:Int} (h:(cellAt l i g).2=true): ∃c,fh l i=some c∧c.u=true:=by
 unfold cellAt at h
 cases hc:fh l i with
 |none=>rw[hc] at h;cases h
 |some c=>
  rw[hc] at h;simp only at h
  split at h
  ·rename_i h1;exact⟨c,rfl,h1.1⟩
  ·cases h
theorem ahA {p:Pool} (h:gZ p=true) {i j:Nat} {x y:Key} (hi:(aD p.t)[i]?=some x) (hj:(aD p.t)[j]?=some y) (hx:x.k=1) (hy:y.k=1) (hc:x.c=y.c):i=j:=by
 unfold gZ at h;simp only[eY,wZ] at h
 have key: ∀{i j:Nat} {x y:Key},(aD p.t)[i]?=some x→(aD p.t)[j]?=some y→x.k=1→y.k=1→x.c=y.c→ ¬i<j:=by
  intro i j x y hi hj hx hy hc hlt;obtain⟨hjl,_⟩:=List.getElem?_eq_some_iff.1 hj;have:=h.1 j hjl;unfold dD at this;rw[hj] at this;simp only[eY,hy,decide_true,BI,Ji,Gt,List.any_eq_false] at this;have hm:x∈(aD p.t).take j:=gQ (i:=i) (by rw[BJ];simp[hlt,hi]);have:=this.2.2 x hm;simp[hx,hc] at this
 have h1:=key hi hj hx hy hc;have h2:=key hj hi hy hx hc.symm;omega
theorem akG {p:Pool} (h:gZ p=true) {x:Key} (hx:x∈aD p.t) (hk:x.k=1): ∃c,fh p.cells x.c=some c∧c.u=true:=by
 unfold gZ at h;simp only[eY,wZ] at h;obtain⟨i,hi,rfl⟩:=List.getElem_of_mem hx;have:=h.1 i hi;unfold dD at this;rw[cm hi] at this;simp only[eY,hk,decide_true,BI,Ji] at this;exact aeM this.2.1
theorem WN: ∀(l:List Key),(∀(i j:Nat) (x y:Key),l[i]?=some x→l[j]?=some y→x.k=1→y.k=1→x.c=y.c→i=j)→((l.filter fun k=>decide (k.k=1)).map (·.c)).Nodup
 |[],_=> .nil
 |a::l,h=>by
  have ih:=WN l fun i j x y h1 h2 h3 h4 h5=>by have:=h (i+1) (j+1) x y (by simpa using h1) (by simpa using h2) h3 h4 h5;omega
  by_cases ha:a.k=1
  ·rw[List.filter_cons_of_pos (by simpa using ha),List.map_cons]
   refine List.nodup_cons.2 ⟨fun hm=> ?_,ih⟩;obtain⟨b,hb,e⟩:=List.mem_map.1 hm;obtain⟨hb1,hb2⟩:=List.mem_filter.1 hb;obtain⟨j,hj⟩:=List.mem_iff_getElem?.1 hb1;have:=h 0 (j+1) a b rfl (by simpa using hj) ha (by simpa using hb2) e.symm;omega
  ·rw[List.filter_cons_of_neg (by simpa using ha)];exact ih
theorem akH {p:Pool} (h:gZ p=true) {i:Int} {c:Cell} (hc:fh p.cells i=some c) (hu:c.u=true): ∃x∈aD p.t,pK i x=true:=by
 have hi:0≤i∧i<p.cells.length:=Classical.byContradiction fun hn=>by rw[gE hn] at hc;cases hc
 obtain⟨n,rfl⟩: ∃n:Nat,i=n:=⟨i.toNat,by omega⟩;rw[aH] at hc
 apply Classical.byContradiction
 intro hno;have hn:=WN (aD p.t) fun i j x y h1 h2 h3 h4 h5=>ahA h h1 h2 h3 h4 h5
 have hsub: ∀y∈((aD p.t).filter fun k=>decide (k.k=1)).map (·.c),y∈(Ch p.cells 0).erase (n:Int):=by
  intro y hy;obtain⟨x,hx,rfl⟩:=List.mem_map.1 hy;obtain⟨hx1,hx2⟩:=List.mem_filter.1 hx
  have hx2:x.k=1:=by simpa using hx2
  obtain⟨d,hd,hdu⟩:=akG h hx1 hx2
  have hxi:0≤x.c∧x.c<p.cells.length:=Classical.byContradiction fun hn=>by rw[gE hn] at hd;cases hd
  obtain⟨m,hm⟩: ∃m:Nat,x.c=m:=⟨x.c.toNat,by omega⟩;rw[hm,aH] at hd;have:=JV (s:=0) hd hdu;refine(List.mem_erase_of_ne fun e=>hno ⟨x,hx1,by unfold pK;simp[hx2,e]⟩).2 ?_;rw[hm];simpa using this
 have hlen:=ahz _ _ hn hsub;have hm0:=JV (s:=0) hc hu;rw[List.length_erase_of_mem (by simpa using hm0),JU,bY] at hlen;have hpos:=List.length_pos_of_mem hm0;rw[JU] at hpos;unfold gZ cU at h;simp only[eY,decide_eq_true_eq] at h;have:=h.2;omega
theorem agq {p:Pool} (h:gZ p=true) {i:Int} {c:Cell} (hc:fh p.cells i=some c) (hu:c.u=true):
 ∃m:Nat,(aD p.t)[m]?=some (jS p i)∧pK i (jS p i)=true∧(∀j x,(aD p.t)[j]?=some x→pK i x=true→j=m):=by
 obtain⟨x,hx,ho⟩:=akH h hc hu;unfold jS
 cases hf:(aD p.t).find? (pK i) with
 |none=>exact absurd ho (by simpa using List.find?_eq_none.1 hf x hx)
 |some k=>
  have h1:=List.find?_some hf;obtain⟨m,hm⟩:=List.mem_iff_getElem?.1 (List.mem_of_find?_eq_some hf);refine⟨m,hm,h1,fun j y hj hy=> ?_⟩;unfold pK at h1 hy;simp only[eY,decide_eq_true_eq] at h1 hy;exact ahA h hj hm hy.1 h1.1 (by rw[hy.2,h1.2])
end Go.T
namespace Go.T
theorem bN {P:Prop} (h:P:=by
 repeat' first
  |assumption
  |exact rfl
  |exact⟨rfl,rfl⟩
  |exact⟨rfl,trivial⟩
  |refine⟨_,_,_,_,_,_,_,by assumption,?_⟩
  |refine⟨_,_,_,_,_,_,by assumption,?_⟩
  |refine⟨_,_,_,_,_,by assumption,?_⟩
  |refine⟨_,_,_,_,by assumption,?_⟩
  |refine⟨_,_,_,by assumption,?_⟩
  |refine⟨_,_,by assumption,?_⟩
  |refine⟨_,by assumption,?_⟩
  |refine ah (by first|rfl|assumption|(rw[bE];rfl)) ?_
  |refine an (by first|rfl|assumption|(rw[bE];rfl)) ?_
  |refine⟨(_,_),?_,?_,rfl⟩
  |refine⟨(_,_),?_,?_,rfl,rfl⟩
  |refine⟨?_,?_⟩):P:=h
end Go.T
