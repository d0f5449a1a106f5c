import Derived.Test.YtlkjkfidmkdchaaGreatT5
set_option linter.all false
namespace Go.T
def afL (cf:Cf):Prop:= ∀f vs r fs r' fs',cf f vs r fs→cf f vs r' fs'→r=r'∧fs=fs'
def ahV (lp:Lp):Prop:= ∀f i c st (Q Q':TX→TS→Prop),lp f i c st Q→lp f i c st Q'→ ∃x s,Q x s∧Q' x s
theorem qn {R:Type} {cf:Cf} {lp:Lp} (hc:afL cf) (hl:ahV lp) {Q Q':R→Prop}: ∀(e:Ev R),e.holds cf lp Q→e.holds cf lp Q'→ ∃r,Q r∧Q' r
 | .fail,h,_=>h.elim
 | .ret r,h,h'=>⟨r,h,h'⟩
 | .test b k,h,h'=>qn hc hl (k b) h h'
 | .row rows i k,⟨c,h1,h2⟩,⟨c',Bw,OA⟩=>by
   rw[h1] at Bw;cases Bw;exact qn hc hl (k c) h2 OA
 | .byte rows i k,⟨c,h1,h2⟩,⟨c',Bw,OA⟩=>by
   rw[h1] at Bw;cases Bw;exact qn hc hl (k c) h2 OA
 | .bytes rows k,⟨c,h1,h2⟩,⟨c',Bw,OA⟩=>by
   rw[h1] at Bw;cases Bw;exact qn hc hl (k c) h2 OA
 | .call f vs k,⟨r,fs,h1,h2⟩,⟨r',fs',Bw,OA⟩=>by
   obtain⟨rfl,rfl⟩:=hc _ _ _ _ _ _ h1 Bw;exact qn hc hl (k r fs) h2 OA
 | .loop f i c st k,h,h'=>by
   obtain⟨x,s,h1,h2⟩:=hl _ _ _ _ _ _ h h';exact qn hc hl (k x s) h1 h2
 | .both a b,⟨r,h1,h2,h3⟩,⟨r',Bw,OA,ZZ⟩=>by
   obtain⟨r0,e1,e2⟩:=qn hc hl a h1 Bw;subst e1 e2;exact⟨_,h3,ZZ⟩
section
variable {C : mA}
theorem W9 {cf:Cf} {lp:Lp} (hc:afL cf) (hl:ahV lp) {fx:List Nat} {f i:Nat} {c:Code} {Q Q':TX→TS→Prop}: ∀(n:Nat) (st:TS),iter C cf lp fx f i c Q n st→iter C cf lp fx f i c Q' n st→ ∃x s,Q x s∧Q' x s
 |0,_,h,_=>h.elim
 |n+1,st,h,h'=>by
  obtain⟨⟨x,s⟩,h1,h2⟩:=qn hc hl _ h h'
  cases x with
  |norm=>
   simp only at h1 h2;rw[sZ] at h1 h2;exact W9 hc hl n _ h1 h2
  |ex id=>exact⟨_,_,h1,h2⟩
  |ret=>exact⟨_,_,h1,h2⟩
theorem aaL {cf:Cf} (hc:afL cf) (k:Nat) (fx:List Nat): ∀n,ahV (YL C cf k fx n)
 |0=>fun _ _ _ _ _ _ h _=>h.elim
 |n+1=>fun f i c st Q Q' h h'=>W9 hc (aaL hc k fx n) k st h h'
theorem Kt: ∀k,afL (jT C k)
 |0=>fun _ _ _ _ _ _ h _=>h.elim
 |k+1=>fun f vs r fs r' fs' h h'=>by
  unfold jT at h h'
  cases hx:C.ext f with
  |some p=>rw[hx] at h h';have h:p vs=some (r,fs):=h;have h':p vs=some (r',fs'):=h';rw[h] at h';cases h';exact⟨rfl,rfl⟩
  |none=>
  rw[hx] at h h';simp only at h h';obtain⟨p,h1,h2⟩:=qn (Kt k) (aaL (Kt k) k _ 4) _ h h';rw[h1] at h2
  cases h2
  exact⟨rfl,rfl⟩
theorem ai.det {f:FuncId} {vs:List TV} {r r':TV} {fs fs':List TV} (h:ai C f vs r fs) (h':ai C f vs r' fs'):r'=r∧fs'=fs:=by
 obtain⟨k,h⟩:=h;obtain⟨k',h'⟩:=h';obtain⟨h1,h2⟩:=Kt (max k k') _ _ _ _ _ _ (oq (EF _ _) h) (oq (Nat.le_max_right _ _) h');exact⟨h1.symm,h2.symm⟩
end
def eI {α:Type} (l:List α) (i:Int):Option α:=if 0≤i then l[i.toNat]? else none
theorem aN {α:Type} (l:List α) (i:Nat):eI l (i:Int)=l[i]?:=by
 unfold eI;rw[aT (Int.natCast_nonneg i),pT]
theorem gj {α:Type} {l:List α} {i:Int} (h0:0≤i) (h1:i<l.length): ∃a,eI l i=some a:=by
 unfold eI;rw[aT h0];exact⟨_,bH az⟩
theorem jF {α:Type} {l:List α} {i:Int} (h: ¬(0≤i∧i<l.length)):eI l i=none:=by
 unfold eI
 split
 ·exact Tg az
 ·rfl
theorem aY {α:Type} (e:α→List TC) (l:List α) (i:Int):rowAt (l.map e) i=(eI l i).map e:=by
 unfold rowAt eI
 split
 ·rw[kg]
 ·rfl
theorem uW {α:Type} {l:List α} {i:Int} {a:α} (h:eI l i=some a):a∈l:=by
 unfold eI at h
 split at h
 ·exact ja h
 ·cases h
def qo {α:Type} (l:List α) (i:Int) (a:α):List α:=l.set i.toNat a
theorem lE {α:Type} (l:List α) (i:Int) (a:α):(qo l i a).length=l.length:=by unfold qo;simp
theorem lF {α:Type} {e:α→List TC} {l:List α} {i:Int} {a a':α} {f:Nat} {cs:List TC} (h:eI l i=some a) (he:(e a).take f++cs++(e a).drop (f+cs.length)=e a'):setRow (l.map e) i f cs=(qo l i a').map e:=by
 unfold eI at h
 split at h
 ·unfold setRow qo
  rw[kg,h];simp only[nB,he,List.map_set]
 ·cases h
@[simp] theorem bZ {α:Type} (e:α→List TC) (l:List α) (a b:Int):au (l.map e) a b=((l.take b.toNat).drop a.toNat).map e:=by
  unfold au;rw[←Wi,←Ti]
theorem xo {rows:List (List TC)} (h: ∀r∈rows,∀c∈r,∃v,c= .sc v):bM rows=true:=by
 unfold bM;rw[List.all_eq_true];intro r hr;rw[List.all_eq_true];intro c hc;obtain⟨v,rfl⟩:=h r hr c hc
 rfl
@[simp] theorem adH (s:ByteArray):(ByteArray.data s).1.length=s.size:=rfl
@[simp] theorem E0 (l h n:Int):ew l h n=decide (0≤l∧l≤h∧h≤n):=by unfold ew;rfl
end Go.T
namespace Go.T
structure Key where
 b:Int
 a:Int
 k:Int
 c:Int
 g:Int
 deriving DecidableEq
structure mw where
 id:Int
 fr:Int
 deriving DecidableEq
structure Cell where
 g:Int
 u:Bool
 n:Int
 deriving DecidableEq
structure jU where
 name:ByteArray
 dJ:Int
 size:Int
 fx:Bool
structure Mp where
 name:ByteArray
 fx:Bool
 l:List Int
structure Tree where
 ax:List Int
 nodes:List (List (List Key))
structure bg where
 t:Tree
 aU:List mw
 cells:List Cell
 aq:List jU
 next:Int
structure JW where
 kind:Int
 name:ByteArray
 to:ByteArray
 a:Int
 b:Int
abbrev iI (n:Int):TC:= .sc (.int .i64 n)
abbrev iB (b:Bool):TC:= .sc (.bool b)
abbrev iS (s:ByteArray):TC:= .sc (.string s)
abbrev cI (n:Int):CE:= .sc (.int .i64 n)
abbrev cB (b:Bool):CE:= .sc (.bool b)
abbrev cS (s:ByteArray):CE:= .sc (.string s)
abbrev aE (a b:Int):Int:=YD .i64 a b
abbrev dV (a b:Int):Int:=OF .i64 a b
abbrev Hy (a b:Int):Int:=YE .i64 a b
theorem aO {a b:Int} (h: -9223372036854775808≤a+b∧a+b≤9223372036854775807):aE a b=a+b:=afI h
theorem dL {a b:Int} (h: -9223372036854775808≤a-b∧a-b≤9223372036854775807):dV a b=a-b:=afJ h
theorem afM {a b:Int} (h: -9223372036854775808≤a*b∧a*b≤9223372036854775807):Hy a b=a*b:=U3 h
abbrev RR:=List (List TC)
abbrev QV:=TV→List TV→Prop
abbrev QX:=TX→TS→Prop
abbrev sI:Sh:= .int .i64
abbrev sB:Sh:= .bool
abbrev sS:Sh:= .str
abbrev hz:Hint:= .z
abbrev hb:Hint→Hint→Hint:= .br
abbrev hr:List Sh→Hint→Hint:= .row
abbrev hc:wS→List wS→Hint→Hint:= .call
abbrev lS:ByteArray:=⟨#[]⟩
def bI (n:Int):List TC:=[.sc (.int .i64 n)]
def jY (n:Int):List TC:=[.sc (.int .u8 n)]
def L4 (n:Bool):List TC:=[.sc (.bool n)]
def bG (x:Key):List TC:=[.sc (.int .i64 x.b),.sc (.int .i64 x.a),.sc (.int .i64 x.k),.sc (.int .i64 x.c),.sc (.int .i64 x.g)]
def bS (x:mw):List TC:=[.sc (.int .i64 x.id),.sc (.int .i64 x.fr)]
def bR (x:Cell):List TC:=[.sc (.int .i64 x.g),.sc (.bool x.u),.sc (.int .i64 x.n)]
def cj (x:jU):List TC:=[.sc (.string x.name),.sc (.int .i64 x.dJ),.sc (.int .i64 x.size),.sc (.bool x.fx)]
def Ku (x:JW):List TC:=[.sc (.int .i64 x.kind),.sc (.string x.name),.sc (.string x.to),.sc (.int .i64 x.a),.sc (.int .i64 x.b)]
def AI (x:Mp):List TC:=[.sc (.string x.name),.sc (.bool x.fx),.sub 1 (x.l.map bI)]
def adI (x:List Int):List TC:=[.sub 1 (x.map jY)]
def eP (x:List Key):List TC:=[.sub 5 (x.map bG)]
def aX (x:List (List Key)):List TC:=[.sub 1 (x.map eP)]
abbrev adJ (t:Tree):List TC:=[.sub 1 (t.ax.map bI),.sub 1 (t.nodes.map aX)]
abbrev yN (p:bg):List TC:=[.sub 1 (p.t.ax.map bI),.sub 1 (p.t.nodes.map aX),.sub 2 (p.aU.map bS),.sub 3 (p.cells.map bR),.sub 4 (p.aq.map cj),.sc (.int .i64 p.next)]
abbrev vI (n:Int):TV:= .c (.sc (.int .i64 n))
abbrev vB (b:Bool):TV:= .c (.sc (.bool b))
abbrev vS (s:ByteArray):TV:= .c (.sc (.string s))
abbrev qP (l:List Int):TV:= .c (.sub 1 (l.map bI))
abbrev th (l:List Int):TV:= .c (.sub 1 (l.map jY))
abbrev dR (l:List Key):TV:= .c (.sub 5 (l.map bG))
abbrev adK (l:List (List (List Key))):TV:= .c (.sub 1 (l.map aX))
abbrev lX (l:List mw):TV:= .c (.sub 2 (l.map bS))
abbrev mE (l:List Cell):TV:= .c (.sub 3 (l.map bR))
abbrev yO (l:List jU):TV:= .c (.sub 4 (l.map cj))
abbrev TT (l:List Mp):TV:= .c (.sub 3 (l.map AI))
abbrev AJ (k:Key):TV:= .ag [.sc (.int .i64 k.b),.sc (.int .i64 k.a),.sc (.int .i64 k.k),.sc (.int .i64 k.c),.sc (.int .i64 k.g)]
abbrev mW (n:List (List Key)):TV:= .ag [.sub 1 (n.map eP)]
abbrev eD (t:Tree):TV:= .ag (adJ t)
abbrev dK (p:bg):TV:= .ag (yN p)
section
variable {i : Int}
@[simp] theorem zW {l:List Int} {K:Int→Prop}:(∃n,rowAt (l.map bI) i=some [.sc (.int .i64 n)]∧K n)↔ ∃a,eI l i=some a∧K a:=by
  rw[aY]
  constructor
  ·rintro⟨n,h,hK⟩
   obtain⟨a,ha,h⟩:=Option.map_eq_some_iff.1 h;unfold bI at h;cases h;exact⟨_,ha,hK⟩
  ·rintro⟨a,ha,hK⟩
   exact⟨_,by rw[ha];rfl,hK⟩
@[simp] theorem akh {l:List Int} {K:Int→Prop}:(∃n,rowAt (l.map jY) i=some [.sc (.int .u8 n)]∧K n)↔ ∃a,eI l i=some a∧K a:=by
  rw[aY]
  constructor
  ·rintro⟨n,h,hK⟩
   obtain⟨a,ha,h⟩:=Option.map_eq_some_iff.1 h;unfold jY at h;cases h;exact⟨_,ha,hK⟩
  ·rintro⟨a,ha,hK⟩
   exact⟨_,by rw[ha];rfl,hK⟩
@[simp] theorem afN {l:List Bool} {K:Bool→Prop}:(∃n,rowAt (l.map L4) i=some [.sc (.bool n)]∧K n)↔ ∃a,eI l i=some a∧K a:=by
  rw[aY]
  constructor
  ·rintro⟨n,h,hK⟩
   obtain⟨a,ha,h⟩:=Option.map_eq_some_iff.1 h;unfold L4 at h;cases h;exact⟨_,ha,hK⟩
  ·rintro⟨a,ha,hK⟩
   exact⟨_,by rw[ha];rfl,hK⟩
@[simp] theorem nr {l:List Key} {K:Int→Int→Int→Int→Int→Prop}:(∃b a k c g,rowAt (l.map bG) i=some [.sc (.int .i64 b),.sc (.int .i64 a),.sc (.int .i64 k),.sc (.int .i64 c),.sc (.int .i64 g)]∧K b a k c g)↔ ∃x,eI l i=some x∧K x.b x.a x.k x.c x.g:=by
  rw[aY]
  constructor
  ·rintro⟨_,_,_,_,_,h,hK⟩
   obtain⟨a,ha,h⟩:=Option.map_eq_some_iff.1 h;unfold bG at h;cases h;exact⟨_,ha,hK⟩
  ·rintro⟨a,ha,hK⟩
   exact⟨_,_,_,_,_,by rw[ha];rfl,hK⟩
@[simp] theorem xp {l:List mw} {K:Int→Int→Prop}:(∃b a,rowAt (l.map bS) i=some [.sc (.int .i64 b),.sc (.int .i64 a)]∧K b a)↔ ∃x,eI l i=some x∧K x.id x.fr:=by
  rw[aY]
  constructor
  ·rintro⟨_,_,h,hK⟩
   obtain⟨a,ha,h⟩:=Option.map_eq_some_iff.1 h;unfold bS at h;cases h;exact⟨_,ha,hK⟩
  ·rintro⟨a,ha,hK⟩
   exact⟨_,_,by rw[ha];rfl,hK⟩
@[simp] theorem qp {l:List Cell} {K:Int→Bool→Int→Prop}:(∃g u n,rowAt (l.map bR) i=some [.sc (.int .i64 g),.sc (.bool u),.sc (.int .i64 n)]∧K g u n)↔ ∃x,eI l i=some x∧K x.g x.u x.n:=by
  rw[aY]
  constructor
  ·rintro⟨_,_,_,h,hK⟩
   obtain⟨a,ha,h⟩:=Option.map_eq_some_iff.1 h;unfold bR at h;cases h;exact⟨_,ha,hK⟩
  ·rintro⟨a,ha,hK⟩
   exact⟨_,_,_,by rw[ha];rfl,hK⟩
@[simp] theorem vp {l:List jU} {K:ByteArray→Int→Int→Bool→Prop}:(∃s a z f,rowAt (l.map cj) i=some [.sc (.string s),.sc (.int .i64 a),.sc (.int .i64 z),.sc (.bool f)]∧K s a z f)↔ ∃x,eI l i=some x∧K x.name x.dJ x.size x.fx:=by
  rw[aY]
  constructor
  ·rintro⟨_,_,_,_,h,hK⟩
   obtain⟨a,ha,h⟩:=Option.map_eq_some_iff.1 h;unfold cj at h;cases h;exact⟨_,ha,hK⟩
  ·rintro⟨a,ha,hK⟩
   exact⟨_,_,_,_,by rw[ha];rfl,hK⟩
@[simp] theorem amp {l:List JW} {K:Int→ByteArray→ByteArray→Int→Int→Prop}:(∃k s t a b,rowAt (l.map Ku) i=some [.sc (.int .i64 k),.sc (.string s),.sc (.string t),.sc (.int .i64 a),.sc (.int .i64 b)]∧K k s t a b)↔ ∃x,eI l i=some x∧K x.kind x.name x.to x.a x.b:=by
  rw[aY]
  constructor
  ·rintro⟨_,_,_,_,_,h,hK⟩
   obtain⟨a,ha,h⟩:=Option.map_eq_some_iff.1 h;unfold Ku at h;cases h;exact⟨_,ha,hK⟩
  ·rintro⟨a,ha,hK⟩
   exact⟨_,_,_,_,_,by rw[ha];rfl,hK⟩
@[simp] theorem akR {l:List Mp} {K:ByteArray→Bool→List (List TC)→Prop}:(∃s f r,rowAt (l.map AI) i=some [.sc (.string s),.sc (.bool f),.sub 1 r]∧K s f r)↔ ∃x,eI l i=some x∧K x.name x.fx (x.l.map bI):=by
  rw[aY]
  constructor
  ·rintro⟨_,_,_,h,hK⟩
   obtain⟨a,ha,h⟩:=Option.map_eq_some_iff.1 h;unfold AI at h;cases h;exact⟨_,ha,hK⟩
  ·rintro⟨a,ha,hK⟩
   exact⟨_,_,_,by rw[ha];rfl,hK⟩
@[simp] theorem E1 {l:List (List Key)} {K:List (List TC)→Prop}:(∃r,rowAt (l.map eP) i=some [.sub 5 r]∧K r)↔ ∃x,eI l i=some x∧K (x.map bG):=by
  rw[aY]
  constructor
  ·rintro⟨_,h,hK⟩
   obtain⟨a,ha,h⟩:=Option.map_eq_some_iff.1 h;unfold eP at h;cases h;exact⟨_,ha,hK⟩
  ·rintro⟨a,ha,hK⟩
   exact⟨_,by rw[ha];rfl,hK⟩
@[simp] theorem BT {l:List (List (List Key))} {K:List (List TC)→Prop}:(∃r,rowAt (l.map aX) i=some [.sub 1 r]∧K r)↔ ∃x,eI l i=some x∧K (x.map eP):=by
  rw[aY]
  constructor
  ·rintro⟨_,h,hK⟩
   obtain⟨a,ha,h⟩:=Option.map_eq_some_iff.1 h;unfold aX at h;cases h;exact⟨_,ha,hK⟩
  ·rintro⟨a,ha,hK⟩
   exact⟨_,by rw[ha];rfl,hK⟩
@[simp] theorem ajj {l:List (List Int)} {K:List (List TC)→Prop}:(∃r,rowAt (l.map adI) i=some [.sub 1 r]∧K r)↔ ∃x,eI l i=some x∧K (x.map jY):=by
  rw[aY]
  constructor
  ·rintro⟨_,h,hK⟩
   obtain⟨a,ha,h⟩:=Option.map_eq_some_iff.1 h;unfold adI at h;cases h;exact⟨_,ha,hK⟩
  ·rintro⟨a,ha,hK⟩
   exact⟨_,by rw[ha];rfl,hK⟩
end
@[simp] theorem natAdd (a b:Nat):Nat.add a b=a+b:=rfl
@[simp] theorem aaM {α:Type} (a b:List α):List.append a b=a++b:=rfl
theorem kk (l:List Int):bM (l.map bI)=true:=xo fun r hr c hc=>by
 obtain⟨a,_,rfl⟩:=List.mem_map.1 hr;unfold bI at hc;simp only[jS] at hc;exact⟨_,hc⟩
theorem Zm (l:List Int):bM (l.map jY)=true:=xo fun r hr c hc=>by
 obtain⟨a,_,rfl⟩:=List.mem_map.1 hr;unfold jY at hc;simp only[jS] at hc;exact⟨_,hc⟩
theorem lM (l:List Key):bM (l.map bG)=true:=xo fun r hr c hc=>by
 obtain⟨a,_,rfl⟩:=List.mem_map.1 hr;unfold bG at hc;simp only[ef,List.not_mem_nil,or_false] at hc;rcases hc with h|h|h|h|h<;>exact⟨_,h⟩
theorem AK (l:List mw):bM (l.map bS)=true:=xo fun r hr c hc=>by
 obtain⟨a,_,rfl⟩:=List.mem_map.1 hr;unfold bS at hc;simp only[ef,List.not_mem_nil,or_false] at hc;rcases hc with h|h<;>exact⟨_,h⟩
theorem Pv (l:List Cell):bM (l.map bR)=true:=xo fun r hr c hc=>by
 obtain⟨a,_,rfl⟩:=List.mem_map.1 hr;unfold bR at hc;simp only[ef,List.not_mem_nil,or_false] at hc;rcases hc with h|h|h<;>exact⟨_,h⟩
theorem wU (l:List jU):bM (l.map cj)=true:=xo fun r hr c hc=>by
 obtain⟨a,_,rfl⟩:=List.mem_map.1 hr;unfold cj at hc;simp only[ef,List.not_mem_nil,or_false] at hc;rcases hc with h|h|h|h<;>exact⟨_,h⟩
@[simp] theorem Kv (v:Value):bM [[.sc v]]=true:=xo fun r hr c hc=>by
  simp only[jS] at hr;subst hr;simp only[jS] at hc;exact⟨_,hc⟩
attribute [simp] kk Zm lM AK Pv wU
end Go.T
namespace Go.T
theorem TU {α:Type} (g:α→α): ∀(l:List α) (i:Nat) (a:α),l[i]?=some a→l.modify i g=l.set i (g a)
 |[],i,a,h=>by simp at h
 |x::r,0,a,h=>by simp only[fM,bq] at h;subst h;rfl
 |x::r,i+1,a,h=>by
  simp only[sP] at h;rw[List.modify_succ_cons,List.set_cons_succ,TU g r i a h]
theorem cz {α:Type} {e:α→List TC} {l:List α} {i:Int} {f:Nat} {cs:List TC} {g:α→α} (he: ∀a,(e a).take f++cs++(e a).drop (f+cs.length)=e (g a)):setRow (l.map e) i f cs=(l.modify i.toNat g).map e:=by
 unfold setRow;rw[kg]
 cases h:l[i.toNat]? with
 |none=>
  have:l.length≤i.toNat:=List.getElem?_eq_none_iff.1 h;simp only[Option.map_none];rw[List.modify_eq_self this]
 |some a=>
  simp only[nB];rw[he,TU g l _ a h,List.map_set]
theorem adL {α:Type} {l:List α} {i:Int} {g:α→α}:eI (l.modify i.toNat g) i=(eI l i).map g:=by
 unfold eI
 split
 ·simp
 ·rfl
theorem mod_mod {α:Type} {l:List α} {i:Nat} {f g:α→α}:(l.modify i f).modify i g=l.modify i (fun x=>g (f x)):=by
 rw[List.modify_modify_eq];rfl
theorem Xc {α β:Type} {o:Option α} {f:α→β} {K:β→Prop}:(∃x,o.map f=some x∧K x)↔ ∃x,o=some x∧K (f x):=by
 cases o with
 |none=>simp
 |some a=>simp
@[simp] theorem ajk {l:List Key} {i:Int} {v:Int}:setRow (l.map bG) i 0 [.sc (.int .i64 v)]=(l.modify i.toNat fun x=>{x with b:=v}).map bG:=cz fun a=>rfl
@[simp] theorem ajl {l:List Key} {i:Int} {v:Int}:setRow (l.map bG) i 1 [.sc (.int .i64 v)]=(l.modify i.toNat fun x=>{x with a:=v}).map bG:=cz fun a=>rfl
@[simp] theorem ajm {l:List Key} {i:Int} {v:Int}:setRow (l.map bG) i 2 [.sc (.int .i64 v)]=(l.modify i.toNat fun x=>{x with k:=v}).map bG:=cz fun a=>rfl
@[simp] theorem ajn {l:List Key} {i:Int} {v:Int}:setRow (l.map bG) i 3 [.sc (.int .i64 v)]=(l.modify i.toNat fun x=>{x with c:=v}).map bG:=cz fun a=>rfl
@[simp] theorem ajo {l:List Key} {i:Int} {v:Int}:setRow (l.map bG) i 4 [.sc (.int .i64 v)]=(l.modify i.toNat fun x=>{x with g:=v}).map bG:=cz fun a=>rfl
@[simp] theorem akS {l:List Key} {i:Int} {v0:Int} {v1:Int} {v2:Int} {v3:Int} {v4:Int}:setRow (l.map bG) i 0 [.sc (.int .i64 v0),.sc (.int .i64 v1),.sc (.int .i64 v2),.sc (.int .i64 v3),.sc (.int .i64 v4)]=(l.modify i.toNat fun _=>⟨v0,v1,v2,v3,v4⟩).map bG:=cz fun a=>rfl
@[simp] theorem aiH {l:List mw} {i:Int} {v:Int}:setRow (l.map bS) i 0 [.sc (.int .i64 v)]=(l.modify i.toNat fun x=>{x with id:=v}).map bS:=cz fun a=>rfl
@[simp] theorem aiI {l:List mw} {i:Int} {v:Int}:setRow (l.map bS) i 1 [.sc (.int .i64 v)]=(l.modify i.toNat fun x=>{x with fr:=v}).map bS:=cz fun a=>rfl
@[simp] theorem akT {l:List mw} {i:Int} {v0:Int} {v1:Int}:setRow (l.map bS) i 0 [.sc (.int .i64 v0),.sc (.int .i64 v1)]=(l.modify i.toNat fun _=>⟨v0,v1⟩).map bS:=cz fun a=>rfl
@[simp] theorem aiJ {l:List Cell} {i:Int} {v:Int}:setRow (l.map bR) i 0 [.sc (.int .i64 v)]=(l.modify i.toNat fun x=>{x with g:=v}).map bR:=cz fun a=>rfl
@[simp] theorem abC {l:List Cell} {i:Int} {v:Bool}:setRow (l.map bR) i 1 [.sc (.bool v)]=(l.modify i.toNat fun x=>{x with u:=v}).map bR:=cz fun a=>rfl
@[simp] theorem abD {l:List Cell} {i:Int} {v:Int}:setRow (l.map bR) i 2 [.sc (.int .i64 v)]=(l.modify i.toNat fun x=>{x with n:=v}).map bR:=cz fun a=>rfl
@[simp] theorem afO {l:List Cell} {i:Int} {v0:Int} {v1:Bool} {v2:Int}:setRow (l.map bR) i 0 [.sc (.int .i64 v0),.sc (.bool v1),.sc (.int .i64 v2)]=(l.modify i.toNat fun _=>⟨v0,v1,v2⟩).map bR:=cz fun a=>rfl
@[simp] theorem ag6 {l:List jU} {i:Int} {v:ByteArray}:setRow (l.map cj) i 0 [.sc (.string v)]=(l.modify i.toNat fun x=>{x with name:=v}).map cj:=cz fun a=>rfl
@[simp] theorem Zn {l:List jU} {i:Int} {v:Int}:setRow (l.map cj) i 1 [.sc (.int .i64 v)]=(l.modify i.toNat fun x=>{x with dJ:=v}).map cj:=cz fun a=>rfl
@[simp] theorem Xd {l:List jU} {i:Int} {v:Int}:setRow (l.map cj) i 2 [.sc (.int .i64 v)]=(l.modify i.toNat fun x=>{x with size:=v}).map cj:=cz fun a=>rfl
@[simp] theorem aiK {l:List jU} {i:Int} {v:Bool}:setRow (l.map cj) i 3 [.sc (.bool v)]=(l.modify i.toNat fun x=>{x with fx:=v}).map cj:=cz fun a=>rfl
@[simp] theorem akU {l:List jU} {i:Int} {v0:ByteArray} {v1:Int} {v2:Int} {v3:Bool}:setRow (l.map cj) i 0 [.sc (.string v0),.sc (.int .i64 v1),.sc (.int .i64 v2),.sc (.bool v3)]=(l.modify i.toNat fun _=>⟨v0,v1,v2,v3⟩).map cj:=cz fun a=>rfl
@[simp] theorem ahW {l:List JW} {i:Int} {v:Int}:setRow (l.map Ku) i 0 [.sc (.int .i64 v)]=(l.modify i.toNat fun x=>{x with kind:=v}).map Ku:=cz fun a=>rfl
@[simp] theorem ahX {l:List JW} {i:Int} {v:ByteArray}:setRow (l.map Ku) i 1 [.sc (.string v)]=(l.modify i.toNat fun x=>{x with name:=v}).map Ku:=cz fun a=>rfl
@[simp] theorem ajp {l:List JW} {i:Int} {v:ByteArray}:setRow (l.map Ku) i 2 [.sc (.string v)]=(l.modify i.toNat fun x=>{x with to:=v}).map Ku:=cz fun a=>rfl
@[simp] theorem aki {l:List JW} {i:Int} {v:Int}:setRow (l.map Ku) i 3 [.sc (.int .i64 v)]=(l.modify i.toNat fun x=>{x with a:=v}).map Ku:=cz fun a=>rfl
@[simp] theorem akj {l:List JW} {i:Int} {v:Int}:setRow (l.map Ku) i 4 [.sc (.int .i64 v)]=(l.modify i.toNat fun x=>{x with b:=v}).map Ku:=cz fun a=>rfl
@[simp] theorem amq {l:List JW} {i:Int} {v0:Int} {v1:ByteArray} {v2:ByteArray} {v3:Int} {v4:Int}:setRow (l.map Ku) i 0 [.sc (.int .i64 v0),.sc (.string v1),.sc (.string v2),.sc (.int .i64 v3),.sc (.int .i64 v4)]=(l.modify i.toNat fun _=>⟨v0,v1,v2,v3,v4⟩).map Ku:=cz fun a=>rfl
@[simp] theorem ag7 {l:List Mp} {i:Int} {v:ByteArray}:setRow (l.map AI) i 0 [.sc (.string v)]=(l.modify i.toNat fun x=>{x with name:=v}).map AI:=cz fun a=>rfl
@[simp] theorem aiL {l:List Mp} {i:Int} {v:Bool}:setRow (l.map AI) i 1 [.sc (.bool v)]=(l.modify i.toNat fun x=>{x with fx:=v}).map AI:=cz fun a=>rfl
@[simp] theorem ajq {l:List Mp} {i:Int} {v:List Int}:setRow (l.map AI) i 2 [.sub 1 (v.map bI)]=(l.modify i.toNat fun x=>{x with l:=v}).map AI:=cz fun a=>rfl
@[simp] theorem akV {l:List Mp} {i:Int} {v0:ByteArray} {v1:Bool} {v2:List Int}:setRow (l.map AI) i 0 [.sc (.string v0),.sc (.bool v1),.sub 1 (v2.map bI)]=(l.modify i.toNat fun _=>⟨v0,v1,v2⟩).map AI:=cz fun a=>rfl
@[simp] theorem akW {l:List (Int)} {i:Int} {v:Int}:setRow (l.map bI) i 0 [.sc (.int .i64 v)]=(l.modify i.toNat fun _=>v).map bI:=cz fun a=>rfl
@[simp] theorem akk {l:List (Int)} {i:Int} {v:Int}:setRow (l.map jY) i 0 [.sc (.int .u8 v)]=(l.modify i.toNat fun _=>v).map jY:=cz fun a=>rfl
@[simp] theorem afP {l:List (Bool)} {i:Int} {v:Bool}:setRow (l.map L4) i 0 [.sc (.bool v)]=(l.modify i.toNat fun _=>v).map L4:=cz fun a=>rfl
@[simp] theorem akX {l:List (List Key)} {i:Int} {v:List Key}:setRow (l.map eP) i 0 [.sub 5 (v.map bG)]=(l.modify i.toNat fun _=>v).map eP:=cz fun a=>rfl
@[simp] theorem afQ {l:List (List (List Key))} {i:Int} {v:List (List Key)}:setRow (l.map aX) i 0 [.sub 1 (v.map eP)]=(l.modify i.toNat fun _=>v).map aX:=cz fun a=>rfl
end Go.T
namespace Go.T
theorem bP {α:Type} (l:List α) (P:Nat→Prop) (fin:P l.length) (step: ∀i a,i<l.length→l[i]?=some a→l.drop i=a::l.drop (i+1)→l.take (i+1)=l.take i++[a]→P (i+1)→P i):P 0:=by
 have: ∀k i,i+k=l.length→P i:=by
  intro k
  induction k with
  |zero=>intro i h;have:i=l.length:=by omega
         subst this;exact fin
  |succ k ih=>
   intro i h
   have hi:i<l.length:=by omega
   refine step i l[i] hi (bH hi) (wZ hi) ?_ (ih (i+1) az);rw[List.take_add_one,bH hi];rfl
 exact this l.length 0 az
def tot {α:Type} (w:α→Nat):List α→Nat
 |[]=>0
 |a::r=>w a+tot w r
theorem Pw {α:Type} (w:α→Nat): ∀(l m:List α),tot w (l++m)=tot w l+tot w m
 |[],m=>by simp[tot]
 |a::r,m=>by simp only[Ez,tot,Pw w r];omega
theorem uH {α:Type} {w:α→Nat}: ∀{l:List α} {a:α},a∈l→w a≤tot w l
 |[],_,h=>by cases h
 |b::r,a,h=>by
  simp only[tot];rcases ef.1 h with rfl|h
  ·omega
  ·have:=uH (w:=w) h;omega
theorem mX {α:Type} {w:α→Nat} {l:List α} {i:Nat} {a:α} (h:l[i]?=some a):w a≤tot w l:=uH (ja h)
def cw (s:List Key):Nat:=s.length
def aV (n:List (List Key)):Nat:=n.length+tot cw n
def wq (n:List (List (List Key))):Nat:=n.length+tot aV n
def dx (t:Tree):Nat:=t.ax.length+wq t.nodes
def tX (v:jU):Nat:=v.name.size
def p8 (l:List jU):Nat:=l.length+tot tX l
def aQ (p:bg):Nat:=dx p.t+p.aU.length+p.cells.length+p8 p.aq
end Go.T
namespace Go.T
section
variable {C : mA} {f : FuncId} {vs : List TV}
theorem sO {x b:Bool} (h:ai C f vs (vB x) []):ai C f vs (vB b) []↔b=x:=⟨fun h'=>by have:=(h.det h').1;simpa using this,fun e=>e▸h⟩
theorem adM {x b:Int} (h:ai C f vs (vI x) []):ai C f vs (vI b) []↔b=x:=⟨fun h'=>by have:=(h.det h').1;simpa using this,fun e=>e▸h⟩
theorem Xe {z:Nat} {x b:RR} (h:ai C f vs (.c (.sub z x)) []):ai C f vs (.c (.sub z b)) []↔b=x:=⟨fun h'=>by have:=(h.det h').1;simpa using this,fun e=>e▸h⟩
theorem ag8 {x b:Int} {y c:Bool} (h:ai C f vs (.tu [(0,[iI x]),(0,[iB y])]) []):ai C f vs (.tu [(0,[iI b]),(0,[iB c])]) []↔b=x∧c=y:=⟨fun h'=>by have:=(h.det h').1;simpa using this,fun⟨e,e'⟩=>e▸e'▸h⟩
end
theorem TW {s:ByteArray} {i:Nat} (h:i<s.size): ∃n:Int,tY s i=some n∧0≤n∧n≤255:=by
 unfold tY;rw[aT (Int.natCast_nonneg i),pT];have:s[i]?=some s[i]:=getElem?_pos s i h;rw[this];have:=(s[i]).toNat_lt;refine⟨_,rfl,?_,?_⟩<;>show _≤_<;>simp only[]<;>omega
theorem Xf {n:Int} (h: -9223372036854775808≤n∧n≤9223372036854775807):vN .i64 n=n:=by unfold vN;exact IntWalk.i64_in _ h
def g8 (a lo hi:Int):Bool:=decide (lo≤a∧a≤hi)
def lz (a:Int):Bool:=g8 a 0 65535
def eU (x:Key):Bool:=g8 x.b 0 15&&g8 x.a 1 60&&g8 x.k 0 2&&(if x.k=1 then g8 x.c 0 23&&g8 x.g 0 999 else decide (x.c=0)&&decide (x.g=0))
def ez (x y:Key):Bool:=decide (x.b<y.b∨(x.b=y.b∧x.a<y.a))
def kY (x y:Key):Bool:=decide (x.b=y.b∧x.a=y.a)
def dD (n:Nat) (f:Nat→Bool):Bool:=(List.range' 0 n).all f
theorem lY {i n:Nat} (h:i<n):List.range' i (n-i)=i::List.range' (i+1) (n-(i+1)):=by
 obtain⟨k,hk⟩: ∃k,n-i=k+1:=⟨n-i-1,by omega⟩;rw[hk,show n-(i+1)=k by omega]
 rfl
theorem p9 (n:Nat) (P:Nat→Prop) (fin:P n) (step: ∀i,i<n→P (i+1)→P i):P 0:=by
 have: ∀k i,i+k=n→P i:=by
  intro k
  induction k with
  |zero=>intro i h;have:i=n:=by omega
         subst this;exact fin
  |succ k ih=>intro i h;exact step i az (ih (i+1) az)
 exact this n 0 az
theorem aaN {α:Type} (f g:α→Bool): ∀l:List α,l.all (fun x=>f x&&g x)=(l.all f&&l.all g)
 |[]=>rfl
 |a::r=>by simp only[pF,aaN f g r];cases f a<;>cases g a<;>simp
theorem adN (n:Nat) (f g:Nat→Bool):dD n (fun i=>f i&&g i)=(dD n f&&dD n g):=aaN f g _
theorem uX {n:Nat} {f:Nat→Bool}:dD n f=true↔ ∀i,i<n→f i=true:=by
 unfold dD;rw[List.all_eq_true]
 constructor
 ·intro h i hi;exact h i (by simp[List.mem_range'];exact hi)
 ·intro h i hi
  simp[List.mem_range'] at hi;exact h i hi
def atL {α:Type} (l:List α) (f:α→Bool) (i:Nat):Bool:=match l[i]? with|some a=>f a|none=>true
def gM {α:Type} (l:List α) (f:α→α→Bool):Nat→Bool
 |0=>true
 |k+1=>match l[k]?,l[k+1]? with|some x,some y=>f x y|_,_=>true
theorem afR {α:Type} (l:List α) (f:α→Bool):dD l.length (atL l f)=l.all f:=by
 rw[Bool.eq_iff_iff,uX,List.all_eq_true]
 constructor
 ·intro h a ha
  obtain⟨i,hi,rfl⟩:=List.getElem_of_mem ha;have:=h i hi;simpa [atL,hi] using this
 ·intro h i hi
  simp only[atL,bH hi];exact h _ (tT hi)
def nE (l:List Key) (i:Nat):Bool:=atL l eU i&&gM l ez i
def Cp (l:List Key):Bool:=dD l.length (nE l)&&decide (l.length≤60)
theorem IV (l:List Key):Cp l=(l.all eU&&(dD l.length (gM l ez)&&decide (l.length≤60))):=by
 rw[←Bool.and_assoc,←afR,←adN];rfl
def eX:Key:=⟨0,0,0,0,0⟩
def setAt (l:List Key) (b a:Int):Option Key:=l.find? fun x=>decide (x.b=b∧x.a=a)
def fD (k:Key):Bool→List Key→List Key
 |put,[]=>if put then [] else [k]
 |put,x::r=>(if !put&& !ez x k then [k] else [])++(if kY x k then [] else [x])++fD k (put|| !ez x k) r
def eE (l:List Key) (k:Key):List Key:=fD k false l
theorem L5 (k:Key): ∀(l:List Key) (put:Bool),(fD k put l).length≤l.length+(if put then 0 else 1)
 |[],put=>by simp only[fD];split<;>simp
 |x::r,put=>by
  have:=L5 k r (put|| !ez x k);simp only[fD,cT,g7]
  have h1:(if kY x k then([]:List Key) else [x]).length≤1:=by split<;>simp
  revert h1
  generalize (if kY x k then([]:List Key) else [x])=m;intro h1
  cases put<;>cases hk:ez x k<;>simp[hk] at this ⊢ <;>omega
theorem lZ (l:List Key) (k:Key):(eE l k).length≤l.length+1:=by have:=L5 k l false;simpa [eE] using this
def ct (old new:List Key):List Key:=new.foldl eE old
theorem uI: ∀(new old:List Key),(ct old new).length≤old.length+new.length
 |[],old=>by simp[ct]
 |x::r,old=>by
  have:=uI r (eE old x);have h2:=lZ old x;simp only[ct,List.foldl_cons,g7] at this ⊢;omega
def ko (l:List Key):List Key:=l.filter fun k=> !decide (k.k=0)
def sC (n:List (List Key)):List Key:=n.foldl ct []
def aB (n:List (List Key)):List Key:=ko (sC n)
theorem Cq: ∀(n:List (List Key)) (a:List Key),(n.foldl ct a).length≤a.length+tot cw n
 |[],a=>by simp[tot]
 |s::r,a=>by
  have:=Cq r (ct a s);have h2:=uI s a;simp only[List.foldl_cons,tot,cw] at this ⊢;omega
theorem cR (n:List (List Key)):(aB n).length≤tot cw n:=by
 have h1:=Cq n [];have h2:=LN (fun k:Key=> !decide (k.k=0)) (sC n);simp only[List.length_nil,nI] at h1;exact cU h2 h1
def cY (n:List (List Key)):Nat:=tot cw n
def ff (n:List (List Key)):Bool:=n.all (fun s=>Cp s&& !decide (s.length=0))&&decide (n.length≤3)&&decide (cY n≤8)
def cG (l:List Key):List (List Key):=if l.length=0 then [] else [l]
def ay (t:Tree):List Key:=t.nodes.flatMap aB
theorem IW: ∀(l:List (List (List Key))),(l.flatMap aB).length≤tot aV l
 |[]=>by simp[tot]
 |n::r=>by
  have:=IW r;have h2:=cR n;simp only[List.flatMap_cons,cT,tot,aV];omega
theorem gZ (t:Tree):(ay t).length≤dx t:=by
 have:=IW t.nodes;unfold ay dx wq;omega
def hJ (t:Tree) (b:Int):List Key:=(ay t).filter fun k=>decide (k.b=b)
theorem Px (t:Tree) (b:Int):(hJ t b).length≤(ay t).length:=LN _ _
def c7 (b a:Int):Int:=aE (Hy 64 b) a
def eZ {α:Type} (p:α→Bool):List α→Int→Int
 |[],_=> -1
 |a::r,i=>if p a then i else eZ p r (i+1)
theorem IX {α:Type} (p:α→Bool): ∀(l:List α) (i:Int),0≤i→decide (0≤eZ p l i)=l.any p
 |[],i,_=>by simp[eZ]
 |a::r,i,h=>by
  by_cases hp:p a=true
  ·simp[eZ,hp,h]
  ·have:=IX p r (i+1) az
   simp only[eZ,aK hp,List.any_cons];rw[this];simp[hp]
theorem Ge {α:Type} (p:α→Bool): ∀(l:List α) (i:Int),0≤i→(eZ p l i= -1∧ ∀a∈l,p a=false)∨ ∃(j:Nat) (a:α),eZ p l i=i+j∧l[j]?=some a∧p a=true∧j<l.length∧ ∀k,k<j→ ∀b,l[k]?=some b→p b=false
 |[],i,_=> .inl ⟨rfl,fun a h=>by cases h⟩
 |a::r,i,h=>by
  simp only[eZ]
  cases hp:p a with
  |true=>exact .inr ⟨0,a,by simp,rfl,hp,by simp,fun k hk=>by omega⟩
  |false=>
   rcases Ge p r (i+1) az with⟨h1,h2⟩|⟨j,b,h1,h2,h3,h4,h5⟩
   ·refine .inl ⟨by simpa using h1,fun b hb=> ?_⟩
    rcases ef.1 hb with rfl|hb
    ·exact hp
    ·exact h2 b hb
   ·refine .inr ⟨j+1,b,by simp[h1];omega,h2,h3,by simp;omega,fun k hk c hc=> ?_⟩
    cases k with
    |zero=>simp at hc;rw[←hc];exact hp
    |succ k=>exact h5 k az c hc
theorem aaO {α:Type} (p:α→Bool) (l:List α): -1≤eZ p l 0∧eZ p l 0<l.length:=by
 rcases Ge p l 0 az with⟨h,_⟩|⟨j,a,h,_,_,h4,_⟩<;>omega
theorem xq {α:Type} (p:α→Bool) (l:List α) (h: ¬eZ p l 0<0): ∃a,eI l (eZ p l 0)=some a∧p a=true:=by
 rcases Ge p l 0 az with⟨h1,_⟩|⟨j,a,h1,h2,h3,_⟩
 ·omega
 ·refine⟨a,?_,h3⟩
  rw[h1,Int.zero_add,aN];exact h2
def fJ (l:List mw) (id:Int):Int:=eZ (fun a=>decide (a.id=id)) l 0
theorem adO (l:List mw) (id:Int): -1≤fJ l id∧fJ l id<l.length:=aaO _ _
theorem Kw (l:List mw) (id:Int) (h: ¬fJ l id<0): ∃a,eI l (fJ l id)=some a∧a.id=id:=by
 obtain⟨a,h1,h2⟩:=xq _ l h;exact⟨a,h1,qM h2⟩
def E2 (l:List mw):Nat→Int→List Int
 |0,_=>[]
 |n+1,id=>if fJ l id<0 then [] else id::(match eI l (fJ l id) with|some a=>E2 l n a.fr|none=>[])
def pathOf (l:List mw) (id:Int):List Int:=E2 l (l.length+1) id
theorem TY (l:List mw): ∀(n:Nat) (id:Int),(E2 l n id).length≤n
 |0,_=>by simp[E2]
 |n+1,id=>by
  simp only[E2]
  split
  ·simp
  ·split
   ·have:=TY l n
    simp only[g7];rename_i a _;have:=this a.fr;omega
   ·simp
theorem Hz (l:List mw) (id:Int):(pathOf l id).length≤l.length+1:=TY l _ id
def Gt (l:List Int) (n:Int):Bool:=l.any fun a=>decide (a=n)
def IY (path:List Int):Key×Bool→Key→Key×Bool:=fun p k=>if Gt path k.a&&(!p.2||decide (p.1.a<k.a)) then(k,true) else p
def near (keys:List Key) (path:List Int):Key×Bool:=keys.foldl (IY path) (eX,false)
def oJ (t:Tree) (l:List mw) (b id:Int):Key×Bool:=near (hJ t b) (pathOf l id)
def wV (t:Tree) (l:List mw) (b id:Int):Key×Bool:=near (hJ t b) ((pathOf l id).drop 1)
theorem adP (keys:List Key):near keys []=(eX,false):=by
 unfold near
 suffices ∀(l:List Key),l.foldl (IY []) (eX,false)=(eX,false) from this keys
 intro l
 induction l with
 |nil=>rfl
 |cons a r ih=>simpa [IY,Gt] using ih
def vU (t:Tree) (l:List mw) (k:Key) (id:Int):Bool:=(oJ t l k.b id).2&&decide ((oJ t l k.b id).1.a=k.a)
def TZ (p:bg) (k:Key):Bool:=p.aq.any fun v=>decide (k.b<v.size)&&vU p.t p.aU k v.dJ
def fI (l:List mw) (id:Int):List Int:=if id=0 then [] else(l.filter fun a=>decide (a.fr=id)).map (·.id)
theorem Py (l:List mw) (id:Int):(fI l id).length≤l.length:=by
 unfold fI
 split
 ·simp
 ·rw[cn];exact LN _ _
abbrev Zo (p:Key×Bool):TV:= .tu [(1,[iI p.1.b,iI p.1.a,iI p.1.k,iI p.1.c,iI p.1.g]),(0,[iB p.2])]
def adQ (n:Int):Bool:=g8 n 97 122||g8 n 48 57
def fR (s:ByteArray) (i:Nat):Bool:=match tY s i with|some n=>adQ n|none=>true
def mF (s:ByteArray):Bool:=dD s.size (fR s)&&g8 s.size 1 6
def gm (l:List mw) (i:Nat):Bool:=atL l (fun a=>g8 a.id 1 60) i&&(gM l (fun x y=>decide (x.id<y.id)) i&&atL l (fun a=>decide (a.fr=0)|| !decide (fJ (l.take i) a.fr<0)) i)
def gE (l:List mw):Bool:=dD l.length (gm l)&&decide (l.length≤16)
def dy (l:List jU) (s:ByteArray):Int:=eZ (fun v=>decide (v.name=s)) l 0
def og (l:List jU) (id:Int):Bool:= !l.any fun v=>decide (v.dJ=id)
def cellAt (l:List Cell) (i gen:Int):Int×Bool:=match eI l i with
 |none=>(0,false)
 |some c=>if c.u=true∧c.g=gen then(c.n,true) else(0,false)
def bX (l:List Cell):Nat:=(l.filter (·.u)).length
def jv (c:Cell):Bool:=g8 c.g 0 999&&(lz c.n&&(c.u||decide (c.n=0)))
def fE (l:List Cell):Bool:=l.all jv&&decide (l.length=24)
abbrev tIB (p:Int×Bool):TV:= .tu [(0,[iI p.1]),(0,[iB p.2])]
@[simp] theorem yP {l:List Key} {b a k c g:Int}:List.append (l.map bG) [[iI b,iI a,iI k,iI c,iI g]]=(l++[(⟨b,a,k,c,g⟩:Key)]).map bG:=by simp[bG]
@[simp] theorem IZ {l:List Int} {b:Int}:List.append (l.map bI) [[iI b]]=(l++[b]).map bI:=by simp[bI]
@[simp] theorem ajr {l:List Int} {b:Int}:List.append (l.map jY) [[.sc (.int .u8 b)]]=(l++[b]).map jY:=by simp[jY]
@[simp] theorem wu {l:List mw} {b a:Int}:List.append (l.map bS) [[iI b,iI a]]=(l++[(⟨b,a⟩:mw)]).map bS:=by simp[bS]
@[simp] theorem afS {l:List jU} {s:ByteArray} {b a:Int} {q:Bool}:List.append (l.map cj) [[iS s,iI b,iI a,iB q]]=(l++[(⟨s,b,a,q⟩:jU)]).map cj:=by simp[cj]
@[simp] theorem akl {l:List (List Key)} {s:List Key}:List.append (l.map eP) [[.sub 5 (s.map bG)]]=(l++[s]).map eP:=by simp[eP]
@[simp] theorem AL {l:List (List (List Key))} {s:List (List Key)}:List.append (l.map aX) [[.sub 1 (s.map eP)]]=(l++[s]).map aX:=by simp[aX]
@[simp] theorem U5 {l:List Mp} {s:ByteArray} {f:Bool} {r:List Int}:List.append (l.map AI) [[iS s,iB f,.sub 1 (r.map bI)]]=(l++[(⟨s,f,r⟩:Mp)]).map AI:=by simp[AI]
@[simp] theorem jZ {α:Type} {e:α→List TC} {l m:List α}:List.append (l.map e) (m.map e)=(l++m).map e:=by simp
@[simp] theorem ajs:([]:RR)=([]:List Key).map bG↔True:=by simp
@[simp] theorem cO {α:Type} (l:List α):Nat.succ (List.length l)=l.length+1:=rfl
theorem oy (b a k c g:Int):bM [[iI b,iI a,iI k,iI c,iI g]]=true:=lM [⟨b,a,k,c,g⟩]
theorem so (b a:Int):bM [[iI b,iI a]]=true:=AK [⟨b,a⟩]
theorem Pz (s:ByteArray) (b a:Int) (q:Bool):bM [[iS s,iI b,iI a,iB q]]=true:=wU [⟨s,b,a,q⟩]
attribute [simp] oy so Pz
@[simp] theorem dM (k:Key):(⟨k.b,k.a,k.k,k.c,k.g⟩:Key)=k:=rfl
@[simp] theorem fh (k:mw):(⟨k.id,k.fr⟩:mw)=k:=rfl
@[simp] theorem dF (k:Cell):(⟨k.g,k.u,k.n⟩:Cell)=k:=rfl
@[simp] theorem fj (k:jU):(⟨k.name,k.dJ,k.size,k.fx⟩:jU)=k:=rfl
@[simp] theorem fk (k:Mp):(⟨k.name,k.fx,k.l⟩:Mp)=k:=rfl
@[simp] theorem gP (k:JW):(⟨k.kind,k.name,k.to,k.a,k.b⟩:JW)=k:=rfl
theorem cM {n b:Nat} (h:n*b≤140737488355328∧n≤140737488355328):fits n b=true:=by rw[afG];exact iK h
end Go.T
namespace Go.T
def ee (s:List Key):Bool:=Cp s&& !decide (s.length=0)
theorem T2 (n:List (List Key)):ff n=(n.all ee&&(decide (n.length≤3)&&decide (cY n≤8))):=by
 unfold ff;rw[Bool.and_assoc];rfl
def HA (ax:List Int) (i:Nat) (x:Int):Bool:=match ax[i]? with
 |some lo=> !decide (x<lo)&&(match ax[i+1]? with|some hi=>decide (x<hi)|none=>true)
 |none=>true
def iy (ax:List Int) (i:Nat) (k:Key):Bool:=HA ax i (c7 k.b k.a)
def cu (ax:List Int) (i:Nat) (s:List Key):Bool:=s.all (iy ax i)
def cV (t:Tree) (i:Nat):Bool:=gM t.ax (fun x y=>decide (x<y)) i&&(match t.nodes[i]? with
 |some n=>ff n&&((decide (i=0)|| !decide ((aB n).length=0))&&n.all (cu t.ax i))
 |none=>true)
def cP (t:Tree):Bool:=g8 t.nodes.length 1 20&&(decide (t.ax.length=t.nodes.length)&&((match t.ax[0]? with|some x=>decide (x=0)|none=>true)&&(dD t.nodes.length (cV t)&&decide ((ay t).length≤60))))
def cA (p:bg) (i:Nat):Bool:=match p.aq[i]? with
 |some v=>mF v.name&&(g8 v.size 1 12&&(!decide (fJ p.aU v.dJ<0)&&(decide ((fI p.aU v.dJ).length=0)&&(gM p.aq (fun x y=>JZ x.name y.name) i&& !(p.aq.take i).any fun u=>decide (u.dJ=v.dJ)))))
 |none=>true
def iX (p:bg):Bool:=dD p.aq.length (cA p)&&decide (p.aq.length≤6)
def dB (p:bg) (l:List Key) (i:Nat):Bool:=match l[i]? with
 |some k=> !decide (fJ p.aU k.a<0)&&(!decide (k.k=1)||((cellAt p.cells k.c k.g).2&& !(l.take i).any fun x=>decide (x.k=1)&&decide (x.c=k.c)))
 |none=>true
def cQ (l:List Key):Nat:=(l.filter fun k=>decide (k.k=1)).length
def jw (p:bg):Bool:=dD (ay p.t).length (dB p (ay p.t))&&decide ((bX p.cells:Int)=cQ (ay p.t))
def cr (p:bg):Bool:=p.aU.all (fun a=>decide (a.id<p.next))&&(cP p.t&&(gE p.aU&&(fE p.cells&&(g8 p.next 1 61&&(iX p&&jw p)))))
def jc (p:bg) (i b:Int):Int:=match eI p.aq i with
 |none=>0
 |some v=>if 0≤b∧b<v.size then(if(oJ p.t p.aU b v.dJ).2=true∧(oJ p.t p.aU b v.dJ).1.k=1 then(cellAt p.cells (oJ p.t p.aU b v.dJ).1.c (oJ p.t p.aU b v.dJ).1.g).1 else 0) else 0
def pI:bg:=⟨⟨[0],[[]]⟩,[],List.replicate 24 ⟨0,false,0⟩,[],1⟩
def qq (l:List Key):List Bool:=(List.range 24).map fun m:Nat=>l.any fun x=>decide (x.k=1)&&decide (x.c=(m:Int))
theorem Xg:qq []=List.replicate 24 false:=by decide
theorem Xh (l:List Key) {c:Int} (h:0≤c∧c<24):eI (qq l) c=some (l.any fun x=>decide (x.k=1)&&decide (x.c=c)):=by
 obtain⟨n,rfl⟩: ∃n:Nat,c=n:=⟨c.toNat,by omega⟩;rw[aN];unfold qq;rw[kg,List.getElem?_range az]
 rfl
theorem Xi (l:List Key) (k:Key) (hk:k.k=1) (h:0≤k.c∧k.c<24):(qq l).modify k.c.toNat (fun _=>true)=qq (l++[k]):=by
 apply List.ext_getElem?
 intro m;rw[List.getElem?_modify];unfold qq;rw[kg,kg]
 by_cases hm:m<24
 ·rw[List.getElem?_range hm]
  simp only[nB,List.any_append,List.any_cons,List.any_nil,Bool.or_false,hk,decide_true,dz]
  by_cases e:k.c.toNat=m
  ·have:k.c=(m:Int):=by omega
   simp[e,this]
  ·have: ¬k.c=(m:Int):=by omega
   simp[e,this]
 ·rw[Tg ie];rfl
theorem U6 (l:List Key) (k:Key) (hk: ¬k.k=1):qq (l++[k])=qq l:=by
 unfold qq;simp[hk]
theorem GP (k:Key) (l:List Key):cQ (k::l)=(if k.k=1 then 1 else 0)+cQ l:=by
 unfold cQ
 by_cases h:k.k=1<;>simp[h]
 omega
theorem abE {l:List Cell} {i g:Int} (h:(cellAt l i g).2=true):0≤i∧i<l.length:=by
 unfold cellAt at h
 apply Classical.byContradiction
 intro hn;rw[jF hn] at h
 cases h
theorem eF {p:bg} (h:aQ p≤4194304):dx p.t≤4194304∧p.aU.length≤4194304∧p.cells.length≤4194304∧p.aq.length≤4194304∧tot tX p.aq≤4194304:=by
 unfold aQ p8 at h;omega
end Go.T
namespace Go.T
def blocks (p:bg) (i:Nat) (k:Nat):List Int:=(List.range k).map fun b:Nat=>jc p i b
def HB (p:bg) (i:Nat) (v:jU):Mp:=⟨v.name,v.fx,blocks p i (min v.size.toNat 12)⟩
def q9 (p:bg):Nat→List jU→List Mp
 |_,[]=>[]
 |i,v::r=>HB p i v::q9 p (i+1) r
def zY (p:bg):List Mp:=q9 p 0 p.aq
theorem Xj (p:bg) (i k:Nat):blocks p i (k+1)=blocks p i k++[jc p i k]:=by
 unfold blocks;rw[List.range_succ,ED];rfl
theorem Zq (p:bg) (i k:Nat):(blocks p i k).length=k:=by simp[blocks]
theorem I0 (p:bg): ∀(l:List jU) (i:Nat),(q9 p i l).length=l.length
 |[],_=>rfl
 |v::r,i=>by show(HB p i v::q9 p (i+1) r).length=_;rw[g7,I0 p r];rfl
theorem Zr (p:bg):(zY p).length=p.aq.length:=I0 p _ _
def kZ (l:List Cell) (i:Int):List Cell:=match eI l i with
 |none=>l
 |some c=>if fE l=true∧c.u=true then l.modify i.toNat (fun _=>⟨Rv (aE c.g 1) 1000,false,0⟩) else l
theorem RC {l:List Cell} {i:Int} (h:eI l i=none):kZ l i=l:=by unfold kZ;rw[h]
theorem U7 {l:List Cell} {i:Int} (h:fE l=false):kZ l i=l:=by
 unfold kZ
 cases eI l i with
 |none=>rfl
 |some c=>exact aK (fun hh=>by rw[h] at hh;cases hh.1)
theorem Xk {l:List Cell} {i:Int} {c:Cell} (hc:eI l i=some c) (h:c.u=false):kZ l i=l:=by
 unfold kZ;rw[hc];exact aK (fun hh=>by rw[h] at hh;cases hh.2)
theorem U8 {l:List Cell} {i:Int} {c:Cell} (hc:eI l i=some c) (h:fE l=true) (hu:c.u=true):kZ l i=l.modify i.toNat (fun _=>⟨Rv (aE c.g 1) 1000,false,0⟩):=by
 unfold kZ;rw[hc];exact aT ⟨h,hu⟩
theorem BU (l:List Cell) (i:Int):(kZ l i).length=l.length:=by
 unfold kZ
 cases eI l i with
 |none=>rfl
 |some c=>simp only[];split<;>simp
def Kx (c:Cell):Bool:= !c.u
def jG (l:List Cell):Int:=eZ Kx l 0
def jA (l:List Cell) (n:Int):List Cell×Int×Bool:=
 if fE l=true∧lz n=true∧0≤jG l then(l.modify (jG l).toNat (fun c=>⟨c.g,true,n⟩),jG l,true) else(l,0,false)
theorem uY {l:List Cell} {n:Int} (h: ¬(fE l=true∧lz n=true∧0≤jG l)):jA l n=(l,0,false):=aK h
theorem BV {l:List Cell} {n:Int} (h:fE l=true∧lz n=true∧0≤jG l):jA l n=(l.modify (jG l).toNat (fun c=>⟨c.g,true,n⟩),jG l,true):=aT h
theorem I1 (l:List Cell) (n:Int):(jA l n).1.length=l.length:=by
 unfold jA;split<;>simp
abbrev ahY (x:List Cell×Int×Bool):TV:= .tu [(0,[.sub 3 (x.1.map bR)]),(0,[iI x.2.1]),(0,[iB x.2.2])]
def PA (o:JW):Bool:=if o.kind=2 then decide (o.a=0)&&g8 o.b 0 1 else if o.kind=3∨o.kind=7 then decide (o.a=0)&&decide (o.b=0) else if o.kind=4 then true else decide (o.b=0)
def opName (o:JW):Bool:=if 7≤o.kind then decide (o.name=lS) else mF o.name
def ajt (o:JW):Bool:=if o.kind=2 then mF o.to else decide (o.to=lS)
def Xl (o:JW):Bool:=g8 o.kind 1 9&&(opName o&&(ajt o&&(lz o.a&&(lz o.b&&PA o))))
abbrev tII (x:Int×Int):TV:= .tu [(0,[iI x.1]),(0,[iI x.2])]
def uZ (p:bg) (s:ByteArray):Bool:=cr p&&mF s
theorem u0 {p:bg} (h:cr p=true):iX p=true:=by
 simp only[cr,dW] at h;exact h.2.2.2.2.2.1
theorem Xm {p:bg} (h:cr p=true):gE p.aU=true:=by
 simp only[cr,dW] at h;exact h.2.2.1
theorem L6 {p:bg} {i:Int} {v:jU} (h:iX p=true) (hv:eI p.aq i=some v):1≤v.size∧v.size≤12:=by
 obtain⟨n,rfl,hn⟩: ∃n:Nat,i=n∧n<p.aq.length:=by
  have:0≤i∧i<p.aq.length:=Classical.byContradiction fun hn=>by rw[jF hn] at hv;cases hv
  exact⟨i.toNat,by omega,by omega⟩
 simp only[iX,dW,uX] at h;have:=h.1 n hn;rw[aN] at hv;simp only[cA,hv,dW] at this;have:=this.2.1;simp[g8] at this;omega
def Ky (l:List Key) (b a:Int):Key×Bool:=match setAt l b a with|some k=>(k,true)|none=>(eX,false)
def rj (n:List (List Key)) (b a:Int):Nat→Key×Bool
 |0=>(eX,false)
 |k+1=>match n[k]? with
  |some s=>if(Ky s b a).2=true then(if(Ky s b a).1.k=0 then(eX,false) else Ky s b a) else rj n b a k
  |none=>(eX,false)
def rJ (f:Int→Bool) (l:List Int):Nat→Int
 |0=> -1
 |k+1=>match l[k]? with
  |some x=>if f x=true then(k:Int) else rJ f l k
  |none=> -1
def jx (t:Tree) (b a:Int):Int:=rJ (fun x=>decide (x≤c7 b a)) t.ax t.ax.length
def xu (t:Tree) (b a:Int):Key×Bool:=match eI t.nodes (jx t b a) with
 |some n=>rj n b a n.length
 |none=>(eX,false)
def E3 (p:bg) (id:Int):Int:=if og p.aq id=true∧(fI p.aU id).length=1 then(match eI (fI p.aU id) 0 with|some x=>x|none=>0) else 0
def Xn (p:bg) (k:Key):Bool:=if E3 p k.a=0 then false else !(xu p.t k.b (E3 p k.a)).2
def wz (p:bg) (step:Int) (k:Key):Bool:=if step=1 then !TZ p k else if step=2 then decide (k.k=2)&& !(wV p.t p.aU k.b k.a).2 else Xn p k
def hasB (id:Int) (k:Key):Bool:=decide (k.a=id)
def HC (id:Int) (k:Key):Bool:= !hasB id k
def Gf (p:bg) (a:mw):Bool:=(ay p.t).all (HC a.id)&&(og p.aq a.id&&decide ((fI p.aU a.id).length≤1))
def pJ (p:bg) (j:Int):Int:=eZ (wz p j) (ay p.t) 0
def PB (p:bg):Int:=eZ (Gf p) p.aU 0
def gD (p:bg):Int×Int:=
 if cr p=true then(if 0≤pJ p 1 then(1,pJ p 1) else if 0≤pJ p 2 then(2,pJ p 2) else if 0≤pJ p 3 then(3,pJ p 3) else if 0≤PB p then(4,PB p) else(0,0)) else(0,0)
def newNode (l:List Key):List (List Key):=if l.length=0 then [] else [l]
def mY (n:List (List Key)):List (List Key):=newNode (aB n)
def u5 (t:Tree) (i:Int):Tree:=match eI t.nodes i with
 |none=>t
 |some n=>⟨t.ax,t.nodes.modify i.toNat (fun _=>mY n)⟩
def qa (p:bg) (i:Int):bg×Bool:=if cr p=true∧0≤i∧i<p.t.nodes.length then(⟨u5 p.t i,p.aU,p.cells,p.aq,p.next⟩,true) else(p,false)
abbrev tPB (x:bg×Bool):TV:= .tu [(1,[.sub 1 (x.1.t.ax.map bI),.sub 1 (x.1.t.nodes.map aX),.sub 2 (x.1.aU.map bS),.sub 3 (x.1.cells.map bR),.sub 4 (x.1.aq.map cj),iI x.1.next]),(0,[iB x.2])]
theorem HD {α:Type} {w:α→Nat} {f:α→α}: ∀{l:List α} {i:Nat},(∀a,l[i]?=some a→w (f a)≤w a)→tot w (l.modify i f)≤tot w l
 |[],i,h=>by cases i<;>exact dj _
 |a::r,0,h=>by
  rw[List.modify_zero_cons];have:=h a rfl;simp only[tot];omega
 |a::r,i+1,h=>by
  rw[List.modify_succ_cons];have:=HD (l:=r) (i:=i) (w:=w) (f:=f) fun b hb=>h b (by simpa using hb);simp only[tot];omega
theorem Xo (n:List (List Key)):aV (mY n)≤aV n:=by
 have h1:=cR n;unfold mY newNode
 split
 ·exact dm _
 ·rename_i h
  have h2:aV [aB n]=1+((aB n).length+0):=rfl;have h3:aV n=n.length+tot cw n:=rfl
  cases n with
  |nil=>exact absurd rfl h
  |cons s r=>rw[h2,h3,g7];omega
theorem Xp (t:Tree) (i:Int):dx (u5 t i)≤dx t:=by
 unfold u5
 split
 ·exact dj _
 ·rename_i n hn
  have hi:0≤i∧i<t.nodes.length:=Classical.byContradiction fun h=>by rw[jF h] at hn;cases hn
  obtain⟨k,rfl⟩: ∃k:Nat,i=k:=⟨i.toNat,by omega⟩;rw[aN] at hn
  have:=HD (w:=aV) (f:=fun _=>mY n) (l:=t.nodes) (i:=k) fun a ha=>by
   rw[hn] at ha
   cases ha
   exact Xo n
  have e1:dx t=t.ax.length+(t.nodes.length+tot aV t.nodes):=rfl;have e2:dx ⟨t.ax,t.nodes.modify ((k:Int)).toNat (fun _=>mY n)⟩=t.ax.length+((t.nodes.modify ((k:Int)).toNat (fun _=>mY n)).length+tot aV (t.nodes.modify ((k:Int)).toNat (fun _=>mY n))):=rfl;rw[e1,e2,Th,pT];omega
theorem Xq (p:bg) (i:Int):aQ (qa p i).1≤aQ p:=by
 unfold qa
 split
 ·have:=Xp p.t i
  unfold aQ;simp only[];omega
 ·exact dj _
end Go.T
namespace Go.T
def U9 (p x:bg):bg×Int:=if cr x=true then(x,0) else(p,6)
def Kz (p:bg) (i:Int):bg:=⟨p.t,p.aU,p.cells,p.aq.take i.toNat++p.aq.drop (i.toNat+1),p.next⟩
def I2 (p:bg) (s:ByteArray):bg×Int:=
 if uZ p s=true then(if dy p.aq s<0 then(p,2) else U9 p (Kz p (dy p.aq s))) else(p,1)
abbrev Xt (x:bg×Int):TV:= .tu [(1,[.sub 1 (x.1.t.ax.map bI),.sub 1 (x.1.t.nodes.map aX),.sub 2 (x.1.aU.map bS),.sub 3 (x.1.cells.map bR),.sub 4 (x.1.aq.map cj),iI x.1.next]),(0,[iI x.2])]
theorem afT {α:Type} (w:α→Nat) (l:List α) (k:Nat):tot w (l.take k++l.drop (k+1))≤tot w l:=by
 have h:tot w (l.take k++l.drop k)=tot w l:=by rw[GG]
 rw[Pw] at h ⊢
 have h2:tot w (l.drop (k+1))≤tot w (l.drop k):=by
  cases hk:l.drop k with
  |nil=>
   have:l.drop (k+1)=[]:=by rw[←List.drop_drop];simp[hk]
   rw[this];exact dj _
  |cons a r=>
   have:l.drop (k+1)=r:=by
    have e:l.drop (k+1)=(l.drop k).drop 1:=by rw[List.drop_drop]
    rw[e,hk];rfl
   rw[this];simp only[tot];omega
 omega
theorem T3 (p:bg) (i:Int):aQ (Kz p i)≤aQ p:=by
 have h1:=afT tX p.aq i.toNat
 have h2:(p.aq.take i.toNat++p.aq.drop (i.toNat+1)).length≤p.aq.length:=by
  rw[cT,gz,lD];omega
 unfold aQ p8 Kz;simp only[];omega
theorem adR (p:bg) (s:ByteArray):aQ (I2 p s).1≤aQ p:=by
 unfold I2 U9
 split
 ·split
  ·exact dj _
  ·split
   ·exact T3 p _
   ·exact dj _
 ·exact dj _
end Go.T
namespace Go.T
theorem adT (x:Int):0≤EG .and .i64 x 255∧EG .and .i64 x 255≤255:=by
 have h:EG .and .i64 x 255=Go.IntKind.i64.wrap (((BitVec.ofInt 64 x&&&BitVec.ofInt 64 255).toNat:Nat):Int):=by unfold EG;rfl
 have hle:(BitVec.ofInt 64 x&&&BitVec.ofInt 64 255).toNat≤255:=by
  rw[BitVec.toNat_and];exact cU Nat.and_le_right (by decide)
 rw[h,Go.IntKind.wrap_i64];omega
abbrev akY (b:List Int) (i h:Int):List TC:=[.sub 1 (b.map jY),.sc (.int .i64 i),.sc (.int .i64 h)]
abbrev kJ (b:List Int) (i h:Int):TV:= .bx (akY b i h)
def Dr (b:List Int) (P:TV→Prop) (r:TV) (fs:List TV):Prop:= ∃i h,0≤i∧fs=[kJ b i h]∧P r
theorem Xu {x n:Int} (h0:0≤x) (hn:0<n):0≤x.tmod n∧x.tmod n<n:=⟨Int.tmod_nonneg _ h0,Int.tmod_lt_of_pos _ hn⟩
theorem PC {α:Type} {l:List α} {i:Int} {a:α} (h:eI l i=some a):0≤i∧i<l.length:=by
 unfold eI at h
 split at h
 ·have:=(List.getElem?_eq_some_iff.1 h).1;omega
 ·cases h
theorem aaP {α:Type} (p:α→Bool): ∀(l:List α) (i:Nat),eZ p l (i:Int)= -1∨ ∃j:Nat,eZ p l (i:Int)=((i+j:Nat):Int)∧ ∃h:j<l.length,p l[j]=true∧ ∀(m:Nat) (hm:m<j),p (l[m]'az)=false
 |[],i=> .inl rfl
 |c::r,i=>by
  unfold eZ
  cases h:p c with
  |true=>exact .inr ⟨0,by simp,by simp,by simpa using h,fun m hm=>by omega⟩
  |false=>
   rw[aK cE];rcases aaP p r (i+1) with h1|⟨j,h1,h2,h3,h4⟩
   ·exact .inl h1
   ·refine .inr ⟨j+1,by rw[show((i:Int)+1)=((i+1:Nat):Int) from by omega,h1];omega,by simp;omega,by simpa using h3,fun m hm=> ?_⟩
    cases m with
    |zero=>simpa using h
    |succ m=>simpa using h4 m az
end Go.T
namespace Go.T
theorem afU {α:Type} (p:α→Bool) (l:List α):l.take (l.takeWhile p).length=l.takeWhile p:=by
 have h:=List.takeWhile_append_dropWhile (p:=p) (l:=l)
 conv=>lhs;rhs;rw[←h]
 rw[ai2 (dj _),sQ]
theorem afV {α:Type} (p:α→Bool) (l:List α):l.drop (l.takeWhile p).length=l.dropWhile p:=by
 have h:=List.takeWhile_append_dropWhile (p:=p) (l:=l)
 conv=>lhs;rhs;rw[←h]
 rw[List.drop_append_of_le_length (dj _),fF,w4]
def yQ {α:Type} (p:α→Bool) (x:α) (l:List α):List α:=l.takeWhile p++x::l.dropWhile p
theorem PD {α:Type} {p:α→Bool} {x a:α} {l:List α}:yQ p x (a::l)=if p a then a::yQ p x l else x::a::l:=by
 unfold yQ
 by_cases h:p a=true
 ·simp[List.takeWhile_cons,List.dropWhile_cons,h]
 ·simp[List.takeWhile_cons,List.dropWhile_cons,h]
theorem Gg {α:Type} (p:α→Bool) (x:α) (l:List α):(yQ p x l).length=l.length+1:=by
 unfold yQ;have h:=congrArg List.length (List.takeWhile_append_dropWhile (p:=p) (l:=l));rw[cT] at h ⊢;rw[g7];omega
theorem Xv {α:Type} (p:α→Bool) (x:α) (l:List α) {k:Nat} (h:(l.takeWhile p).length=k):l.take k++x::l.drop k=yQ p x l:=by
 unfold yQ;rw[←h,afU,afV]
theorem KA {α:Type} (w:α→Nat) (p:α→Bool) (x:α): ∀l:List α,tot w (yQ p x l)=tot w l+w x
 |[]=>by simp[yQ,tot]
 |a::l=>by
  rw[PD]
  split
  ·simp only[tot,KA w p x l];omega
  ·simp only[tot];omega
def leA (id:Int) (a:mw):Bool:=decide (a.id≤id)
def xw (l:List mw) (id fr:Int):List mw:=yQ (leA id) ⟨id,fr⟩ l
def me (l:List mw) (id fr:Int):List mw×Bool:=if 0≤fJ l id then(l,false) else if gE (xw l id fr)=true then(xw l id fr,true) else(l,false)
theorem BW (l:List mw) (id fr:Int):(me l id fr).1.length≤l.length+1:=by
 unfold me
 split
 ·exact Nat.le_succ _
 ·split
  ·exact Nat.le_of_eq (Gg _ _ _)
  ·exact Nat.le_succ _
def RD (v u:jU):Bool:=JZ u.name v.name||OE u.name v.name
def uq (l:List jU) (v:jU):List jU:=yQ (RD v) v l
theorem Xw: ∀(x y z:List UInt8),Op.bytesLess x y=true→Op.bytesLess y z=true→Op.bytesLess x z=true
 |x,y,[],_,h=>by cases y<;>simp[Op.bytesLess] at h
 |x,[],c::z,h,_=>by cases x<;>simp[Op.bytesLess] at h
 |[],_::_,_::_,_,_=>by simp[Op.bytesLess]
 |a::x,b::y,c::z,h1,h2=>by
  simp only[Op.bytesLess,Bool.or_eq_true,dW,decide_eq_true_eq,beq_iff_eq] at h1 h2 ⊢;rcases h1 with h1|⟨rfl,h1⟩
  ·rcases h2 with h2|⟨rfl,h2⟩
   ·exact .inl (UInt8.lt_trans h1 h2)
   ·exact .inl h1
  ·rcases h2 with h2|⟨rfl,h2⟩
   ·exact .inl h2
   ·exact .inr ⟨rfl,Xw x y z h1 h2⟩
theorem T4 {a b c:ByteArray} (h1:JZ a b=true) (h2:JZ b c=true):JZ a c=true:=by
 unfold JZ at*;exact Xw _ _ _ h1 h2
def yp:List jU→Prop
 |[]=>True
 |[_]=>True
 |a::b::r=>JZ a.name b.name=true∧yp (b::r)
theorem adU {v a b:jU} (h:JZ a.name b.name=true) (hb:RD v b=true):RD v a=true:=by
 unfold RD at*;rw[Bool.or_eq_true] at*;rcases hb with hb|hb
 ·exact .inl (T4 h hb)
 ·have:b.name.toList=v.name.toList:=by
   unfold OE at hb;exact eq_of_beq hb
  unfold JZ at h ⊢;rw[←this];exact .inl h
theorem yp.tail {a:jU} {l:List jU} (h:yp (a::l)):yp l:=by
 cases l with
 |nil=>trivial
 |cons b r=>exact h.2
theorem yp.cut {v:jU}: ∀{l:List jU} {k:Nat},yp l→k≤l.length→(∀u∈l.drop k,RD v u=false)→(∀u,0<k→l[k-1]?=some u→RD v u=true)→(l.takeWhile (RD v)).length=k
 |[],k,_,hk,_,_=>by simp at hk;simp[hk]
 |a::l,0,_,_,h1,_=>by
  have:=h1 a (.head _);simp[this]
 |a::l,k+1,hr,hk,h1,h2=>by
  have ih:=yp.cut (v:=v) (l:=l) (k:=k) hr.tail (by simpa using hk) (fun u hu=>h1 u (by simpa using hu)) fun u h0 hu=>by
   obtain⟨j,rfl⟩: ∃j,k=j+1:=⟨k-1,by omega⟩;exact h2 u az (by simpa using hu)
  have ha:RD v a=true:=by
   cases k with
   |zero=>exact h2 a az rfl
   |succ k=>
    cases l with
    |nil=>simp at hk
    |cons b r=>
     refine adU hr.1 ?_;rw[List.takeWhile_cons] at ih
     cases hb:RD v b with
     |true=>rfl
     |false=>rw[hb] at ih;simp at ih
  rw[List.takeWhile_cons,aT ha,g7,ih]
theorem afW {l:List jU} (h: ∀i,gM l (fun x y=>JZ x.name y.name) i=true):yp l:=by
 induction l with
 |nil=>trivial
 |cons a l ih=>
  cases l with
  |nil=>trivial
  |cons b r=>
   refine⟨?_,ih fun i=> ?_⟩
   ·have:=h 1;simpa [gM] using this
   ·cases i with
    |zero=>rfl
    |succ i=>have:=h (i+2);simpa [gM] using this
theorem yp.modify {f:jU→jU} (hf: ∀u,(f u).name=u.name): ∀{l:List jU} (i:Nat),yp l→yp (l.modify i f)
 |[],i,h=>by cases i<;>exact h
 |[a],0,_=>trivial
 |[a],i+1,_=>by cases i<;>trivial
 |a::b::r,0,h=>by
  show yp (f a::b::r);exact⟨by rw[hf];exact h.1,h.2⟩
 |a::b::r,1,h=>by
  show yp (a::f b::r);refine⟨by rw[hf];exact h.1,?_⟩;exact yp.modify hf (l:=b::r) 0 h.2
 |a::b::r,i+2,h=>⟨h.1,yp.modify hf (l:=b::r) (i+1) h.2⟩
theorem KB {p:bg} (h:cr p=true):yp p.aq:=by
 have hv:=u0 h;unfold iX at hv;simp only[dW] at hv;refine afW fun i=> ?_
 by_cases hi:i<p.aq.length
 ·have:=uX.1 hv.1 i hi
  unfold cA at this;rw[bH hi] at this;simp only[dW] at this;exact this.2.2.2.2.1
 ·cases i with
  |zero=>rfl
  |succ k=>
   have hn:p.aq[k+1]?=none:=Tg az;simp only[gM,hn]
   cases p.aq[k]?<;>rfl
def Gu (p x:bg) (ok:Bool):bg×Int:=if ok=true then U9 p x else(p,6)
def I3 (p:bg) (s:ByteArray) (n:Int):bg:=⟨p.t,(me p.aU p.next 0).1,p.cells,uq p.aq ⟨s,p.next,n,false⟩,p.next+1⟩
def yR (p:bg) (s:ByteArray) (n:Int):bg×Int:=
 if uZ p s=true then(if 0≤dy p.aq s then(p,3) else if g8 n 1 12=true then Gu p (I3 p s n) (me p.aU p.next 0).2 else(p,4)) else(p,1)
def adV (p:bg) (v:jU):List mw×Bool:=me (me p.aU p.next v.dJ).1 (p.next+1) v.dJ
def T6 (p:bg) (to:ByteArray) (i:Int) (v:jU) (fx:Bool):bg:=⟨p.t,(adV p v).1,p.cells,uq (p.aq.modify i.toNat fun u=>{u with dJ:=p.next}) ⟨to,p.next+1,v.size,fx⟩,p.next+2⟩
def L7 (p:bg) (s to:ByteArray) (fx:Bool):bg×Int:=
 if uZ p s=true∧mF to=true then(match eI p.aq (dy p.aq s) with
  |none=>(p,2)
  |some v=>if 0≤dy p.aq to then(p,3) else Gu p (T6 p to (dy p.aq s) v fx) ((me p.aU p.next v.dJ).2&&(adV p v).2)) else(p,1)
theorem Zs (p:bg) (s:ByteArray) (n:Int):aQ (I3 p s n)≤aQ p+s.size+2:=by
 have h1:=BW p.aU p.next 0;have h2:=Gg (RD ⟨s,p.next,n,false⟩) ⟨s,p.next,n,false⟩ p.aq;have h3:=KA tX (RD ⟨s,p.next,n,false⟩) ⟨s,p.next,n,false⟩ p.aq;unfold aQ p8 I3 uq;simp only[h2,h3,tX];omega
theorem adW (p:bg) (to:ByteArray) (i:Int) (v:jU) (fx:Bool):aQ (T6 p to i v fx)≤aQ p+to.size+3:=by
 have h0:=BW p.aU p.next v.dJ;have h1:=BW (me p.aU p.next v.dJ).1 (p.next+1) v.dJ;have h2:=Gg (RD ⟨to,p.next+1,v.size,fx⟩) ⟨to,p.next+1,v.size,fx⟩ (p.aq.modify i.toNat fun u=>{u with dJ:=p.next});have h3:=KA tX (RD ⟨to,p.next+1,v.size,fx⟩) ⟨to,p.next+1,v.size,fx⟩ (p.aq.modify i.toNat fun u=>{u with dJ:=p.next});have h4:=HD (w:=tX) (f:=fun u:jU=>{u with dJ:=p.next}) (l:=p.aq) (i:=i.toNat) fun a _=>dj _
 rw[Th] at h2;unfold aQ p8 T6 adV uq;simp only[h2,h3];simp only[tX] at*;omega
end Go.T
namespace Go.T
def gtM (m u:Mp):Bool:= !(JZ u.name m.name||OE u.name m.name)
def afX (l:List Mp) (m:Mp):Nat→Nat
 |0=>0
 |k+1=>match l[k]? with
  |some u=>if gtM m u=true then afX l m k else k+1
  |none=>k+1
theorem aaQ (l:List Mp) (m:Mp): ∀k,afX l m k≤k
 |0=>dj _
 |k+1=>by
  unfold afX
  split
  ·split
   ·exact Nat.le_succ_of_le (aaQ l m k)
   ·exact dj _
  ·exact dj _
def adX {α:Type} (l:List α) (k:Nat) (x:α):List α:=l.take k++x::l.drop k
def adY (l:List Mp) (m:Mp):List Mp:=adX l (afX l m l.length) m
theorem adZ (l:List Mp) (m:Mp):(adY l m).length=l.length+1:=by
 have:=aaQ l m l.length;unfold adY adX;rw[cT,g7,gz,lD];omega
theorem ad3 {l:List Mp} {m x:Mp} (h:x∈adY l m):x∈l∨x=m:=by
 unfold adY adX at h;rcases List.mem_append.1 h with h|h
 ·exact .inl (Aq h)
 ·rcases ef.1 h with h|h
  ·exact .inr h
  ·exact .inl (EE h)
def Va (l l':List Mp):Prop:=l'.length≤l.length+1∧ ∀B:Nat,12≤B→(∀x∈l,x.l.length≤B)→ ∀x∈l',x.l.length≤B
theorem Va.refl (l:List Mp):Va l l:=⟨Nat.le_succ _,fun _ _ h=>h⟩
theorem Va.put {l:List Mp} {m:Mp} (h: ∀B:Nat,12≤B→(∀x∈l,x.l.length≤B)→m.l.length≤B):Va l (adY l m):=
 ⟨Nat.le_of_eq (adZ l m),fun B hB hl x hx=>(ad3 hx).elim (hl x) fun e=>by rw[e];exact h B hB hl⟩
end Go.T
namespace Go.T
abbrev tNB (x:List (List Key)×Bool):TV:= .tu [(1,[.sub 1 (x.1.map eP)]),(0,[iB x.2])]
def Vb (s:List Key) (k:Key):Bool:=(Ky s k.b k.a).2||decide (s.length<4)
def nt (n:List (List Key)) (k:Key):List (List Key):=match n[n.length-1]? with
 |none=>n++[[k]]
 |some s=>if Vb s k=true then n.set (n.length-1) (eE s k) else n++[[k]]
def cW (n:List (List Key)) (k:Key):List Key:=ko (eE (aB n) k)
def cH (n:List (List Key)) (k:Key):List (List Key)×Bool:=
 if ff (nt n k)=true then(nt n k,true) else if 8<(cW n k).length then(n,false) else if ff (cG (cW n k))=true then(cG (cW n k),true) else(n,false)
theorem qt (n:List (List Key)) (k:Key):(cW n k).length≤tot cw n+1:=by
 have h1:=cR n;have h2:=lZ (aB n) k;have h3:(cW n k).length≤(eE (aB n) k).length:=LN _ _;omega
theorem Xx {α:Type} (w:α→Nat) (l:List α) (a:α):tot w (l++[a])=tot w l+w a:=by
 induction l with
 |nil=>simp[tot]
 |cons b r ih=>simp only[Ez,tot,ih];omega
theorem PE {α:Type} (w:α→Nat) (c:Nat): ∀(l:List α) (i:Nat) (a a':α),l[i]?=some a→w a'≤w a+c→tot w (l.set i a')≤tot w l+c
 |[],i,a,a',h,_=>by simp at h
 |b::r,0,a,a',h,hw=>by
  simp only[fM,bq] at h;subst h;simp only[List.set_cons_zero,tot];omega
 |b::r,i+1,a,a',h,hw=>by
  have:=PE w c r i a a' (by simpa using h) hw;simp only[List.set_cons_succ,tot];omega
theorem PF (n:List (List Key)) (k:Key):(nt n k).length≤n.length+1:=by
 unfold nt
 split
 ·rw[cT];simp
 ·split
  ·rw[List.length_set];omega
  ·rw[cT];simp
theorem PG (n:List (List Key)) (k:Key):tot cw (nt n k)≤tot cw n+1:=by
 unfold nt
 split
 ·rw[Xx];exact dj _
 ·rename_i s hs
  split
  ·exact PE cw 1 _ _ s _ hs (by have:=lZ s k;unfold cw;omega)
  ·rw[Xx];exact dj _
theorem yS (l:List Key):(cG l).length≤1:=by
 unfold cG
 split<;>simp
theorem E4 (l:List Key):tot cw (cG l)≤l.length:=by
 unfold cG
 split
 ·simp[tot]
 ·simp[tot,cw]
theorem E5 (n:List (List Key)) (k:Key):(cH n k).1.length≤n.length+1:=by
 have h1:=PF n k;have h2:=yS (cW n k);unfold cH
 repeat' split
 all_goals simp only[];omega
theorem E6 (n:List (List Key)) (k:Key):tot cw (cH n k).1≤tot cw n+1:=by
 have h1:=PG n k;have h2:=E4 (cW n k);have h3:=qt n k;unfold cH
 repeat' split
 all_goals simp only[];omega
end Go.T
namespace Go.T
def tN (x y:Key):Prop:=x.b<y.b∨(x.b=y.b∧x.a<y.a)
theorem tN.trans {x y z:Key} (h1:tN x y) (h2:tN y z):tN x z:=by unfold tN at*;omega
theorem u6 {x y:Key}:ez x y=true↔tN x y:=by unfold ez tN;simp
theorem wA {x y:Key}:kY x y=true↔x.b=y.b∧x.a=y.a:=by unfold kY;simp
theorem I5 {k y:Key}: ∀{l:List Key},y∈fD k true l→y∈l
 |[],h=>by simp[fD] at h
 |x::r,h=>by
  simp only[fD,LL,Bool.false_and,Ey,if_false,w4,Bool.true_or] at h;rcases List.mem_append.1 h with h|h
  ·split at h
   ·cases h
   ·rw[jS.1 h];exact .head _
  ·exact .tail _ (I5 h)
theorem PI {k y:Key}: ∀{l:List Key} {put:Bool},y∈fD k put l→y∈l∨y=k
 |[],put,h=>by
  simp only[fD] at h
  split at h
  ·cases h
  ·exact .inr (jS.1 h)
 |x::r,put,h=>by
  simp only[fD] at h;rcases List.mem_append.1 h with h|h
  ·rcases List.mem_append.1 h with h|h
   ·split at h
    ·exact .inr (jS.1 h)
    ·cases h
   ·split at h
    ·cases h
    ·exact .inl (by rw[jS.1 h];exact .head _)
  ·exact(PI h).imp (.tail _) id
theorem Gh {k:Key}: ∀{l:List Key},l.Pairwise tN→(fD k true l).Pairwise tN
 |[],_=>by simp[fD]
 |x::r,h=>by
  obtain⟨h1,h2⟩:=List.pairwise_cons.1 h;simp only[fD,LL,Bool.false_and,Ey,if_false,w4,Bool.true_or]
  split
  ·exact Gh h2
  ·exact List.pairwise_cons.2 ⟨fun y hy=>h1 y (I5 hy),Gh h2⟩
theorem T7 {k:Key}: ∀{l:List Key},l.Pairwise tN→(fD k false l).Pairwise tN
 |[],_=>by simp[fD]
 |x::r,h=>by
  obtain⟨h1,h2⟩:=List.pairwise_cons.1 h
  cases hk:ez x k with
  |true=>
   have hlt:=u6.1 hk
   have hns:kY x k=false:=by
    cases hs:kY x k with
    |false=>rfl
    |true=>have:=wA.1 hs;unfold tN at hlt;omega
   simp only[fD,hk,hns,Bool.not_false,LL,dz,Bool.and_false,Ey,if_false,w4,Bool.or_false,GF];refine List.pairwise_cons.2 ⟨fun y hy=> ?_,T7 h2⟩;rcases PI hy with hy|rfl
   ·exact h1 y hy
   ·exact hlt
  |false=>
   have hge: ¬tN x k:=fun h=>by rw[u6.2 h] at hk;cases hk
   simp only[fD,hk,Bool.not_false,dz,if_true,Bool.or_true]
   have hr: ∀y∈fD k true r,tN k y:=fun y hy=>by
    have:=h1 y (I5 hy);unfold tN at*;omega
   split
   ·exact List.pairwise_cons.2 ⟨hr,Gh h2⟩
   ·rename_i hns
    refine List.pairwise_cons.2 ⟨fun y hy=> ?_,List.pairwise_cons.2 ⟨fun y hy=>h1 y (I5 hy),Gh h2⟩⟩;rcases ef.1 hy with rfl|hy
    ·have: ¬(y.b=k.b∧y.a=k.a):=fun h=>hns (wA.2 h)
     unfold tN at*;omega
    ·exact hr y hy
theorem sD {l:List Key} {k:Key} (h:l.Pairwise tN):(eE l k).Pairwise tN:=T7 h
theorem HE {l:List Key} {k y:Key} (h:y∈eE l k):y∈l∨y=k:=PI h
theorem BX: ∀(new:List Key) {old:List Key},old.Pairwise tN→(ct old new).Pairwise tN
 |[],_,h=>h
 |x::r,_,h=>BX r (sD h)
theorem T8 {y:Key}: ∀{new old:List Key},y∈ct old new→y∈old∨y∈new
 |[],_,h=> .inl h
 |x::r,old,h=>by
  have h:y∈ct (eE old x) r:=h;rcases T8 h with h|h
  ·exact(HE h).imp id fun e=>by rw[e];exact .head _
  ·exact .inr (.tail _ h)
theorem HF: ∀(n:List (List Key)) {acc:List Key},acc.Pairwise tN→(n.foldl ct acc).Pairwise tN
 |[],_,h=>h
 |s::r,_,h=>HF r (BX s h)
theorem T9 {y:Key}: ∀{n:List (List Key)} {acc:List Key},y∈n.foldl ct acc→y∈acc∨ ∃s∈n,y∈s
 |[],_,h=> .inl h
 |s::r,acc,h=>by
  rcases T9 (n:=r) h with h|⟨s',h1,h2⟩
  ·exact(T8 h).imp id fun h=>⟨s,.head _,h⟩
  ·exact .inr ⟨s',.tail _ h1,h2⟩
theorem lG (n:List (List Key)):(aB n).Pairwise tN:=(HF n .nil).sublist List.filter_sublist
theorem lA {n:List (List Key)} {y:Key} (h:y∈aB n): ∃s∈n,y∈s:=by
 rcases T9 (List.mem_filter.1 h).1 with h|h
 ·cases h
 ·exact h
theorem uJ (n:List (List Key)) (k:Key):(cW n k).Pairwise tN:=(sD (lG n)).sublist List.filter_sublist
theorem BY {n:List (List Key)} {k y:Key} (h:y∈cW n k):y=k∨ ∃s∈n,y∈s:=
 (HE (List.mem_filter.1 h).1).elim (fun h=> .inr (lA h)) .inl
theorem ad4 {l:List Key} (h1:l.Pairwise tN) (h2: ∀y∈l,eU y=true) (h3:l.length≤60):Cp l=true:=by
 rw[IV];simp only[dW,decide_eq_true_eq];refine⟨List.all_eq_true.2 h2,uX.2 fun i hi=> ?_,h3⟩
 cases i with
 |zero=>rfl
 |succ k=>
  simp only[gM];rw[bH (by omega:k<l.length),bH hi];exact u6.2 (List.pairwise_iff_getElem.1 h1 k (k+1) az hi az)
theorem sE {n:List (List Key)} (h:ff n=true) {s:List Key} (hs:s∈n) {y:Key} (hy:y∈s):eU y=true:=by
 unfold ff at h;simp only[dW] at h;have:=List.all_eq_true.1 h.1.1 s hs;simp only[dW] at this;have h2:=this.1;rw[IV] at h2;simp only[dW] at h2;exact List.all_eq_true.1 h2.1 y hy
theorem xx {l:List Key} (h1:l.Pairwise tN) (h2: ∀y∈l,eU y=true) (h3:l.length≤8):ff (cG l)=true:=by
 unfold cG
 split
 ·decide
 ·rename_i h0
  unfold ff;have:=ad4 h1 h2 az;have h00:l≠[]:=fun e=>h0 (by rw[e];rfl);simp[this,h00,cY,tot,cw,h3]
theorem Xy {n:List (List Key)} {k:Key} (h:ff n=true) (hk:eU k=true): ∀y∈cW n k,eU y=true:=fun y hy=>by
 rcases BY hy with rfl|⟨s,h1,h2⟩
 ·exact hk
 ·exact sE h h1 h2
theorem HG {n:List (List Key)} {k:Key} (h:ff n=true) (hk:eU k=true) (hp:(cH n k).2=false):8<(cW n k).length∧cH n k=(n,false):=by
 have hn:=xx (uJ n k) (Xy h hk);unfold cH at hp ⊢
 split at hp
 ·cases hp
 ·rename_i h1
  split at hp
  ·rename_i h2
   exact⟨h2,by rw[aK h1,aT h2]⟩
  ·rename_i h2
   rw[aT (hn az)] at hp
   cases hp
end Go.T
namespace Go.T
def gw (x y:Int):Int:=EG .or .i64 (ahr .i64 (vN .i64 x) 8) (vN .i64 y)
end Go.T
namespace Go.T
abbrev Ex (x:Tree×Bool):TV:= .tu [(1,adJ x.1),(0,[iB x.2])]
def mD (t:Tree) (i c:Nat) (ax:List Int) (nodes:List (List (List Key))):Tree:=⟨t.ax.take i++ax++t.ax.drop (i+c),t.nodes.take i++nodes++t.nodes.drop (i+c)⟩
def iY (t:Tree) (i:Nat):List Key:=aB (t.nodes.getD i [])
def u7 (t:Tree):Nat→Nat→Option Nat
 |0,_=>none
 |d+1,i=>if i+1<t.nodes.length then(if(iY t i).length+(iY t (i+1)).length≤6 then some i else u7 t d (i+1)) else none
def mg (t:Tree):Option Nat:=u7 t t.nodes.length 0
def cC (t:Tree) (i:Nat):Tree:=mD t i 2 [t.ax.getD i 0] [cG (iY t i++iY t (i+1))]
def jV:Nat→Tree→Tree
 |0,t=>t
 |n+1,t=>match mg t with
  |none=>t
  |some i=>jV n (cC t i)
theorem L8 {t:Tree}: ∀{d i j:Nat},u7 t d i=some j→i≤j∧j+1<t.nodes.length∧(iY t j).length+(iY t (j+1)).length≤6
 |0,i,j,h=>by cases h
 |d+1,i,j,h=>by
  unfold u7 at h
  split at h
  ·split at h
   ·cases h;exact⟨dj _,by assumption,by assumption⟩
   ·have:=L8 h;exact⟨by omega,this.2⟩
  ·cases h
theorem wW {t:Tree} {j:Nat} (h:mg t=some j):j+1<t.nodes.length∧(iY t j).length+(iY t (j+1)).length≤6:=(L8 h).2
theorem E7 (t:Tree) (i c:Nat) (ax:List Int) (nodes:List (List (List Key))) (h:i+c≤t.nodes.length):(mD t i c ax nodes).nodes.length+c=t.nodes.length+nodes.length:=by
 unfold mD;simp only[cT,gz,lD];omega
theorem xy (t:Tree) (i c:Nat) (ax:List Int) (nodes:List (List (List Key))) (h:i+c≤t.ax.length):(mD t i c ax nodes).ax.length+c=t.ax.length+ax.length:=by
 unfold mD;simp only[cT,gz,lD];omega
theorem tj {t:Tree} {i:Nat} (h:i+1<t.nodes.length):(cC t i).nodes.length+1=t.nodes.length:=by
 have:=E7 t i 2 [t.ax.getD i 0] [cG (iY t i++iY t (i+1))] az;unfold cC;simp only[fY] at this;omega
def jB (t:Tree) (i:Nat) (k:Key):Tree:=
 if(cH (t.nodes.getD i []) k).2=true then
  (if 0<i∧(aB (cH (t.nodes.getD i []) k).1).length=0 then mD t i 1 [] [] else mD t i 1 [t.ax.getD i 0] [(cH (t.nodes.getD i []) k).1])
 else mD t i 1 [t.ax.getD i 0,c7 ((cW (t.nodes.getD i []) k).getD (((cW (t.nodes.getD i []) k).length+1)/2) eX).b ((cW (t.nodes.getD i []) k).getD (((cW (t.nodes.getD i []) k).length+1)/2) eX).a]
  [cG ((cW (t.nodes.getD i []) k).take (((cW (t.nodes.getD i []) k).length+1)/2)),cG ((cW (t.nodes.getD i []) k).drop (((cW (t.nodes.getD i []) k).length+1)/2))]
def bB (t:Tree) (k:Key):Tree×Bool:=
 if cP t=true∧eU k=true then(if cP (jV (jB t (jx t k.b k.a).toNat k).nodes.length (jB t (jx t k.b k.a).toNat k))=true then(jV (jB t (jx t k.b k.a).toNat k).nodes.length (jB t (jx t k.b k.a).toNat k),true) else(t,false)) else(t,false)
end Go.T
namespace Go.T
theorem Zu {α:Type} (w:α→Nat) (c:Nat): ∀l:List α,(∀a∈l,w a≤c)→tot w l≤c*l.length
 |[],_=>by simp[tot]
 |a::r,h=>by
  have h1:=h a (.head _);have h2:=Zu w c r fun b hb=>h b (.tail _ hb);simp only[tot,g7,Nat.mul_add];omega
theorem nN {n:List (List Key)} (h:ff n=true):n.length≤3∧tot cw n≤8:=by
 unfold ff cY at h;simp only[dW,decide_eq_true_eq] at h;exact⟨h.1.2,h.2⟩
theorem Gi {t:Tree} (h:cP t=true) {i:Nat} (hi:i<t.nodes.length):cV t i=true:=by
 unfold cP at h;simp only[dW] at h;exact uX.1 h.2.2.2.1 i hi
theorem qb {t:Tree} (h:cP t=true) {n:List (List Key)} (hn:n∈t.nodes):ff n=true:=by
 obtain⟨i,hi,rfl⟩:=List.getElem_of_mem hn;have:=Gi h hi;unfold cV at this;rw[bH hi] at this;simp only[dW] at this;exact this.2.1
theorem nu {t:Tree} (h:cP t=true):1≤t.nodes.length∧t.nodes.length≤20∧t.ax.length=t.nodes.length:=by
 unfold cP g8 at h;simp only[dW,decide_eq_true_eq] at h;omega
theorem PJ {t:Tree} (h:cP t=true):t.ax[0]?=some 0:=by
 have hl:=nu h;unfold cP at h;simp only[dW] at h
 have h0:0<t.ax.length:=by omega
 have:=h.2.2.1;rw[bH h0] at this ⊢;simp only[decide_eq_true_eq] at this;rw[this]
theorem HH {t:Tree} (h:cP t=true):tot aV t.nodes≤220:=by
 have h1:=Zu aV 11 t.nodes fun n hn=>by
  have:=nN (qb h hn);unfold aV;omega
 have h2:=nu h;omega
theorem Gj {t:Tree} (h:cP t=true):dx t≤260:=by
 have h1:=HH h;have h2:=nu h;unfold dx wq;omega
theorem PK {t:Tree} {k:Key} (h:(bB t k).2=true):cP (bB t k).1=true:=by
 unfold bB at h ⊢
 split
 ·split
  ·assumption
  ·rename_i h1 h2;rw[aT h1,aK h2] at h;cases h
 ·rename_i h1;rw[aK h1] at h;cases h
theorem BZ {t:Tree} {k:Key} (h:(bB t k).2=false):(bB t k).1=t:=by
 unfold bB at h ⊢
 split
 ·split
  ·rename_i h1 h2;rw[aT h1,aT h2] at h;cases h
  ·rfl
 ·rfl
theorem xz (t:Tree) (k:Key):dx (bB t k).1≤max (dx t) 260:=by
 cases h:(bB t k).2 with
 |true=>have:=Gj (PK h);omega
 |false=>rw[BZ h];omega
theorem L9 {p:bg} (h:cr p=true):cP p.t=true:=by
 simp only[cr,dW] at h;exact h.2.1
theorem wB {p:bg} (h:cr p=true):fE p.cells=true:=by
 simp only[cr,dW] at h;exact h.2.2.2.1
theorem bh {s:ByteArray} (h:mF s=true):1≤s.size∧s.size≤6:=by
 simp only[mF,dW,g8,decide_eq_true_eq] at h;omega
theorem Ua {p:bg} (h:iX p=true) {v:jU} (hv:v∈p.aq):mF v.name=true∧1≤v.size∧v.size≤12∧0≤fJ p.aU v.dJ:=by
 obtain⟨i,hi,rfl⟩:=List.getElem_of_mem hv;simp only[iX,dW,uX] at h;have:=h.1 i hi;unfold cA at this;rw[bH hi] at this;simp only[dW,g8,decide_eq_true_eq,wY,decide_eq_false_iff_not] at this;exact⟨this.1,this.2.1.1,this.2.1.2,by omega⟩
theorem Ub {p:bg} (h:cr p=true):aQ p≤500:=by
 have h1:=Gj (L9 h)
 have h2:p.aU.length≤16:=by
  have:=Xm h;simp only[gE,dW,decide_eq_true_eq] at this;exact this.2
 have h3:p.cells.length=24:=by
  have:=wB h;simp only[fE,dW,decide_eq_true_eq] at this;exact this.2
 have hv:=u0 h
 have h4:p.aq.length≤6:=by
  simp only[iX,dW,decide_eq_true_eq] at hv;exact hv.2
 have h5:=Zu tX 6 p.aq fun v hm=>(bh (Ua hv hm).1).2;unfold aQ p8;omega
theorem ad5 (p x:bg):aQ (U9 p x).1≤max (aQ p) 500:=by
 unfold U9
 split
 ·rename_i h;have:=Ub h;simp only[];omega
 ·simp only[];omega
theorem E8 (p x:bg) (b:Bool):aQ (Gu p x b).1≤max (aQ p) 500:=by
 unfold Gu
 split
 ·exact ad5 p x
 ·simp only[];omega
def I6 (p:bg) (k:Key):List Cell:=if(xu p.t k.b k.a).2=true∧(xu p.t k.b k.a).1.k=1 then kZ p.cells (xu p.t k.b k.a).1.c else p.cells
def g6 (p:bg) (k:Key):bg×Bool:=if(bB p.t k).2=true then(⟨(bB p.t k).1,p.aU,I6 p k,p.aq,p.next⟩,true) else(p,false)
theorem I7 (p:bg) (k:Key):(I6 p k).length=p.cells.length:=by
 unfold I6;split
 ·exact BU _ _
 ·rfl
theorem xA (p:bg) (k:Key):aQ (g6 p k).1≤aQ p+260:=by
 have h1:=xz p.t k;have h2:=I7 p k;unfold g6
 split
 ·unfold aQ;simp only[];omega
 ·simp only[];omega
theorem I8 (p:bg) (k:Key):(g6 p k).1.aU=p.aU∧(g6 p k).1.aq=p.aq∧(g6 p k).1.next=p.next∧(g6 p k).1.cells.length=p.cells.length:=by
 have h2:=I7 p k;unfold g6
 split
 ·exact⟨rfl,rfl,rfl,h2⟩
 ·exact⟨rfl,rfl,rfl,rfl⟩
def mG (p:bg) (s:ByteArray) (b:Int):Int:=
 if uZ p s=true then(match eI p.aq (dy p.aq s) with
  |none=>2
  |some v=>if v.fx=true then 5 else if g8 b 0 (v.size-1)=true then 0 else 4) else 1
theorem E9 {p:bg} {s:ByteArray} {b:Int} (h:mG p s b=0): ∃v,eI p.aq (dy p.aq s)=some v∧uZ p s=true∧v.fx=false∧0≤b∧b≤v.size-1:=by
 unfold mG at h
 split at h
 ·rename_i hf
  split at h
  ·cases h
  ·rename_i v hv
   split at h
   ·cases h
   ·split at h
    ·rename_i h1 h2
     refine⟨v,hv,hf,by simpa using h1,?_⟩;simpa [g8] using h2
    ·cases h
 ·cases h
def aaR (l:List Cell) (i:Int):Int:=match eI l i with|some c=>c.g|none=>0
def Zv (p:bg) (b n:Int) (v:jU):bg×Bool:=g6 ⟨p.t,p.aU,(jA p.cells n).1,p.aq,p.next⟩ ⟨b,v.dJ,1,(jA p.cells n).2.1,aaR (jA p.cells n).1 (jA p.cells n).2.1⟩
def sq (p:bg) (s:ByteArray) (b n:Int):bg×Int:=
 if mG p s b=0 then(if lz n=true then(match eI p.aq (dy p.aq s) with
  |none=>(p,2)
  |some v=>if(jA p.cells n).2.2=true then Gu p (Zv p b n v).1 (Zv p b n v).2 else(p,6)) else(p,4)) else(p,mG p s b)
def e8 (p:bg) (dJ b:Int):bg×Bool:=
 if(wV p.t p.aU b dJ).2=true∧(wV p.t p.aU b dJ).1.k=1 then g6 p ⟨b,dJ,2,0,0⟩ else if(xu p.t b dJ).2=true then g6 p ⟨b,dJ,0,0,0⟩ else(p,true)
theorem I9 (p:bg) (dJ b:Int):aQ (e8 p dJ b).1≤aQ p+260:=by
 unfold e8
 split
 ·exact xA _ _
 ·split
  ·exact xA _ _
  ·simp only[];omega
theorem PL (p:bg) (dJ b:Int):(e8 p dJ b).1.aU=p.aU∧(e8 p dJ b).1.aq=p.aq∧(e8 p dJ b).1.next=p.next∧(e8 p dJ b).1.cells.length=p.cells.length:=by
 unfold e8
 split
 ·exact I8 _ _
 ·split
  ·exact I8 _ _
  ·exact⟨rfl,rfl,rfl,rfl⟩
def qc (p:bg) (s:ByteArray) (b:Int):bg×Int:=
 if mG p s b=0 then(match eI p.aq (dy p.aq s) with
  |none=>(p,2)
  |some v=>Gu p (e8 p v.dJ b).1 (e8 p v.dJ b).2) else(p,mG p s b)
def GQ (dJ:Int):Nat→Int→bg→bg×Bool
 |0,_,p=>(p,true)
 |n+1,b,p=>if(e8 p dJ b).2=true then GQ dJ n (b-1) (e8 p dJ b).1 else(p,false)
def Ja (p:bg) (i:Int) (n:Int):bg:=⟨p.t,p.aU,p.cells,p.aq.modify i.toNat fun u=>{u with size:=n},p.next⟩
def tw (p:bg) (s:ByteArray) (n:Int):bg×Int:=
 if mG p s 0=0 then(if g8 n 1 12=true then(match eI p.aq (dy p.aq s) with
  |none=>(p,2)
  |some v=>Gu p (Ja (GQ v.dJ (v.size-n).toNat (v.size-1) p).1 (dy p.aq s) n) (GQ v.dJ (v.size-n).toNat (v.size-1) p).2) else(p,4)) else(p,mG p s 0)
theorem abF (p:bg) (s:ByteArray) (b n:Int):aQ (sq p s b n).1≤max (aQ p) 500:=by
 unfold sq
 repeat' split
 all_goals first|exact EF _ _|exact E8 _ _ _
theorem Xz (p:bg) (s:ByteArray) (b:Int):aQ (qc p s b).1≤max (aQ p) 500:=by
 unfold qc
 repeat' split
 all_goals first|exact EF _ _|exact E8 _ _ _
theorem Zw (p:bg) (s:ByteArray) (n:Int):aQ (tw p s n).1≤max (aQ p) 500:=by
 unfold tw
 repeat' split
 all_goals first|exact EF _ _|exact E8 _ _ _
def xB (i:Int) (k:Key):Bool:=decide (k.k=1)&&decide (k.c=i)
def pK (p:bg) (i:Int):Key:=match(ay p.t).find? (xB i) with|some k=>k|none=>eX
def yT (p:bg) (i n:Int):Key:=⟨(pK p i).b,(pK p i).a,(pK p i).k,(jA p.cells n).2.1,aaR (jA p.cells n).1 (jA p.cells n).2.1⟩
def PM (p:bg) (i n:Int):bg×Bool:=(⟨(bB p.t (yT p i n)).1,p.aU,kZ (jA p.cells n).1 i,p.aq,p.next⟩,(bB p.t (yT p i n)).2)
def yU (p:bg) (x:bg×Bool):bg×Bool:=if x.2=true∧cr x.1=true then(x.1,true) else(p,false)
theorem XA (p:bg) (x:bg×Bool):aQ (yU p x).1≤max (aQ p) 500:=by
 unfold yU
 split
 ·rename_i h;have:=Ub h.2;simp only[];omega
 ·simp only[];omega
def jC (p:bg) (i:Int):bg×Bool:=
 if cr p=true then(match eI p.cells i with
  |none=>(p,false)
  |some c=>if c.u=true∧0≤jG p.cells∧jG p.cells≤i then yU p (PM p i c.n) else(p,false)) else(p,false)
theorem XC (p:bg) (i:Int):aQ (jC p i).1≤max (aQ p) 500:=by
 unfold jC
 split
 ·split
  ·simp only[];omega
  ·split
   ·exact XA _ _
   ·simp only[];omega
 ·simp only[];omega
def B0 (l:List mw) (id fr:Int):List mw:=l.map fun a=>if a.fr=id then {a with fr:=fr} else a
def ur (l:List mw) (id:Int):List mw×Bool:=
 if gE l=true then(match eI l (fJ l id) with
  |none=>(l,false)
  |some a=>((B0 l id a.fr).take (fJ l id).toNat++(B0 l id a.fr).drop ((fJ l id).toNat+1),true)) else(l,false)
theorem PN (l:List mw) (id fr:Int):(B0 l id fr).length=l.length:=by unfold B0;simp
theorem Zx (l:List mw) (id:Int):(ur l id).1.length≤l.length:=by
 unfold ur
 repeat' split
 all_goals simp only[cT,gz,lD,PN];omega
def Oy (p:bg) (i:Int):Key:=match eI (ay p.t) i with|some k=>k|none=>eX
def jy (k:Key):Key:=⟨k.b,k.a,0,0,0⟩
def KC (p:bg) (k:Key):Key:=⟨k.b,E3 p k.a,k.k,k.c,k.g⟩
def Ma (p:bg) (k:Key):bg×Bool:=
 (⟨(bB (bB p.t (jy k)).1 (KC p k)).1,p.aU,p.cells,p.aq,p.next⟩,(bB p.t (jy k)).2&&(bB (bB p.t (jy k)).1 (KC p k)).2)
def abG (p:bg) (id:Int):bg×Bool:=(⟨p.t,(ur p.aU id).1,p.cells,p.aq,p.next⟩,(ur p.aU id).2)
def Mb (p:bg) (j i:Int):bg×Bool:=
 if j=4 then(match eI p.aU i with|some a=>abG p a.id|none=>(p,false)) else if j=3 then Ma p (Oy p i) else g6 p (jy (Oy p i))
def kr (p:bg):bg×Bool:=if(gD p).1=0 then(p,false) else yU p (Mb p (gD p).1 (gD p).2)
theorem Vc (p:bg):aQ (kr p).1≤max (aQ p) 500:=by
 unfold kr
 split
 ·simp only[];omega
 ·exact XA _ _
def vV (x:bg×Bool):bg×Int:=if x.2=true then(x.1,0) else(x.1,2)
def pE (p:bg) (o:JW):bg×Int:=
 if Xl o=true∧cr p=true then
  (if o.kind=1 then yR p o.name o.a else if o.kind=2 then L7 p o.name o.to (decide (o.b=1)) else if o.kind=3 then I2 p o.name
   else if o.kind=4 then sq p o.name o.a o.b else if o.kind=5 then qc p o.name o.a else if o.kind=6 then tw p o.name o.a
   else if o.kind=7 then vV (kr p) else if o.kind=8 then vV (qa p o.a) else vV (jC p o.a)) else(p,1)
theorem XD (p:bg) (s:ByteArray) (n:Int):aQ (yR p s n).1≤max (aQ p) 500:=by
 unfold yR
 repeat' split
 all_goals first|exact EF _ _|exact E8 _ _ _
theorem abH (p:bg) (s to:ByteArray) (fx:Bool):aQ (L7 p s to fx).1≤max (aQ p) 500:=by
 unfold L7
 repeat' split
 all_goals first|exact EF _ _|exact E8 _ _ _
theorem abI (p:bg) (s:ByteArray):aQ (I2 p s).1≤max (aQ p) 500:=by
 have:=adR p s;omega
theorem PO (x:bg×Bool):aQ (vV x).1=aQ x.1:=by unfold vV;split<;>rfl
theorem abJ (p:bg) (o:JW):aQ (pE p o).1≤max (aQ p) 500:=by
 unfold pE
 repeat' split
 ·exact XD _ _ _
 ·exact abH _ _ _ _
 ·exact abI _ _
 ·exact abF _ _ _ _
 ·exact Xz _ _ _
 ·exact Zw _ _ _
 ·rw[PO];exact Vc _
 ·rw[PO];have:=Xq p o.a;omega
 ·rw[PO];exact XC _ _
 ·simp only[];omega
end Go.T
namespace Go.T
theorem wC {α:Type} (w:α→Nat): ∀l m:List α,tot w (l++m)=tot w l+tot w m
 |[],m=>by simp[tot]
 |a::l,m=>by simp only[Ez,tot,wC w l m];omega
theorem Zy {α:Type} {l:List α} {i:Nat} {a b:α} (ha:l[i]?=some a) (hb:l[i+1]?=some b):l=l.take i++a::b::l.drop (i+2):=by
 obtain⟨h1,e1⟩:=List.getElem?_eq_some_iff.1 ha;obtain⟨h2,e2⟩:=List.getElem?_eq_some_iff.1 hb
 conv=>lhs;rw[←GG i l]
 rw[wZ h1,wZ h2,e1,e2]
theorem HI (l:List Key):aV (cG l)≤l.length+1:=by
 have h1:=yS l;have h2:=E4 l;unfold aV;omega
theorem gl {t:Tree} {i:Nat} {a:List (List Key)} (h:t.nodes[i]?=some a):iY t i=aB a:=by unfold iY;rw[qK,h];rfl
theorem uu (n:Nat) (t:Tree):jV (n+1) t=match mg t with|none=>t|some i=>jV n (cC t i):=rfl
theorem yV {t:Tree} {i:Nat} (h:i+1<t.nodes.length):tot aV (cC t i).nodes+(cC t i).nodes.length≤tot aV t.nodes+t.nodes.length:=by
 obtain⟨a,ha⟩: ∃a,t.nodes[i]?=some a:=⟨_,bH az⟩;obtain⟨b,hb⟩: ∃b,t.nodes[i+1]?=some b:=⟨_,bH h⟩;have hl:=tj h;have hs:=congrArg (tot aV) (Zy ha hb);rw[wC] at hs;simp only[tot] at hs;have la:=cR a;have lb:=cR b;have hn:=HI (iY t i++iY t (i+1));rw[cT,gl ha,gl hb] at hn
 have e:tot aV (cC t i).nodes=tot aV (t.nodes.take i)+aV (cG (aB a++aB b))+tot aV (t.nodes.drop (i+2)):=by
  unfold cC mD;simp only[];rw[wC,wC,gl ha,gl hb];simp[tot]
 have sa:aV a=a.length+tot cw a:=rfl;have sb:aV b=b.length+tot cw b:=rfl;omega
theorem RE {t:Tree} {i:Nat} (h:i+1<t.nodes.length) (hl:t.ax.length=t.nodes.length):(cC t i).ax.length=(cC t i).nodes.length:=by
 have h1:=xy t i 2 [t.ax.getD i 0] [cG (iY t i++iY t (i+1))] az;have h2:=E7 t i 2 [t.ax.getD i 0] [cG (iY t i++iY t (i+1))] az;simp only[fY] at h1 h2;unfold cC;omega
theorem XE: ∀(n:Nat) (t:Tree),t.ax.length=t.nodes.length→tot aV (jV n t).nodes+(jV n t).nodes.length≤tot aV t.nodes+t.nodes.length∧(jV n t).ax.length=(jV n t).nodes.length
 |0,t,h=>⟨dj _,h⟩
 |n+1,t,h=>by
  rw[uu]
  cases hp:mg t with
  |none=>exact⟨dj _,h⟩
  |some i=>
   have hlt:=(wW hp).1;have h1:=yV hlt;have h2:=XE n (cC t i) (RE hlt h);exact⟨by simp only[];omega,h2.2⟩
theorem Fa {k:Key} (h:eU k=true):0≤k.b∧k.b≤15∧1≤k.a∧k.a≤60∧0≤k.k∧k.k≤2:=by
 simp only[eU,g8,dW,decide_eq_true_eq] at h;omega
theorem afY {b a:Int} (h: -1000≤b∧b≤1000∧ -1000≤a∧a≤1000):c7 b a=64*b+a:=by
 unfold c7;rw[afM az,aO az]
theorem B1 {k:Key} (h:eU k=true):c7 k.b k.a=64*k.b+k.a:=by
 have:=Fa h;exact afY az
theorem PR {f:Int→Bool} {l:List Int} {x:Int} (h0:l[0]?=some x) (hx:f x=true): ∀n:Nat,0<n→n≤l.length→ ∃j:Nat,rJ f l n=j∧j<n
 |0,h,_=>by omega
 |n+1,_,hn=>by
  unfold rJ;rw[bH az];simp only[]
  split
  ·exact⟨n,rfl,by omega⟩
  ·rename_i hf
   cases n with
   |zero=>
    rw[bH az] at h0
    cases h0;exact absurd hx hf
   |succ n=>
    obtain⟨j,h1,h2⟩:=PR h0 hx (n+1) az az;exact⟨j,h1,by omega⟩
theorem PS {t:Tree} {k:Key} (h:cP t=true) (hk:eU k=true): ∃j:Nat,jx t k.b k.a=j∧j<t.nodes.length:=by
 have h1:=nu h;have h2:=Fa hk;have h3:=B1 hk;unfold jx;have:=PR (f:=fun x=>decide (x≤c7 k.b k.a)) (PJ h) (by simp only[decide_eq_true_eq];omega) t.ax.length az (dj _);rw[h1.2.2] at this ⊢;exact this
theorem XF (n:List (List Key)) (k:Key):aV (cH n k).1≤aV n+2:=by
 have h1:=E5 n k;have h2:=E6 n k;unfold aV;omega
theorem abK (t:Tree) (i c:Nat) (ax:List Int) (nodes:List (List (List Key))):tot aV (mD t i c ax nodes).nodes≤tot aV t.nodes+tot aV nodes:=by
 have h:tot aV (t.nodes.take i++t.nodes.drop i)=tot aV t.nodes:=by rw[GG]
 have h2:tot aV (t.nodes.drop (i+c))≤tot aV (t.nodes.drop i):=by
  rw[←List.drop_drop]
  have h3:tot aV ((t.nodes.drop i).take c++(t.nodes.drop i).drop c)=tot aV (t.nodes.drop i):=by rw[GG]
  rw[wC] at h3;omega
 unfold mD;simp only[wC] at h ⊢;omega
theorem afZ {t:Tree} {i:Nat} {k:Key} (hl:t.ax.length=t.nodes.length) (hi:i<t.nodes.length) (ht: ∀n∈t.nodes,tot cw n≤8∧n.length≤3):
 tot aV (jB t i k).nodes≤tot aV t.nodes+40∧(jB t i k).nodes.length≤t.nodes.length+1∧(jB t i k).ax.length=(jB t i k).nodes.length:=by
 have hn:=ht t.nodes[i] (tT hi)
 have hg:t.nodes.getD i []=t.nodes[i]:=by rw[qK,bH hi];rfl
 have hp:=XF t.nodes[i] k;have hk:=qt t.nodes[i] k;have hz:aV t.nodes[i]=t.nodes[i].length+tot cw t.nodes[i]:=rfl;unfold jB;rw[hg];generalize cW t.nodes[i] k=l at*;have e1:=HI (l.take ((l.length+1)/2));have e2:=HI (l.drop ((l.length+1)/2));rw[gz] at e1;rw[lD] at e2
 have key: ∀(ax:List Int) (nodes:List (List (List Key))),ax.length=nodes.length→nodes.length≤2→tot aV nodes≤40→tot aV (mD t i 1 ax nodes).nodes≤tot aV t.nodes+40∧(mD t i 1 ax nodes).nodes.length≤t.nodes.length+1∧(mD t i 1 ax nodes).ax.length=(mD t i 1 ax nodes).nodes.length:=by
  intro ax nodes h1 h2 h3;have h4:=abK t i 1 ax nodes;have h5:=E7 t i 1 ax nodes az;have h6:=xy t i 1 ax nodes az;omega
 split
 ·split
  ·exact key _ _ rfl cE (by simp[tot])
  ·exact key _ _ rfl cE (by simp only[tot];omega)
 ·exact key _ _ rfl cE (by simp only[tot];omega)
theorem Vd {t:Tree} (h:cP t=true): ∀n∈t.nodes,tot cw n≤8∧n.length≤3:=fun n hn=>by
 have:=nN (qb h hn);omega
theorem XG {t:Tree} {i:Nat} {k:Key} (h:cP t=true) (hi:i<t.nodes.length):
 tot aV (jB t i k).nodes+(jB t i k).nodes.length≤300∧(jB t i k).ax.length=(jB t i k).nodes.length∧dx (jV (jB t i k).nodes.length (jB t i k))≤600:=by
 have h1:=nu h;have h2:=HH h;have h3:=afZ (k:=k) h1.2.2 hi (Vd h);have h4:=XE (jB t i k).nodes.length (jB t i k) h3.2.2;refine⟨by omega,h3.2.2,?_⟩;unfold dx wq;omega
theorem GR {α:Type} {w:α→Nat} {f:α→α} (hf: ∀a,w (f a)=w a): ∀(l:List α) (i:Nat),tot w (l.modify i f)=tot w l
 |[],i=>by cases i<;>rfl
 |a::r,0=>by rw[List.modify_zero_cons];simp only[tot,hf]
 |a::r,i+1=>by rw[List.modify_succ_cons];simp only[tot,GR hf r i]
theorem ad6 (p:bg) (i n:Int):aQ (Ja p i n)=aQ p:=by
 unfold aQ p8 Ja;simp only[Th];rw[GR (w:=tX) (f:=fun u:jU=>{u with size:=n}) fun a=>rfl]
theorem Ve {n:Nat} (h:8<n):(n+1)/2<n:=by omega
end Go.T
namespace Go.T
end Go.T
namespace Go.T
theorem eG {P:Prop} (h:P:=by
 repeat' first
  |assumption
  |exact rfl
  |exact⟨rfl,rfl⟩
  |exact⟨rfl,trivial⟩
  |refine⟨_,_,_,_,_,_,_,by assumption,?_⟩
  |refine⟨_,_,_,_,_,_,by assumption,?_⟩
  |refine⟨_,_,_,_,_,by assumption,?_⟩
  |refine⟨_,_,_,_,by assumption,?_⟩
  |refine⟨_,_,_,by assumption,?_⟩
  |refine⟨_,_,by assumption,?_⟩
  |refine⟨_,by assumption,?_⟩
  |refine aa (by first|rfl|assumption|(rw[bV];rfl)) ?_
  |refine av (by first|rfl|assumption|(rw[bV];rfl)) ?_
  |refine⟨(_,_),?_,?_,rfl⟩
  |refine⟨(_,_),?_,?_,rfl,rfl⟩
  |refine⟨?_,?_⟩):P:=h
end Go.T
namespace Go.T
def HJ (b a:Int) (x:Key):Bool:=decide (x.b=b∧x.a=a)
def look (l:List Key) (b a:Int):Option Key:=l.find? (HJ b a)
theorem Zz (l:List Key) (b a:Int):setAt l b a=look l b a:=rfl
theorem rm (l m:List Key) (b a:Int):look (l++m) b a=(look l b a).or (look m b a):=by unfold look;rw[List.find?_append]
theorem mI (x:Key) (l:List Key) (b a:Int):look (x::l) b a=if x.b=b∧x.a=a then some x else look l b a:=by
 unfold look;rw[List.find?_cons]
 by_cases h:x.b=b∧x.a=a
 ·rw[aT h];simp[HJ,h]
 ·rw[aK h];simp[HJ,h]
theorem PT {k:Key} {b a:Int} (h: ¬(k.b=b∧k.a=a)): ∀(l:List Key) (put:Bool),look (fD k put l) b a=look l b a
 |[],put=>by
  unfold fD
  cases put with
  |true=>rfl
  |false=>simp only[Ey,if_false];rw[mI,aK h]
 |x::r,put=>by
  have ih:=PT h r (put|| !ez x k);simp only[fD,rm];rw[ih,mI]
  have h1:look (if(!put&& !ez x k)=true then [k] else []) b a=none:=by
   split
   ·rw[mI,aK h];rfl
   ·rfl
  rw[h1]
  by_cases hs:kY x k=true
  ·have:=wA.1 hs
   rw[aT hs,aK az]
   rfl
  ·rw[aK hs,mI]
   by_cases hx:x.b=b∧x.a=a
   ·rw[aT hx,aT hx];rfl
   ·rw[aK hx,aK hx];rfl
theorem aaS {k:Key}: ∀l:List Key,l.Pairwise tN→look (fD k false l) k.b k.a=some k
 |[],_=>by simp only[fD,Ey,if_false];rw[mI,aT ⟨rfl,rfl⟩]
 |x::r,hp=>by
  obtain⟨h1,h2⟩:=List.pairwise_cons.1 hp
  cases hk:ez x k with
  |true=>
   have hlt:=u6.1 hk
   have hns:kY x k=false:=by
    cases hs:kY x k with
    |false=>rfl
    |true=>have:=wA.1 hs;unfold tN at hlt;omega
   simp only[fD,hk,hns,Bool.not_false,LL,dz,Bool.and_false,Ey,if_false,w4,Bool.or_false,GF];rw[rm,aaS r h2,mI,aK (by unfold tN at hlt;omega)];rfl
  |false=>
   simp only[fD,hk,Bool.not_false,dz,if_true,Bool.or_true];rw[rm,rm,mI,aT ⟨rfl,rfl⟩];rfl
theorem yW {l:List Key} {k:Key} (h:l.Pairwise tN) (b a:Int):look (eE l k) b a=if k.b=b∧k.a=a then some k else look l b a:=by
 unfold eE
 by_cases hs:k.b=b∧k.a=a
 ·rw[aT hs,←hs.1,←hs.2];exact aaS l h
 ·rw[aK hs];exact PT hs l false
theorem KD {l:List Key} {b a:Int} {x:Key} (h:look l b a=some x):x∈l∧x.b=b∧x.a=a:=by
 unfold look at h;have h1:=List.find?_some h;unfold HJ at h1;exact⟨List.mem_of_find?_eq_some h,by simpa using h1⟩
theorem XH {l:List Key} (h:l.Pairwise tN) {x:Key} (hx:x∈l):look l x.b x.a=some x:=by
 induction l with
 |nil=>cases hx
 |cons y r ih=>
  obtain⟨h1,h2⟩:=List.pairwise_cons.1 h;rw[mI];rcases ef.1 hx with rfl|hx
  ·rw[aT ⟨rfl,rfl⟩]
  ·have:=h1 x hx
   rw[aK (by unfold tN at this;omega)];exact ih h2 hx
theorem AM {l:List Key} {b a:Int} (h: ∀x∈l,¬(x.b=b∧x.a=a)):look l b a=none:=by
 unfold look;rw[List.find?_eq_none];intro x hx hs;unfold HJ at hs;exact h x hx (by simpa using hs)
theorem HK: ∀(new:List Key) {old:List Key},old.Pairwise tN→new.Pairwise tN→ ∀b a,look (ct old new) b a=(look new b a).or (look old b a)
 |[],old,_,_,b,a=>rfl
 |x::r,old,ho,hn,b,a=>by
  obtain⟨h1,h2⟩:=List.pairwise_cons.1 hn;have ih:=HK r (sD (k:=x) ho) h2 b a;show look (ct (eE old x) r) b a=_;rw[ih,yW ho,mI]
  by_cases hs:x.b=b∧x.a=a
  ·rw[aT hs,aT hs]
   have hr:look r b a=none:=AM fun y hy h=>by
    have:=h1 y hy;unfold tN at this;omega
   rw[hr];rfl
  ·rw[aK hs,aK hs]
theorem Fb {l:List Key} (h:l.Pairwise tN) (p:Key→Bool) (b a:Int):look (l.filter p) b a=(look l b a).filter p:=by
 induction l with
 |nil=>rfl
 |cons x r ih=>
  obtain⟨h1,h2⟩:=List.pairwise_cons.1 h;rw[mI]
  by_cases hp:p x=true
  ·rw[List.filter_cons_of_pos hp,mI,ih h2]
   by_cases hs:x.b=b∧x.a=a
   ·rw[aT hs,aT hs];simp[Option.filter,hp]
   ·rw[aK hs,aK hs]
  ·rw[List.filter_cons_of_neg hp,ih h2]
   by_cases hs:x.b=b∧x.a=a
   ·rw[aT hs]
    have hr:look r b a=none:=AM fun y hy h=>by
     have:=h1 y hy;unfold tN at this;omega
    rw[hr];simp[Option.filter,hp]
   ·rw[aK hs]
theorem XI: ∀{l m:List Key},l.Pairwise tN→m.Pairwise tN→(∀x,x∈l↔x∈m)→l=m
 |[],[],_,_,_=>rfl
 |[],y::m,_,_,h=>by have:=(h y).2 (.head _);cases this
 |x::l,[],_,_,h=>by have:=(h x).1 (.head _);cases this
 |x::l,y::m,hl,hm,h=>by
  obtain⟨h1,h2⟩:=List.pairwise_cons.1 hl;obtain⟨h3,h4⟩:=List.pairwise_cons.1 hm
  have hxy:x=y:=by
   rcases ef.1 ((h x).1 (.head _)) with e|e
   ·exact e
   ·rcases ef.1 ((h y).2 (.head _)) with e2|e2
    ·exact e2.symm
    ·have a1:=h3 x e
     have a2:=h1 y e2;unfold tN at a1 a2;omega
  subst hxy
  have:l=m:=XI h2 h4 fun z=>by
   constructor
   ·intro hz
    rcases ef.1 ((h z).1 (.tail _ hz)) with e|e
    ·subst e;have:=h1 z hz;unfold tN at this;omega
    ·exact e
   ·intro hz
    rcases ef.1 ((h z).2 (.tail _ hz)) with e|e
    ·subst e;have:=h3 z hz;unfold tN at this;omega
    ·exact e
  rw[this]
theorem PU {l m:List Key} (hl:l.Pairwise tN) (hm:m.Pairwise tN) (h: ∀b a,look l b a=look m b a):l=m:=
 XI hl hm fun x=>⟨fun hx=>by have:=XH hl hx;rw[h] at this;exact(KD this).1,fun hx=>by have:=XH hm hx;rw[←h] at this;exact(KD this).1⟩
def Mc (n:List (List Key)):Prop:= ∀s∈n,s.Pairwise tN
theorem ZA {l:List Key} (h:Cp l=true):l.Pairwise tN:=by
 rw[IV] at h;simp only[dW] at h;have hp:=uX.1 h.2.1
 have key: ∀(l:List Key),(∀i,i<l.length→gM l ez i=true)→l.Pairwise tN:=by
  intro l
  induction l with
  |nil=>intro _;exact .nil
  |cons x r ih=>
   intro hq
   have hr:=ih fun i hi=>by
    have:=hq (i+1) ie
    cases i with
    |zero=>rfl
    |succ i=>simpa [gM] using this
   refine List.pairwise_cons.2 ⟨?_,hr⟩
   cases r with
   |nil=>intro y hy;cases hy
   |cons z r=>
    have hxz:tN x z:=by have:=hq 1 cE;simp only[gM,fM,sP] at this;exact u6.1 this
    intro y hy;rcases ef.1 hy with rfl|hy
    ·exact hxz
    ·exact hxz.trans ((List.pairwise_cons.1 hr).1 y hy)
 exact key l hp
theorem u9 {n:List (List Key)} (h:ff n=true):Mc n:=fun s hs=>by
 unfold ff at h;simp only[dW] at h;have:=List.all_eq_true.1 h.1.1 s hs;simp only[dW] at this;exact ZA this.1
def vW:List (List Key)→Int→Int→Option Key
 |[],_,_=>none
 |s::r,b,a=>(vW r b a).or (look s b a)
theorem PV: ∀(n:List (List Key)) {acc:List Key},acc.Pairwise tN→Mc n→ ∀b a,look (n.foldl ct acc) b a=(vW n b a).or (look acc b a)
 |[],acc,_,_,b,a=>rfl
 |s::r,acc,ha,hn,b,a=>by
  have hs:=hn s (.head _);have ih:=PV r (BX s ha) (fun t ht=>hn t (.tail _ ht)) b a;show look (r.foldl ct (ct acc s)) b a=_;rw[ih,HK s ha hs];show _=((vW r b a).or (look s b a)).or (look acc b a);rw[Option.or_assoc]
def pL (k:Key):Bool:= !decide (k.k=0)
theorem Gk {n:List (List Key)} (h:Mc n) (b a:Int):look (aB n) b a=(vW n b a).filter pL:=by
 have hr:(sC n).Pairwise tN:=HF n .nil;have e:=Fb hr pL b a;have e2:=PV n .nil h b a;show look ((sC n).filter pL) b a=_;rw[e];show Option.filter pL (look (n.foldl ct []) b a)=_;rw[e2];show Option.filter pL ((vW n b a).or none)=_;rw[Option.or_none]
def XJ:Option Key→Key×Bool
 |some k=>(k,true)
 |none=>(eX,false)
theorem B2 (n:List (List Key)) (s:List Key) (b a:Int):vW (n++[s]) b a=(look s b a).or (vW n b a):=by
 induction n with
 |nil=>simp[vW]
 |cons t r ih=>simp only[Ez,vW,ih,Option.or_assoc]
theorem GS (n:List (List Key)) (b a:Int): ∀k,k≤n.length→rj n b a k=XJ ((vW (n.take k) b a).filter pL)
 |0,_=>rfl
 |k+1,h=>by
  have ih:=GS n b a k az
  have hk:k<n.length:=by omega
  unfold rj;rw[bH hk,List.take_add_one,bH hk];simp only[Option.toList];rw[B2];unfold Ky;rw[Zz]
  cases hl:look n[k] b a with
  |none=>simp only[Ey,if_false];rw[ih];rfl
  |some x=>
   simp only[if_true,Option.some_or]
   by_cases hx:x.k=0
   ·rw[aT hx];simp[Option.filter,pL,hx,XJ]
   ·rw[aK hx];simp[Option.filter,pL,hx,XJ]
theorem XK {n:List (List Key)} (h:Mc n) (b a:Int):rj n b a n.length=XJ (look (aB n) b a):=by
 rw[GS n b a n.length (dj _),sQ,Gk h]
end Go.T
namespace Go.T
theorem abL {l:List Key} (h:l.Pairwise tN):ct [] l=l:=
 PU (BX l .nil) h fun b a=>by rw[HK l .nil h];show(look l b a).or none=_;rw[Option.or_none]
theorem AN {l:List Key} (h:l.Pairwise tN) (hn: ∀x∈l,¬x.k=0):aB (cG l)=l:=by
 unfold cG
 split
 ·rename_i h0
  rw[List.length_eq_zero_iff.1 h0];rfl
 ·show ko (ct [] l)=l
  rw[abL h];unfold ko;rw[List.filter_eq_self];intro x hx;simpa using hn x hx
theorem Gl {n:List (List Key)} {x:Key} (hx:x∈aB n): ¬x.k=0:=by
 have:=(List.mem_filter.1 hx).2;simpa using this
theorem Uc {n:List (List Key)} {k x:Key} (hx:x∈cW n k): ¬x.k=0:=by
 have:=(List.mem_filter.1 hx).2;simpa using this
theorem ad7 {n:List (List Key)} (k:Key) (h:Mc n) (b a:Int):vW (nt n k) b a=if k.b=b∧k.a=a then some k else vW n b a:=by
 have hone: ∀m:List (List Key),vW (m++[[k]]) b a=if k.b=b∧k.a=a then some k else vW m b a:=fun m=>by
  rw[B2,mI]
  by_cases hs:k.b=b∧k.a=a
  ·rw[aT hs,aT hs];rfl
  ·rw[aK hs,aK hs];rfl
 unfold nt
 cases hl:n[n.length-1]? with
 |none=>exact hone n
 |some s=>
  simp only[]
  split
  ·obtain⟨hlt,hs⟩:=List.getElem?_eq_some_iff.1 hl
   have hpos:0<n.length:=by omega
   have e1:n=n.take (n.length-1)++[s]:=by
    conv=>lhs;rw[←GG (n.length-1) n]
    rw[wZ hlt,hs,LM az]
   have e2:n.set (n.length-1) (eE s k)=n.take (n.length-1)++[eE s k]:=by
    rw[List.set_eq_take_append_cons_drop,aT hlt,LM az]
   rw[e2,B2,yW (h s (by rw[←hs];exact tT hlt))]
   conv=>rhs;rw[e1]
   rw[B2]
   by_cases hs:k.b=b∧k.a=a
   ·rw[aT hs,aT hs];rfl
   ·rw[aK hs,aK hs]
  ·exact hone n
theorem Ud {n:List (List Key)} (k:Key) (h:Mc n) (b a:Int):look (cW n k) b a=(if k.b=b∧k.a=a then some k else vW n b a).filter pL:=by
 have hr:=lG n;show look ((eE (aB n) k).filter pL) b a=_;rw[Fb (sD hr),yW hr]
 by_cases hs:k.b=b∧k.a=a
 ·rw[aT hs,aT hs]
 ·rw[aK hs,aK hs,Gk h]
  cases vW n b a with
  |none=>rfl
  |some x=>by_cases hx:pL x=true<;>simp[Option.filter,hx]
theorem af0 {n:List (List Key)} (k:Key) (h:Mc n) (h2:Mc (nt n k)):aB (nt n k)=cW n k:=
 PU (lG _) (uJ n k) fun b a=>by rw[Gk h2,ad7 k h,Ud k h]
theorem Vf {n:List (List Key)} {k:Key} (h:ff n=true) (hp:(cH n k).2=true):aB (cH n k).1=cW n k∧ff (cH n k).1=true:=by
 have hr:=u9 h;unfold cH at hp ⊢
 split
 ·rename_i h1
  exact⟨af0 k hr (u9 h1),h1⟩
 ·rename_i h1
  rw[aK h1] at hp
  split
  ·rename_i h2;rw[aT h2] at hp;cases hp
  ·rename_i h2
   rw[aK h2] at hp
   split
   ·rename_i h3
    exact⟨AN (uJ n k) fun x hx=>Uc hx,h3⟩
   ·rename_i h3;rw[aK h3] at hp;cases hp
theorem RF (n:List (List Key)):aB (mY n)=aB n:=AN (lG n) fun x hx=>Gl hx
theorem XL {n:List (List Key)} (h:ff n=true):ff (mY n)=true∧(mY n).length≤1:=by
 have h1:=nN h;have h2:=cR n;refine⟨xx (lG n) (fun y hy=> ?_) az,yS _⟩;obtain⟨s,hs,hy⟩:=lA hy;exact sE h hs hy
end Go.T
namespace Go.T
structure sF (t:Tree):Prop where
 len:t.ax.length=t.nodes.length
 low0:t.ax[0]?=some 0
 rise: ∀i x y,t.ax[i]?=some x→t.ax[i+1]?=some y→x<y
 ok: ∀n∈t.nodes,ff n=true
 lo: ∀(i:Nat) (n:List (List Key)) (x:Int),t.nodes[i]?=some n→t.ax[i]?=some x→ ∀s∈n,∀k:Key,k∈s→x≤c7 k.b k.a
 hi: ∀(i:Nat) (n:List (List Key)) (x:Int),t.nodes[i]?=some n→t.ax[i+1]?=some x→ ∀s∈n,∀k:Key,k∈s→c7 k.b k.a<x
theorem ad8 {t:Tree} (h:cP t=true):sF t:=by
 have hl:=nu h;have YC: ∀i n,t.nodes[i]?=some n→cV t i=true:=fun i n hn=>Gi h (List.getElem?_eq_some_iff.1 hn).1
 have hsp: ∀(i:Nat) (n:List (List Key)),t.nodes[i]?=some n→ ∀s∈n,∀k:Key,k∈s→HA t.ax i (c7 k.b k.a)=true:=by
  intro i n hn s hs k hk;have:=YC i n hn;unfold cV at this;rw[hn] at this;simp only[dW] at this;have h1:=List.all_eq_true.1 this.2.2.2 s hs;unfold cu at h1;exact List.all_eq_true.1 h1 k hk
 refine⟨hl.2.2,PJ h,?_,fun n hn=>qb h hn,?_,?_⟩
 ·intro i x y hx hy
  obtain⟨hi,_⟩:=List.getElem?_eq_some_iff.1 hy;have:=Gi h (i:=i+1) az;unfold cV at this;simp only[dW,gM,hx,hy,decide_eq_true_eq] at this;exact this.1
 ·intro i n x hn hx s hs k hk
  have:=hsp i n hn s hs k hk;unfold HA at this;rw[hx] at this;simp only[dW,wY,decide_eq_false_iff_not] at this;omega
 ·intro i n x hn hx s hs k hk
  have:=hsp i n hn s hs k hk;obtain⟨hi,_⟩:=List.getElem?_eq_some_iff.1 hn;unfold HA at this;rw[bH (by omega:i<t.ax.length),hx] at this;simp only[dW,decide_eq_true_eq] at this;exact this.2
theorem sF.mono {t:Tree} (h:sF t): ∀(d i:Nat) (x y:Int),t.ax[i]?=some x→t.ax[i+d+1]?=some y→x<y
 |0,i,x,y,hx,hy=>h.rise i x y hx hy
 |d+1,i,x,y,hx,hy=>by
  obtain⟨hlt,_⟩:=List.getElem?_eq_some_iff.1 hy;have hm:t.ax[i+d+1]?=some t.ax[i+d+1]:=bH az;have h1:=h.mono d i x _ hx hm;have h2:=h.rise (i+d+1) _ y hm (by rw[show i+d+1+1=i+(d+1)+1 from by omega];exact hy);omega
theorem sF.lt {t:Tree} (h:sF t) {i j:Nat} {x y:Int} (hij:i<j) (hx:t.ax[i]?=some x) (hy:t.ax[j]?=some y):x<y:=
 h.mono (j-i-1) i x y hx (by rw[show i+(j-i-1)+1=j from by omega];exact hy)
theorem sF.key {t:Tree} (h:sF t) {i:Nat} {n:List (List Key)} (hn:t.nodes[i]?=some n) {x:Key} (hx:x∈aB n):eU x=true:=by
 obtain⟨s,hs,hy⟩:=lA hx;exact sE (h.ok n (ja hn)) hs hy
theorem Jb {x y:Key} (hx:eU x=true) (hy:eU y=true):c7 x.b x.a<c7 y.b y.a↔tN x y:=by
 have h1:=Fa hx;have h2:=Fa hy;rw[B1 hx,B1 hy];unfold tN;omega
def xC (t:Tree) (i:Nat):List Key:=(t.nodes.drop i).flatMap aB
theorem GU {t:Tree} {i:Nat} {n:List (List Key)} (hn:t.nodes[i]?=some n):xC t i=aB n++xC t (i+1):=by
 obtain⟨hi,he⟩:=List.getElem?_eq_some_iff.1 hn;unfold xC;rw[wZ hi,he,List.flatMap_cons]
theorem wD {t:Tree} {i:Nat} (h:t.nodes.length≤i):xC t i=[]:=by
 unfold xC;rw[LM h];rfl
theorem sF.aaT {t:Tree} (h:sF t): ∀(d i:Nat),i+d=t.nodes.length→ ∀x,t.ax[i]?=some x→ ∀k∈xC t i,eU k=true∧x≤c7 k.b k.a
 |0,i,hd,x,hx,k,hk=>by rw[wD az] at hk;cases hk
 |d+1,i,hd,x,hx,k,hk=>by
  have hn:t.nodes[i]?=some t.nodes[i]:=bH az;rw[GU hn] at hk;rcases List.mem_append.1 hk with hk|hk
  ·refine⟨h.key hn hk,?_⟩
   obtain⟨s,hs,hk⟩:=lA hk;exact h.lo i _ x hn hx s hs k hk
  ·cases hm:t.ax[i+1]? with
   |none=>
    have hl:=h.len
    have: ¬i+1<t.ax.length:=fun hlt=>by rw[bH hlt] at hm;cases hm
    rw[wD az] at hk;cases hk
   |some y=>
    obtain⟨h1,h2⟩:=h.aaT d (i+1) az y hm k hk;have:=h.rise i x y hx hm;exact⟨h1,by omega⟩
theorem sF.Ue {t:Tree} (h:sF t): ∀(d i:Nat),i+d=t.nodes.length→(xC t i).Pairwise tN
 |0,i,hd=>by rw[wD az];exact .nil
 |d+1,i,hd=>by
  have hn:t.nodes[i]?=some t.nodes[i]:=bH az;rw[GU hn];refine List.pairwise_append.2 ⟨lG _,h.Ue d (i+1) az,fun x hx y hy=> ?_⟩
  cases hm:t.ax[i+1]? with
  |none=>
   have hl:=h.len
   have: ¬i+1<t.ax.length:=fun hlt=>by rw[bH hlt] at hm;cases hm
   rw[wD az] at hy;cases hy
  |some z=>
   obtain⟨h1,h2⟩:=h.aaT d (i+1) az z hm y hy;have hxk:=h.key hn hx;obtain⟨s,hs,hx⟩:=lA hx;have h3:=h.hi i _ z hn hm s hs x hx;exact(Jb hxk h1).1 az
theorem sF.Gm {t:Tree} (h:sF t):(ay t).Pairwise tN:=h.Ue t.nodes.length 0 az
theorem B3 {f:Int→Bool} {l:List Int}: ∀(n:Nat),n≤l.length→(rJ f l n= -1∧ ∀j x,j<n→l[j]?=some x→f x=false)∨ ∃i:Nat,rJ f l n=i∧i<n∧(∃x,l[i]?=some x∧f x=true)∧ ∀j x,i<j→j<n→l[j]?=some x→f x=false
 |0,_=> .inl ⟨rfl,fun j x h=>by omega⟩
 |n+1,h=>by
  have hn:n<l.length:=by omega
  unfold rJ;rw[bH hn];simp only[]
  cases hf:f l[n] with
  |true=>exact .inr ⟨n,by simp,by omega,⟨_,bH hn,hf⟩,fun j x h1 h2=>by omega⟩
  |false=>
   rw[aK cE];rcases B3 (f:=f) (l:=l) n az with⟨h1,h2⟩|⟨i,h1,h2,h3,h4⟩
   ·refine .inl ⟨h1,fun j x hj hx=> ?_⟩
    by_cases hjn:j=n
    ·subst hjn;rw[bH hn] at hx;cases hx;exact hf
    ·exact h2 j x az hx
   ·refine .inr ⟨i,h1,by omega,h3,fun j x hij hj hx=> ?_⟩
    by_cases hjn:j=n
    ·subst hjn;rw[bH hn] at hx;cases hx;exact hf
    ·exact h4 j x hij az hx
theorem sF.aaU {t:Tree} (h:sF t) {i:Nat} {x:Int} {b a:Int} (hx:t.ax[i]?=some x) (hlo:x≤c7 b a) (hhi: ∀j y,i<j→t.ax[j]?=some y→c7 b a<y):
 ∀(j:Nat) (n:List (List Key)),t.nodes[j]?=some n→ ¬j=i→look (aB n) b a=none:=by
 intro j n hn hne;refine AM fun k hk hs=> ?_
 have hj:j<t.ax.length:=by rw[h.len];exact(List.getElem?_eq_some_iff.1 hn).1
 obtain⟨s,YB,El⟩:=lA hk;have h1:=h.lo j n t.ax[j] hn (bH hj) s YB k El;rw[hs.1,hs.2] at h1
 by_cases hji:j<i
 ·have hj1:j+1<t.ax.length:=by have:=(List.getElem?_eq_some_iff.1 hx).1;omega
  have h2:=h.hi j n t.ax[j+1] hn (bH hj1) s YB k El;rw[hs.1,hs.2] at h2
  by_cases he:j+1=i
  ·subst he;rw[bH hj1] at hx;cases hx;omega
  ·have:=h.lt (i:=j+1) (j:=i) az (bH hj1) hx
   omega
 ·have:=hhi j _ az (bH hj)
  omega
theorem Uf {b a:Int}: ∀(l:List (List (List Key))) (i:Nat) (n:List (List Key)),l[i]?=some n→(∀j m,l[j]?=some m→ ¬j=i→look (aB m) b a=none)→look (l.flatMap aB) b a=look (aB n) b a
 |[],i,n,h,_=>by simp at h
 |m::r,0,n,h,hn=>by
  simp only[fM,bq] at h;subst h;rw[List.flatMap_cons,rm]
  have:look (r.flatMap aB) b a=none:=AM fun x hx hs=>by
   obtain⟨q,hq,hx⟩:=List.mem_flatMap.1 hx;obtain⟨j,hj⟩:=List.mem_iff_getElem?.1 hq;have:=hn (j+1) q (by simpa using hj) az;unfold look at this;rw[List.find?_eq_none] at this;exact this x hx (by unfold HJ;simpa using hs)
  rw[this,Option.or_none]
 |m::r,i+1,n,h,hn=>by
  rw[List.flatMap_cons,rm,hn 0 m rfl az];have:=Uf r i n (by simpa using h) fun j q hj hne=>hn (j+1) q (by simpa using hj) az;rw[this];rfl
theorem sF.find {t:Tree} (h:sF t) {b a:Int} (hs:0≤c7 b a):xu t b a=XJ (look (ay t) b a):=by
 unfold xu jx;rcases B3 (f:=fun x=>decide (x≤c7 b a)) (l:=t.ax) t.ax.length (dj _) with⟨_,h2⟩|⟨i,h1,h2,⟨x,hx,hf⟩,h4⟩
 ·have hpos:=(List.getElem?_eq_some_iff.1 h.low0).1
  have:=h2 0 0 hpos h.low0;simp only[decide_eq_false_iff_not] at this;omega
 ·rw[h1,aN]
  have hlo:x≤c7 b a:=qM hf
  have hi:i<t.nodes.length:=by rw[←h.len];exact h2
  have hn:t.nodes[i]?=some t.nodes[i]:=bH hi;rw[hn];simp only[]
  have hno:=h.aaU hx hlo fun j y hij hy=>by
   have:=h4 j y hij (List.getElem?_eq_some_iff.1 hy).1 hy;simp only[decide_eq_false_iff_not] at this;omega
  rw[XK (u9 (h.ok _ (tT hi)))];unfold ay;rw[Uf t.nodes i t.nodes[i] hn hno]
end Go.T
namespace Go.T
abbrev Nd:=List (List Key)
def below (x:Int):Option Int→Prop
 |none=>True
 |some y=>x<y
def Vg (l:List Int) (hi:Option Int):Option Int:=match l with|[]=>hi|y::_=>some y
def Vh (x:Int) (hi:Option Int) (n:Nd):Prop:=ff n=true∧below x hi∧ ∀s∈n,∀k:Key,k∈s→x≤c7 k.b k.a∧below (c7 k.b k.a) hi
def TR (hi:Option Int):List Int→List Nd→Prop
 |[],[]=>True
 |x::xs,n::ns=>Vh x (Vg xs hi) n∧TR hi xs ns
 |_,_=>False
theorem aaV (l m:List Int) (hi:Option Int):Vg (l++m) hi=Vg l (Vg m hi):=by cases l<;>rfl
theorem AO (l:List Int):Vg l none=l[0]?:=by cases l<;>rfl
theorem va {x y:Int} {o:Option Int} (h:x≤y) (h2:below y o):below x o:=by
 cases o with
 |none=>trivial
 |some z=>have:y<z:=h2;show x<z;omega
theorem TR.app {hi:Option Int} {l2:List Int} {n2:List Nd} (h2:TR hi l2 n2): ∀{l:List Int} {n:List Nd},TR (Vg l2 hi) l n→TR hi (l++l2) (n++n2)
 |[],[],_=>h2
 |x::xs,n::ns,h=>⟨by show Vh x (Vg (xs++l2) hi) n;rw[aaV];exact h.1,TR.app h2 h.2⟩
 |[],_::_,h=>h.elim
 |_::_,[],h=>h.elim
theorem TR.split {hi:Option Int} {l2:List Int} {n2:List Nd}: ∀{l:List Int} {n:List Nd},l.length=n.length→TR hi (l++l2) (n++n2)→TR (Vg l2 hi) l n∧TR hi l2 n2
 |[],[],_,h=>⟨trivial,h⟩
 |x::xs,n::ns,hl,h=>by
  have h:Vh x (Vg (xs++l2) hi) n∧TR hi (xs++l2) (ns++n2):=h;rw[aaV] at h;have:=TR.split (by simpa using hl) h.2;exact⟨⟨h.1,this.1⟩,this.2⟩
 |[],_::_,hl,_=>by simp at hl
 |_::_,[],hl,_=>by simp at hl
theorem Vh.mono {x:Int} {n:Nd} {o o':Option Int} (hm: ∀y,below y o→below y o') (h:Vh x o n):Vh x o' n:=
 ⟨h.1,hm _ h.2.1,fun s hs k hk=>⟨(h.2.2 s hs k hk).1,hm _ (h.2.2 s hs k hk).2⟩⟩
theorem TR.mono {o o':Option Int} (hm: ∀y,below y o→below y o'): ∀{l:List Int} {n:List Nd},TR o l n→TR o' l n
 |[],[],_=>trivial
 |[x],[n],h=>⟨Vh.mono hm h.1,trivial⟩
 |x::y::xs,n::ns,h=>⟨h.1,TR.mono hm h.2⟩
 |[x],n::m::ns,h=>h.2.elim
 |[],_::_,h=>h.elim
 |_::_,[],h=>h.elim
theorem TR.len {hi:Option Int}: ∀{l:List Int} {n:List Nd},TR hi l n→l.length=n.length
 |[],[],_=>rfl
 |x::xs,n::ns,h=>by simp[TR.len h.2]
 |[],_::_,h=>h.elim
 |_::_,[],h=>h.elim
theorem TR.at {hi:Option Int}: ∀{l:List Int} {n:List Nd},TR hi l n→ ∀(i:Nat) (x:Int) (m:Nd),l[i]?=some x→n[i]?=some m→Vh x (Vg (l.drop (i+1)) hi) m
 |[],[],_,i,x,m,h1,_=>by simp at h1
 |x::xs,n::ns,h,0,y,m,h1,h2=>by
  simp only[fM,bq] at h1 h2;subst h1 h2;exact h.1
 |x::xs,n::ns,h,i+1,y,m,h1,h2=>TR.at h.2 i y m (by simpa using h1) (by simpa using h2)
 |[],_::_,h,_,_,_,_,_=>h.elim
 |_::_,[],h,_,_,_,_,_=>h.elim
theorem TR.head {hi:Option Int}: ∀{l:List Int} {n:List Nd},TR hi l n→ ∀x,l[0]?=some x→below x hi
 |[],_,_,x,hx=>by cases hx
 |[y],[n],h,x,hx=>by
  simp only[fM,bq] at hx;subst hx;exact h.1.2.1
 |y::z::r,n::ns,h,x,hx=>by
  simp only[fM,bq] at hx;subst hx;exact va (Int.le_of_lt h.1.2.1) (TR.head h.2 z rfl)
 |[_],_::_::_,h,_,_=>h.2.elim
 |_::_,[],h,_,_=>h.elim
theorem uv (l:List Int) (i:Nat):(l.drop i)[0]?=l[i]?:=by rw[qL];rfl
theorem TR.of {t:Tree} (h:sF t): ∀(d i:Nat),i+d=t.nodes.length→TR none (t.ax.drop i) (t.nodes.drop i)
 |0,i,hd=>by
  have:=h.len;rw[LM az,LM az];trivial
 |d+1,i,hd=>by
  have hl:=h.len
  have h1:i<t.ax.length:=by omega
  have h2:i<t.nodes.length:=by omega
  have e1:t.ax[i]?=some t.ax[i]:=bH h1;have e2:t.nodes[i]?=some t.nodes[i]:=bH h2;rw[wZ h1,wZ h2];refine⟨⟨h.ok _ (tT h2),?_,fun s hs k hk=>⟨h.lo i _ _ e2 e1 s hs k hk,?_⟩⟩,TR.of h d (i+1) az⟩
  ·rw[AO,uv]
   cases hy:t.ax[i+1]? with
   |none=>trivial
   |some y=>exact h.rise i _ y e1 hy
  ·rw[AO,uv]
   cases hy:t.ax[i+1]? with
   |none=>trivial
   |some y=>exact h.hi i _ y e2 hy s hs k hk
theorem TR.tree {l:List Int} {n:List Nd} (h:TR none l n) (h0:l[0]?=some 0):sF ⟨l,n⟩:=by
 have hl:=h.len
 have gt: ∀(i:Nat) (x y:Int),l[i]?=some x→l[i+1]?=some y→ ∃m,n[i]?=some m∧Vh x (some y) m:=fun i x y hx hy=>by
  obtain⟨h1,_⟩:=List.getElem?_eq_some_iff.1 hx;have e2:n[i]?=some n[i]:=bH az;have:=h.at i x _ hx e2;rw[AO,uv,hy] at this;exact⟨_,e2,this⟩
 refine⟨hl,h0,fun i x y hx hy=> ?_,fun m hm=> ?_,fun i m x hm hx=> ?_,fun i m y hm hy=> ?_⟩
 ·obtain⟨m,_,h1⟩:=gt i x y hx hy
  exact h1.2.1
 ·obtain⟨i,hi⟩:=List.mem_iff_getElem?.1 hm
  obtain⟨h1,_⟩:=List.getElem?_eq_some_iff.1 hi;have h1:i<n.length:=h1;exact(h.at i _ m (bH az) hi).1
 ·exact fun s hs k hk=>((h.at i x m hx hm).2.2 s hs k hk).1
 ·intro s hs k hk
  obtain⟨h1,_⟩:=List.getElem?_eq_some_iff.1 hm;have h1:i<n.length:=h1;have:=((h.at i _ m (bH az) hm).2.2 s hs k hk).2;have hy:l[i+1]?=some y:=hy;rw[AO,uv,hy] at this;exact this
def NE (l:List Nd):Prop:= ∀n∈l.tail,¬aB n=[]
theorem ah1:NE []:=fun n hn=>by simp at hn
theorem ZB (m:Nd):NE [m]:=fun n hn=>by simp at hn
structure tC (t:Tree):Prop where
 tr:TR none t.ax t.nodes
 z:t.ax[0]?=some 0
 ne:NE t.nodes
theorem tC.r {t:Tree} (h:tC t):sF t:=h.tr.tree h.z
theorem ad9 {α:Type} {l:List α} {a:α} (h:a∈l.tail): ∃i:Nat,0<i∧l[i]?=some a:=by
 obtain⟨i,hi⟩:=List.mem_iff_getElem?.1 h;refine⟨i+1,by omega,?_⟩
 cases l with
 |nil=>simp at hi
 |cons b r=>simpa using hi
theorem PW {α:Type} {l:List α} {a:α} {i:Nat} (h0:0<i) (h:l[i]?=some a):a∈l.tail:=by
 cases l with
 |nil=>simp at h
 |cons b r=>
  cases i with
  |zero=>omega
  |succ i=>exact ja (i:=i) (by simpa using h)
theorem XM {t:Tree} (h:cP t=true):tC t:=by
 have hr:=ad8 h;refine⟨by have:=TR.of hr t.nodes.length 0 az;simpa using this,hr.low0,fun n hn=> ?_⟩;obtain⟨i,h0,hi⟩:=ad9 hn;have:=Gi h (List.getElem?_eq_some_iff.1 hi).1;unfold cV at this;rw[hi] at this;simp only[dW,Bool.or_eq_true,decide_eq_true_eq,wY,decide_eq_false_iff_not] at this;rcases this.2.2.1 with h1|h1
 ·omega
 ·exact fun e=>h1 (by rw[e];rfl)
theorem tC.ok {t:Tree} (h:tC t) (h20:t.nodes.length≤20) (h60:(ay t).length≤60):cP t=true:=by
 have hr:=h.r;have hl:=hr.len;have h1:=(List.getElem?_eq_some_iff.1 h.z).1;unfold cP g8;rw[h.z];simp only[dW,decide_eq_true_eq];refine⟨by omega,hl,trivial,uX.2 fun i hi=> ?_,h60⟩;unfold cV;have e2:t.nodes[i]?=some t.nodes[i]:=bH hi;rw[e2];simp only[dW,Bool.or_eq_true,decide_eq_true_eq,wY,decide_eq_false_iff_not];refine⟨?_,hr.ok _ (tT hi),?_,List.all_eq_true.2 fun s hs=>List.all_eq_true.2 fun k hk=> ?_⟩
 ·cases i with
  |zero=>rfl
  |succ i=>
   have a1:t.ax[i]?=some t.ax[i]:=bH az;have a2:t.ax[i+1]?=some t.ax[i+1]:=bH az;simp only[gM,a1,a2,decide_eq_true_eq];exact hr.rise i _ _ a1 a2
 ·by_cases h0:i=0
  ·exact .inl h0
  ·exact .inr fun e=>h.ne _ (PW az e2) (List.length_eq_zero_iff.1 e)
 ·unfold iy HA
  have a1:t.ax[i]?=some t.ax[i]:=bH az;rw[a1];simp only[dW,wY,decide_eq_false_iff_not];have h3:=hr.lo i _ _ e2 a1 s hs k hk;refine⟨by omega,?_⟩
  cases hy:t.ax[i+1]? with
  |none=>rfl
  |some y=>simp only[decide_eq_true_eq];exact hr.hi i _ y e2 hy s hs k hk
theorem XN: ∀{l:List Nd},(∀(j:Nat) (a b:Nd),l[j]?=some a→l[j+1]?=some b→6<(aB a).length+(aB b).length)→7*(l.length/2)≤(l.flatMap aB).length
 |[],_=>by simp
 |[a],_=>by simp
 |a::b::r,h=>by
  have h1:=h 0 a b rfl rfl;have h2:=XN (l:=r) fun j x y hx hy=>h (j+2) x y (by simpa using hx) (by simpa using hy);simp only[List.flatMap_cons,cT,g7];omega
theorem GV {t:Tree}: ∀{d i:Nat},i+d=t.nodes.length→u7 t d i=none→ ∀j,i≤j→j+1<t.nodes.length→6<(iY t j).length+(iY t (j+1)).length
 |0,i,hd,_,j,h1,h2=>by omega
 |d+1,i,hd,h,j,h1,h2=>by
  unfold u7 at h
  split at h
  ·split at h
   ·cases h
   ·by_cases hij:i=j
    ·subst hij;omega
    ·exact GV az h j az h2
  ·omega
theorem aea {t:Tree} (h:mg t=none) (h60:(ay t).length≤60):t.nodes.length≤20:=by
 have:=XN (l:=t.nodes) fun j a b ha hb=>by
  have h1:=(List.getElem?_eq_some_iff.1 hb).1;have:=GV (t:=t) (d:=t.nodes.length) (i:=0) az h j az h1
  rwa [gl ha,gl hb] at this
 unfold ay at h60;omega
theorem XO {α:Type} {l:List α} {i:Nat} {a:α} (h:l[i]?=some a):l=l.take i++a::l.drop (i+1):=by
 obtain⟨h1,e⟩:=List.getElem?_eq_some_iff.1 h
 conv=>lhs;rw[←GG i l]
 rw[wZ h1,e]
theorem B4 {l:List Key} {s:List Key} (h:s∈cG l) {k:Key} (hk:k∈s):k∈l:=by
 unfold cG at h
 split at h
 ·cases h
 ·rw[jS.1 h] at hk;exact hk
theorem tC.ah2 {t:Tree} (h:tC t) {A A1 A2 C:List Int} {N N1 N2 M:List Nd} (e1:t.ax=A++A1++C) (e2:t.nodes=N++N1++M) (hl:A.length=N.length) (JY:A1.length=N1.length) {x:Int} (hx:A1[0]?=some x)
 (h2:TR (Vg C none) A2 N2) (h0:A2[0]?=some x∨(A2=[]∧ ¬A=[])) (hn:NE N2) (hn2: ¬A=[]→ ∀n∈N2,¬aB n=[]):tC ⟨A++A2++C,N++N2++M⟩:=by
 obtain⟨tr,z,ne⟩:=h;rw[e1,e2,Ap,Ap] at tr;obtain⟨t1,t2⟩:=TR.split hl tr;obtain⟨t3,t4⟩:=TR.split JY t2
 have hA1:Vg (A1++C) none=some x:=by
  cases A1 with
  |nil=>cases hx
  |cons a r=>simpa [Vg] using hx
 rw[hA1] at t1;rw[e2] at ne;rw[e1] at z;have hxC:below x (Vg C none):=t3.head x hx;refine⟨?_,?_,?_⟩
 ·show TR none (A++A2++C) (N++N2++M)
  rw[Ap,Ap];refine TR.app (TR.app t4 h2) (t1.mono fun y hy=> ?_);have hy:y<x:=hy;rcases h0 with h0|⟨h0,_⟩
  ·cases A2 with
   |nil=>cases h0
   |cons a r=>simp only[fM,bq] at h0;subst h0;exact hy
  ·subst h0;exact va (Int.le_of_lt hy) hxC
 ·show(A++A2++C)[0]?=some 0
  cases A with
  |cons a r=>simpa using z
  |nil=>
   rcases h0 with h0|⟨_,h0⟩
   ·cases A1 with
    |nil=>cases hx
    |cons a r=>
     cases A2 with
     |nil=>cases h0
     |cons b s=>
      simp only[w4,Ez,fM,bq] at z hx h0 ⊢;omega
   ·exact absurd rfl h0
 ·show NE (N++N2++M)
  have hM: ∀n∈M,(¬N1=[])→ ¬aB n=[]:=fun n hm h1=>ne n (by
   cases N with
   |cons a r=>simp[hm]
   |nil=>
    cases N1 with
    |nil=>exact absurd rfl h1
    |cons b s=>simp[hm])
  have hN1: ¬N1=[]:=fun e=>by
   subst e;rw[List.length_eq_zero_iff.1 JY] at hx;cases hx
  intro n hnm
  cases N with
  |cons a r=>
   have hA: ¬A=[]:=fun e=>by rw[e] at hl;simp at hl
   simp only[Ez,List.tail_cons,List.mem_append] at hnm;rcases hnm with(hnm|hnm)|hnm
   ·exact ne n (by simp[hnm])
   ·exact hn2 hA n hnm
   ·exact hM n hnm hN1
  |nil=>
   have hA:A=[]:=List.length_eq_zero_iff.1 (by simpa using hl)
   cases N2 with
   |nil=>
    rcases h0 with h0|⟨_,h0⟩
    ·rw[List.length_eq_zero_iff.1 h2.len] at h0;cases h0
    ·exact absurd hA h0
   |cons b s=>
    simp only[w4,Ez,List.tail_cons,List.mem_append] at hnm;rcases hnm with hnm|hnm
    ·exact hn n hnm
    ·exact hM n hnm hN1
theorem tC.step {t:Tree} (h:tC t) {i:Nat} (hp:mg t=some i):tC (cC t i)∧ay (cC t i)=ay t:=by
 obtain⟨h1,h2⟩:=wW hp;have hr:=h.r;have hl:=hr.len;have a1:t.nodes[i]?=some t.nodes[i]:=bH az;have a2:t.nodes[i+1]?=some t.nodes[i+1]:=bH h1;have b1:t.ax[i]?=some t.ax[i]:=bH az;have b2:t.ax[i+1]?=some t.ax[i+1]:=bH az;have en:=Zy a1 a2;have el:=Zy b1 b2;generalize ha:t.nodes[i]=a at*;generalize hb:t.nodes[i+1]=b at*;generalize hx:t.ax[i]=x at*;generalize hy:t.ax[i+1]=y at*;rw[gl a1,gl a2] at h2
 have e1:cC t i=⟨t.ax.take i++[x]++t.ax.drop (i+2),t.nodes.take i++[cG (aB a++aB b)]++t.nodes.drop (i+2)⟩:=by
  unfold cC mD;rw[gl a1,gl a2,qK,b1];rfl
 have el':t.ax=t.ax.take i++[x,y]++t.ax.drop (i+2):=by simpa using el
 have en':t.nodes=t.nodes.take i++[a,b]++t.nodes.drop (i+2):=by simpa using en
 have hlen:(t.ax.take i).length=(t.nodes.take i).length:=by simp[hl]
 have na:=h.tr.at i x a b1 a1;have nb:=h.tr.at (i+1) y b b2 a2;rw[AO,uv,b2] at na
 have hka: ∀k∈aB a,eU k=true∧x≤c7 k.b k.a∧c7 k.b k.a<y:=fun k hk=>by
  obtain⟨s,hs,hk⟩:=lA hk;exact⟨sE na.1 hs hk,na.2.2 s hs k hk⟩
 have hkb: ∀k∈aB b,eU k=true∧y≤c7 k.b k.a∧below (c7 k.b k.a) (Vg (t.ax.drop (i+1+1)) none):=fun k hk=>by
  obtain⟨s,hs,hk⟩:=lA hk;exact⟨sE nb.1 hs hk,nb.2.2 s hs k hk⟩
 have hxy:x<y:=na.2.1
 have Rq:(aB a++aB b).Pairwise tN:=List.pairwise_append.2 ⟨lG a,lG b,fun u hu v hv=>by
  have:=hka u hu;have h4:=hkb v hv
  exact(Jb this.1 h4.1).1 az⟩
 refine⟨?_,?_⟩
 ·rw[e1]
  refine h.ah2 el' en' hlen rfl (x:=x) rfl (A2:=[x]) (N2:=[cG (aB a++aB b)]) ⟨⟨xx Rq (fun k hk=> ?_) (by rw[cT];omega),?_,fun s hs k hk=> ?_⟩,trivial⟩ (.inl rfl) (ZB _) fun hA n hn=> ?_
  ·rcases List.mem_append.1 hk with hk|hk
   ·exact(hka k hk).1
   ·exact(hkb k hk).1
  ·exact va (Int.le_of_lt hxy) nb.2.1
  ·rcases List.mem_append.1 (B4 hs hk) with hk|hk
   ·exact⟨(hka k hk).2.1,va (Int.le_of_lt (hka k hk).2.2) nb.2.1⟩
   ·exact⟨by have:=(hkb k hk).2.1;omega,(hkb k hk).2.2⟩
  ·rw[jS.1 hn,AN Rq fun u hu=>by
    rcases List.mem_append.1 hu with hu|hu<;>exact Gl hu]
   have hi:0<i:=Nat.pos_of_ne_zero fun e=>hA (by subst e;rfl);have:=h.ne a (PW hi a1);intro e;exact this (List.append_eq_nil_iff.1 e).1
 ·rw[e1]
  unfold ay
  conv=>rhs;rw[en']
  simp only[List.flatMap_append,List.flatMap_cons,List.flatMap_nil,nG]
  rw[AN Rq fun u hu=>by
     rcases List.mem_append.1 hu with hu|hu<;>exact Gl hu]
theorem tC.join: ∀(n:Nat) {t:Tree},tC t→t.nodes.length≤n→tC (jV n t)∧ay (jV n t)=ay t∧mg (jV n t)=none
 |0,t,h,hn=>⟨h,rfl,by
    have:t.nodes.length=0:=by omega
    show mg t=none
    unfold mg;rw[this];rfl⟩
 |n+1,t,h,hn=>by
  rw[uu]
  cases hp:mg t with
  |none=>exact⟨h,rfl,hp⟩
  |some i=>
   obtain⟨h1,h2⟩:=h.step hp;have h3:=tj (wW hp).1;obtain⟨h4,h5,h6⟩:=tC.join n h1 az;exact⟨h4,h5.trans h2,h6⟩
theorem XP {n:Nd} {k y:Key} {s:List Key} (hs:s∈(cH n k).1) (hy:y∈s):y=k∨ ∃s∈n,y∈s:=by
 have hin:s∈nt n k→y=k∨ ∃s∈n,y∈s:=fun hs=>by
  unfold nt at hs
  split at hs
  ·rcases List.mem_append.1 hs with hs|hs
   ·exact .inr ⟨s,hs,hy⟩
   ·rw[jS.1 hs] at hy;exact .inl (jS.1 hy)
  ·rename_i s0 h0
   split at hs
   ·rcases List.mem_or_eq_of_mem_set hs with hs|hs
    ·exact .inr ⟨s,hs,hy⟩
    ·rw[hs] at hy
     rcases HE hy with hy|hy
     ·exact .inr ⟨s0,ja h0,hy⟩
     ·exact .inl hy
   ·rcases List.mem_append.1 hs with hs|hs
    ·exact .inr ⟨s,hs,hy⟩
    ·rw[jS.1 hs] at hy;exact .inl (jS.1 hy)
 unfold cH at hs
 split at hs
 ·exact hin hs
 ·split at hs
  ·exact .inr ⟨s,hs,hy⟩
  ·split at hs
   ·exact BY (B4 hs hy)
   ·exact .inr ⟨s,hs,hy⟩
theorem Ug {b a:Int} {l:List Nd} (h: ∀q∈l,look (aB q) b a=none):look (l.flatMap aB) b a=none:=AM fun x hx hs=>by
 obtain⟨q,hq,hx⟩:=List.mem_flatMap.1 hx;have:=h q hq;unfold look at this;rw[List.find?_eq_none] at this;exact this x hx (by unfold HJ;simpa using hs)
theorem RG {t:Tree} {x:Key} (h:x∈ay t): ¬x.k=0:=by
 obtain⟨n,_,hx⟩:=List.mem_flatMap.1 h;exact Gl hx
theorem Vi {t:Tree} (b a:Int):(look (ay t) b a).filter pL=look (ay t) b a:=by
 cases h:look (ay t) b a with
 |none=>rfl
 |some x=>
  have:=RG (KD h).1;simp[Option.filter,pL,this]
theorem abM {t:Tree} {k:Key} (h:cP t=true) (hk:eU k=true):tC (jB t (jx t k.b k.a).toNat k)∧ay (jB t (jx t k.b k.a).toNat k)=ko (eE (ay t) k):=by
 have hw:=XM h;have hr:=hw.r;have hl:=hr.len
 have vl:0≤c7 k.b k.a:=by have:=Fa hk;rw[B1 hk];omega
 unfold jx;rcases B3 (f:=fun x=>decide (x≤c7 k.b k.a)) (l:=t.ax) t.ax.length (dj _) with⟨_,h2⟩|⟨i,h1,h2,⟨x,hx,hf⟩,h4⟩
 ·have hpos:=(List.getElem?_eq_some_iff.1 hr.low0).1
  have:=h2 0 0 hpos hr.low0;simp only[decide_eq_false_iff_not] at this;omega
 rw[h1];simp only[pT];have hlo:x≤c7 k.b k.a:=qM hf
 have hhi: ∀j y,i<j→t.ax[j]?=some y→c7 k.b k.a<y:=fun j y hij hy=>by
  have:=h4 j y hij (List.getElem?_eq_some_iff.1 hy).1 hy;simp only[decide_eq_false_iff_not] at this;omega
 have hi:i<t.nodes.length:=by omega
 have hn:t.nodes[i]?=some t.nodes[i]:=bH hi;generalize hne:t.nodes[i]=n at*
 have el:t.ax=t.ax.take i++[x]++t.ax.drop (i+1):=by simpa using XO hx
 have en:t.nodes=t.nodes.take i++[n]++t.nodes.drop (i+1):=by simpa using XO hn
 have nd:=hw.tr.at i x n hx hn
 have hkn:below (c7 k.b k.a) (Vg (t.ax.drop (i+1)) none):=by
  rw[AO,uv]
  cases hy:t.ax[i+1]? with
  |none=>trivial
  |some y=>exact hhi (i+1) y az hy
 have hlen:(t.ax.take i).length=(t.nodes.take i).length:=by simp[hl]
 have hgd:t.nodes.getD i []=n:=by rw[qK,hn];rfl
 have hgl:t.ax.getD i 0=x:=by rw[qK,hx];rfl
 have hin: ∀y:Key,(y=k∨ ∃s∈n,y∈s)→eU y=true∧x≤c7 y.b y.a∧below (c7 y.b y.a) (Vg (t.ax.drop (i+1)) none):=fun y hy=>by
  rcases hy with rfl|⟨s,hs,hy⟩
  ·exact⟨hk,hlo,hkn⟩
  ·exact⟨sE nd.1 hs hy,nd.2.2 s hs y hy⟩
 have mid: ∃(A2:List Int) (N2:List Nd),jB t i k=⟨t.ax.take i++A2++t.ax.drop (i+1),t.nodes.take i++N2++t.nodes.drop (i+1)⟩∧TR (Vg (t.ax.drop (i+1)) none) A2 N2∧(A2[0]?=some x∨(A2=[]∧ ¬t.ax.take i=[]))∧NE N2∧(¬t.ax.take i=[]→ ∀m∈N2,¬aB m=[])∧N2.flatMap aB=cW n k:=by
  unfold jB;rw[hgd,hgl]
  cases hp:(cH n k).2 with
  |true=>
   obtain⟨k1,k2⟩:=Vf nd.1 hp;rw[aT rfl];have hA: ¬t.ax.take i=[]→0<i:=fun hA=>Nat.pos_of_ne_zero fun e=>hA (by subst e;rfl)
   by_cases hz:0<i∧(aB (cH n k).1).length=0
   ·rw[aT hz]
    refine⟨[],[],rfl,trivial,.inr ⟨rfl,fun e=> ?_⟩,ah1,fun _ m hm=>(by cases hm),?_⟩
    ·have h5:(t.ax.take i).length=i:=by rw[gz];omega
     rw[e] at h5;have h6:=hz.1;have h7:0=i:=h5;omega
    ·rw[←k1,List.length_eq_zero_iff.1 hz.2];rfl
   ·rw[aK hz]
    refine⟨[x],[(cH n k).1],rfl,⟨⟨k2,va hlo hkn,fun s hs y hy=>(hin y (XP hs hy)).2⟩,trivial⟩,.inl rfl,ZB _,fun hA0 m hm=> ?_,by simp[k1]⟩;rw[jS.1 hm];exact fun e=>hz ⟨hA hA0,by rw[e];rfl⟩
  |false=>
   obtain⟨h8,_⟩:=HG nd.1 hk hp;rw[aK cE];have Rq:=uJ n k;have hall: ∀y∈cW n k,(y=k∨ ∃s∈n,y∈s)∧ ¬y.k=0:=fun y hy=>⟨BY hy,Uc hy⟩
   have h9:(cW n k).length≤9:=by
    have h5:=qt n k;have h6:=nN nd.1;omega
   generalize cW n k=L at*;have hh:=Ve h8;generalize hhe:(L.length+1)/2=JU at*;have hg:L[JU]?=some L[JU]:=bH hh
   have hgz:L.getD JU eX=L[JU]:=by rw[qK,hg];rfl
   rw[hgz];generalize hm:L[JU]=m at*;have hsplit:=XO hg
   have Yw:L.drop JU=m::L.drop (JU+1):=by rw[wZ hh,hm]
   have hpw:(L.take JU++L.drop JU).Pairwise tN:=by rw[GG];exact Rq
   obtain⟨p1,p2,p3⟩:=List.pairwise_append.1 hpw;have hmL:m∈L:=ja hg;have ok1: ∀y∈L,eU y=true∧x≤c7 y.b y.a∧below (c7 y.b y.a) (Vg (t.ax.drop (i+1)) none):=fun y hy=>hin y (hall y hy).1;have lt1: ∀y∈L.take JU,c7 y.b y.a<c7 m.b m.a:=fun y hy=>(Jb (ok1 y (Aq hy)).1 (ok1 m hmL).1).2 (p3 y hy m (by rw[Yw];exact .head _))
   have le2: ∀y∈L.drop JU,c7 m.b m.a≤c7 y.b y.a:=fun y hy=>by
    rw[Yw] at hy p2;rcases ef.1 hy with rfl|hy
    ·exact Int.le_refl _
    ·have:=(Jb (ok1 m hmL).1 (ok1 y (EE hy)).1).2 ((List.pairwise_cons.1 p2).1 y hy)
     omega
   have k1:aB (cG (L.take JU))=L.take JU:=AN p1 fun y hy=>(hall y (Aq hy)).2;have k2:aB (cG (L.drop JU))=L.drop JU:=AN p2 fun y hy=>(hall y (EE hy)).2
   have l1:(L.take JU).length=JU:=by rw[gz];omega
   have l2:(L.drop JU).length=L.length-JU:=lD
   have hpos:0<JU:=by omega
   have q1: ∃y,y∈L.take JU:=⟨(L.take JU)[0]'az,tT _⟩
   have hxm:x<c7 m.b m.a:=by
    obtain⟨y,hy⟩:=q1;have h5:=lt1 y hy;have h6:=(ok1 y (Aq hy)).2.1;omega
   have ne1: ¬aB (cG (L.take JU))=[]:=fun e=>by rw[k1] at e;have:=congrArg List.length e;rw[l1] at this;simp at this;omega
   have ne2: ¬aB (cG (L.drop JU))=[]:=fun e=>by rw[k2] at e;have:=congrArg List.length e;rw[l2] at this;simp at this;omega
   refine⟨[x,c7 m.b m.a],[cG (L.take JU),cG (L.drop JU)],rfl,⟨⟨xx p1 (fun y hy=>(ok1 y (Aq hy)).1) az,hxm,fun s hs y hy=>⟨(ok1 y (Aq (B4 hs hy))).2.1,lt1 y (B4 hs hy)⟩⟩,⟨xx p2 (fun y hy=>(ok1 y (EE hy)).1) az,(ok1 m hmL).2.2,fun s hs y hy=>⟨le2 y (B4 hs hy),(ok1 y (EE (B4 hs hy))).2.2⟩⟩,trivial⟩,.inl rfl,fun q hq=> ?_,fun _ q hq=> ?_,?_⟩
   ·simp only[List.tail_cons,jS] at hq
    rw[hq];exact ne2
   ·simp only[ef,List.not_mem_nil,or_false] at hq
    rcases hq with rfl|rfl
    ·exact ne1
    ·exact ne2
   ·simp only[List.flatMap_cons,List.flatMap_nil,nG,k1,k2,GG]
 obtain⟨A2,N2,e0,m1,m2,m3,m4,m5⟩:=mid
 have hW:tC (jB t i k):=by
  rw[e0];exact hw.ah2 el en hlen rfl (x:=x) rfl m1 m2 m3 m4
 refine⟨hW,PU hW.r.Gm ((sD hr.Gm).sublist List.filter_sublist) fun b a=> ?_⟩
 have e3:ay (jB t i k)=(t.nodes.take i).flatMap aB++cW n k++(t.nodes.drop (i+1)).flatMap aB:=by
  rw[e0];unfold ay;simp only[List.flatMap_append,m5]
 have e4:ay t=(t.nodes.take i).flatMap aB++aB n++(t.nodes.drop (i+1)).flatMap aB:=by
  unfold ay
  conv=>lhs;rw[en]
  simp only[List.flatMap_append,List.flatMap_cons,List.flatMap_nil,nG]
 show look (ay (jB t i k)) b a=look ((eE (ay t) k).filter pL) b a;rw[Fb (sD hr.Gm),yW hr.Gm,e3,rm,rm,Ud k (u9 nd.1)]
 by_cases hs:k.b=b∧k.a=a
 ·obtain⟨rfl,rfl⟩:=hs
  rw[aT ⟨rfl,rfl⟩,aT ⟨rfl,rfl⟩];have hno:=hr.aaU hx hlo hhi
  have f1:look ((t.nodes.take i).flatMap aB) k.b k.a=none:=Ug fun q hq=>by
   obtain⟨j,hj⟩:=List.mem_iff_getElem?.1 hq
   have hj1:j<i:=by have:=(List.getElem?_eq_some_iff.1 hj).1;rw[gz] at this;omega
   rw[List.getElem?_take_of_lt hj1] at hj;exact hno j q hj az
  have f2:look ((t.nodes.drop (i+1)).flatMap aB) k.b k.a=none:=Ug fun q hq=>by
   obtain⟨j,hj⟩:=List.mem_iff_getElem?.1 hq;rw[qL] at hj;exact hno (i+1+j) q hj az
  rw[f1,f2,Option.none_or,Option.or_none]
 ·rw[aK hs,aK hs,Vi,←Gk (u9 nd.1),e4,rm,rm]
theorem PX {t:Tree} {k:Key} (h:cP t=true) (hk:eU k=true):tC (jV (jB t (jx t k.b k.a).toNat k).nodes.length (jB t (jx t k.b k.a).toNat k))∧ay (jV (jB t (jx t k.b k.a).toNat k).nodes.length (jB t (jx t k.b k.a).toNat k))=ko (eE (ay t) k)∧
 ((ko (eE (ay t) k)).length≤60→cP (jV (jB t (jx t k.b k.a).toNat k).nodes.length (jB t (jx t k.b k.a).toNat k))=true):=by
 obtain⟨h1,h2⟩:=abM h hk;obtain⟨h3,h4,h5⟩:=h1.join _ (dj _);rw[h2] at h4;exact⟨h3,h4,fun h60=>h3.ok (aea h5 (by rw[h4];exact h60)) (by rw[h4];exact h60)⟩
theorem Vj {t:Tree} {k:Key} (h:cP t=true) (hk:eU k=true) (hp:(bB t k).2=true):ay (bB t k).1=ko (eE (ay t) k):=by
 unfold bB at hp ⊢;rw[aT ⟨h,hk⟩] at hp ⊢
 split
 ·exact(PX h hk).2.1
 ·rename_i h1;rw[aK h1] at hp;cases hp
theorem RH {t:Tree} (h:cP t=true):(ay t).length≤60:=by
 unfold cP at h;simp only[dW,decide_eq_true_eq] at h;exact h.2.2.2.2
end Go.T
namespace Go.T
end Go.T
namespace Go.T
end Go.T
namespace Go.T
theorem aaW {p x:bg} (h:cr p=true):cr (U9 p x).1=true:=by
 unfold U9
 split
 ·assumption
 ·exact h
theorem Jc {p x:bg} {b:Bool} (h:cr p=true):cr (Gu p x b).1=true:=by
 unfold Gu
 split
 ·exact aaW h
 ·exact h
theorem XQ {p:bg} {x:bg×Bool} (h:cr p=true):cr (yU p x).1=true:=by
 unfold yU
 split
 ·rename_i h1;exact h1.2
 ·exact h
theorem Vk {α:Type} {l:List α} {i:Nat} {a b:α} (h:l[i]?=some a):l.modify i (fun _=>b)=l.take i++[b]++l.drop (i+1):=by
 obtain⟨h1,e⟩:=List.getElem?_eq_some_iff.1 h
 apply List.ext_getElem?
 intro j;rw[List.getElem?_modify]
 by_cases hj:i=j
 ·subst hj
  rw[h,Ap,nH (by rw[gz];omega)];rw[show i-(l.take i).length=0 from by rw[gz];omega];simp
 ·have e2:(if i=j then(fun _=>b) else id)<$>l[j]?=l[j]?:=by rw[aK hj];cases l[j]?<;>rfl
  first
   |rw[e2]
   |(simp only[hj,if_false];skip)
  rw[Ap]
  by_cases hlt:j<i
  ·rw[ny (by rw[gz];omega),List.getElem?_take_of_lt hlt]
   try (cases l[j]?<;>rfl)
  ·rw[nH (by rw[gz];omega)]
   rw[show j-(l.take i).length=(j-i-1)+1 from by rw[gz];omega];rw[List.singleton_append,sP,qL,show i+1+(j-i-1)=j from by omega]
   try (cases l[j]?<;>rfl)
theorem XR (n:Nd):aB (mY n)=aB n:=RF n
theorem XT {t:Tree} (h:cP t=true) (i:Int):cP (u5 t i)=true∧ay (u5 t i)=ay t:=by
 unfold u5
 cases hg:eI t.nodes i with
 |none=>exact⟨h,rfl⟩
 |some n=>
  simp only[]
  have hi:t.nodes[i.toNat]?=some n:=by
   unfold eI at hg
   split at hg
   ·exact hg
   ·cases hg
  generalize i.toNat=i at*;have hw:=XM h;have hr:=hw.r;have hl:=hr.len;have hlt:=(List.getElem?_eq_some_iff.1 hi).1;have hx:t.ax[i]?=some t.ax[i]:=bH az;generalize t.ax[i]=x at*
  have el:t.ax=t.ax.take i++[x]++t.ax.drop (i+1):=by simpa using XO hx
  have en:t.nodes=t.nodes.take i++[n]++t.nodes.drop (i+1):=by simpa using XO hi
  have nd:=hw.tr.at i x n hx hi;rw[Vk hi]
  have hW:tC ⟨t.ax.take i++[x]++t.ax.drop (i+1),t.nodes.take i++[mY n]++t.nodes.drop (i+1)⟩:=by
   refine hw.ah2 el en (by simp[hl]) rfl (x:=x) rfl ⟨⟨(XL nd.1).1,nd.2.1,fun s hs k hk=> ?_⟩,trivial⟩ (.inl rfl) (ZB _) fun hA m hm=> ?_
   ·obtain⟨s',hs',hk'⟩:=lA (B4 (l:=aB n) hs hk)
    exact nd.2.2 s' hs' k hk'
   ·rw[jS.1 hm,XR]
    exact hw.ne n (PW (Nat.pos_of_ne_zero fun e=>hA (by subst e;rfl)) hi)
  rw[←el] at hW
  have hk:ay ⟨t.ax,t.nodes.take i++[mY n]++t.nodes.drop (i+1)⟩=ay t:=by
   unfold ay
   conv=>rhs;rw[en]
   simp only[List.flatMap_append,List.flatMap_cons,List.flatMap_nil,nG,XR]
  refine⟨hW.ok ?_ ?_,hk⟩
  ·have:=(nu h).2.1
   have h2:=congrArg List.length en;simp only[cT,fY] at h2 ⊢;omega
  ·rw[hk];exact RH h
theorem aeb {p:bg} {t:Tree} (h:cr p=true) (ht:cP t=true) (hk:ay t=ay p.t):cr ⟨t,p.aU,p.cells,p.aq,p.next⟩=true:=by
 unfold cr at h ⊢;simp only[dW] at h ⊢;refine⟨h.1,ht,h.2.2.1,h.2.2.2.1,h.2.2.2.2.1,h.2.2.2.2.2.1,?_⟩;have:=h.2.2.2.2.2.2;unfold jw at this ⊢;simp only[hk] at this ⊢;exact this
theorem XU {p:bg} (h:cr p=true) (i:Int):cr (qa p i).1=true:=by
 unfold qa
 split
 ·have:=XT (L9 h) i
  exact aeb h this.1 this.2
 ·exact h
theorem XV {p:bg} (h:cr p=true) (i:Int):cr (jC p i).1=true:=by
 unfold jC
 repeat' split
 all_goals first|exact XQ h|exact h
theorem Vl {p:bg} (h:cr p=true):cr (kr p).1=true:=by
 unfold kr
 split
 ·exact h
 ·exact XQ h
theorem KE (x:bg×Bool):(vV x).1=x.1:=by unfold vV;split<;>rfl
theorem abN {p:bg} (h:cr p=true) (o:JW):cr (pE p o).1=true:=by
 unfold pE
 split
 ·split
  ·unfold yR;repeat' split
   all_goals first|exact Jc h|exact h
  ·split
   ·unfold L7;repeat' split
    all_goals first|exact Jc h|exact h
   ·split
    ·unfold I2;repeat' split
     all_goals first|exact aaW h|exact h
    ·split
     ·unfold sq;repeat' split
      all_goals first|exact Jc h|exact h
     ·split
      ·unfold qc;repeat' split
       all_goals first|exact Jc h|exact h
      ·split
       ·unfold tw;repeat' split
        all_goals first|exact Jc h|exact h
       ·split
        ·rw[KE];exact Vl h
        ·split
         ·rw[KE];exact XU h _
         ·rw[KE];exact XV h _
 ·exact h
theorem Uh: ∀x:List UInt8,Op.bytesLess x x=false
 |[]=>rfl
 |a::x=>by
  have:=Uh x;simp[Op.bytesLess,this]
theorem ZC (a:ByteArray):JZ a a=false:=by unfold JZ;exact Uh _
theorem yp.lt: ∀{l:List jU},yp l→l.Pairwise fun a b=>JZ a.name b.name=true
 |[],_=> .nil
 |[a],_=>by simp
 |a::b::r,h=>by
  have ih:=yp.lt (l:=b::r) h.2;refine List.pairwise_cons.2 ⟨fun c hc=> ?_,ih⟩;rcases ef.1 hc with rfl|hc
  ·exact h.1
  ·exact T4 h.1 ((List.pairwise_cons.1 ih).1 c hc)
theorem abO {p:bg} (h:cr p=true) {i:Nat} {v:jU} (hi:p.aq[i]?=some v):dy p.aq v.name=(i:Int):=by
 have hp:=(KB h).lt;obtain⟨hlt,he⟩:=List.getElem?_eq_some_iff.1 hi;unfold dy;rcases aaP (fun u:jU=>decide (u.name=v.name)) p.aq 0 with h1|⟨j,h1,h2,h3,h4⟩
 ·exfalso
  rcases Ge (fun u:jU=>decide (u.name=v.name)) p.aq 0 (Int.le_refl _) with⟨_,h2⟩|⟨j,a,h2,_⟩
  ·have:=h2 v (by rw[←he];exact tT hlt)
   simp at this
  ·have h1:eZ (fun u:jU=>decide (u.name=v.name)) p.aq 0= -1:=h1
   omega
 ·have h1:eZ (fun u:jU=>decide (u.name=v.name)) p.aq 0=((0+j:Nat):Int):=h1
  rw[h1];have h3:p.aq[j].name=v.name:=qM h3
  have:j=i:=by
   rcases Nat.lt_trichotomy j i with hji|hji|hji
   ·have:=List.pairwise_iff_getElem.1 hp j i h2 hlt hji
    rw[h3,he,ZC] at this;cases this
   ·exact hji
   ·have:=h4 i hji
    rw[he] at this;simp at this
  omega
theorem aec {p:bg} {i:Nat} {v:jU} (hi:p.aq[i]?=some v):og p.aq v.dJ=false:=by
 unfold og;simp only[Bool.not_eq_false',List.any_eq_true,decide_eq_true_eq];exact⟨v,ja hi,rfl⟩
theorem PY:cr pI=true:=by decide+kernel
theorem ZD:cP ⟨[0],[[]]⟩=true:=by decide+kernel
theorem XW {p:bg} (h:cr p=true) {v:jU} (hv:v∈p.aq):1≤v.size∧v.size≤12:=by
 have:=Ua (u0 h) hv;omega
end Go.T
namespace Go.T
set_option maxRecDepth 100000
end Go.T
namespace Go.T
theorem aed {b a k c g:Int} (hb:0≤b∧b≤15) (ha:1≤a∧a≤60) (hk:0≤k∧k≤2) (h:(k=1∧0≤c∧c≤23∧0≤g∧g≤999)∨(¬k=1∧c=0∧g=0)):eU ⟨b,a,k,c,g⟩=true:=by
 unfold eU g8;simp only[dW,decide_eq_true_eq];refine⟨⟨⟨hb,ha⟩,hk⟩,?_⟩;rcases h with⟨h1,h2⟩|⟨h1,h2⟩
 ·rw[aT h1];simp only[dW,decide_eq_true_eq];omega
 ·rw[aK h1];simp only[dW,decide_eq_true_eq];exact h2
theorem af1 {x:Key} (h:eU x=true) {b:Int} (hb:0≤b∧b≤15):eU ⟨b,x.a,x.k,x.c,x.g⟩=true:=by
 unfold eU g8 at h ⊢;simp only[dW,decide_eq_true_eq] at h ⊢;exact⟨⟨⟨hb,h.1.1.2⟩,h.1.2⟩,h.2⟩
theorem Md {n:List (List Key)} (h:ff n=true) (k:Key):ff (cH n k).1=true:=by
 unfold cH
 repeat' split
 all_goals first|assumption|exact h
theorem ZE {n:List (List Key)} (h:ff n=true):aV n≤11:=by
 have:=nN h;unfold aV;omega
theorem abP {l:List mw} (h:gE l=true) (id fr:Int):gE (me l id fr).1=true:=by
 unfold me
 repeat' split
 all_goals first|assumption|exact h|(rename_i h1;exact h1.2)|(rename_i h1 _;exact h1.2)
theorem XX {t:Tree} (h:cP t=true) (k:Key):cP (bB t k).1=true:=by
 cases hp:(bB t k).2 with
 |true=>exact PK hp
 |false=>rw[BZ hp];exact h
theorem Vm {t:Tree} {k:Key} (h:cP t=true) (hk:eU k=true):(ay (bB t k).1).length≤(ay t).length+1:=by
 cases hp:(bB t k).2 with
 |true=>
  rw[Vj h hk hp];have h3:(ko (eE (ay t) k)).length≤(eE (ay t) k).length:=LN _ _;have h4:=lZ (ay t) k;omega
 |false=>rw[BZ hp];omega
theorem PZ {l:List mw} (h:gE l=true):l.length≤16:=by
 unfold gE at h;simp only[dW,decide_eq_true_eq] at h;exact h.2
end Go.T
namespace Go.T
end Go.T
namespace Go.T
variable {C : mA} {f : FuncId} {vs : List TV} {b : List Int}
theorem cJ {P:Int→Prop} {K:Int→RR→Int→Int→Prop} (h:aZ C f vs (Dr b fun r=> ∃x,r=vI x∧P x)) (k: ∀x i h,0≤i→P x→K x (b.map jY) i h):
 ∃(n:Int) (l:List (List TC)) (n2 n3:Int),ai C f vs (TV.c (TC.sc (Value.int IntKind.i64 n))) [TV.bx [TC.sub 1 l,TC.sc (Value.int IntKind.i64 n2),TC.sc (Value.int IntKind.i64 n3)]]∧K n l n2 n3:=by
 obtain⟨_,_,hr,i,h',hi,rfl,x,rfl,hx⟩:=h;exact⟨x,_,i,h',hr,k x i h' hi hx⟩
theorem af2 {K:Bool→RR→Int→Int→Prop} (h:aZ C f vs (Dr b fun r=> ∃x,r=vB x)) (k: ∀x i h,0≤i→K x (b.map jY) i h):
 ∃(n:Bool) (l:List (List TC)) (n2 n3:Int),ai C f vs (TV.c (TC.sc (Value.bool n))) [TV.bx [TC.sub 1 l,TC.sc (Value.int IntKind.i64 n2),TC.sc (Value.int IntKind.i64 n3)]]∧K n l n2 n3:=by
 obtain⟨_,_,hr,i,h',hi,rfl,x,rfl⟩:=h;exact⟨x,_,i,h',hr,k x i h' hi⟩
theorem HL {P:ByteArray→Prop} {K:ByteArray→RR→Int→Int→Prop} (h:aZ C f vs (Dr b fun r=> ∃x,r=vS x∧P x)) (k: ∀x i h,0≤i→P x→K x (b.map jY) i h):
 ∃(n:ByteArray) (l:List (List TC)) (n2 n3:Int),ai C f vs (TV.c (TC.sc (Value.string n))) [TV.bx [TC.sub 1 l,TC.sc (Value.int IntKind.i64 n2),TC.sc (Value.int IntKind.i64 n3)]]∧K n l n2 n3:=by
 obtain⟨_,_,hr,i,h',hi,rfl,x,rfl,hx⟩:=h;exact⟨x,_,i,h',hr,k x i h' hi hx⟩
theorem Fc {P:Key→Prop} {K:Int→Int→Int→Int→Int→RR→Int→Int→Prop} (h:aZ C f vs (Dr b fun r=> ∃x,r=TV.ag (bG x)∧P x)) (k: ∀x i h,0≤i→P x→K x.b x.a x.k x.c x.g (b.map jY) i h):
 ∃(m1 m2 m3 m4 m5:Int) (l:List (List TC)) (n2 n3:Int),ai C f vs (TV.ag [TC.sc (Value.int IntKind.i64 m1),TC.sc (Value.int IntKind.i64 m2),TC.sc (Value.int IntKind.i64 m3),TC.sc (Value.int IntKind.i64 m4),TC.sc (Value.int IntKind.i64 m5)]) [TV.bx [TC.sub 1 l,TC.sc (Value.int IntKind.i64 n2),TC.sc (Value.int IntKind.i64 n3)]]∧K m1 m2 m3 m4 m5 l n2 n3:=by
 obtain⟨_,_,hr,i,h',hi,rfl,x,rfl,hx⟩:=h;exact⟨x.b,x.a,x.k,x.c,x.g,_,i,h',hr,k x i h' hi hx⟩
theorem Jd {α:Type} {e:α→List TC} {z:Nat} {P:List α→Prop} {K:RR→RR→Int→Int→Prop} (h:aZ C f vs (Dr b fun r=> ∃x:List α,r=TV.c (TC.sub z (x.map e))∧P x)) (k: ∀(x:List α) i h,0≤i→P x→K (x.map e) (b.map jY) i h):
 ∃(l0 l:List (List TC)) (n2 n3:Int),ai C f vs (TV.c (TC.sub z l0)) [TV.bx [TC.sub 1 l,TC.sc (Value.int IntKind.i64 n2),TC.sc (Value.int IntKind.i64 n3)]]∧K l0 l n2 n3:=by
 obtain⟨_,_,hr,i,h',hi,rfl,x,rfl,hx⟩:=h;exact⟨_,_,i,h',hr,k x i h' hi hx⟩
theorem Vn {P:List (List Key)→Prop} {K:RR→RR→Int→Int→Prop} (h:aZ C f vs (Dr b fun r=> ∃x:List (List Key),r=TV.ag [TC.sub 1 (x.map eP)]∧P x)) (k: ∀(x:List (List Key)) i h,0≤i→P x→K (x.map eP) (b.map jY) i h):
 ∃(l0 l:List (List TC)) (n2 n3:Int),ai C f vs (TV.ag [TC.sub 1 l0]) [TV.bx [TC.sub 1 l,TC.sc (Value.int IntKind.i64 n2),TC.sc (Value.int IntKind.i64 n3)]]∧K l0 l n2 n3:=by
 obtain⟨_,_,hr,i,h',hi,rfl,x,rfl,hx⟩:=h;exact⟨_,_,i,h',hr,k x i h' hi hx⟩
theorem aaX {P:Tree→Prop} {K:RR→RR→RR→Int→Int→Prop} (h:aZ C f vs (Dr b fun r=> ∃x:Tree,r=eD x∧P x)) (k: ∀(x:Tree) i h,0≤i→P x→K (x.ax.map bI) (x.nodes.map aX) (b.map jY) i h):
 ∃(l0 l1 l:List (List TC)) (n2 n3:Int),ai C f vs (TV.ag [TC.sub 1 l0,TC.sub 1 l1]) [TV.bx [TC.sub 1 l,TC.sc (Value.int IntKind.i64 n2),TC.sc (Value.int IntKind.i64 n3)]]∧K l0 l1 l n2 n3:=by
 obtain⟨_,_,hr,i,h',hi,rfl,x,rfl,hx⟩:=h;exact⟨_,_,_,i,h',hr,k x i h' hi hx⟩
theorem ag9 {P:JW→Prop} {K:Int→ByteArray→ByteArray→Int→Int→RR→Int→Int→Prop} (h:aZ C f vs (Dr b fun r=> ∃x,r=TV.ag (Ku x)∧P x)) (k: ∀x i h,0≤i→P x→K x.kind x.name x.to x.a x.b (b.map jY) i h):
 ∃(m1:Int) (m2 m3:ByteArray) (m4 m5:Int) (l:List (List TC)) (n2 n3:Int),ai C f vs (TV.ag [TC.sc (Value.int IntKind.i64 m1),TC.sc (Value.string m2),TC.sc (Value.string m3),TC.sc (Value.int IntKind.i64 m4),TC.sc (Value.int IntKind.i64 m5)]) [TV.bx [TC.sub 1 l,TC.sc (Value.int IntKind.i64 n2),TC.sc (Value.int IntKind.i64 n3)]]∧K m1 m2 m3 m4 m5 l n2 n3:=by
 obtain⟨_,_,hr,i,h',hi,rfl,x,rfl,hx⟩:=h;exact⟨x.kind,x.name,x.to,x.a,x.b,_,i,h',hr,k x i h' hi hx⟩
theorem Gn {P:bg→Prop} {K:RR→RR→RR→RR→RR→Int→RR→Int→Int→Prop} (h:aZ C f vs (Dr b fun r=> ∃x:bg,r=dK x∧P x)) (k: ∀(x:bg) i h,0≤i→P x→K (x.t.ax.map bI) (x.t.nodes.map aX) (x.aU.map bS) (x.cells.map bR) (x.aq.map cj) x.next (b.map jY) i h):
 ∃(l0 l1 l2 l3 l4:List (List TC)) (m:Int) (l:List (List TC)) (n2 n3:Int),ai C f vs (TV.ag [TC.sub 1 l0,TC.sub 1 l1,TC.sub 2 l2,TC.sub 3 l3,TC.sub 4 l4,TC.sc (Value.int IntKind.i64 m)]) [TV.bx [TC.sub 1 l,TC.sc (Value.int IntKind.i64 n2),TC.sc (Value.int IntKind.i64 n3)]]∧K l0 l1 l2 l3 l4 m l n2 n3:=by
 obtain⟨_,_,hr,i,h',hi,rfl,x,rfl,hx⟩:=h;exact⟨_,_,_,_,_,_,_,i,h',hr,k x i h' hi hx⟩
theorem P0 {K:RR→Int→Int→Prop} (h:aZ C f vs (fun r fs=>fs=[]∧ ∃h,r=kJ b 0 h)) (k: ∀h,K (b.map jY) 0 h):
 ∃(l:List (List TC)) (n2 n3:Int),ai C f vs (TV.bx [TC.sub 1 l,TC.sc (Value.int IntKind.i64 n2),TC.sc (Value.int IntKind.i64 n3)]) []∧K l n2 n3:=by
 obtain⟨_,_,hr,rfl,x,rfl⟩:=h;exact⟨_,_,_,hr,k x⟩
theorem bW {P:TV→Prop} {r:TV} {i h:Int} (hi:0≤i) (hP:P r):Dr b P r [TV.bx [TC.sub 1 (b.map jY),TC.sc (Value.int IntKind.i64 i),TC.sc (Value.int IntKind.i64 h)]]:=⟨i,h,hi,rfl,hP⟩
end Go.T
namespace Go.T
noncomputable def HM (C:mA) (f:FuncId) (vs:List TV):Option (TV×List TV):=
 open Classical in if h : ∃ p : TV × List TV, ai C f vs p.1 p.2 then some (Classical.choose h) else none
theorem aee {C:mA} {f:FuncId} {vs:List TV} {r:TV} {fs:List TV} (h:HM C f vs=some (r,fs)):ai C f vs r fs:=by
 unfold HM at h
 split at h
 ·rename_i hx
  have h1:=Classical.choose_spec hx;have h2:Classical.choose hx=(r,fs):=Option.some.inj h;rw[h2] at h1;exact h1
 ·cases h
theorem af3 {C:mA} {f:FuncId} {vs:List TV} {r:TV} {fs:List TV} (h:ai C f vs r fs):HM C f vs=some (r,fs):=by
 unfold HM;have hx: ∃p:TV×List TV,ai C f vs p.1 p.2:=⟨(r,fs),h⟩;rw[dif_pos hx];have h1:=Classical.choose_spec hx;obtain⟨e1,e2⟩:=h.det h1;rw[show Classical.choose hx=(r,fs) from Prod.ext e1 e2]
theorem up {C C':mA} {f:FuncId} {vs:List TV} {r:TV} {fs:List TV} (hx:C'.ext f=some (HM C f)) (h:ai C f vs r fs):ai C' f vs r fs:=ai.ext hx (af3 h)
theorem upQ {C C':mA} {f:FuncId} {vs:List TV} {Q:TV→List TV→Prop} (hx:C'.ext f=some (HM C f)) (h:aZ C f vs Q):aZ C' f vs Q:=by
 obtain⟨r,fs,h1,h2⟩:=h;exact⟨r,fs,up hx h1,h2⟩
theorem down {C C':mA} {f:FuncId} {vs:List TV} {r:TV} {fs:List TV} (hx:C'.ext f=some (HM C f)) (h:ai C' f vs r fs):ai C f vs r fs:=by
 obtain⟨k,h⟩:=h
 cases k with
 |zero=>exact h.elim
 |succ k=>
  unfold jT at h;rw[hx] at h;exact aee h
end Go.T
