import Derived.Test.YtlkjkfidmkdchaaT5
set_option linter.all false
namespace Go.T
def HL (cf:Cf):Prop:= ∀f vs r fs r' fs',cf f vs r fs→cf f vs r' fs'→r=r'∧fs=fs'
def JM (lp:Lp):Prop:= ∀f i c st (Q Q':TX→TS→Prop),lp f i c st Q→lp f i c st Q'→ ∃x s,Q x s∧Q' x s
theorem fA {R:Type} {cf:Cf} {lp:Lp} (hc:HL cf) (hl:JM lp) {Q Q':R→Prop}: ∀(e:Ev R),e.holds cf lp Q→e.holds cf lp Q'→ ∃r,Q r∧Q' r
 | .fail,h,_=>h.elim
 | .ret r,h,h'=>⟨r,h,h'⟩
 | .test b k,h,h'=>fA hc hl (k b) h h'
 | .row rows i k,⟨c,h1,h2⟩,⟨c',rZ,DO⟩=>by
   rw[h1] at rZ;cases rZ;exact fA hc hl (k c) h2 DO
 | .byte rows i k,⟨c,h1,h2⟩,⟨c',rZ,DO⟩=>by
   rw[h1] at rZ;cases rZ;exact fA hc hl (k c) h2 DO
 | .bytes rows k,⟨c,h1,h2⟩,⟨c',rZ,DO⟩=>by
   rw[h1] at rZ;cases rZ;exact fA hc hl (k c) h2 DO
 | .call f vs k,⟨r,fs,h1,h2⟩,⟨r',fs',rZ,DO⟩=>by
   obtain⟨rfl,rfl⟩:=hc _ _ _ _ _ _ h1 rZ;exact fA hc hl (k r fs) h2 DO
 | .loop f i c st k,h,h'=>by
   obtain⟨x,s,h1,h2⟩:=hl _ _ _ _ _ _ h h';exact fA hc hl (k x s) h1 h2
 | .both a b,⟨r,h1,h2,h3⟩,⟨r',rZ,DO,GV⟩=>by
   obtain⟨r0,e1,e2⟩:=fA hc hl a h1 rZ;subst e1 e2;exact⟨_,h3,GV⟩
section
variable {C : dW}
theorem AY {cf:Cf} {lp:Lp} (hc:HL cf) (hl:JM lp) {fx:List Nat} {f i:Nat} {c:Code} {Q Q':TX→TS→Prop}: ∀(n:Nat) (st:TS),iter C cf lp fx f i c Q n st→iter C cf lp fx f i c Q' n st→ ∃x s,Q x s∧Q' x s
 |0,_,h,_=>h.elim
 |n+1,st,h,h'=>by
  obtain⟨⟨x,s⟩,h1,h2⟩:=fA hc hl _ h h'
  cases x with
  |norm=>
   simp only at h1 h2;rw[gM] at h1 h2;exact AY hc hl n _ h1 h2
  |ex id=>exact⟨_,_,h1,h2⟩
  |ret=>exact⟨_,_,h1,h2⟩
theorem Ds {cf:Cf} (hc:HL cf) (k:Nat) (fx:List Nat): ∀n,JM (BQ C cf k fx n)
 |0=>fun _ _ _ _ _ _ h _=>h.elim
 |n+1=>fun f i c st Q Q' h h'=>AY hc (Ds hc k fx n) k st h h'
theorem sO: ∀k,HL (cJ C k)
 |0=>fun _ _ _ _ _ _ h _=>h.elim
 |k+1=>fun f vs r fs r' fs' h h'=>by
  unfold cJ at h h'
  cases hx:C.ext f with
  |some p=>rw[hx] at h h';have h:p vs=some (r,fs):=h;have h':p vs=some (r',fs'):=h';rw[h] at h';cases h';exact⟨rfl,rfl⟩
  |none=>
  rw[hx] at h h';simp only at h h';obtain⟨p,h1,h2⟩:=fA (sO k) (Ds (sO k) k _ 4) _ h h';rw[h1] at h2
  cases h2
  exact⟨rfl,rfl⟩
theorem aq.Pj {f:FuncId} {vs:List TV} {r r':TV} {fs fs':List TV} (h:aq C f vs r fs) (h':aq C f vs r' fs'):r'=r∧fs'=fs:=by
 obtain⟨k,h⟩:=h;obtain⟨k',h'⟩:=h';obtain⟨h1,h2⟩:=sO (max k k') _ _ _ _ _ _ (ek (xy _ _) h) (ek (Nat.le_max_right _ _) h');exact⟨h1.symm,h2.symm⟩
end
def gm {α:Type} (l:List α) (i:Int):Option α:=if 0≤i then l[i.toNat]? else none
theorem rI {α:Type} (l:List α) (i:Nat):gm l (i:Int)=l[i]?:=by
 unfold gm;rw[aT (Int.natCast_nonneg i),Iw]
theorem mz {α:Type} {l:List α} {i:Int} (h0:0≤i) (h1:i<l.length): ∃a,gm l i=some a:=by
 unfold gm;rw[aT h0];exact⟨_,aO aA⟩
theorem bN {α:Type} (e:α→List TC) (l:List α) (i:Int):rowAt (l.map e) i=(gm l i).map e:=by
 unfold rowAt gm
 split
 ·rw[dK]
 ·rfl
theorem vN {α:Type} {l:List α} {i:Int} {a:α} (h:gm l i=some a):a∈l:=by
 unfold gm at h
 split at h
 ·exact c6 h
 ·cases h
def Ek {α:Type} (l:List α) (i:Int) (a:α):List α:=l.set i.toNat a
theorem AZ {α:Type} (l:List α) (i:Int) (a:α):(Ek l i a).length=l.length:=by unfold Ek;simp
theorem A4 {α:Type} {e:α→List TC} {l:List α} {i:Int} {a a':α} {f:Nat} {cs:List TC} (h:gm l i=some a) (he:(e a).take f++cs++(e a).drop (f+cs.length)=e a'):setRow (l.map e) i f cs=(Ek l i a').map e:=by
 unfold gm at h
 split at h
 ·unfold setRow Ek
  rw[dK,h];simp only[dO,he,List.map_set]
 ·cases h
@[simp] theorem iT {α:Type} (e:α→List TC) (l:List α) (a b:Int):aV (l.map e) a b=((l.take b.toNat).drop a.toNat).map e:=by
  unfold aV;rw[←z6,←xx]
theorem j6 {rows:List (List TC)} (h: ∀r∈rows,∀c∈r,∃v,c= .sc v):dL rows=true:=by
 unfold dL;rw[List.all_eq_true];intro r hr;rw[List.all_eq_true];intro c hc;obtain⟨v,rfl⟩:=h r hr c hc
 rfl
@[simp] theorem zp (s:ByteArray):(ByteArray.data s).1.length=s.size:=rfl
@[simp] theorem vO (l h n:Int):gG l h n=decide (0≤l∧l≤h∧h≤n):=by unfold gG;rfl
end Go.T
namespace Go.T
structure Key where
 b:Int
 a:Int
 k:Int
 c:Int
 g:Int
 deriving DecidableEq
structure Cp where
 id:Int
 fr:Int
 deriving DecidableEq
structure Cell where
 g:Int
 u:Bool
 n:Int
 deriving DecidableEq
structure uI where
 name:ByteArray
 Jf:Int
 size:Int
 fx:Bool
structure Mp where
 name:ByteArray
 fx:Bool
 l:List Int
structure Tree where
 cc:List Int
 nodes:List (List (List Key))
structure K5 where
 t:Tree
 Iu:List Cp
 cells:List Cell
 N8:List uI
 next:Int
structure oF where
 kind:Int
 name:ByteArray
 to:ByteArray
 a:Int
 b:Int
abbrev iI (n:Int):TC:= .sc (.int .i64 n)
abbrev iB (b:Bool):TC:= .sc (.bool b)
abbrev iS (s:ByteArray):TC:= .sc (.string s)
abbrev cI (n:Int):CE:= .sc (.int .i64 n)
abbrev cB (b:Bool):CE:= .sc (.bool b)
abbrev cS (s:ByteArray):CE:= .sc (.string s)
abbrev cR (a b:Int):Int:=BH .i64 a b
abbrev fC (a b:Int):Int:=uQ .i64 a b
abbrev sP (a b:Int):Int:=BI .i64 a b
theorem cG {a b:Int} (h: -9223372036854775808≤a+b∧a+b≤9223372036854775807):cR a b=a+b:=HI h
theorem nj {a b:Int} (h: -9223372036854775808≤a-b∧a-b≤9223372036854775807):fC a b=a-b:=HJ h
theorem HM {a b:Int} (h: -9223372036854775808≤a*b∧a*b≤9223372036854775807):sP a b=a*b:=zn h
abbrev RR:=List (List TC)
abbrev QV:=TV→List TV→Prop
abbrev QX:=TX→TS→Prop
abbrev sI:Sh:= .int .i64
abbrev sB:Sh:= .bool
abbrev sS:Sh:= .str
abbrev hz:Hint:= .z
abbrev hb:Hint→Hint→Hint:= .br
abbrev hr:List Sh→Hint→Hint:= .row
abbrev hc:vK→List vK→Hint→Hint:= .call
abbrev bE:ByteArray:=⟨#[]⟩
def qv (n:Int):List TC:=[.sc (.int .i64 n)]
def aE (n:Int):List TC:=[.sc (.int .u8 n)]
def Dt (n:Bool):List TC:=[.sc (.bool n)]
def jz (x:Key):List TC:=[.sc (.int .i64 x.b),.sc (.int .i64 x.a),.sc (.int .i64 x.k),.sc (.int .i64 x.c),.sc (.int .i64 x.g)]
def sQ (x:Cp):List TC:=[.sc (.int .i64 x.id),.sc (.int .i64 x.fr)]
def nM (x:Cell):List TC:=[.sc (.int .i64 x.g),.sc (.bool x.u),.sc (.int .i64 x.n)]
def oG (x:uI):List TC:=[.sc (.string x.name),.sc (.int .i64 x.Jf),.sc (.int .i64 x.size),.sc (.bool x.fx)]
def pK (x:oF):List TC:=[.sc (.int .i64 x.kind),.sc (.string x.name),.sc (.string x.to),.sc (.int .i64 x.a),.sc (.int .i64 x.b)]
def sR (x:Mp):List TC:=[.sc (.string x.name),.sc (.bool x.fx),.sub 1 (x.l.map qv)]
def vP (x:List Int):List TC:=[.sub 1 (x.map aE)]
def vQ (x:List Key):List TC:=[.sub 5 (x.map jz)]
def vR (x:List (List Key)):List TC:=[.sub 1 (x.map vQ)]
abbrev vI (n:Int):TV:= .c (.sc (.int .i64 n))
abbrev vB (b:Bool):TV:= .c (.sc (.bool b))
abbrev vS (s:ByteArray):TV:= .c (.sc (.string s))
abbrev K6 (l:List Int):TV:= .c (.sub 1 (l.map qv))
abbrev bW (l:List Int):TV:= .c (.sub 1 (l.map aE))
section
variable {i : Int}
@[simp] theorem M9 {l:List Int} {K:Int→Prop}:(∃n,rowAt (l.map qv) i=some [.sc (.int .i64 n)]∧K n)↔ ∃a,gm l i=some a∧K a:=by
  rw[bN]
  constructor
  ·rintro⟨n,h,hK⟩
   obtain⟨a,ha,h⟩:=Option.map_eq_some_iff.1 h;unfold qv at h;cases h;exact⟨_,ha,hK⟩
  ·rintro⟨a,ha,hK⟩
   exact⟨_,by rw[ha];rfl,hK⟩
@[simp] theorem Mj {l:List Int} {K:Int→Prop}:(∃n,rowAt (l.map aE) i=some [.sc (.int .u8 n)]∧K n)↔ ∃a,gm l i=some a∧K a:=by
  rw[bN]
  constructor
  ·rintro⟨n,h,hK⟩
   obtain⟨a,ha,h⟩:=Option.map_eq_some_iff.1 h;unfold aE at h;cases h;exact⟨_,ha,hK⟩
  ·rintro⟨a,ha,hK⟩
   exact⟨_,by rw[ha];rfl,hK⟩
@[simp] theorem Mk {l:List Bool} {K:Bool→Prop}:(∃n,rowAt (l.map Dt) i=some [.sc (.bool n)]∧K n)↔ ∃a,gm l i=some a∧K a:=by
  rw[bN]
  constructor
  ·rintro⟨n,h,hK⟩
   obtain⟨a,ha,h⟩:=Option.map_eq_some_iff.1 h;unfold Dt at h;cases h;exact⟨_,ha,hK⟩
  ·rintro⟨a,ha,hK⟩
   exact⟨_,by rw[ha];rfl,hK⟩
@[simp] theorem Na {l:List Key} {K:Int→Int→Int→Int→Int→Prop}:(∃b a k c g,rowAt (l.map jz) i=some [.sc (.int .i64 b),.sc (.int .i64 a),.sc (.int .i64 k),.sc (.int .i64 c),.sc (.int .i64 g)]∧K b a k c g)↔ ∃x,gm l i=some x∧K x.b x.a x.k x.c x.g:=by
  rw[bN]
  constructor
  ·rintro⟨_,_,_,_,_,h,hK⟩
   obtain⟨a,ha,h⟩:=Option.map_eq_some_iff.1 h;unfold jz at h;cases h;exact⟨_,ha,hK⟩
  ·rintro⟨a,ha,hK⟩
   exact⟨_,_,_,_,_,by rw[ha];rfl,hK⟩
@[simp] theorem Nb {l:List Cp} {K:Int→Int→Prop}:(∃b a,rowAt (l.map sQ) i=some [.sc (.int .i64 b),.sc (.int .i64 a)]∧K b a)↔ ∃x,gm l i=some x∧K x.id x.fr:=by
  rw[bN]
  constructor
  ·rintro⟨_,_,h,hK⟩
   obtain⟨a,ha,h⟩:=Option.map_eq_some_iff.1 h;unfold sQ at h;cases h;exact⟨_,ha,hK⟩
  ·rintro⟨a,ha,hK⟩
   exact⟨_,_,by rw[ha];rfl,hK⟩
@[simp] theorem Ml {l:List Cell} {K:Int→Bool→Int→Prop}:(∃g u n,rowAt (l.map nM) i=some [.sc (.int .i64 g),.sc (.bool u),.sc (.int .i64 n)]∧K g u n)↔ ∃x,gm l i=some x∧K x.g x.u x.n:=by
  rw[bN]
  constructor
  ·rintro⟨_,_,_,h,hK⟩
   obtain⟨a,ha,h⟩:=Option.map_eq_some_iff.1 h;unfold nM at h;cases h;exact⟨_,ha,hK⟩
  ·rintro⟨a,ha,hK⟩
   exact⟨_,_,_,by rw[ha];rfl,hK⟩
@[simp] theorem Nc {l:List uI} {K:ByteArray→Int→Int→Bool→Prop}:(∃s a z f,rowAt (l.map oG) i=some [.sc (.string s),.sc (.int .i64 a),.sc (.int .i64 z),.sc (.bool f)]∧K s a z f)↔ ∃x,gm l i=some x∧K x.name x.Jf x.size x.fx:=by
  rw[bN]
  constructor
  ·rintro⟨_,_,_,_,h,hK⟩
   obtain⟨a,ha,h⟩:=Option.map_eq_some_iff.1 h;unfold oG at h;cases h;exact⟨_,ha,hK⟩
  ·rintro⟨a,ha,hK⟩
   exact⟨_,_,_,_,by rw[ha];rfl,hK⟩
@[simp] theorem OL {l:List oF} {K:Int→ByteArray→ByteArray→Int→Int→Prop}:(∃k s t a b,rowAt (l.map pK) i=some [.sc (.int .i64 k),.sc (.string s),.sc (.string t),.sc (.int .i64 a),.sc (.int .i64 b)]∧K k s t a b)↔ ∃x,gm l i=some x∧K x.kind x.name x.to x.a x.b:=by
  rw[bN]
  constructor
  ·rintro⟨_,_,_,_,_,h,hK⟩
   obtain⟨a,ha,h⟩:=Option.map_eq_some_iff.1 h;unfold pK at h;cases h;exact⟨_,ha,hK⟩
  ·rintro⟨a,ha,hK⟩
   exact⟨_,_,_,_,_,by rw[ha];rfl,hK⟩
@[simp] theorem Nf {l:List Mp} {K:ByteArray→Bool→List (List TC)→Prop}:(∃s f r,rowAt (l.map sR) i=some [.sc (.string s),.sc (.bool f),.sub 1 r]∧K s f r)↔ ∃x,gm l i=some x∧K x.name x.fx (x.l.map qv):=by
  rw[bN]
  constructor
  ·rintro⟨_,_,_,h,hK⟩
   obtain⟨a,ha,h⟩:=Option.map_eq_some_iff.1 h;unfold sR at h;cases h;exact⟨_,ha,hK⟩
  ·rintro⟨a,ha,hK⟩
   exact⟨_,_,_,by rw[ha];rfl,hK⟩
@[simp] theorem Ng {l:List (List Key)} {K:List (List TC)→Prop}:(∃r,rowAt (l.map vQ) i=some [.sub 5 r]∧K r)↔ ∃x,gm l i=some x∧K (x.map jz):=by
  rw[bN]
  constructor
  ·rintro⟨_,h,hK⟩
   obtain⟨a,ha,h⟩:=Option.map_eq_some_iff.1 h;unfold vQ at h;cases h;exact⟨_,ha,hK⟩
  ·rintro⟨a,ha,hK⟩
   exact⟨_,by rw[ha];rfl,hK⟩
@[simp] theorem Mm {l:List (List (List Key))} {K:List (List TC)→Prop}:(∃r,rowAt (l.map vR) i=some [.sub 1 r]∧K r)↔ ∃x,gm l i=some x∧K (x.map vQ):=by
  rw[bN]
  constructor
  ·rintro⟨_,h,hK⟩
   obtain⟨a,ha,h⟩:=Option.map_eq_some_iff.1 h;unfold vR at h;cases h;exact⟨_,ha,hK⟩
  ·rintro⟨a,ha,hK⟩
   exact⟨_,by rw[ha];rfl,hK⟩
@[simp] theorem K7 {l:List (List Int)} {K:List (List TC)→Prop}:(∃r,rowAt (l.map vP) i=some [.sub 1 r]∧K r)↔ ∃x,gm l i=some x∧K (x.map aE):=by
  rw[bN]
  constructor
  ·rintro⟨_,h,hK⟩
   obtain⟨a,ha,h⟩:=Option.map_eq_some_iff.1 h;unfold vP at h;cases h;exact⟨_,ha,hK⟩
  ·rintro⟨a,ha,hK⟩
   exact⟨_,by rw[ha];rfl,hK⟩
end
@[simp] theorem natAdd (a b:Nat):Nat.add a b=a+b:=rfl
@[simp] theorem Mn {α:Type} (a b:List α):List.append a b=a++b:=rfl
theorem El (l:List Int):dL (l.map qv)=true:=j6 fun r hr c hc=>by
 obtain⟨a,_,rfl⟩:=List.mem_map.1 hr;unfold qv at hc;simp only[dw] at hc;exact⟨_,hc⟩
theorem ew (l:List Int):dL (l.map aE)=true:=j6 fun r hr c hc=>by
 obtain⟨a,_,rfl⟩:=List.mem_map.1 hr;unfold aE at hc;simp only[dw] at hc;exact⟨_,hc⟩
theorem ye (l:List Key):dL (l.map jz)=true:=j6 fun r hr c hc=>by
 obtain⟨a,_,rfl⟩:=List.mem_map.1 hr;unfold jz at hc;simp only[bg,List.not_mem_nil,or_false] at hc;rcases hc with h|h|h|h|h<;>exact⟨_,h⟩
theorem yf (l:List Cp):dL (l.map sQ)=true:=j6 fun r hr c hc=>by
 obtain⟨a,_,rfl⟩:=List.mem_map.1 hr;unfold sQ at hc;simp only[bg,List.not_mem_nil,or_false] at hc;rcases hc with h|h<;>exact⟨_,h⟩
theorem Cq (l:List Cell):dL (l.map nM)=true:=j6 fun r hr c hc=>by
 obtain⟨a,_,rfl⟩:=List.mem_map.1 hr;unfold nM at hc;simp only[bg,List.not_mem_nil,or_false] at hc;rcases hc with h|h|h<;>exact⟨_,h⟩
theorem yg (l:List uI):dL (l.map oG)=true:=j6 fun r hr c hc=>by
 obtain⟨a,_,rfl⟩:=List.mem_map.1 hr;unfold oG at hc;simp only[bg,List.not_mem_nil,or_false] at hc;rcases hc with h|h|h|h<;>exact⟨_,h⟩
@[simp] theorem Nh (v:Value):dL [[.sc v]]=true:=j6 fun r hr c hc=>by
  simp only[dw] at hr;subst hr;simp only[dw] at hc;exact⟨_,hc⟩
attribute [simp] El ew ye yf Cq yg
end Go.T
namespace Go.T
theorem yh {α:Type} (g:α→α): ∀(l:List α) (i:Nat) (a:α),l[i]?=some a→l.modify i g=l.set i (g a)
 |[],i,a,h=>by simp at h
 |x::r,0,a,h=>by simp only[bG,aI] at h;subst h;rfl
 |x::r,i+1,a,h=>by
  simp only[g7] at h;rw[List.modify_succ_cons,List.set_cons_succ,yh g r i a h]
theorem aC {α:Type} {e:α→List TC} {l:List α} {i:Int} {f:Nat} {cs:List TC} {g:α→α} (he: ∀a,(e a).take f++cs++(e a).drop (f+cs.length)=e (g a)):setRow (l.map e) i f cs=(l.modify i.toNat g).map e:=by
 unfold setRow;rw[dK]
 cases h:l[i.toNat]? with
 |none=>
  have:l.length≤i.toNat:=List.getElem?_eq_none_iff.1 h;simp only[Option.map_none];rw[List.modify_eq_self this]
 |some a=>
  simp only[dO];rw[he,yh g l _ a h,List.map_set]
@[simp] theorem K8 {l:List Key} {i:Int} {v:Int}:setRow (l.map jz) i 0 [.sc (.int .i64 v)]=(l.modify i.toNat fun x=>{x with b:=v}).map jz:=aC fun a=>rfl
@[simp] theorem K9 {l:List Key} {i:Int} {v:Int}:setRow (l.map jz) i 1 [.sc (.int .i64 v)]=(l.modify i.toNat fun x=>{x with a:=v}).map jz:=aC fun a=>rfl
@[simp] theorem La {l:List Key} {i:Int} {v:Int}:setRow (l.map jz) i 2 [.sc (.int .i64 v)]=(l.modify i.toNat fun x=>{x with k:=v}).map jz:=aC fun a=>rfl
@[simp] theorem Lb {l:List Key} {i:Int} {v:Int}:setRow (l.map jz) i 3 [.sc (.int .i64 v)]=(l.modify i.toNat fun x=>{x with c:=v}).map jz:=aC fun a=>rfl
@[simp] theorem Lc {l:List Key} {i:Int} {v:Int}:setRow (l.map jz) i 4 [.sc (.int .i64 v)]=(l.modify i.toNat fun x=>{x with g:=v}).map jz:=aC fun a=>rfl
@[simp] theorem Ni {l:List Key} {i:Int} {v0:Int} {v1:Int} {v2:Int} {v3:Int} {v4:Int}:setRow (l.map jz) i 0 [.sc (.int .i64 v0),.sc (.int .i64 v1),.sc (.int .i64 v2),.sc (.int .i64 v3),.sc (.int .i64 v4)]=(l.modify i.toNat fun _=>⟨v0,v1,v2,v3,v4⟩).map jz:=aC fun a=>rfl
@[simp] theorem Kj {l:List Cp} {i:Int} {v:Int}:setRow (l.map sQ) i 0 [.sc (.int .i64 v)]=(l.modify i.toNat fun x=>{x with id:=v}).map sQ:=aC fun a=>rfl
@[simp] theorem Kk {l:List Cp} {i:Int} {v:Int}:setRow (l.map sQ) i 1 [.sc (.int .i64 v)]=(l.modify i.toNat fun x=>{x with fr:=v}).map sQ:=aC fun a=>rfl
@[simp] theorem Nj {l:List Cp} {i:Int} {v0:Int} {v1:Int}:setRow (l.map sQ) i 0 [.sc (.int .i64 v0),.sc (.int .i64 v1)]=(l.modify i.toNat fun _=>⟨v0,v1⟩).map sQ:=aC fun a=>rfl
@[simp] theorem Kl {l:List Cell} {i:Int} {v:Int}:setRow (l.map nM) i 0 [.sc (.int .i64 v)]=(l.modify i.toNat fun x=>{x with g:=v}).map nM:=aC fun a=>rfl
@[simp] theorem Km {l:List Cell} {i:Int} {v:Bool}:setRow (l.map nM) i 1 [.sc (.bool v)]=(l.modify i.toNat fun x=>{x with u:=v}).map nM:=aC fun a=>rfl
@[simp] theorem Kn {l:List Cell} {i:Int} {v:Int}:setRow (l.map nM) i 2 [.sc (.int .i64 v)]=(l.modify i.toNat fun x=>{x with n:=v}).map nM:=aC fun a=>rfl
@[simp] theorem Mo {l:List Cell} {i:Int} {v0:Int} {v1:Bool} {v2:Int}:setRow (l.map nM) i 0 [.sc (.int .i64 v0),.sc (.bool v1),.sc (.int .i64 v2)]=(l.modify i.toNat fun _=>⟨v0,v1,v2⟩).map nM:=aC fun a=>rfl
@[simp] theorem IK {l:List uI} {i:Int} {v:ByteArray}:setRow (l.map oG) i 0 [.sc (.string v)]=(l.modify i.toNat fun x=>{x with name:=v}).map oG:=aC fun a=>rfl
@[simp] theorem JN {l:List uI} {i:Int} {v:Int}:setRow (l.map oG) i 1 [.sc (.int .i64 v)]=(l.modify i.toNat fun x=>{x with Jf:=v}).map oG:=aC fun a=>rfl
@[simp] theorem IL {l:List uI} {i:Int} {v:Int}:setRow (l.map oG) i 2 [.sc (.int .i64 v)]=(l.modify i.toNat fun x=>{x with size:=v}).map oG:=aC fun a=>rfl
@[simp] theorem Ko {l:List uI} {i:Int} {v:Bool}:setRow (l.map oG) i 3 [.sc (.bool v)]=(l.modify i.toNat fun x=>{x with fx:=v}).map oG:=aC fun a=>rfl
@[simp] theorem Nk {l:List uI} {i:Int} {v0:ByteArray} {v1:Int} {v2:Int} {v3:Bool}:setRow (l.map oG) i 0 [.sc (.string v0),.sc (.int .i64 v1),.sc (.int .i64 v2),.sc (.bool v3)]=(l.modify i.toNat fun _=>⟨v0,v1,v2,v3⟩).map oG:=aC fun a=>rfl
@[simp] theorem JO {l:List oF} {i:Int} {v:Int}:setRow (l.map pK) i 0 [.sc (.int .i64 v)]=(l.modify i.toNat fun x=>{x with kind:=v}).map pK:=aC fun a=>rfl
@[simp] theorem JP {l:List oF} {i:Int} {v:ByteArray}:setRow (l.map pK) i 1 [.sc (.string v)]=(l.modify i.toNat fun x=>{x with name:=v}).map pK:=aC fun a=>rfl
@[simp] theorem Ld {l:List oF} {i:Int} {v:ByteArray}:setRow (l.map pK) i 2 [.sc (.string v)]=(l.modify i.toNat fun x=>{x with to:=v}).map pK:=aC fun a=>rfl
@[simp] theorem Mq {l:List oF} {i:Int} {v:Int}:setRow (l.map pK) i 3 [.sc (.int .i64 v)]=(l.modify i.toNat fun x=>{x with a:=v}).map pK:=aC fun a=>rfl
@[simp] theorem Mr {l:List oF} {i:Int} {v:Int}:setRow (l.map pK) i 4 [.sc (.int .i64 v)]=(l.modify i.toNat fun x=>{x with b:=v}).map pK:=aC fun a=>rfl
@[simp] theorem OM {l:List oF} {i:Int} {v0:Int} {v1:ByteArray} {v2:ByteArray} {v3:Int} {v4:Int}:setRow (l.map pK) i 0 [.sc (.int .i64 v0),.sc (.string v1),.sc (.string v2),.sc (.int .i64 v3),.sc (.int .i64 v4)]=(l.modify i.toNat fun _=>⟨v0,v1,v2,v3,v4⟩).map pK:=aC fun a=>rfl
@[simp] theorem IM {l:List Mp} {i:Int} {v:ByteArray}:setRow (l.map sR) i 0 [.sc (.string v)]=(l.modify i.toNat fun x=>{x with name:=v}).map sR:=aC fun a=>rfl
@[simp] theorem Kq {l:List Mp} {i:Int} {v:Bool}:setRow (l.map sR) i 1 [.sc (.bool v)]=(l.modify i.toNat fun x=>{x with fx:=v}).map sR:=aC fun a=>rfl
@[simp] theorem Le {l:List Mp} {i:Int} {v:List Int}:setRow (l.map sR) i 2 [.sub 1 (v.map qv)]=(l.modify i.toNat fun x=>{x with l:=v}).map sR:=aC fun a=>rfl
@[simp] theorem Nl {l:List Mp} {i:Int} {v0:ByteArray} {v1:Bool} {v2:List Int}:setRow (l.map sR) i 0 [.sc (.string v0),.sc (.bool v1),.sub 1 (v2.map qv)]=(l.modify i.toNat fun _=>⟨v0,v1,v2⟩).map sR:=aC fun a=>rfl
@[simp] theorem Nm {l:List (Int)} {i:Int} {v:Int}:setRow (l.map qv) i 0 [.sc (.int .i64 v)]=(l.modify i.toNat fun _=>v).map qv:=aC fun a=>rfl
@[simp] theorem Ms {l:List (Int)} {i:Int} {v:Int}:setRow (l.map aE) i 0 [.sc (.int .u8 v)]=(l.modify i.toNat fun _=>v).map aE:=aC fun a=>rfl
@[simp] theorem Mt {l:List (Bool)} {i:Int} {v:Bool}:setRow (l.map Dt) i 0 [.sc (.bool v)]=(l.modify i.toNat fun _=>v).map Dt:=aC fun a=>rfl
@[simp] theorem Nn {l:List (List Key)} {i:Int} {v:List Key}:setRow (l.map vQ) i 0 [.sub 5 (v.map jz)]=(l.modify i.toNat fun _=>v).map vQ:=aC fun a=>rfl
@[simp] theorem Mu {l:List (List (List Key))} {i:Int} {v:List (List Key)}:setRow (l.map vR) i 0 [.sub 1 (v.map vQ)]=(l.modify i.toNat fun _=>v).map vR:=aC fun a=>rfl
end Go.T
namespace Go.T
theorem Gd {α:Type} (l:List α) (P:Nat→Prop) (fin:P l.length) (step: ∀i a,i<l.length→l[i]?=some a→l.drop i=a::l.drop (i+1)→l.take (i+1)=l.take i++[a]→P (i+1)→P i):P 0:=by
 have: ∀k i,i+k=l.length→P i:=by
  intro k
  induction k with
  |zero=>intro i h;have:i=l.length:=by omega
         subst this;exact fin
  |succ k ih=>
   intro i h
   have hi:i<l.length:=by omega
   refine step i l[i] hi (aO hi) (xu hi) ?_ (ih (i+1) aA);rw[List.take_add_one,aO hi];rfl
 exact this l.length 0 aA
def tot {α:Type} (w:α→Nat):List α→Nat
 |[]=>0
 |a::r=>w a+tot w r
def IN (s:List Key):Nat:=s.length
end Go.T
namespace Go.T
section
variable {C : dW} {f : FuncId} {vs : List TV}
theorem Cr {x b:Bool} (h:aq C f vs (vB x) []):aq C f vs (vB b) []↔b=x:=⟨fun h'=>by have:=(h.Pj h').1;simpa using this,fun e=>e▸h⟩
end
theorem yj {s:ByteArray} {i:Nat} (h:i<s.size): ∃n:Int,hD s i=some n∧0≤n∧n≤255:=by
 unfold hD;rw[aT (Int.natCast_nonneg i),Iw];have:s[i]?=some s[i]:=getElem?_pos s i h;rw[this];have:=(s[i]).toNat_lt;refine⟨_,rfl,?_,?_⟩<;>show _≤_<;>simp only[]<;>omega
theorem A5 {n:Int} (h: -9223372036854775808≤n∧n≤9223372036854775807):aD .i64 n=n:=by unfold aD;exact IntWalk.i64_in _ h
def gX (a lo hi:Int):Bool:=decide (lo≤a∧a≤hi)
def gR (a:Int):Bool:=gX a 0 65535
def mA (x:Key):Bool:=gX x.b 0 15&&gX x.a 1 60&&gX x.k 0 2&&(if x.k=1 then gX x.c 0 23&&gX x.g 0 999 else decide (x.c=0)&&decide (x.g=0))
def gT (x y:Key):Bool:=decide (x.b<y.b∨(x.b=y.b∧x.a<y.a))
def iU (x y:Key):Bool:=decide (x.b=y.b∧x.a=y.a)
def jA (n:Nat) (f:Nat→Bool):Bool:=(List.range' 0 n).all f
theorem vT {i n:Nat} (h:i<n):List.range' i (n-i)=i::List.range' (i+1) (n-(i+1)):=by
 obtain⟨k,hk⟩: ∃k,n-i=k+1:=⟨n-i-1,by omega⟩;rw[hk,show n-(i+1)=k by omega]
 rfl
theorem A6 (n:Nat) (P:Nat→Prop) (fin:P n) (step: ∀i,i<n→P (i+1)→P i):P 0:=by
 have: ∀k i,i+k=n→P i:=by
  intro k
  induction k with
  |zero=>intro i h;have:i=n:=by omega
         subst this;exact fin
  |succ k ih=>intro i h;exact step i aA (ih (i+1) aA)
 exact this n 0 aA
theorem Du {α:Type} (f g:α→Bool): ∀l:List α,l.all (fun x=>f x&&g x)=(l.all f&&l.all g)
 |[]=>rfl
 |a::r=>by simp only[uL,Du f g r];cases f a<;>cases g a<;>simp
theorem Ge (n:Nat) (f g:Nat→Bool):jA n (fun i=>f i&&g i)=(jA n f&&jA n g):=Du f g _
theorem rJ {n:Nat} {f:Nat→Bool}:jA n f=true↔ ∀i,i<n→f i=true:=by
 unfold jA;rw[List.all_eq_true]
 constructor
 ·intro h i hi;exact h i (by simp[List.mem_range'];exact hi)
 ·intro h i hi
  simp[List.mem_range'] at hi;exact h i hi
def Mv {α:Type} (l:List α) (f:α→Bool) (i:Nat):Bool:=match l[i]? with|some a=>f a|none=>true
def tV {α:Type} (l:List α) (f:α→α→Bool):Nat→Bool
 |0=>true
 |k+1=>match l[k]?,l[k+1]? with|some x,some y=>f x y|_,_=>true
theorem HN {α:Type} (l:List α) (f:α→Bool):jA l.length (Mv l f)=l.all f:=by
 rw[Bool.eq_iff_iff,rJ,List.all_eq_true]
 constructor
 ·intro h a ha
  obtain⟨i,hi,rfl⟩:=List.getElem_of_mem ha;have:=h i hi;simpa [Mv,hi] using this
 ·intro h i hi
  simp only[Mv,aO hi];exact h _ (qG hi)
def HO (l:List Key) (i:Nat):Bool:=Mv l mA i&&tV l gT i
def Dv (l:List Key):Bool:=jA l.length (HO l)&&decide (l.length≤60)
theorem vU (l:List Key):Dv l=(l.all mA&&(jA l.length (tV l gT)&&decide (l.length≤60))):=by
 rw[←Bool.and_assoc,←HN,←Ge];rfl
def nk:Key:=⟨0,0,0,0,0⟩
def setAt (l:List Key) (b a:Int):Option Key:=l.find? fun x=>decide (x.b=b∧x.a=a)
def cu (k:Key):Bool→List Key→List Key
 |put,[]=>if put then [] else [k]
 |put,x::r=>(if !put&& !gT x k then [k] else [])++(if iU x k then [] else [x])++cu k (put|| !gT x k) r
def qw (l:List Key) (k:Key):List Key:=cu k false l
def cO (old new:List Key):List Key:=new.foldl qw old
def Gf (l:List Key):List Key:=l.filter fun k=> !decide (k.k=0)
def sU (n:List (List Key)):List Key:=n.foldl cO []
def bJ (n:List (List Key)):List Key:=Gf (sU n)
def yl (n:List (List Key)):Nat:=tot IN n
def nr (n:List (List Key)):Bool:=n.all (fun s=>Dv s&& !decide (s.length=0))&&decide (n.length≤3)&&decide (yl n≤8)
def jB (l:List Key):List (List Key):=if l.length=0 then [] else [l]
def iV (t:Tree):List Key:=t.nodes.flatMap bJ
def JQ (t:Tree) (b:Int):List Key:=(iV t).filter fun k=>decide (k.b=b)
def dU (b a:Int):Int:=cR (sP 64 b) a
def Lf {α:Type} (p:α→Bool):List α→Int→Int
 |[],_=> -1
 |a::r,i=>if p a then i else Lf p r (i+1)
def IP (l:List Cp) (id:Int):Int:=Lf (fun a=>decide (a.id=id)) l 0
def IQ (l:List Cp):Nat→Int→List Int
 |0,_=>[]
 |n+1,id=>if IP l id<0 then [] else id::(match gm l (IP l id) with|some a=>IQ l n a.fr|none=>[])
def pathOf (l:List Cp) (id:Int):List Int:=IQ l (l.length+1) id
def No (l:List Int) (n:Int):Bool:=l.any fun a=>decide (a=n)
def Lg (path:List Int):Key×Bool→Key→Key×Bool:=fun p k=>if No path k.a&&(!p.2||decide (p.1.a<k.a)) then(k,true) else p
def near (keys:List Key) (path:List Int):Key×Bool:=keys.foldl (Lg path) (nk,false)
def Dw (t:Tree) (l:List Cp) (b id:Int):Key×Bool:=near (JQ t b) (pathOf l id)
def Gg (n:Int):Bool:=gX n 97 122||gX n 48 57
def bK (s:ByteArray) (i:Nat):Bool:=match hD s i with|some n=>Gg n|none=>true
def iC (s:ByteArray):Bool:=jA s.size (bK s)&&gX s.size 1 6
def cellAt (l:List Cell) (i gen:Int):Int×Bool:=match gm l i with
 |none=>(0,false)
 |some c=>if c.u=true∧c.g=gen then(c.n,true) else(0,false)
@[simp] theorem Mw {l:List Key} {b a k c g:Int}:List.append (l.map jz) [[iI b,iI a,iI k,iI c,iI g]]=(l++[(⟨b,a,k,c,g⟩:Key)]).map jz:=by simp[jz]
@[simp] theorem Mx {l:List Int} {b:Int}:List.append (l.map qv) [[iI b]]=(l++[b]).map qv:=by simp[qv]
@[simp] theorem Lh {l:List Int} {b:Int}:List.append (l.map aE) [[.sc (.int .u8 b)]]=(l++[b]).map aE:=by simp[aE]
@[simp] theorem My {l:List Cp} {b a:Int}:List.append (l.map sQ) [[iI b,iI a]]=(l++[(⟨b,a⟩:Cp)]).map sQ:=by simp[sQ]
@[simp] theorem Mz {l:List uI} {s:ByteArray} {b a:Int} {q:Bool}:List.append (l.map oG) [[iS s,iI b,iI a,iB q]]=(l++[(⟨s,b,a,q⟩:uI)]).map oG:=by simp[oG]
@[simp] theorem MA {l:List (List Key)} {s:List Key}:List.append (l.map vQ) [[.sub 5 (s.map jz)]]=(l++[s]).map vQ:=by simp[vQ]
@[simp] theorem Li {l:List (List (List Key))} {s:List (List Key)}:List.append (l.map vR) [[.sub 1 (s.map vQ)]]=(l++[s]).map vR:=by simp[vR]
@[simp] theorem MB {l:List Mp} {s:ByteArray} {f:Bool} {r:List Int}:List.append (l.map sR) [[iS s,iB f,.sub 1 (r.map qv)]]=(l++[(⟨s,f,r⟩:Mp)]).map sR:=by simp[sR]
@[simp] theorem Lj {α:Type} {e:α→List TC} {l m:List α}:List.append (l.map e) (m.map e)=(l++m).map e:=by simp
@[simp] theorem Lk:([]:RR)=([]:List Key).map jz↔True:=by simp
@[simp] theorem Ll {α:Type} (l:List α):Nat.succ (List.length l)=l.length+1:=rfl
theorem Cs (b a k c g:Int):dL [[iI b,iI a,iI k,iI c,iI g]]=true:=ye [⟨b,a,k,c,g⟩]
theorem Ct (b a:Int):dL [[iI b,iI a]]=true:=yf [⟨b,a⟩]
theorem Cu (s:ByteArray) (b a:Int) (q:Bool):dL [[iS s,iI b,iI a,iB q]]=true:=yg [⟨s,b,a,q⟩]
attribute [simp] Cs Ct Cu
@[simp] theorem MC (k:Key):(⟨k.b,k.a,k.k,k.c,k.g⟩:Key)=k:=rfl
@[simp] theorem MD (k:Cp):(⟨k.id,k.fr⟩:Cp)=k:=rfl
@[simp] theorem Lm (k:Cell):(⟨k.g,k.u,k.n⟩:Cell)=k:=rfl
@[simp] theorem ME (k:uI):(⟨k.name,k.Jf,k.size,k.fx⟩:uI)=k:=rfl
@[simp] theorem MF (k:Mp):(⟨k.name,k.fx,k.l⟩:Mp)=k:=rfl
@[simp] theorem Np (k:oF):(⟨k.kind,k.name,k.to,k.a,k.b⟩:oF)=k:=rfl
theorem pY {n b:Nat} (h:n*b≤140737488355328∧n≤140737488355328):fits n b=true:=by rw[HH];exact KM h
end Go.T
namespace Go.T
def Gh (cc:List Int) (i:Nat) (x:Int):Bool:=match cc[i]? with
 |some lo=> !decide (x<lo)&&(match cc[i+1]? with|some hi=>decide (x<hi)|none=>true)
 |none=>true
def ym (cc:List Int) (i:Nat) (k:Key):Bool:=Gh cc i (dU k.b k.a)
def Em (cc:List Int) (i:Nat) (s:List Key):Bool:=s.all (ym cc i)
def A7 (t:Tree) (i:Nat):Bool:=tV t.cc (fun x y=>decide (x<y)) i&&(match t.nodes[i]? with
 |some n=>nr n&&((decide (i=0)|| !decide ((bJ n).length=0))&&n.all (Em t.cc i))
 |none=>true)
def Gi (t:Tree):Bool:=gX t.nodes.length 1 20&&(decide (t.cc.length=t.nodes.length)&&((match t.cc[0]? with|some x=>decide (x=0)|none=>true)&&(jA t.nodes.length (A7 t)&&decide ((iV t).length≤60))))
def HP (p:K5) (i b:Int):Int:=match gm p.N8 i with
 |none=>0
 |some v=>if 0≤b∧b<v.size then(if(Dw p.t p.Iu b v.Jf).2=true∧(Dw p.t p.Iu b v.Jf).1.k=1 then(cellAt p.cells (Dw p.t p.Iu b v.Jf).1.c (Dw p.t p.Iu b v.Jf).1.g).1 else 0) else 0
end Go.T
namespace Go.T
def blocks (p:K5) (i:Nat) (k:Nat):List Int:=(List.range k).map fun b:Nat=>HP p i b
def sV (o:oF):Bool:=if o.kind=2 then decide (o.a=0)&&gX o.b 0 1 else if o.kind=3∨o.kind=7 then decide (o.a=0)&&decide (o.b=0) else if o.kind=4 then true else decide (o.b=0)
def opName (o:oF):Bool:=if 7≤o.kind then decide (o.name=bE) else iC o.name
def HQ (o:oF):Bool:=if o.kind=2 then iC o.to else decide (o.to=bE)
def g6 (o:oF):Bool:=gX o.kind 1 9&&(opName o&&(HQ o&&(gR o.a&&(gR o.b&&sV o))))
def HR (l:List Key) (b a:Int):Key×Bool:=match setAt l b a with|some k=>(k,true)|none=>(nk,false)
def oH (n:List (List Key)) (b a:Int):Nat→Key×Bool
 |0=>(nk,false)
 |k+1=>match n[k]? with
  |some s=>if(HR s b a).2=true then(if(HR s b a).1.k=0 then(nk,false) else HR s b a) else oH n b a k
  |none=>(nk,false)
def rK (f:Int→Bool) (l:List Int):Nat→Int
 |0=> -1
 |k+1=>match l[k]? with
  |some x=>if f x=true then(k:Int) else rK f l k
  |none=> -1
def Dx (t:Tree) (b a:Int):Int:=rK (fun x=>decide (x≤dU b a)) t.cc t.cc.length
def Gj (t:Tree) (b a:Int):Key×Bool:=match gm t.nodes (Dx t b a) with
 |some n=>oH n b a n.length
 |none=>(nk,false)
end Go.T
namespace Go.T
end Go.T
namespace Go.T
theorem Gk (x:Int):0≤eC .and .i64 x 255∧eC .and .i64 x 255≤255:=by
 have h:eC .and .i64 x 255=Go.IntKind.i64.wrap (((BitVec.ofInt 64 x&&&BitVec.ofInt 64 255).toNat:Nat):Int):=by unfold eC;rfl
 have hle:(BitVec.ofInt 64 x&&&BitVec.ofInt 64 255).toNat≤255:=by
  rw[BitVec.toNat_and];exact aB Nat.and_le_right (by decide)
 rw[h,Go.IntKind.wrap_i64];omega
abbrev Nq (b:List Int) (i h:Int):List TC:=[.sub 1 (b.map aE),.sc (.int .i64 i),.sc (.int .i64 h)]
abbrev oI (b:List Int) (i h:Int):TV:= .bx (Nq b i h)
def Dr (b:List Int) (P:TV→Prop) (r:TV) (fs:List TV):Prop:= ∃i h,0≤i∧fs=[oI b i h]∧P r
theorem A8 {x n:Int} (h0:0≤x) (hn:0<n):0≤x.tmod n∧x.tmod n<n:=⟨Int.tmod_nonneg _ h0,Int.tmod_lt_of_pos _ hn⟩
theorem A9 (x:Int):aD .u8 (eC .and .i64 x 255)=aD .u8 x:=by
 have h:eC .and .i64 x 255=Go.IntKind.i64.wrap (((BitVec.ofInt 64 x&&&BitVec.ofInt 64 255).toNat:Nat):Int):=by unfold eC;rfl
 have h1:(BitVec.ofInt 64 x&&&BitVec.ofInt 64 255).toNat=(BitVec.ofInt 64 x).toNat % 256:=by
  rw[BitVec.toNat_and]
  have:(BitVec.ofInt 64 255).toNat=2 ^ 8-1:=by decide
  rw[this,Nat.and_two_pow_sub_one_eq_mod]
 have h2:((BitVec.ofInt 64 x).toNat:Int)=x % 18446744073709551616:=by
  rw[BitVec.toNat_ofInt];have:=Int.emod_nonneg x (show(18446744073709551616:Int)≠0 by decide);exact Int.toNat_of_nonneg this
 unfold aD;rw[h,h1,Go.IntKind.wrap_i64,Go.IntKind.wrap_u8,Go.IntKind.wrap_u8];omega
def eF (s:ByteArray):List Int:=s.data.toList.map fun b=>(b.toNat:Int)
theorem Dy (s:ByteArray):kG s=(eF s).map aE:=by
 unfold kG eF;rw[List.map_map]
 rfl
theorem gU (s:ByteArray):(eF s).length=s.size:=by unfold eF;simp
def uh (b:List Int) (n:Int):List Int:=b++[aD .u8 (kr .i64 n 8),aD .u8 n]
def dN (b:List Int) (s:ByteArray):List Int:=if 60<s.size then b else uh b s.size++eF s
def eG (b:List Int) (o:oF):List Int:=if g6 o=true then uh (uh (dN (dN (b++[aD .u8 o.kind]) o.name) o.to) o.a) o.b else b
theorem j7 (b:List Int) (n:Int):(uh b n).length=b.length+2:=by unfold uh;simp
theorem gy (b:List Int) (s:ByteArray):(dN b s).length≤b.length+62:=by
 unfold dN
 split
 ·omega
 ·rw[cL,j7,gU];omega
theorem sW (b:List Int) (o:oF):(eG b o).length≤b.length+129:=by
 unfold eG
 split
 ·rw[j7,j7]
  have h1:=gy (dN (b++[aD .u8 o.kind]) o.name) o.to;have h2:=gy (b++[aD .u8 o.kind]) o.name;rw[cL,EN] at h2;omega
 ·omega
end Go.T
namespace Go.T
def IS (v u:uI):Bool:=z7 u.name v.name||di u.name v.name
theorem Ba: ∀(x y z:List UInt8),Op.bytesLess x y=true→Op.bytesLess y z=true→Op.bytesLess x z=true
 |x,y,[],_,h=>by cases y<;>simp[Op.bytesLess] at h
 |x,[],c::z,h,_=>by cases x<;>simp[Op.bytesLess] at h
 |[],_::_,_::_,_,_=>by simp[Op.bytesLess]
 |a::x,b::y,c::z,h1,h2=>by
  simp only[Op.bytesLess,Bool.or_eq_true,cm,decide_eq_true_eq,beq_iff_eq] at h1 h2 ⊢;rcases h1 with h1|⟨rfl,h1⟩
  ·rcases h2 with h2|⟨rfl,h2⟩
   ·exact .inl (UInt8.lt_trans h1 h2)
   ·exact .inl h1
  ·rcases h2 with h2|⟨rfl,h2⟩
   ·exact .inl h2
   ·exact .inr ⟨rfl,Ba x y z h1 h2⟩
theorem yo {a b c:ByteArray} (h1:z7 a b=true) (h2:z7 b c=true):z7 a c=true:=by
 unfold z7 at*;exact Ba _ _ _ h1 h2
def oJ:List uI→Prop
 |[]=>True
 |[_]=>True
 |a::b::r=>z7 a.name b.name=true∧oJ (b::r)
theorem Gl {v a b:uI} (h:z7 a.name b.name=true) (hb:IS v b=true):IS v a=true:=by
 unfold IS at*;rw[Bool.or_eq_true] at*;rcases hb with hb|hb
 ·exact .inl (yo h hb)
 ·have:b.name.toList=v.name.toList:=by
   unfold di at hb;exact eq_of_beq hb
  unfold z7 at h ⊢;rw[←this];exact .inl h
theorem oJ.tail {a:uI} {l:List uI} (h:oJ (a::l)):oJ l:=by
 cases l with
 |nil=>trivial
 |cons b r=>exact h.2
theorem oJ.cut {v:uI}: ∀{l:List uI} {k:Nat},oJ l→k≤l.length→(∀u∈l.drop k,IS v u=false)→(∀u,0<k→l[k-1]?=some u→IS v u=true)→(l.takeWhile (IS v)).length=k
 |[],k,_,hk,_,_=>by simp at hk;simp[hk]
 |a::l,0,_,_,h1,_=>by
  have:=h1 a (.head _);simp[this]
 |a::l,k+1,hr,hk,h1,h2=>by
  have ih:=oJ.cut (v:=v) (l:=l) (k:=k) hr.tail (by simpa using hk) (fun u hu=>h1 u (by simpa using hu)) fun u h0 hu=>by
   obtain⟨j,rfl⟩: ∃j,k=j+1:=⟨k-1,by omega⟩;exact h2 u aA (by simpa using hu)
  have ha:IS v a=true:=by
   cases k with
   |zero=>exact h2 a aA rfl
   |succ k=>
    cases l with
    |nil=>simp at hk
    |cons b r=>
     refine Gl hr.1 ?_;rw[List.takeWhile_cons] at ih
     cases hb:IS v b with
     |true=>rfl
     |false=>rw[hb] at ih;simp at ih
  rw[List.takeWhile_cons,aT ha,eT,ih]
theorem oJ.modify {f:uI→uI} (hf: ∀u,(f u).name=u.name): ∀{l:List uI} (i:Nat),oJ l→oJ (l.modify i f)
 |[],i,h=>by cases i<;>exact h
 |[a],0,_=>trivial
 |[a],i+1,_=>by cases i<;>trivial
 |a::b::r,0,h=>by
  show oJ (f a::b::r);exact⟨by rw[hf];exact h.1,h.2⟩
 |a::b::r,1,h=>by
  show oJ (a::f b::r);refine⟨by rw[hf];exact h.1,?_⟩;exact oJ.modify hf (l:=b::r) 0 h.2
 |a::b::r,i+2,h=>⟨h.1,oJ.modify hf (l:=b::r) (i+1) h.2⟩
end Go.T
namespace Go.T
def Pk (m u:Mp):Bool:= !(z7 u.name m.name||di u.name m.name)
def HS (l:List Mp) (m:Mp):Nat→Nat
 |0=>0
 |k+1=>match l[k]? with
  |some u=>if Pk m u=true then HS l m k else k+1
  |none=>k+1
theorem Dz (l:List Mp) (m:Mp): ∀k,HS l m k≤k
 |0=>bu _
 |k+1=>by
  unfold HS
  split
  ·split
   ·exact Nat.le_succ_of_le (Dz l m k)
   ·exact bu _
  ·exact bu _
def Gm {α:Type} (l:List α) (k:Nat) (x:α):List α:=l.take k++x::l.drop k
def Gn (l:List Mp) (m:Mp):List Mp:=Gm l (HS l m l.length) m
theorem Gp (l:List Mp) (m:Mp):(Gn l m).length=l.length+1:=by
 have:=Dz l m l.length;unfold Gn Gm;rw[cL,eT,eU,kC];omega
theorem Gq {l:List Mp} {m x:Mp} (h:x∈Gn l m):x∈l∨x=m:=by
 unfold Gn Gm at h;rcases List.mem_append.1 h with h|h
 ·exact .inl (nX h)
 ·rcases bg.1 h with h|h
  ·exact .inr h
  ·exact .inl (qH h)
def zu (l l':List Mp):Prop:=l'.length≤l.length+1∧ ∀B:Nat,12≤B→(∀x∈l,x.l.length≤B)→ ∀x∈l',x.l.length≤B
theorem zu.refl (l:List Mp):zu l l:=⟨Nat.le_succ _,fun _ _ h=>h⟩
theorem zu.put {l:List Mp} {m:Mp} (h: ∀B:Nat,12≤B→(∀x∈l,x.l.length≤B)→m.l.length≤B):zu l (Gn l m):=
 ⟨Nat.le_of_eq (Gp l m),fun B hB hl x hx=>(Gq hx).elim (hl x) fun e=>by rw[e];exact h B hB hl⟩
end Go.T
namespace Go.T
end Go.T
namespace Go.T
def iJ (x y:Key):Prop:=x.b<y.b∨(x.b=y.b∧x.a<y.a)
theorem iJ.trans {x y z:Key} (h1:iJ x y) (h2:iJ y z):iJ x z:=by unfold iJ at*;omega
theorem iW {x y:Key}:gT x y=true↔iJ x y:=by unfold gT iJ;simp
theorem jC {x y:Key}:iU x y=true↔x.b=y.b∧x.a=y.a:=by unfold iU;simp
theorem rL {k y:Key}: ∀{l:List Key},y∈cu k true l→y∈l
 |[],h=>by simp[cu] at h
 |x::r,h=>by
  simp only[cu,xq,Bool.false_and,qE,if_false,jN,Bool.true_or] at h;rcases List.mem_append.1 h with h|h
  ·split at h
   ·cases h
   ·rw[dw.1 h];exact .head _
  ·exact .tail _ (rL h)
theorem vV {k y:Key}: ∀{l:List Key} {put:Bool},y∈cu k put l→y∈l∨y=k
 |[],put,h=>by
  simp only[cu] at h
  split at h
  ·cases h
  ·exact .inr (dw.1 h)
 |x::r,put,h=>by
  simp only[cu] at h;rcases List.mem_append.1 h with h|h
  ·rcases List.mem_append.1 h with h|h
   ·split at h
    ·exact .inr (dw.1 h)
    ·cases h
   ·split at h
    ·cases h
    ·exact .inl (by rw[dw.1 h];exact .head _)
  ·exact(vV h).imp (.tail _) id
theorem pF {k:Key}: ∀{l:List Key},l.Pairwise iJ→(cu k true l).Pairwise iJ
 |[],_=>by simp[cu]
 |x::r,h=>by
  obtain⟨h1,h2⟩:=List.pairwise_cons.1 h;simp only[cu,xq,Bool.false_and,qE,if_false,jN,Bool.true_or]
  split
  ·exact pF h2
  ·exact List.pairwise_cons.2 ⟨fun y hy=>h1 y (rL hy),pF h2⟩
theorem yp {k:Key}: ∀{l:List Key},l.Pairwise iJ→(cu k false l).Pairwise iJ
 |[],_=>by simp[cu]
 |x::r,h=>by
  obtain⟨h1,h2⟩:=List.pairwise_cons.1 h
  cases hk:gT x k with
  |true=>
   have hlt:=iW.1 hk
   have Md:iU x k=false:=by
    cases hs:iU x k with
    |false=>rfl
    |true=>have:=jC.1 hs;unfold iJ at hlt;omega
   simp only[cu,hk,Md,Bool.not_false,xq,nG,Bool.and_false,qE,if_false,jN,Bool.or_false,uK];refine List.pairwise_cons.2 ⟨fun y hy=> ?_,yp h2⟩;rcases vV hy with hy|rfl
   ·exact h1 y hy
   ·exact hlt
  |false=>
   have hge: ¬iJ x k:=fun h=>by rw[iW.2 h] at hk;cases hk
   simp only[cu,hk,Bool.not_false,nG,if_true,Bool.or_true]
   have hr: ∀y∈cu k true r,iJ k y:=fun y hy=>by
    have:=h1 y (rL hy);unfold iJ at*;omega
   split
   ·exact List.pairwise_cons.2 ⟨hr,pF h2⟩
   ·rename_i Md
    refine List.pairwise_cons.2 ⟨fun y hy=> ?_,List.pairwise_cons.2 ⟨fun y hy=>h1 y (rL hy),pF h2⟩⟩;rcases bg.1 hy with rfl|hy
    ·have: ¬(y.b=k.b∧y.a=k.a):=fun h=>Md (jC.2 h)
     unfold iJ at*;omega
    ·exact hr y hy
theorem tW {l:List Key} {k:Key} (h:l.Pairwise iJ):(qw l k).Pairwise iJ:=yp h
theorem Cv {l:List Key} {k y:Key} (h:y∈qw l k):y∈l∨y=k:=vV h
theorem nt: ∀(new:List Key) {old:List Key},old.Pairwise iJ→(cO old new).Pairwise iJ
 |[],_,h=>h
 |x::r,_,h=>nt r (tW h)
theorem yq {y:Key}: ∀{new old:List Key},y∈cO old new→y∈old∨y∈new
 |[],_,h=> .inl h
 |x::r,old,h=>by
  have h:y∈cO (qw old x) r:=h;rcases yq h with h|h
  ·exact(Cv h).imp id fun e=>by rw[e];exact .head _
  ·exact .inr (.tail _ h)
theorem qx: ∀(n:List (List Key)) {acc:List Key},acc.Pairwise iJ→(n.foldl cO acc).Pairwise iJ
 |[],_,h=>h
 |s::r,_,h=>qx r (nt s h)
theorem yt {y:Key}: ∀{n:List (List Key)} {acc:List Key},y∈n.foldl cO acc→y∈acc∨ ∃s∈n,y∈s
 |[],_,h=> .inl h
 |s::r,acc,h=>by
  rcases yt (n:=r) h with h|⟨s',h1,h2⟩
  ·exact(yq h).imp id fun h=>⟨s,.head _,h⟩
  ·exact .inr ⟨s',.tail _ h1,h2⟩
theorem pZ (n:List (List Key)):(bJ n).Pairwise iJ:=(qx n .nil).sublist List.filter_sublist
theorem jD {n:List (List Key)} {y:Key} (h:y∈bJ n): ∃s∈n,y∈s:=by
 rcases yt (List.mem_filter.1 h).1 with h|h
 ·cases h
 ·exact h
theorem Gr {l:List Key} (h1:l.Pairwise iJ) (h2: ∀y∈l,mA y=true) (h3:l.length≤60):Dv l=true:=by
 rw[vU];simp only[cm,decide_eq_true_eq];refine⟨List.all_eq_true.2 h2,rJ.2 fun i hi=> ?_,h3⟩
 cases i with
 |zero=>rfl
 |succ k=>
  simp only[tV];rw[aO (by omega:k<l.length),aO hi];exact iW.2 (List.pairwise_iff_getElem.1 h1 k (k+1) aA hi aA)
theorem oK {n:List (List Key)} (h:nr n=true) {s:List Key} (hs:s∈n) {y:Key} (hy:y∈s):mA y=true:=by
 unfold nr at h;simp only[cm] at h;have:=List.all_eq_true.1 h.1.1 s hs;simp only[cm] at this;have h2:=this.1;rw[vU] at h2;simp only[cm] at h2;exact List.all_eq_true.1 h2.1 y hy
theorem Cw {l:List Key} (h1:l.Pairwise iJ) (h2: ∀y∈l,mA y=true) (h3:l.length≤8):nr (jB l)=true:=by
 unfold jB
 split
 ·decide
 ·rename_i h0
  unfold nr;have:=Gr h1 h2 aA;have Qw:l≠[]:=fun e=>h0 (by rw[e];rfl);simp[this,Qw,yl,tot,IN,h3]
end Go.T
namespace Go.T
abbrev Ln (x:Int×Int×Bool):TV:= .tu [(0,[iI x.1]),(0,[iI x.2.1]),(0,[iB x.2.2])]
abbrev Lo (x:ByteArray×Int×Bool):TV:= .tu [(0,[iS x.1]),(0,[iI x.2.1]),(0,[iB x.2.2])]
abbrev HT (x:oF×Int×Bool):TV:= .tu [(1,pK x.1),(0,[iI x.2.1]),(0,[iB x.2.2])]
def eY (b:List Int) (i:Int):Int:=(gm b i).getD 0
def gw (x y:Int):Int:=eC .or .i64 (yF .i64 (aD .i64 x) 8) (aD .i64 y)
def eH (b:List Int):Prop:= ∀x∈b,0≤x∧x≤255
theorem mB {b:List Int} (h:eH b) (i:Int):0≤eY b i∧eY b i≤255:=by
 unfold eY
 cases hg:gm b i with
 |none=>simp
 |some x=>exact h x (vN hg)
theorem En {b:List Int} {i:Int} (h0:0≤i) (h1:i<b.length):rowAt (b.map aE) i=some [TC.sc (Value.int IntKind.u8 (eY b i))]:=by
 obtain⟨y,hy⟩:=mz h0 h1;rw[bN,hy];unfold eY;rw[hy];rfl
theorem jL {x:Int} (h:0≤x∧x≤255):aD .i64 x=x:=by
 unfold aD;rw[Go.IntKind.wrap_i64];omega
theorem JR {x y:Int} (hx:0≤x∧x≤255) (hy:0≤y∧y≤255):0≤gw x y:=by
 unfold gw;rw[jL hx,jL hy]
 have e1:yF .i64 x 8=x*256:=by
  unfold yF;rw[show(2:Int) ^ (min (8:Int).toNat IntKind.i64.bits)=256 from by decide,Go.IntKind.wrap_i64];omega
 rw[e1]
 have h:eC .or .i64 (x*256) y=Go.IntKind.i64.wrap (((BitVec.ofInt 64 (x*256)|||BitVec.ofInt 64 y).toNat:Nat):Int):=by unfold eC;rfl
 rw[h]
 have b1:(BitVec.ofInt 64 (x*256)).toNat<2 ^ 16:=by rw[BitVec.toNat_ofInt];omega
 have b2:(BitVec.ofInt 64 y).toNat<2 ^ 16:=by rw[BitVec.toNat_ofInt];omega
 have b3:=Nat.or_lt_two_pow b1 b2;rw[BitVec.toNat_or,Go.IntKind.wrap_i64];omega
def bF (b:List Int) (at':Int):Int×Int×Bool:=if 0≤at'∧at'+2≤b.length then(gw (eY b at') (eY b (at'+1)),at'+2,true) else(0,0,false)
theorem vW {b:List Int} (h:eH b) (i:Int):0≤(bF b i).1∧0≤(bF b i).2.1∧(bF b i).2.1≤b.length:=by
 unfold bF
 split
 ·exact⟨JR (mB h _) (mB h _),by simp only[];omega,by simp only[];omega⟩
 ·exact⟨Int.le_refl _,Int.le_refl _,by simp⟩
def an (b:List Int) (i:Int):ByteArray×Int×Bool:=if(bF b i).2.2=true∧(bF b i).1≤60∧(bF b i).1≤b.length-(bF b i).2.1 then(cg ((b.take ((bF b i).2.1+(bF b i).1).toNat).drop (bF b i).2.1.toNat),(bF b i).2.1+(bF b i).1,true) else(bE,0,false)
attribute [local semireducible] cg in
theorem vY (l:List Int):(cg l).size=l.length:=by
 show((l.map fun n:Int=>UInt8.ofNat n.toNat).toArray).size=_;simp
theorem fD (b:List Int) (i:Int):(an b i).1.size≤b.length:=by
 unfold an
 split
 ·rw[vY,kC,eU];omega
 ·exact aG _
def Eo:oF:=⟨0,bE,bE,0,0⟩
def jc (b:List Int) (i:Int):oF:=⟨aD .i64 (eY b i),(an b (i+1)).1,(an b (an b (i+1)).2.1).1,(bF b (an b (an b (i+1)).2.1).2.1).1,(bF b (bF b (an b (an b (i+1)).2.1).2.1).2.1).1⟩
def nu (b:List Int) (i:Int):Bool:=(an b (i+1)).2.2&&((an b (an b (i+1)).2.1).2.2&&((bF b (an b (an b (i+1)).2.1).2.1).2.2&&(bF b (bF b (an b (an b (i+1)).2.1).2.1).2.1).2.2))
def getOp (b:List Int) (i:Int):oF×Int×Bool:=if 0≤i∧i<b.length then(if nu b i=true then(if g6 (jc b i)=true then(jc b i,(bF b (bF b (an b (an b (i+1)).2.1).2.1).2.1).2.1,true) else(Eo,0,false)) else(Eo,0,false)) else(Eo,0,false)
theorem p5: ∀l:List Int,gr (l.map aE)=some l
 |[]=>rfl
 |n::r=>by
  show(gr (r.map aE)).map (fun ns=>n::ns)=_;rw[p5 r];rfl
theorem fE (l:List Int):aJ (l.map aE)=some l:=by unfold aJ;exact p5 l
end Go.T
namespace Go.T
def IT (t:Tree) (i c:Nat) (cc:List Int) (nodes:List (List (List Key))):Tree:=⟨t.cc.take i++cc++t.cc.drop (i+c),t.nodes.take i++nodes++t.nodes.drop (i+c)⟩
def lI (t:Tree) (i:Nat):List Key:=bJ (t.nodes.getD i [])
def rM (t:Tree):Nat→Nat→Option Nat
 |0,_=>none
 |d+1,i=>if i+1<t.nodes.length then(if(lI t i).length+(lI t (i+1)).length≤6 then some i else rM t d (i+1)) else none
def Gs (t:Tree):Option Nat:=rM t t.nodes.length 0
def rN (t:Tree) (i:Nat):Tree:=IT t i 2 [t.cc.getD i 0] [jB (lI t i++lI t (i+1))]
theorem tX {t:Tree}: ∀{d i j:Nat},rM t d i=some j→i≤j∧j+1<t.nodes.length∧(lI t j).length+(lI t (j+1)).length≤6
 |0,i,j,h=>by cases h
 |d+1,i,j,h=>by
  unfold rM at h
  split at h
  ·split at h
   ·cases h;exact⟨bu _,by assumption,by assumption⟩
   ·have:=tX h;exact⟨by omega,this.2⟩
  ·cases h
theorem Ep {t:Tree} {j:Nat} (h:Gs t=some j):j+1<t.nodes.length∧(lI t j).length+(lI t (j+1)).length≤6:=(tX h).2
end Go.T
namespace Go.T
theorem ai {s:ByteArray} (h:iC s=true):1≤s.size∧s.size≤6:=by
 simp only[iC,cm,gX,decide_eq_true_eq] at h;omega
end Go.T
namespace Go.T
theorem Gt {α:Type} {l:List α} {i:Nat} {a b:α} (ha:l[i]?=some a) (hb:l[i+1]?=some b):l=l.take i++a::b::l.drop (i+2):=by
 obtain⟨h1,e1⟩:=List.getElem?_eq_some_iff.1 ha;obtain⟨h2,e2⟩:=List.getElem?_eq_some_iff.1 hb
 conv=>lhs;rw[←EO i l]
 rw[xu h1,xu h2,e1,e2]
theorem pG {t:Tree} {i:Nat} {a:List (List Key)} (h:t.nodes[i]?=some a):lI t i=bJ a:=by unfold lI;rw[uM,h];rfl
theorem vZ {k:Key} (h:mA k=true):0≤k.b∧k.b≤15∧1≤k.a∧k.a≤60∧0≤k.k∧k.k≤2:=by
 simp only[mA,gX,cm,decide_eq_true_eq] at h;omega
theorem HU {b a:Int} (h: -1000≤b∧b≤1000∧ -1000≤a∧a≤1000):dU b a=64*b+a:=by
 unfold dU;rw[HM aA,cG aA]
theorem v7 {k:Key} (h:mA k=true):dU k.b k.a=64*k.b+k.a:=by
 have:=vZ h;exact HU aA
end Go.T
namespace Go.T
end Go.T
namespace Go.T
end Go.T
namespace Go.T
def sX (b a:Int) (x:Key):Bool:=decide (x.b=b∧x.a=a)
def look (l:List Key) (b a:Int):Option Key:=l.find? (sX b a)
theorem Cx (l:List Key) (b a:Int):setAt l b a=look l b a:=rfl
theorem mC (l m:List Key) (b a:Int):look (l++m) b a=(look l b a).or (look m b a):=by unfold look;rw[List.find?_append]
theorem dV (x:Key) (l:List Key) (b a:Int):look (x::l) b a=if x.b=b∧x.a=a then some x else look l b a:=by
 unfold look;rw[List.find?_cons]
 by_cases h:x.b=b∧x.a=a
 ·rw[aT h];simp[sX,h]
 ·rw[aH h];simp[sX,h]
theorem v8 {k:Key} {b a:Int} (h: ¬(k.b=b∧k.a=a)): ∀(l:List Key) (put:Bool),look (cu k put l) b a=look l b a
 |[],put=>by
  unfold cu
  cases put with
  |true=>rfl
  |false=>simp only[qE,if_false];rw[dV,aH h]
 |x::r,put=>by
  have ih:=v8 h r (put|| !gT x k);simp only[cu,mC];rw[ih,dV]
  have h1:look (if(!put&& !gT x k)=true then [k] else []) b a=none:=by
   split
   ·rw[dV,aH h];rfl
   ·rfl
  rw[h1]
  by_cases hs:iU x k=true
  ·have:=jC.1 hs
   rw[aT hs,aH aA]
   rfl
  ·rw[aH hs,dV]
   by_cases hx:x.b=b∧x.a=a
   ·rw[aT hx,aT hx];rfl
   ·rw[aH hx,aH hx];rfl
theorem DA {k:Key}: ∀l:List Key,l.Pairwise iJ→look (cu k false l) k.b k.a=some k
 |[],_=>by simp only[cu,qE,if_false];rw[dV,aT ⟨rfl,rfl⟩]
 |x::r,hp=>by
  obtain⟨h1,h2⟩:=List.pairwise_cons.1 hp
  cases hk:gT x k with
  |true=>
   have hlt:=iW.1 hk
   have Md:iU x k=false:=by
    cases hs:iU x k with
    |false=>rfl
    |true=>have:=jC.1 hs;unfold iJ at hlt;omega
   simp only[cu,hk,Md,Bool.not_false,xq,nG,Bool.and_false,qE,if_false,jN,Bool.or_false,uK];rw[mC,DA r h2,dV,aH (by unfold iJ at hlt;omega)];rfl
  |false=>
   simp only[cu,hk,Bool.not_false,nG,if_true,Bool.or_true];rw[mC,mC,dV,aT ⟨rfl,rfl⟩];rfl
theorem Bb {l:List Key} {k:Key} (h:l.Pairwise iJ) (b a:Int):look (qw l k) b a=if k.b=b∧k.a=a then some k else look l b a:=by
 unfold qw
 by_cases hs:k.b=b∧k.a=a
 ·rw[aT hs,←hs.1,←hs.2];exact DA l h
 ·rw[aH hs];exact v8 hs l false
theorem yu {l:List Key} {b a:Int} {x:Key} (h:look l b a=some x):x∈l∧x.b=b∧x.a=a:=by
 unfold look at h;have h1:=List.find?_some h;unfold sX at h1;exact⟨List.mem_of_find?_eq_some h,by simpa using h1⟩
theorem Bc {l:List Key} (h:l.Pairwise iJ) {x:Key} (hx:x∈l):look l x.b x.a=some x:=by
 induction l with
 |nil=>cases hx
 |cons y r ih=>
  obtain⟨h1,h2⟩:=List.pairwise_cons.1 h;rw[dV];rcases bg.1 hx with rfl|hx
  ·rw[aT ⟨rfl,rfl⟩]
  ·have:=h1 x hx
   rw[aH (by unfold iJ at this;omega)];exact ih h2 hx
theorem pH {l:List Key} {b a:Int} (h: ∀x∈l,¬(x.b=b∧x.a=a)):look l b a=none:=by
 unfold look;rw[List.find?_eq_none];intro x hx hs;unfold sX at hs;exact h x hx (by simpa using hs)
theorem qy: ∀(new:List Key) {old:List Key},old.Pairwise iJ→new.Pairwise iJ→ ∀b a,look (cO old new) b a=(look new b a).or (look old b a)
 |[],old,_,_,b,a=>rfl
 |x::r,old,ho,hn,b,a=>by
  obtain⟨h1,h2⟩:=List.pairwise_cons.1 hn;have ih:=qy r (tW (k:=x) ho) h2 b a;show look (cO (qw old x) r) b a=_;rw[ih,Bb ho,dV]
  by_cases hs:x.b=b∧x.a=a
  ·rw[aT hs,aT hs]
   have hr:look r b a=none:=pH fun y hy h=>by
    have:=h1 y hy;unfold iJ at this;omega
   rw[hr];rfl
  ·rw[aH hs,aH hs]
theorem Bd {l:List Key} (h:l.Pairwise iJ) (p:Key→Bool) (b a:Int):look (l.filter p) b a=(look l b a).filter p:=by
 induction l with
 |nil=>rfl
 |cons x r ih=>
  obtain⟨h1,h2⟩:=List.pairwise_cons.1 h;rw[dV]
  by_cases hp:p x=true
  ·rw[List.filter_cons_of_pos hp,dV,ih h2]
   by_cases hs:x.b=b∧x.a=a
   ·rw[aT hs,aT hs];simp[Option.filter,hp]
   ·rw[aH hs,aH hs]
  ·rw[List.filter_cons_of_neg hp,ih h2]
   by_cases hs:x.b=b∧x.a=a
   ·rw[aT hs]
    have hr:look r b a=none:=pH fun y hy h=>by
     have:=h1 y hy;unfold iJ at this;omega
    rw[hr];simp[Option.filter,hp]
   ·rw[aH hs]
theorem Be: ∀{l m:List Key},l.Pairwise iJ→m.Pairwise iJ→(∀x,x∈l↔x∈m)→l=m
 |[],[],_,_,_=>rfl
 |[],y::m,_,_,h=>by have:=(h y).2 (.head _);cases this
 |x::l,[],_,_,h=>by have:=(h x).1 (.head _);cases this
 |x::l,y::m,hl,hm,h=>by
  obtain⟨h1,h2⟩:=List.pairwise_cons.1 hl;obtain⟨h3,h4⟩:=List.pairwise_cons.1 hm
  have hxy:x=y:=by
   rcases bg.1 ((h x).1 (.head _)) with e|e
   ·exact e
   ·rcases bg.1 ((h y).2 (.head _)) with e2|e2
    ·exact e2.symm
    ·have a1:=h3 x e
     have a2:=h1 y e2;unfold iJ at a1 a2;omega
  subst hxy
  have:l=m:=Be h2 h4 fun z=>by
   constructor
   ·intro hz
    rcases bg.1 ((h z).1 (.tail _ hz)) with e|e
    ·subst e;have:=h1 z hz;unfold iJ at this;omega
    ·exact e
   ·intro hz
    rcases bg.1 ((h z).2 (.tail _ hz)) with e|e
    ·subst e;have:=h3 z hz;unfold iJ at this;omega
    ·exact e
  rw[this]
theorem Gu {l m:List Key} (hl:l.Pairwise iJ) (hm:m.Pairwise iJ) (h: ∀b a,look l b a=look m b a):l=m:=
 Be hl hm fun x=>⟨fun hx=>by have:=Bc hl hx;rw[h] at this;exact(yu this).1,fun hx=>by have:=Bc hm hx;rw[←h] at this;exact(yu this).1⟩
def DB (n:List (List Key)):Prop:= ∀s∈n,s.Pairwise iJ
theorem Cy {l:List Key} (h:Dv l=true):l.Pairwise iJ:=by
 rw[vU] at h;simp only[cm] at h;have hp:=rJ.1 h.2.1
 have key: ∀(l:List Key),(∀i,i<l.length→tV l gT i=true)→l.Pairwise iJ:=by
  intro l
  induction l with
  |nil=>intro _;exact .nil
  |cons x r ih=>
   intro hq
   have hr:=ih fun i hi=>by
    have:=hq (i+1) Jg
    cases i with
    |zero=>rfl
    |succ i=>simpa [tV] using this
   refine List.pairwise_cons.2 ⟨?_,hr⟩
   cases r with
   |nil=>intro y hy;cases hy
   |cons z r=>
    have hxz:iJ x z:=by have:=hq 1 cY;simp only[tV,bG,g7] at this;exact iW.1 this
    intro y hy;rcases bg.1 hy with rfl|hy
    ·exact hxz
    ·exact hxz.trans ((List.pairwise_cons.1 hr).1 y hy)
 exact key l hp
theorem Bf {n:List (List Key)} (h:nr n=true):DB n:=fun s hs=>by
 unfold nr at h;simp only[cm] at h;have:=List.all_eq_true.1 h.1.1 s hs;simp only[cm] at this;exact Cy this.1
def p6:List (List Key)→Int→Int→Option Key
 |[],_,_=>none
 |s::r,b,a=>(p6 r b a).or (look s b a)
theorem we: ∀(n:List (List Key)) {acc:List Key},acc.Pairwise iJ→DB n→ ∀b a,look (n.foldl cO acc) b a=(p6 n b a).or (look acc b a)
 |[],acc,_,_,b,a=>rfl
 |s::r,acc,ha,hn,b,a=>by
  have hs:=hn s (.head _);have ih:=we r (nt s ha) (fun t ht=>hn t (.tail _ ht)) b a;show look (r.foldl cO (cO acc s)) b a=_;rw[ih,qy s ha hs];show _=((p6 r b a).or (look s b a)).or (look acc b a);rw[Option.or_assoc]
def k9 (k:Key):Bool:= !decide (k.k=0)
theorem Er {n:List (List Key)} (h:DB n) (b a:Int):look (bJ n) b a=(p6 n b a).filter k9:=by
 have hr:(sU n).Pairwise iJ:=qx n .nil;have e:=Bd hr k9 b a;have e2:=we n .nil h b a;show look ((sU n).filter k9) b a=_;rw[e];show Option.filter k9 (look (n.foldl cO []) b a)=_;rw[e2];show Option.filter k9 ((p6 n b a).or none)=_;rw[Option.or_none]
def Bg:Option Key→Key×Bool
 |some k=>(k,true)
 |none=>(nk,false)
theorem Cz (n:List (List Key)) (s:List Key) (b a:Int):p6 (n++[s]) b a=(look s b a).or (p6 n b a):=by
 induction n with
 |nil=>simp[p6]
 |cons t r ih=>simp only[lU,p6,ih,Option.or_assoc]
theorem p8 (n:List (List Key)) (b a:Int): ∀k,k≤n.length→oH n b a k=Bg ((p6 (n.take k) b a).filter k9)
 |0,_=>rfl
 |k+1,h=>by
  have ih:=p8 n b a k aA
  have hk:k<n.length:=by omega
  unfold oH;rw[aO hk,List.take_add_one,aO hk];simp only[Option.toList];rw[Cz];unfold HR;rw[Cx]
  cases hl:look n[k] b a with
  |none=>simp only[qE,if_false];rw[ih];rfl
  |some x=>
   simp only[if_true,Option.some_or]
   by_cases hx:x.k=0
   ·rw[aT hx];simp[Option.filter,k9,hx,Bg]
   ·rw[aH hx];simp[Option.filter,k9,hx,Bg]
theorem Bh {n:List (List Key)} (h:DB n) (b a:Int):oH n b a n.length=Bg (look (bJ n) b a):=by
 rw[p8 n b a n.length (bu _),KK,Er h]
end Go.T
namespace Go.T
theorem Es {l:List Key} (h:l.Pairwise iJ):cO [] l=l:=
 Gu (nt l .nil) h fun b a=>by rw[qy l .nil h];show(look l b a).or none=_;rw[Option.or_none]
theorem Bi {l:List Key} (h:l.Pairwise iJ) (hn: ∀x∈l,¬x.k=0):bJ (jB l)=l:=by
 unfold jB
 split
 ·rename_i h0
  rw[List.length_eq_zero_iff.1 h0];rfl
 ·show Gf (cO [] l)=l
  rw[Es h];unfold Gf;rw[List.filter_eq_self];intro x hx;simpa using hn x hx
theorem yw {n:List (List Key)} {x:Key} (hx:x∈bJ n): ¬x.k=0:=by
 have:=(List.mem_filter.1 hx).2;simpa using this
end Go.T
namespace Go.T
structure mD (t:Tree):Prop where
 len:t.cc.length=t.nodes.length
 low0:t.cc[0]?=some 0
 rise: ∀i x y,t.cc[i]?=some x→t.cc[i+1]?=some y→x<y
 ok: ∀n∈t.nodes,nr n=true
 lo: ∀(i:Nat) (n:List (List Key)) (x:Int),t.nodes[i]?=some n→t.cc[i]?=some x→ ∀s∈n,∀k:Key,k∈s→x≤dU k.b k.a
 hi: ∀(i:Nat) (n:List (List Key)) (x:Int),t.nodes[i]?=some n→t.cc[i+1]?=some x→ ∀s∈n,∀k:Key,k∈s→dU k.b k.a<x
theorem mD.mono {t:Tree} (h:mD t): ∀(d i:Nat) (x y:Int),t.cc[i]?=some x→t.cc[i+d+1]?=some y→x<y
 |0,i,x,y,hx,hy=>h.rise i x y hx hy
 |d+1,i,x,y,hx,hy=>by
  obtain⟨hlt,_⟩:=List.getElem?_eq_some_iff.1 hy;have hm:t.cc[i+d+1]?=some t.cc[i+d+1]:=aO aA;have h1:=h.mono d i x _ hx hm;have h2:=h.rise (i+d+1) _ y hm (by rw[show i+d+1+1=i+(d+1)+1 from by omega];exact hy);omega
theorem mD.lt {t:Tree} (h:mD t) {i j:Nat} {x y:Int} (hij:i<j) (hx:t.cc[i]?=some x) (hy:t.cc[j]?=some y):x<y:=
 h.mono (j-i-1) i x y hx (by rw[show i+(j-i-1)+1=j from by omega];exact hy)
theorem mD.key {t:Tree} (h:mD t) {i:Nat} {n:List (List Key)} (hn:t.nodes[i]?=some n) {x:Key} (hx:x∈bJ n):mA x=true:=by
 obtain⟨s,hs,hy⟩:=jD hx;exact oK (h.ok n (c6 hn)) hs hy
theorem Gv {x y:Key} (hx:mA x=true) (hy:mA y=true):dU x.b x.a<dU y.b y.a↔iJ x y:=by
 have h1:=vZ hx;have h2:=vZ hy;rw[v7 hx,v7 hy];unfold iJ;omega
theorem rO {f:Int→Bool} {l:List Int}: ∀(n:Nat),n≤l.length→(rK f l n= -1∧ ∀j x,j<n→l[j]?=some x→f x=false)∨ ∃i:Nat,rK f l n=i∧i<n∧(∃x,l[i]?=some x∧f x=true)∧ ∀j x,i<j→j<n→l[j]?=some x→f x=false
 |0,_=> .inl ⟨rfl,fun j x h=>by omega⟩
 |n+1,h=>by
  have hn:n<l.length:=by omega
  unfold rK;rw[aO hn];simp only[]
  cases hf:f l[n] with
  |true=>exact .inr ⟨n,by simp,by omega,⟨_,aO hn,hf⟩,fun j x h1 h2=>by omega⟩
  |false=>
   rw[aH cY];rcases rO (f:=f) (l:=l) n aA with⟨h1,h2⟩|⟨i,h1,h2,h3,h4⟩
   ·refine .inl ⟨h1,fun j x hj hx=> ?_⟩
    by_cases hjn:j=n
    ·subst hjn;rw[aO hn] at hx;cases hx;exact hf
    ·exact h2 j x aA hx
   ·refine .inr ⟨i,h1,by omega,h3,fun j x hij hj hx=> ?_⟩
    by_cases hjn:j=n
    ·subst hjn;rw[aO hn] at hx;cases hx;exact hf
    ·exact h4 j x hij aA hx
theorem mD.HV {t:Tree} (h:mD t) {i:Nat} {x:Int} {b a:Int} (hx:t.cc[i]?=some x) (hlo:x≤dU b a) (hhi: ∀j y,i<j→t.cc[j]?=some y→dU b a<y):
 ∀(j:Nat) (n:List (List Key)),t.nodes[j]?=some n→ ¬j=i→look (bJ n) b a=none:=by
 intro j n hn hne;refine pH fun k hk hs=> ?_
 have hj:j<t.cc.length:=by rw[h.len];exact(List.getElem?_eq_some_iff.1 hn).1
 obtain⟨s,BF,tE⟩:=jD hk;have h1:=h.lo j n t.cc[j] hn (aO hj) s BF k tE;rw[hs.1,hs.2] at h1
 by_cases hji:j<i
 ·have N9:j+1<t.cc.length:=by have:=(List.getElem?_eq_some_iff.1 hx).1;omega
  have h2:=h.hi j n t.cc[j+1] hn (aO N9) s BF k tE;rw[hs.1,hs.2] at h2
  by_cases he:j+1=i
  ·subst he;rw[aO N9] at hx;cases hx;omega
  ·have:=h.lt (i:=j+1) (j:=i) aA (aO N9) hx
   omega
 ·have:=hhi j _ aA (aO hj)
  omega
theorem yx {b a:Int}: ∀(l:List (List (List Key))) (i:Nat) (n:List (List Key)),l[i]?=some n→(∀j m,l[j]?=some m→ ¬j=i→look (bJ m) b a=none)→look (l.flatMap bJ) b a=look (bJ n) b a
 |[],i,n,h,_=>by simp at h
 |m::r,0,n,h,hn=>by
  simp only[bG,aI] at h;subst h;rw[List.flatMap_cons,mC]
  have:look (r.flatMap bJ) b a=none:=pH fun x hx hs=>by
   obtain⟨q,hq,hx⟩:=List.mem_flatMap.1 hx;obtain⟨j,hj⟩:=List.mem_iff_getElem?.1 hq;have:=hn (j+1) q (by simpa using hj) aA;unfold look at this;rw[List.find?_eq_none] at this;exact this x hx (by unfold sX;simpa using hs)
  rw[this,Option.or_none]
 |m::r,i+1,n,h,hn=>by
  rw[List.flatMap_cons,mC,hn 0 m rfl aA];have:=yx r i n (by simpa using h) fun j q hj hne=>hn (j+1) q (by simpa using hj) aA;rw[this];rfl
theorem mD.find {t:Tree} (h:mD t) {b a:Int} (hs:0≤dU b a):Gj t b a=Bg (look (iV t) b a):=by
 unfold Gj Dx;rcases rO (f:=fun x=>decide (x≤dU b a)) (l:=t.cc) t.cc.length (bu _) with⟨_,h2⟩|⟨i,h1,h2,⟨x,hx,hf⟩,h4⟩
 ·have hpos:=(List.getElem?_eq_some_iff.1 h.low0).1
  have:=h2 0 0 hpos h.low0;simp only[decide_eq_false_iff_not] at this;omega
 ·rw[h1,rI]
  have hlo:x≤dU b a:=pP hf
  have hi:i<t.nodes.length:=by rw[←h.len];exact h2
  have hn:t.nodes[i]?=some t.nodes[i]:=aO hi;rw[hn];simp only[]
  have hno:=h.HV hx hlo fun j y hij hy=>by
   have:=h4 j y hij (List.getElem?_eq_some_iff.1 hy).1 hy;simp only[decide_eq_false_iff_not] at this;omega
  rw[Bh (Bf (h.ok _ (qG hi)))];unfold iV;rw[yx t.nodes i t.nodes[i] hn hno]
end Go.T
namespace Go.T
abbrev Nd:=List (List Key)
def below (x:Int):Option Int→Prop
 |none=>True
 |some y=>x<y
def CA (l:List Int) (hi:Option Int):Option Int:=match l with|[]=>hi|y::_=>some y
def zw (x:Int) (hi:Option Int) (n:Nd):Prop:=nr n=true∧below x hi∧ ∀s∈n,∀k:Key,k∈s→x≤dU k.b k.a∧below (dU k.b k.a) hi
def TR (hi:Option Int):List Int→List Nd→Prop
 |[],[]=>True
 |x::xs,n::ns=>zw x (CA xs hi) n∧TR hi xs ns
 |_,_=>False
theorem DC (l m:List Int) (hi:Option Int):CA (l++m) hi=CA l (CA m hi):=by cases l<;>rfl
theorem oL (l:List Int):CA l none=l[0]?:=by cases l<;>rfl
theorem ld {x y:Int} {o:Option Int} (h:x≤y) (h2:below y o):below x o:=by
 cases o with
 |none=>trivial
 |some z=>have:y<z:=h2;show x<z;omega
theorem TR.app {hi:Option Int} {l2:List Int} {n2:List Nd} (h2:TR hi l2 n2): ∀{l:List Int} {n:List Nd},TR (CA l2 hi) l n→TR hi (l++l2) (n++n2)
 |[],[],_=>h2
 |x::xs,n::ns,h=>⟨by show zw x (CA (xs++l2) hi) n;rw[DC];exact h.1,TR.app h2 h.2⟩
 |[],_::_,h=>h.elim
 |_::_,[],h=>h.elim
theorem TR.split {hi:Option Int} {l2:List Int} {n2:List Nd}: ∀{l:List Int} {n:List Nd},l.length=n.length→TR hi (l++l2) (n++n2)→TR (CA l2 hi) l n∧TR hi l2 n2
 |[],[],_,h=>⟨trivial,h⟩
 |x::xs,n::ns,hl,h=>by
  have h:zw x (CA (xs++l2) hi) n∧TR hi (xs++l2) (ns++n2):=h;rw[DC] at h;have:=TR.split (by simpa using hl) h.2;exact⟨⟨h.1,this.1⟩,this.2⟩
 |[],_::_,hl,_=>by simp at hl
 |_::_,[],hl,_=>by simp at hl
theorem zw.mono {x:Int} {n:Nd} {o o':Option Int} (hm: ∀y,below y o→below y o') (h:zw x o n):zw x o' n:=
 ⟨h.1,hm _ h.2.1,fun s hs k hk=>⟨(h.2.2 s hs k hk).1,hm _ (h.2.2 s hs k hk).2⟩⟩
theorem TR.mono {o o':Option Int} (hm: ∀y,below y o→below y o'): ∀{l:List Int} {n:List Nd},TR o l n→TR o' l n
 |[],[],_=>trivial
 |[x],[n],h=>⟨zw.mono hm h.1,trivial⟩
 |x::y::xs,n::ns,h=>⟨h.1,TR.mono hm h.2⟩
 |[x],n::m::ns,h=>h.2.elim
 |[],_::_,h=>h.elim
 |_::_,[],h=>h.elim
theorem TR.len {hi:Option Int}: ∀{l:List Int} {n:List Nd},TR hi l n→l.length=n.length
 |[],[],_=>rfl
 |x::xs,n::ns,h=>by simp[TR.len h.2]
 |[],_::_,h=>h.elim
 |_::_,[],h=>h.elim
theorem TR.at {hi:Option Int}: ∀{l:List Int} {n:List Nd},TR hi l n→ ∀(i:Nat) (x:Int) (m:Nd),l[i]?=some x→n[i]?=some m→zw x (CA (l.drop (i+1)) hi) m
 |[],[],_,i,x,m,h1,_=>by simp at h1
 |x::xs,n::ns,h,0,y,m,h1,h2=>by
  simp only[bG,aI] at h1 h2;subst h1 h2;exact h.1
 |x::xs,n::ns,h,i+1,y,m,h1,h2=>TR.at h.2 i y m (by simpa using h1) (by simpa using h2)
 |[],_::_,h,_,_,_,_,_=>h.elim
 |_::_,[],h,_,_,_,_,_=>h.elim
theorem TR.head {hi:Option Int}: ∀{l:List Int} {n:List Nd},TR hi l n→ ∀x,l[0]?=some x→below x hi
 |[],_,_,x,hx=>by cases hx
 |[y],[n],h,x,hx=>by
  simp only[bG,aI] at hx;subst hx;exact h.1.2.1
 |y::z::r,n::ns,h,x,hx=>by
  simp only[bG,aI] at hx;subst hx;exact ld (Int.le_of_lt h.1.2.1) (TR.head h.2 z rfl)
 |[_],_::_::_,h,_,_=>h.2.elim
 |_::_,[],h,_,_=>h.elim
theorem j8 (l:List Int) (i:Nat):(l.drop i)[0]?=l[i]?:=by rw[gn];rfl
theorem TR.of {t:Tree} (h:mD t): ∀(d i:Nat),i+d=t.nodes.length→TR none (t.cc.drop i) (t.nodes.drop i)
 |0,i,hd=>by
  have:=h.len;rw[xw aA,xw aA];trivial
 |d+1,i,hd=>by
  have hl:=h.len
  have h1:i<t.cc.length:=by omega
  have h2:i<t.nodes.length:=by omega
  have e1:t.cc[i]?=some t.cc[i]:=aO h1;have e2:t.nodes[i]?=some t.nodes[i]:=aO h2;rw[xu h1,xu h2];refine⟨⟨h.ok _ (qG h2),?_,fun s hs k hk=>⟨h.lo i _ _ e2 e1 s hs k hk,?_⟩⟩,TR.of h d (i+1) aA⟩
  ·rw[oL,j8]
   cases hy:t.cc[i+1]? with
   |none=>trivial
   |some y=>exact h.rise i _ y e1 hy
  ·rw[oL,j8]
   cases hy:t.cc[i+1]? with
   |none=>trivial
   |some y=>exact h.hi i _ y e2 hy s hs k hk
theorem TR.tree {l:List Int} {n:List Nd} (h:TR none l n) (h0:l[0]?=some 0):mD ⟨l,n⟩:=by
 have hl:=h.len
 have gt: ∀(i:Nat) (x y:Int),l[i]?=some x→l[i+1]?=some y→ ∃m,n[i]?=some m∧zw x (some y) m:=fun i x y hx hy=>by
  obtain⟨h1,_⟩:=List.getElem?_eq_some_iff.1 hx;have e2:n[i]?=some n[i]:=aO aA;have:=h.at i x _ hx e2;rw[oL,j8,hy] at this;exact⟨_,e2,this⟩
 refine⟨hl,h0,fun i x y hx hy=> ?_,fun m hm=> ?_,fun i m x hm hx=> ?_,fun i m y hm hy=> ?_⟩
 ·obtain⟨m,_,h1⟩:=gt i x y hx hy
  exact h1.2.1
 ·obtain⟨i,hi⟩:=List.mem_iff_getElem?.1 hm
  obtain⟨h1,_⟩:=List.getElem?_eq_some_iff.1 hi;have h1:i<n.length:=h1;exact(h.at i _ m (aO aA) hi).1
 ·exact fun s hs k hk=>((h.at i x m hx hm).2.2 s hs k hk).1
 ·intro s hs k hk
  obtain⟨h1,_⟩:=List.getElem?_eq_some_iff.1 hm;have h1:i<n.length:=h1;have:=((h.at i _ m (aO aA) hm).2.2 s hs k hk).2;have hy:l[i+1]?=some y:=hy;rw[oL,j8,hy] at this;exact this
def NE (l:List Nd):Prop:= ∀n∈l.tail,¬bJ n=[]
theorem JS (m:Nd):NE [m]:=fun n hn=>by simp at hn
structure p9 (t:Tree):Prop where
 tr:TR none t.cc t.nodes
 z:t.cc[0]?=some 0
 ne:NE t.nodes
theorem p9.r {t:Tree} (h:p9 t):mD t:=h.tr.tree h.z
theorem Bj {α:Type} {l:List α} {a:α} {i:Nat} (h0:0<i) (h:l[i]?=some a):a∈l.tail:=by
 cases l with
 |nil=>simp at h
 |cons b r=>
  cases i with
  |zero=>omega
  |succ i=>exact c6 (i:=i) (by simpa using h)
theorem p9.ok {t:Tree} (h:p9 t) (Qx:t.nodes.length≤20) (Qy:(iV t).length≤60):Gi t=true:=by
 have hr:=h.r;have hl:=hr.len;have h1:=(List.getElem?_eq_some_iff.1 h.z).1;unfold Gi gX;rw[h.z];simp only[cm,decide_eq_true_eq];refine⟨by omega,hl,trivial,rJ.2 fun i hi=> ?_,Qy⟩;unfold A7;have e2:t.nodes[i]?=some t.nodes[i]:=aO hi;rw[e2];simp only[cm,Bool.or_eq_true,decide_eq_true_eq,nF,decide_eq_false_iff_not];refine⟨?_,hr.ok _ (qG hi),?_,List.all_eq_true.2 fun s hs=>List.all_eq_true.2 fun k hk=> ?_⟩
 ·cases i with
  |zero=>rfl
  |succ i=>
   have a1:t.cc[i]?=some t.cc[i]:=aO aA;have a2:t.cc[i+1]?=some t.cc[i+1]:=aO aA;simp only[tV,a1,a2,decide_eq_true_eq];exact hr.rise i _ _ a1 a2
 ·by_cases h0:i=0
  ·exact .inl h0
  ·exact .inr fun e=>h.ne _ (Bj aA e2) (List.length_eq_zero_iff.1 e)
 ·unfold ym Gh
  have a1:t.cc[i]?=some t.cc[i]:=aO aA;rw[a1];simp only[cm,nF,decide_eq_false_iff_not];have h3:=hr.lo i _ _ e2 a1 s hs k hk;refine⟨by omega,?_⟩
  cases hy:t.cc[i+1]? with
  |none=>rfl
  |some y=>simp only[decide_eq_true_eq];exact hr.hi i _ y e2 hy s hs k hk
theorem HW {l:List Key} {s:List Key} (h:s∈jB l) {k:Key} (hk:k∈s):k∈l:=by
 unfold jB at h
 split at h
 ·cases h
 ·rw[dw.1 h] at hk;exact hk
theorem p9.Nr {t:Tree} (h:p9 t) {A A1 A2 C:List Int} {N N1 N2 M:List Nd} (e1:t.cc=A++A1++C) (e2:t.nodes=N++N1++M) (hl:A.length=N.length) (ud:A1.length=N1.length) {x:Int} (hx:A1[0]?=some x)
 (h2:TR (CA C none) A2 N2) (h0:A2[0]?=some x∨(A2=[]∧ ¬A=[])) (hn:NE N2) (hn2: ¬A=[]→ ∀n∈N2,¬bJ n=[]):p9 ⟨A++A2++C,N++N2++M⟩:=by
 obtain⟨tr,z,ne⟩:=h;rw[e1,e2,fJ,fJ] at tr;obtain⟨t1,t2⟩:=TR.split hl tr;obtain⟨t3,t4⟩:=TR.split ud t2
 have Qz:CA (A1++C) none=some x:=by
  cases A1 with
  |nil=>cases hx
  |cons a r=>simpa [CA] using hx
 rw[Qz] at t1;rw[e2] at ne;rw[e1] at z;have QA:below x (CA C none):=t3.head x hx;refine⟨?_,?_,?_⟩
 ·show TR none (A++A2++C) (N++N2++M)
  rw[fJ,fJ];refine TR.app (TR.app t4 h2) (t1.mono fun y hy=> ?_);have hy:y<x:=hy;rcases h0 with h0|⟨h0,_⟩
  ·cases A2 with
   |nil=>cases h0
   |cons a r=>simp only[bG,aI] at h0;subst h0;exact hy
  ·subst h0;exact ld (Int.le_of_lt hy) QA
 ·show(A++A2++C)[0]?=some 0
  cases A with
  |cons a r=>simpa using z
  |nil=>
   rcases h0 with h0|⟨_,h0⟩
   ·cases A1 with
    |nil=>cases hx
    |cons a r=>
     cases A2 with
     |nil=>cases h0
     |cons b s=>
      simp only[jN,lU,bG,aI] at z hx h0 ⊢;omega
   ·exact absurd rfl h0
 ·show NE (N++N2++M)
  have hM: ∀n∈M,(¬N1=[])→ ¬bJ n=[]:=fun n hm h1=>ne n (by
   cases N with
   |cons a r=>simp[hm]
   |nil=>
    cases N1 with
    |nil=>exact absurd rfl h1
    |cons b s=>simp[hm])
  have Pf: ¬N1=[]:=fun e=>by
   subst e;rw[List.length_eq_zero_iff.1 ud] at hx;cases hx
  intro n hnm
  cases N with
  |cons a r=>
   have hA: ¬A=[]:=fun e=>by rw[e] at hl;simp at hl
   simp only[lU,List.tail_cons,List.mem_append] at hnm;rcases hnm with(hnm|hnm)|hnm
   ·exact ne n (by simp[hnm])
   ·exact hn2 hA n hnm
   ·exact hM n hnm Pf
  |nil=>
   have hA:A=[]:=List.length_eq_zero_iff.1 (by simpa using hl)
   cases N2 with
   |nil=>
    rcases h0 with h0|⟨_,h0⟩
    ·rw[List.length_eq_zero_iff.1 h2.len] at h0;cases h0
    ·exact absurd hA h0
   |cons b s=>
    simp only[jN,lU,List.tail_cons,List.mem_append] at hnm;rcases hnm with hnm|hnm
    ·exact hn n hnm
    ·exact hM n hnm Pf
theorem p9.step {t:Tree} (h:p9 t) {i:Nat} (hp:Gs t=some i):p9 (rN t i)∧iV (rN t i)=iV t:=by
 obtain⟨h1,h2⟩:=Ep hp;have hr:=h.r;have hl:=hr.len;have a1:t.nodes[i]?=some t.nodes[i]:=aO aA;have a2:t.nodes[i+1]?=some t.nodes[i+1]:=aO h1;have b1:t.cc[i]?=some t.cc[i]:=aO aA;have b2:t.cc[i+1]?=some t.cc[i+1]:=aO aA;have en:=Gt a1 a2;have el:=Gt b1 b2;generalize ha:t.nodes[i]=a at*;generalize hb:t.nodes[i+1]=b at*;generalize hx:t.cc[i]=x at*;generalize hy:t.cc[i+1]=y at*;rw[pG a1,pG a2] at h2
 have e1:rN t i=⟨t.cc.take i++[x]++t.cc.drop (i+2),t.nodes.take i++[jB (bJ a++bJ b)]++t.nodes.drop (i+2)⟩:=by
  unfold rN IT;rw[pG a1,pG a2,uM,b1];rfl
 have el':t.cc=t.cc.take i++[x,y]++t.cc.drop (i+2):=by simpa using el
 have en':t.nodes=t.nodes.take i++[a,b]++t.nodes.drop (i+2):=by simpa using en
 have hlen:(t.cc.take i).length=(t.nodes.take i).length:=by simp[hl]
 have na:=h.tr.at i x a b1 a1;have nb:=h.tr.at (i+1) y b b2 a2;rw[oL,j8,b2] at na
 have hka: ∀k∈bJ a,mA k=true∧x≤dU k.b k.a∧dU k.b k.a<y:=fun k hk=>by
  obtain⟨s,hs,hk⟩:=jD hk;exact⟨oK na.1 hs hk,na.2.2 s hs k hk⟩
 have KC: ∀k∈bJ b,mA k=true∧y≤dU k.b k.a∧below (dU k.b k.a) (CA (t.cc.drop (i+1+1)) none):=fun k hk=>by
  obtain⟨s,hs,hk⟩:=jD hk;exact⟨oK nb.1 hs hk,nb.2.2 s hs k hk⟩
 have hxy:x<y:=na.2.1
 have GU:(bJ a++bJ b).Pairwise iJ:=List.pairwise_append.2 ⟨pZ a,pZ b,fun u hu v hv=>by
  have:=hka u hu;have h4:=KC v hv
  exact(Gv this.1 h4.1).1 aA⟩
 refine⟨?_,?_⟩
 ·rw[e1]
  refine h.Nr el' en' hlen rfl (x:=x) rfl (A2:=[x]) (N2:=[jB (bJ a++bJ b)]) ⟨⟨Cw GU (fun k hk=> ?_) (by rw[cL];omega),?_,fun s hs k hk=> ?_⟩,trivial⟩ (.inl rfl) (JS _) fun hA n hn=> ?_
  ·rcases List.mem_append.1 hk with hk|hk
   ·exact(hka k hk).1
   ·exact(KC k hk).1
  ·exact ld (Int.le_of_lt hxy) nb.2.1
  ·rcases List.mem_append.1 (HW hs hk) with hk|hk
   ·exact⟨(hka k hk).2.1,ld (Int.le_of_lt (hka k hk).2.2) nb.2.1⟩
   ·exact⟨by have:=(KC k hk).2.1;omega,(KC k hk).2.2⟩
  ·rw[dw.1 hn,Bi GU fun u hu=>by
    rcases List.mem_append.1 hu with hu|hu<;>exact yw hu]
   have hi:0<i:=Nat.pos_of_ne_zero fun e=>hA (by subst e;rfl);have:=h.ne a (Bj hi a1);intro e;exact this (List.append_eq_nil_iff.1 e).1
 ·rw[e1]
  unfold iV
  conv=>rhs;rw[en']
  simp only[List.flatMap_append,List.flatMap_cons,List.flatMap_nil,iL]
  rw[Bi GU fun u hu=>by
     rcases List.mem_append.1 hu with hu|hu<;>exact yw hu]
end Go.T
namespace Go.T
end Go.T
namespace Go.T
theorem IU {x y:Int} (hx:0≤x∧x≤255) (hy:0≤y∧y≤255):gw x y=256*x+y:=by
 obtain⟨a,rfl⟩:=Int.eq_ofNat_of_zero_le hx.1;obtain⟨c,rfl⟩:=Int.eq_ofNat_of_zero_le hy.1;unfold gw;rw[jL hx,jL hy]
 have e1:yF .i64 (a:Int) 8=((a*256:Nat):Int):=by
  unfold yF;rw[show(2:Int) ^ (min (8:Int).toNat IntKind.i64.bits)=256 from by decide,Go.IntKind.wrap_i64];omega
 rw[e1]
 have h:eC .or .i64 ((a*256:Nat):Int) (c:Int)=Go.IntKind.i64.wrap (((BitVec.ofInt 64 ((a*256:Nat):Int)|||BitVec.ofInt 64 (c:Int)).toNat:Nat):Int):=by unfold eC;rfl
 have b1:(BitVec.ofInt 64 ((a*256:Nat):Int)).toNat=a*256:=by rw[BitVec.toNat_ofInt];omega
 have b2:(BitVec.ofInt 64 (c:Int)).toNat=c:=by rw[BitVec.toNat_ofInt];omega
 have b3:a*256|||c=a*256+c:=by
  have:=Nat.shiftLeft_add_eq_or_of_lt (b:=c) (i:=8) aA a;rw[Nat.shiftLeft_eq] at this;exact this.symm
 rw[h,BitVec.toNat_or,b1,b2,b3,Go.IntKind.wrap_i64];omega
def W2 (n:Int):List Int:=[aD .u8 (kr .i64 n 8),aD .u8 n]
theorem DD (b:List Int) (n:Int):uh b n=b++W2 n:=rfl
theorem Lq {n:Int} (h:0≤n∧n≤65535):kr .i64 n 8=n/256:=by
 unfold kr;rw[show(2:Int) ^ (min (8:Int).toNat IntKind.i64.bits)=256 from by decide,Int.fdiv_eq_ediv_of_nonneg _ aA]
theorem rP (x:Int):aD .u8 x=x % 256:=by unfold aD;rw[Go.IntKind.wrap_u8]
theorem HX (n:Int):eH (W2 n):=fun x hx=>by
 unfold W2 at hx;simp only[bg,List.not_mem_nil,or_false] at hx;rcases hx with rfl|rfl<;>rw[rP]<;>omega
theorem Lr {n:Int} (h:0≤n∧n≤65535):gw (aD .u8 (kr .i64 n 8)) (aD .u8 n)=n:=by
 rw[IU (by rw[rP];omega) (by rw[rP];omega),rP,rP,Lq h];omega
theorem Ls {x y:Int} (hx:0≤x∧x≤255) (hy:0≤y∧y≤255):W2 (gw x y)=[x,y]:=by
 unfold W2;rw[IU hx hy,rP,rP,Lq aA]
 have e1:(256*x+y)/256 % 256=x:=by omega
 have e2:(256*x+y) % 256=y:=by omega
 rw[e1,e2]
attribute [local semireducible] cg in
theorem yy (l:List Int):cg l=⟨(l.map fun n:Int=>UInt8.ofNat n.toNat).toArray⟩:=rfl
theorem CB (s:ByteArray):cg (eF s)=s:=by
 rw[yy];unfold eF
 cases s with
 |mk d=>
  congr 1
  rw[List.map_map]
  apply Array.ext'
  simp only[];rw[List.map_congr_left (g:=id) fun b _=>by simp];simp
theorem CC {l:List Int} (h:eH l):eF (cg l)=l:=by
 rw[yy];unfold eF;simp only[List.map_map]
 rw[List.map_congr_left (g:=id) fun n hn=>by
  have:=h n hn;simp only[Function.comp,id];rw[UInt8.toNat_ofNat']
  omega]
 simp
theorem Et (s:ByteArray):eH (eF s):=fun x hx=>by
 unfold eF at hx;obtain⟨b,_,rfl⟩:=List.mem_map.1 hx;have:=b.toNat_lt;omega
theorem wg {pre post:List Int} {x:Int}:gm (pre++x::post) (pre.length:Int)=some x:=by
 rw[rI,eA (bu _),kE];rfl
theorem Gw {pre post:List Int} {x y:Int} {n:Int} (hn:n=(pre.length:Int)):bF (pre++x::y::post) n=(gw x y,n+2,true):=by
 subst hn;unfold bF
 have e1:eY (pre++x::y::post) (pre.length:Int)=x:=by unfold eY;rw[wg];rfl
 have e2:eY (pre++x::y::post) ((pre.length:Int)+1)=y:=by
  have:=wg (pre:=pre++[x]) (post:=post) (x:=y);rw[fJ] at this;unfold eY;rw[show((pre.length:Int)+1)=(((pre++[x]).length:Nat):Int) from by simp];rw[show pre++x::y::post=pre++([x]++y::post) from rfl,this];rfl
 rw[aT iF,e1,e2]
theorem zx {pre post:List Int} {v n:Int} (hv:0≤v∧v≤65535) (hn:n=(pre.length:Int)):bF (pre++(W2 v++post)) n=(v,n+2,true):=by
 have:=Gw (pre:=pre) (post:=post) (x:=aD .u8 (kr .i64 v 8)) (y:=aD .u8 v) hn;rw[Lr hv] at this;exact this
theorem CD {pre:List Int} {x n:Int} (hn:n=(pre.length:Int)):bF (pre++[x]) n=(0,0,false):=by
 unfold bF;rw[aH iF]
theorem tY {pre post:List Int} {s:ByteArray} {n:Int} (hs:s.size≤60) (hn:n=(pre.length:Int)):an (pre++(W2 s.size++(eF s++post))) n=(s,n+2+s.size,true):=by
 have hl:((eF s).length:Int)=s.size:=by rw[gU]
 have hw:=zx (pre:=pre) (post:=eF s++post) (v:=(s.size:Int)) aA hn;unfold an;rw[hw];simp only[]
 have hlen:(pre++(W2 s.size++(eF s++post))).length=pre.length+2+s.size+post.length:=by simp[W2,gU];omega
 rw[aT ⟨trivial,by omega,by rw[hlen];omega⟩]
 have e1:(n+2+(s.size:Int)).toNat=pre.length+2+s.size:=by omega
 have e2:(n+2).toNat=pre.length+2:=by omega
 have e3:((pre++(W2 s.size++(eF s++post))).take (pre.length+2+s.size)).drop (pre.length+2)=eF s:=by
  rw[show pre++(W2 s.size++(eF s++post))=(pre++W2 s.size++eF s)++post from by simp only[fJ]];rw[Ix (by simp[W2,gU]<;>omega),EP (by simp[W2,gU]<;>omega),List.drop_append_of_le_length (by simp[W2]),xw (by simp[W2])]
  rfl
 rw[e1,e2,e3,CB]
theorem rQ {o:oF} (h:g6 o=true):1≤o.kind∧o.kind≤9∧o.name.size≤6∧o.to.size≤6∧0≤o.a∧o.a≤65535∧0≤o.b∧o.b≤65535:=by
 unfold g6 at h;simp only[cm,gR,gX,decide_eq_true_eq] at h;obtain⟨h1,h2,h3,h4,h5,_⟩:=h
 have hn:o.name.size≤6:=by
  unfold opName at h2
  split at h2
  ·have:=pP h2;rw[this];decide
  ·exact(ai h2).2
 have ht:o.to.size≤6:=by
  unfold HQ at h3
  split at h3
  ·exact(ai h3).2
  ·have:=pP h3;rw[this];decide
 omega
def tZ (o:oF):List Int:=aD .u8 o.kind::(W2 o.name.size++(eF o.name++(W2 o.to.size++(eF o.to++W2 o.a))))
theorem rR {b:List Int} {o:oF} (h:g6 o=true):eG b o=b++(tZ o++W2 o.b):=by
 have:=rQ h;unfold eG;rw[aT h];unfold dN;rw[aH aA,aH aA];simp only[DD,tZ,fJ,lU,jN]
theorem zy {b T:List Int} {o:oF} (h:g6 o=true) {n:Int} (hn:n=(b.length:Int)):eY (b++(tZ o++T)) n=o.kind∧an (b++(tZ o++T)) (n+1)=(o.name,n+3+o.name.size,true)∧
 an (b++(tZ o++T)) (n+3+o.name.size)=(o.to,n+5+o.name.size+o.to.size,true)∧bF (b++(tZ o++T)) (n+5+o.name.size+o.to.size)=(o.a,n+7+o.name.size+o.to.size,true)∧
 ((b++tZ o).length:Int)=n+7+o.name.size+o.to.size:=by
 have hi:=rQ h
 have hk:aD .u8 o.kind=o.kind:=by rw[rP];omega
 have e:b++(tZ o++T)=b++o.kind::(W2 o.name.size++(eF o.name++(W2 o.to.size++(eF o.to++(W2 o.a++T))))):=by
  unfold tZ;rw[hk];simp only[fJ,lU]
 refine⟨?_,?_,?_,?_,?_⟩
 ·rw[e];unfold eY;subst hn;rw[wg];rfl
 ·rw[e]
  have:=tY (pre:=b++[o.kind]) (post:=W2 o.to.size++(eF o.to++(W2 o.a++T))) (s:=o.name) (n:=n+1) aA Jg;rw[fJ] at this;rw[show b++o.kind::(W2 o.name.size++(eF o.name++(W2 o.to.size++(eF o.to++(W2 o.a++T)))))=b++([o.kind]++(W2 o.name.size++(eF o.name++(W2 o.to.size++(eF o.to++(W2 o.a++T)))))) from rfl,this]
  congr 2;omega
 ·rw[e]
  have:=tY (pre:=b++o.kind::(W2 o.name.size++eF o.name)) (post:=W2 o.a++T) (s:=o.to) (n:=n+3+o.name.size) aA (by simp[W2,gU];omega);simp only[fJ,lU] at this;rw[this]
  congr 2;omega
 ·rw[e]
  have:=zx (pre:=b++o.kind::(W2 o.name.size++(eF o.name++(W2 o.to.size++eF o.to)))) (post:=T) (v:=o.a) (n:=n+5+o.name.size+o.to.size) aA (by simp[W2,gU];omega);simp only[fJ,lU] at this;rw[this]
  congr 2;omega
 ·unfold tZ;simp[W2,gU];omega
theorem yz {b T:List Int} {o:oF} (h:g6 o=true) {n:Int} (hn:n=(b.length:Int)):jc (b++(tZ o++T)) n=⟨o.kind,o.name,o.to,o.a,(bF (b++(tZ o++T)) (n+7+o.name.size+o.to.size)).1⟩∧
 nu (b++(tZ o++T)) n=(bF (b++(tZ o++T)) (n+7+o.name.size+o.to.size)).2.2:=by
 obtain⟨h1,h2,h3,h4,_⟩:=zy (T:=T) h hn;have hi:=rQ h;unfold jc nu;simp only[h1,h2,h3,h4,nG];rw[jL aA];exact⟨by trivial,by trivial⟩
theorem Eu {b:List Int} {o:oF} (h:g6 o=true):getOp (eG b o) (b.length:Int)=(o,((eG b o).length:Int),true):=by
 rw[rR h];obtain⟨h1,h2,h3,h4,h5⟩:=zy (T:=W2 o.b) h (b:=b) rfl;obtain⟨e1,e2⟩:=yz (T:=W2 o.b) h (b:=b) rfl;have hi:=rQ h
 have hw:bF (b++(tZ o++W2 o.b)) ((b.length:Int)+7+o.name.size+o.to.size)=(o.b,(b.length:Int)+7+o.name.size+o.to.size+2,true):=by
  have:=zx (pre:=b++tZ o) (post:=[]) (v:=o.b) (n:=(b.length:Int)+7+o.name.size+o.to.size) aA (by rw[h5]);rw[iL,fJ] at this;exact this
 have hl:((b++(tZ o++W2 o.b)).length:Int)=(b.length:Int)+7+o.name.size+o.to.size+2:=by
  rw[←fJ,cL,Int.natCast_add,h5];rfl
 rw[hw] at e1 e2;have e1:jc (b++(tZ o++W2 o.b)) (b.length:Int)=o:=e1;unfold getOp;rw[aT aA,aT e2,e1,aT h,h2,h3,h4,hw,hl]
theorem Ew {b:List Int} {o:oF} (h:g6 o=true):(getOp ((eG b o).take ((eG b o).length-1)) (b.length:Int)).2.2=false:=by
 rw[rR h]
 have e:(b++(tZ o++W2 o.b)).take ((b++(tZ o++W2 o.b)).length-1)=b++(tZ o++[aD .u8 (kr .i64 o.b 8)]):=by
  rw[show b++(tZ o++W2 o.b)=(b++(tZ o++[aD .u8 (kr .i64 o.b 8)]))++[aD .u8 o.b] from by simp[W2]];rw[Ix cY,EP cY]
 rw[e];obtain⟨h1,h2,h3,h4,h5⟩:=zy (T:=[aD .u8 (kr .i64 o.b 8)]) h (b:=b) rfl;obtain⟨e1,e2⟩:=yz (T:=[aD .u8 (kr .i64 o.b 8)]) h (b:=b) rfl
 have hw:bF (b++(tZ o++[aD .u8 (kr .i64 o.b 8)])) ((b.length:Int)+7+o.name.size+o.to.size)=(0,0,false):=by
  have:=CD (pre:=b++tZ o) (x:=aD .u8 (kr .i64 o.b 8)) (n:=(b.length:Int)+7+o.name.size+o.to.size) (by rw[h5]);rw[fJ] at this;exact this
 rw[hw] at e2;unfold getOp;rw[e2]
 split<;>rfl
def seg (c:List Int) (i j:Int):List Int:=(c.take j.toNat).drop i.toNat
theorem zz (c:List Int) {i j:Int} (h0:0≤i) (h1:i≤j):seg c i j=(c.drop i.toNat).take (j-i).toNat:=by
 unfold seg;rw[List.drop_take]
 congr 1;omega
theorem pI {c:List Int} {i j k:Int} (h0:0≤i) (h1:i≤j) (h2:j≤k):seg c i j++seg c j k=seg c i k:=by
 rw[zz c h0 h1,zz c aA h2,zz c h0 aA]
 have e:c.drop j.toNat=(c.drop i.toNat).drop (j-i).toNat:=by rw[List.drop_drop];congr 1;omega
 rw[e,←List.take_add]
 congr 1;omega
theorem zA {c:List Int} {i:Int} (h0:0≤i) (h1:i<c.length):seg c i (i+1)=[eY c i]:=by
 rw[zz c h0 aA]
 have h2:i.toNat<c.length:=by omega
 have e:(i+1-i).toNat=1:=by omega
 rw[e,xu h2]
 have:eY c i=c[i.toNat]:=by
  unfold eY gm;rw[aT h0,aO h2];rfl
 rw[this];rfl
theorem HY {c:List Int} {i:Int} (h0:0≤i) (h1:i+2≤c.length):seg c i (i+2)=[eY c i,eY c (i+1)]:=by
 rw[←pI (j:=i+1) h0 aA aA,zA h0 aA,show i+2=i+1+1 from by omega,zA aA aA];rfl
theorem Gx {c:List Int} (hB:eH c) (i j:Int):eH (seg c i j):=fun x hx=>by
 unfold seg at hx;exact hB x (nX (qH hx))
theorem wh {c:List Int} (hB:eH c) {p:Int} (h:(bF c p).2.2=true):0≤p∧p+2≤c.length∧(bF c p).2.1=p+2∧W2 (bF c p).1=seg c p (p+2):=by
 unfold bF at h ⊢
 split at h
 ·rename_i h1
  rw[aT h1];exact⟨h1.1,h1.2,rfl,by rw[HY h1.1 h1.2];exact Ls (mB hB _) (mB hB _)⟩
 ·cases h
theorem ua {c:List Int} (hB:eH c) {p:Int} (h:(an c p).2.2=true):0≤p∧p+2≤(an c p).2.1∧(an c p).2.1≤c.length∧W2 (an c p).1.size++eF (an c p).1=seg c p (an c p).2.1:=by
 unfold an at h ⊢
 split at h
 ·rename_i h1
  rw[aT h1];obtain⟨g1,g2,g3,g4⟩:=wh hB h1.1;have hpos:=(vW hB p).1;simp only[];rw[g3] at h1 ⊢
  have hs:(((cg ((c.take (p+2+(bF c p).1).toNat).drop (p+2).toNat)).size:Nat):Int)=(bF c p).1:=by
   rw[vY,kC,eU];omega
  refine⟨g1,by omega,by omega,?_⟩;have e7:eF (cg ((c.take (p+2+(bF c p).1).toNat).drop (p+2).toNat))=seg c (p+2) (p+2+(bF c p).1):=CC (Gx hB (p+2) (p+2+(bF c p).1));rw[hs,g4,e7];exact pI g1 aA aA
 ·cases h
theorem Ex {c:List Int} (hB:eH c) {i:Int} (h:(getOp c i).2.2=true):0≤i∧i≤(getOp c i).2.1∧(getOp c i).2.1≤c.length∧g6 (getOp c i).1=true∧eG [] (getOp c i).1=seg c i (getOp c i).2.1:=by
 unfold getOp at h ⊢
 split at h
 ·rename_i h0
  split at h
  ·rename_i h1
   split at h
   ·rename_i h2
    rw[aT h0,aT h1,aT h2];simp only[];unfold nu at h1;simp only[cm] at h1;obtain⟨a1,a2,a3,a4⟩:=h1;obtain⟨b1,b2,b3,b4⟩:=ua hB a1;obtain⟨c1,c2,c3,c4⟩:=ua hB a2;obtain⟨d1,d2,d3,d4⟩:=wh hB a3;obtain⟨e1,e2,e3,e4⟩:=wh hB a4;refine⟨h0.1,by omega,by omega,h2,?_⟩;rw[rR h2,jN];unfold tZ jc;simp only[]
    have hk:aD .u8 (aD .i64 (eY c i))=eY c i:=by
     have:=mB hB i;rw[jL this,rP];omega
    rw[hk];have k1:=zA h0.1 h0.2
    rw[show eY c i::(W2 (an c (i+1)).1.size++(eF (an c (i+1)).1++(W2 (an c (an c (i+1)).2.1).1.size++(eF (an c (an c (i+1)).2.1).1++W2 (bF c (an c (an c (i+1)).2.1).2.1).1))))
     =[eY c i]++((W2 (an c (i+1)).1.size++eF (an c (i+1)).1)++((W2 (an c (an c (i+1)).2.1).1.size++eF (an c (an c (i+1)).2.1).1)++W2 (bF c (an c (an c (i+1)).2.1).2.1).1)) from by simp only[fJ,lU,jN]]
    rw[←k1,b4,c4,d4,e4,←d3];generalize hp:(an c (i+1)).2.1=p at*;generalize hq:(an c p).2.1=q at*;generalize hr:(bF c q).2.1=r at*;rw[pI aA aA aA,pI aA aA aA,pI aA aA aA,e3,pI aA aA aA]
   ·cases h
  ·cases h
 ·cases h
end Go.T
namespace Go.T
theorem oJ.lt: ∀{l:List uI},oJ l→l.Pairwise fun a b=>z7 a.name b.name=true
 |[],_=> .nil
 |[a],_=>by simp
 |a::b::r,h=>by
  have ih:=oJ.lt (l:=b::r) h.2;refine List.pairwise_cons.2 ⟨fun c hc=> ?_,ih⟩;rcases bg.1 hc with rfl|hc
  ·exact h.1
  ·exact yo h.1 ((List.pairwise_cons.1 ih).1 c hc)
end Go.T
namespace Go.T
set_option maxRecDepth 100000
end Go.T
namespace Go.T
end Go.T
namespace Go.T
variable {C : dW} {f : FuncId} {vs : List TV} {b : List Int}
theorem bw {P:Int→Prop} {K:Int→RR→Int→Int→Prop} (h:bR C f vs (Dr b fun r=> ∃x,r=vI x∧P x)) (k: ∀x i h,0≤i→P x→K x (b.map aE) i h):
 ∃(n:Int) (l:List (List TC)) (n2 n3:Int),aq C f vs (TV.c (TC.sc (Value.int IntKind.i64 n))) [TV.bx [TC.sub 1 l,TC.sc (Value.int IntKind.i64 n2),TC.sc (Value.int IntKind.i64 n3)]]∧K n l n2 n3:=by
 obtain⟨_,_,hr,i,h',hi,rfl,x,rfl,hx⟩:=h;exact⟨x,_,i,h',hr,k x i h' hi hx⟩
theorem nv {P:ByteArray→Prop} {K:ByteArray→RR→Int→Int→Prop} (h:bR C f vs (Dr b fun r=> ∃x,r=vS x∧P x)) (k: ∀x i h,0≤i→P x→K x (b.map aE) i h):
 ∃(n:ByteArray) (l:List (List TC)) (n2 n3:Int),aq C f vs (TV.c (TC.sc (Value.string n))) [TV.bx [TC.sub 1 l,TC.sc (Value.int IntKind.i64 n2),TC.sc (Value.int IntKind.i64 n3)]]∧K n l n2 n3:=by
 obtain⟨_,_,hr,i,h',hi,rfl,x,rfl,hx⟩:=h;exact⟨x,_,i,h',hr,k x i h' hi hx⟩
theorem DE {α:Type} {e:α→List TC} {z:Nat} {P:List α→Prop} {K:RR→RR→Int→Int→Prop} (h:bR C f vs (Dr b fun r=> ∃x:List α,r=TV.c (TC.sub z (x.map e))∧P x)) (k: ∀(x:List α) i h,0≤i→P x→K (x.map e) (b.map aE) i h):
 ∃(l0 l:List (List TC)) (n2 n3:Int),aq C f vs (TV.c (TC.sub z l0)) [TV.bx [TC.sub 1 l,TC.sc (Value.int IntKind.i64 n2),TC.sc (Value.int IntKind.i64 n3)]]∧K l0 l n2 n3:=by
 obtain⟨_,_,hr,i,h',hi,rfl,x,rfl,hx⟩:=h;exact⟨_,_,i,h',hr,k x i h' hi hx⟩
theorem Gy {P:oF→Prop} {K:Int→ByteArray→ByteArray→Int→Int→RR→Int→Int→Prop} (h:bR C f vs (Dr b fun r=> ∃x,r=TV.ag (pK x)∧P x)) (k: ∀x i h,0≤i→P x→K x.kind x.name x.to x.a x.b (b.map aE) i h):
 ∃(m1:Int) (m2 m3:ByteArray) (m4 m5:Int) (l:List (List TC)) (n2 n3:Int),aq C f vs (TV.ag [TC.sc (Value.int IntKind.i64 m1),TC.sc (Value.string m2),TC.sc (Value.string m3),TC.sc (Value.int IntKind.i64 m4),TC.sc (Value.int IntKind.i64 m5)]) [TV.bx [TC.sub 1 l,TC.sc (Value.int IntKind.i64 n2),TC.sc (Value.int IntKind.i64 n3)]]∧K m1 m2 m3 m4 m5 l n2 n3:=by
 obtain⟨_,_,hr,i,h',hi,rfl,x,rfl,hx⟩:=h;exact⟨x.kind,x.name,x.to,x.a,x.b,_,i,h',hr,k x i h' hi hx⟩
theorem Gz {K:RR→Int→Int→Prop} (h:bR C f vs (fun r fs=>fs=[]∧ ∃h,r=oI b 0 h)) (k: ∀h,K (b.map aE) 0 h):
 ∃(l:List (List TC)) (n2 n3:Int),aq C f vs (TV.bx [TC.sub 1 l,TC.sc (Value.int IntKind.i64 n2),TC.sc (Value.int IntKind.i64 n3)]) []∧K l n2 n3:=by
 obtain⟨_,_,hr,rfl,x,rfl⟩:=h;exact⟨_,_,_,hr,k x⟩
theorem aX {P:TV→Prop} {r:TV} {i h:Int} (hi:0≤i) (hP:P r):Dr b P r [TV.bx [TC.sub 1 (b.map aE),TC.sc (Value.int IntKind.i64 i),TC.sc (Value.int IntKind.i64 h)]]:=⟨i,h,hi,rfl,hP⟩
end Go.T
