import Derived.Below
import Derived.WalkKit
import Derived.Laws.AppendOwn
import Derived.DataElems
namespace Go.T
theorem dH {P Q:Prop} (h:P:=by rfl) (k:Q:=by trivial):P∧Q:=⟨h,k⟩
theorem zYa {P:Prop} (h:P:=by first|rfl|(simp;done)|(simp;omega)):P:=h
theorem au {P:Prop} (h:P:=by omega):P:=h
theorem ir {P:Prop} (h:P:=by assumption):P:=h
theorem gZ {P:Prop} (h:P:=by simp;omega):P:=h
theorem iE {P:Prop} (h:P:=by simp<;>omega):P:=h
theorem bZ {P:Prop} (h:P:=by simp):P:=h
theorem zYt {P:Prop} (h:P:=by trivial):P:=h
theorem zYr {P:Prop} (h:P:=by rfl):P:=h
abbrev w7:= @Array.getD_eq_getD_getElem?
abbrev w8:= @Array.getElem?_eq_getElem
abbrev Vo:= @Array.getElem?_setIfInBounds
abbrev QB:= @Array.getElem?_toList
abbrev yf:= @Array.length_toList
abbrev dY:= @Bool.and_eq_true
abbrev mJ:= @Bool.and_true
abbrev Ds:= @Bool.false_eq_true
abbrev HZ:= @Bool.false_or
abbrev yg:= @Bool.not_eq_true'
abbrev QC:= @Bool.not_true
abbrev eO:= @Bool.true_and
abbrev vU:= @Int.ofNat_eq_natCast
abbrev oF:= @Int.toNat_natCast
abbrev tP:= @List.all_cons
abbrev tQ:= @List.all_nil
abbrev tT:= @List.append_assoc
abbrev m0:= @List.append_nil
abbrev FG:= @List.cons_append
abbrev zF:= @List.drop_eq_getElem_cons
abbrev gu:= @List.drop_length
abbrev Bo:= @List.drop_of_length_le
abbrev Dt:= @List.eq_nil_of_length_eq_zero
abbrev Vp:= @List.flatten_append
abbrev yh:= @List.flatten_cons
abbrev oG:= @List.getD_eq_getElem?_getD
abbrev kC:= @List.getElem?_append_left
abbrev m7:= @List.getElem?_append_right
abbrev tU:= @List.getElem?_cons_succ
abbrev fu:= @List.getElem?_cons_zero
abbrev o5:= @List.getElem?_drop
abbrev bC:= @List.getElem?_eq_getElem
abbrev Vq:= @List.getElem?_eq_none
abbrev me:= @List.getElem?_map
abbrev zG:= @List.getElem?_take
abbrev tV:= @List.getElem_mem
abbrev ct:= @List.length_append
abbrev gG:= @List.length_cons
abbrev gQ:= @List.length_drop
abbrev QD:= @List.length_filter_le
abbrev cq:= @List.length_map
abbrev NA:= @List.length_modify
abbrev ic:= @List.length_singleton
abbrev c7:= @List.length_take
abbrev td:= @List.map_append
abbrev Bp:= @List.map_drop
abbrev Du:= @List.map_take
abbrev kD:= @List.mem_append_left
abbrev p6:= @List.mem_append_right
abbrev dJ:= @List.mem_cons
abbrev iV:= @List.mem_of_getElem?
abbrev rD:= @List.mem_of_mem_drop
abbrev tf:= @List.mem_of_mem_take
abbrev j6:= @List.mem_singleton
abbrev tg:= @List.nil_append
abbrev Dv:= @List.take_append_drop
abbrev NC:= @List.take_append_of_le_length
abbrev rj:= @List.take_length
abbrev H6:= @List.take_of_length_le
abbrev nO:= @Nat.add_assoc
abbrev qi:= @Nat.add_eq
abbrev rE:= @Nat.add_mul
abbrev tW:= @Nat.add_zero
abbrev QE:= @Nat.ble_eq_true_of_le
abbrev JT:= @Nat.div_add_mod'
abbrev jw:= @Nat.eq_of_beq_eq_true
abbrev FH:= @Nat.le_max_left
abbrev tX:= @Nat.le_of_ble_eq_true
abbrev cL:= @Nat.le_refl
abbrev bQ:= @Nat.le_trans
abbrev kE:= @Nat.lt_of_lt_of_le
abbrev qj:= @Nat.min
abbrev oH:= @Nat.mul_le_mul_right
abbrev tY:= @Nat.ne_of_beq_eq_false
abbrev oI:= @Nat.sub_self
abbrev zI:= @Nat.succ_mul
abbrev lG:= @Nat.zero_add
abbrev cW:= @Nat.zero_le
abbrev nT:= @Option.map_some
abbrev bq:= @Option.some.injEq
abbrev zJ:= @Prod.mk.injEq
abbrev lH:= @decide_eq_false
abbrev lB:= @decide_eq_true
abbrev gv:= @exists_eq_left
abbrev fj:= @exists_eq_left'
abbrev aJ:= @if_neg
abbrev aR:= @if_pos
abbrev th:= @of_decide_eq_true
inductive TC where
 |sc (v:Value)
 |sub (s:Nat) (rows:List (List TC))
 |any
 deriving Inhabited
inductive Mode where
 |snap|top|deep
 deriving DecidableEq,Inhabited
inductive CE where
 |sc (v:Value)
 |nil (z:Nat)
 |ref (o:Nat) (cut:Option (Int×Int))
 |snap (ds:List Nat) (loc:Option (Nat×Int×Nat)) (z:Nat) (rows:List (List TC))
 |gone
 deriving Inhabited
inductive rF where
 |mk (agg:Bool) (cs:List CE)
 |ptr (b:Nat)
inductive TE where
 |dead
 |v (tup:Bool) (es:List rF)
 |bp (b off:Nat)
 |ep (ds:List Nat) (cells:List TC)
 |er (o:Nat) (path:Option (Int×Nat)) (i:Int) (f:Nat)
 |fn (f:FuncId) (caps:List Nat)
 |kb (b:Bool)
 deriving Inhabited
structure OB where
 deep:Bool
 z:Nat
 rows:List (List TC)
structure TS where
 tm:List (Nat×TE)
 bx:List (Nat×List CE)
 ob:List (Nat×OB)
inductive TI where
 |int (k:IntKind)
 |bool
 |str
 |slice (e:TypeId)
 |ptr (e:TypeId)
 |struct (fs:List (Nat×TypeId))
 |other
 deriving Inhabited
structure mK where
 ti:TI
 size:Nat
 bytes:Nat
 flat:Bool
 zero:List TC
 eqs:List Nat:=[]
 deriving Inhabited
inductive TV where
 |c (c:TC)
 |ag (cs:List TC)
 |tu (vs:List (Nat×List TC))
 |bx (cs:List TC)
 |fn (f:FuncId) (caps:List (List TC))
inductive bY where
 |borrow|inout (ms:List Mode)|consume (ms:List Mode)
 deriving DecidableEq
def bY.mc:bY→Nat→Mode
 | .borrow,_=> .snap
 | .inout ms,j=>match ms[j]? with|some m=>m|none=> .deep
 | .consume ms,j=>match ms[j]? with|some m=>m|none=> .deep
structure Sig where
 ps:List bY
 shares:Bool
 res:List (List Mode)
 frz:Bool:=false
inductive G8 where
 |nil
 |op (i:Nat) (fl:List Nat) (r:G8)
 |alt (a b:G8)
structure mG where
 P:Program
 tt:TypeId→mK
 sig:FuncId→Sig
 lr:FuncId→Nat→List Nat
 lb:FuncId→Nat→List Nat
 N8:FuncId→Nat→Option G8
 ext:FuncId→Option (List TV→Option (TV×List TV))
inductive TX where
 |norm|ex (id:Nat)|ret
 deriving DecidableEq
inductive Ev (R:Type) where
 |fail
 |ret (r:R)
 |test (b:Bool) (k:Bool→Ev R)
 |row (rows:List (List TC)) (i:Int) (k:List TC→Ev R)
 |byte (s:ByteArray) (i:Int) (k:Int→Ev R)
 |bytes (rows:List (List TC)) (k:List Int→Ev R)
 |call (f:FuncId) (vs:List TV) (k:TV→List TV→Ev R)
 |loop (f:FuncId) (i:Nat) (c:Code) (st:TS) (k:TX→TS→Ev R)
 |both (a b:Ev R)
@[irreducible] def cP (a b:Int):Bool:=decide (a<b)
@[irreducible] def qC (a b:Int):Bool:=decide (a≤b)
@[irreducible] def cO (a b:Int):Bool:=a==b
@[irreducible] def eqB (a b:Bool):Bool:=a==b
@[irreducible] def FE (a b:ByteArray):Bool:=a.toList==b.toList
@[irreducible] def LA (a b:ByteArray):Bool:=Op.bytesLess a.toList b.toList
@[irreducible] def fits (n b:Nat):Bool:=decide (n*b≤140737488355328∧n≤140737488355328)
@[irreducible] def bF (rows:List (List TC)):Bool:=rows.all fun r=>r.all fun c=>match c with| .sc _=>true|_=>false
@[irreducible] def eP (l h n:Int):Bool:=decide (0≤l∧l≤h∧h≤n)
@[irreducible] def rowAt (rows:List (List TC)) (i:Int):Option (List TC):=if 0≤i then rows[i.toNat]? else none
@[irreducible] def va (s:ByteArray) (i:Int):Option Int:=if 0≤i then(s[i.toNat]?).map fun b=>(b.toNat:Int) else none
@[irreducible] def aq (rows:List (List TC)) (l h:Int):List (List TC):=(rows.take h.toNat).drop l.toNat
@[irreducible] def kf (z:Nat) (rows:List (List TC)) (l h:Int):List (List TC):=rows.take l.toNat++List.replicate (h.toNat-l.toNat) (List.replicate z .any)++rows.drop h.toNat
@[irreducible] def mg (rows bE:List (List TC)):List (List TC):=bE.take rows.length++rows.drop bE.length
@[irreducible] def setRow (rows:List (List TC)) (i:Int) (f:Nat) (cs:List TC):List (List TC):=
  match rows[i.toNat]? with
  |some r=>rows.set i.toNat (r.take f++cs++r.drop (f+cs.length))
  |none=>rows
@[irreducible] def TH (a b:Int):Int:=if b<a then b else a
@[irreducible] def uX (n:Int):Nat:=n.toNat
@[irreducible] def JU (a b:Int):Int:=a+b
@[irreducible] def aaE (k:IntKind) (a b:Int):Int:=k.wrap (a+b)
@[irreducible] def QF (k:IntKind) (a b:Int):Int:=k.wrap (a-b)
@[irreducible] def aaF (k:IntKind) (a b:Int):Int:=k.wrap (a*b)
@[irreducible] def dW (k:IntKind) (a b:Int):Int:=k.wrap (a.tdiv b)
@[irreducible] def TJ (a b:Int):Int:=a.tmod b
@[irreducible] def ajr (k:IntKind) (a b:Int):Int:=k.wrap (a*2 ^ (min b.toNat k.bits))
@[irreducible] def ac5 (k:IntKind) (a b:Int):Int:=a.fdiv (2 ^ (min b.toNat k.bits))
@[irreducible] def FI (op:BinOp) (k:IntKind) (a b:Int):Int:=Go.bits op k a b
@[irreducible] def vV (k:IntKind) (n:Int):Int:=k.wrap n
@[irreducible] def aeo (a b:ByteArray):ByteArray:=a++b
@[irreducible] def ak1 (s:ByteArray) (l h:Int):ByteArray:=s.extract l.toNat h.toNat
def tj:List (List TC)→Option (List Int)
 |[]=>some []
 |[.sc (.int .u8 n)]::r=>(tj r).map fun ns=>n::ns
 |_=>none
@[irreducible] def tZ (rows:List (List TC)):Option (List Int):=tj rows
@[irreducible] def FJ (ns:List Int):ByteArray:=⟨(ns.map fun n:Int=>UInt8.ofNat n.toNat).toArray⟩
@[irreducible] def H7 (s:ByteArray):List (List TC):=s.data.toList.map fun b=>[TC.sc (.int .u8 b.toNat)]
abbrev one (c:CE):TE:= .v false [.mk false [c]]
abbrev S (v:Value):TE:=one (.sc v)
def m8 (o:Nat):List Nat→Bool
 |[]=>false
 |a::r=>match Nat.beq a o with|true=>true|false=>m8 o r
def Yk (o:Nat):List Nat→List Nat
 |[]=>[]
 |a::r=>match Nat.beq a o with|true=>Yk o r|false=>a::Yk o r
def w9:List Nat→List Nat→Bool
 |[],_=>false
 |a::r,l=>match m8 a l with|true=>true|false=>w9 r l
section
variable {α : Type}
def an (i:Nat):List (Nat×α)→Option α
 |[]=>none
 |(j,e)::r=>match Nat.beq j i with|true=>some e|false=>an i r
def pU (i:Nat) (e:α):List (Nat×α)→List (Nat×α)
 |[]=>[(i,e)]
 |(j,e')::r=>match Nat.beq j i with
  |true=>(i,e)::r
  |false=>match Nat.ble i j with
   |true=>(i,e)::(j,e')::r
   |false=>(j,e')::pU i e r
def rG (i:Nat):List (Nat×α)→List (Nat×α)
 |[]=>[]
 |(j,e)::r=>match Nat.beq j i with|true=>rG i r|false=>(j,e)::rG i r
def mapA (f:α→α):List (Nat×α)→List (Nat×α)
 |[]=>[]
 |(j,e)::r=>(j,f e)::mapA f r
end
def TS.get (st:TS) (i:Nat):TE:=match an i st.tm with|some e=>e|none=> .dead
def TS.set (st:TS) (i:Nat) (e:TE):TS:=⟨pU i e st.tm,st.bx,st.ob⟩
def TS.LB (st:TS) (i:Nat) (cs:List CE):TS:=⟨st.tm,pU i cs st.bx,st.ob⟩
def TS.ajs (st:TS) (i:Nat) (o:OB):TS:=⟨st.tm,st.bx,pU i o st.ob⟩
def m9 (f:CE→CE):List rF→List rF
 |[]=>[]
 | .mk a cs::r=> .mk a (cs.map f)::m9 f r
 | .ptr b::r=> .ptr b::m9 f r
def AW (f:CE→CE) (g:TE→TE):TE→TE
 | .v tup es=> .v tup (m9 f es)
 |e=>g e
def zK (f:CE→CE) (g:TE→TE) (h:List (Nat×OB)→List (Nat×OB)) (st:TS):TS:=
 ⟨mapA (AW f g) st.tm,mapA (List.map f) st.bx,h st.ob⟩
def ig:CE→List Nat
 | .ref o _=>[o]
 | .snap d _ _ _=>d
 |_=>[]
def jP:List rF→List Nat
 |[]=>[]
 | .mk _ cs::r=>cs.flatMap ig++jP r
 | .ptr _::r=>jP r
def AX:TE→List Nat
 | .v _ es=>jP es
 | .ep d _=>d
 | .er o _ _ _=>[o]
 |_=>[]
def Vr (o:Nat) (e:CE):CE:=match m8 o (ig e) with|true=> .gone|false=>e
def ab2 (o:Nat):TE→TE
 | .ep d cells=>match m8 o d with|true=> .dead|false=> .ep d cells
 | .er p path i f=>match Nat.beq p o with|true=> .dead|false=> .er p path i f
 |e=>e
def o6 (o:Nat) (st:TS):TS:=zK (Vr o) (ab2 o) (rG o) st
def aaG (o:Nat) (e:CE):CE:=match e with
 | .snap d l z rows=>match m8 o d with|true=> .gone|false=> .snap d l z rows
 |e=>e
def Wn (o:Nat):TE→TE
 | .ep d cells=>match m8 o d with|true=> .dead|false=> .ep d cells
 | .er p (some q) i f=>match Nat.beq p o with|true=> .dead|false=> .er p (some q) i f
 |e=>e
def wI (o:Nat) (b:OB) (st:TS):TS:=zK (aaG o) (Wn o) (pU o b) st
def Yl (cut:Option (Int×Int)) (rows:List (List TC)):List (List TC):=match cut with
 |none=>rows
 |some (l,h)=>aq rows l h
def ajt (o:Nat) (l:Option (Nat×Int×Nat)):Option (Nat×Int×Nat):=match l with
 |some (p,i,f)=>match Nat.beq p o with|true=>none|false=>some (p,i,f)
 |none=>none
def Qj (o:Nat) (b:OB) (e:CE):CE:=match e with
 | .ref p cut=>match Nat.beq p o with|true=> .snap [] none b.z (Yl cut b.rows)|false=> .ref p cut
 | .snap d l z rows=> .snap (Yk o d) (ajt o l) z rows
 |e=>e
def Wo (o:Nat):TE→TE
 | .ep d cells=> .ep (Yk o d) cells
 | .er p path i f=>match Nat.beq p o with|true=> .dead|false=> .er p path i f
 |e=>e
def zL (st:TS) (o:Nat):TS:=match an o st.ob with
 |some b=>zK (Qj o b) (Wo o) (rG o) st
 |none=>st
def FK (o:Nat) (b:OB) (st:TS):TS:=(o6 o st).ajs o b
def mh:List (Nat×OB)→List (Nat×OB)→List (Nat×OB)
 |[],ob=>ob
 |(i,b)::r,ob=>pU i b (mh r ob)
def u7 {α:Type}:List (Nat×α)→List Nat
 |[]=>[]
 |(o,_)::r=>o::u7 r
def G9 (l:List Nat) (e:CE):CE:=match e with
 | .snap d l' z rows=>match w9 d l with|true=> .gone|false=> .snap d l' z rows
 |e=>e
def Cx (l:List Nat):TE→TE
 | .ep d cells=>match w9 d l with|true=> .dead|false=> .ep d cells
 | .er p (some q) i f=>match m8 p l with|true=> .dead|false=> .er p (some q) i f
 |e=>e
def wJ (W:List (Nat×OB)) (st:TS):TS:=match W with
 |[]=>st
 |W=>zK (G9 (u7 W)) (Cx (u7 W)) (mh W) st
section
variable {Z : Type}
def fL {α:Type} (f:α→(α→Z)→Z):List α→(List α→Z)→Z
 |[],K=>K []
 |a::r,K=>f a fun a'=>fL f r fun r'=>K (a'::r')
def fB (b:Bool) (K:Bool→Z):Z:=match b with|true=>K true|false=>K false
def fN (n:Nat) (K:Nat→Z):Z:=K n
def aiT (p:Option (Int×Nat)) (K:Option (Int×Nat)→Z):Z:=match p with|none=>K none|some (a,b)=>K (some (a,b))
def ak2 (p:Option (Int×Int)) (K:Option (Int×Int)→Z):Z:=match p with|none=>K none|some (a,b)=>K (some (a,b))
def fAt (p:Option (Nat×Int×Nat)) (K:Option (Nat×Int×Nat)→Z):Z:=match p with|none=>K none|some (a,b,c)=>K (some (a,b,c))
def fV (v:Value) (K:Value→Z):Z:=match v with
 | .int k n=>K (.int k n)
 | .bool b=>K (.bool b)
 | .string s=>K (.string s)
 |v=>K v
def fTC (c:TC) (K:TC→Z):Z:=match c with| .sc v=>fV v fun v=>K (.sc v)| .sub z rows=>K (.sub z rows)| .any=>K .any
def fCE (e:CE) (K:CE→Z):Z:=match e with
 | .sc v=>fV v fun v=>K (.sc v)
 | .nil z=>K (.nil z)
 | .ref o cut=>ak2 cut fun cut=>K (.ref o cut)
 | .snap d l z rows=>fL fN d fun d=>fAt l fun l=>K (.snap d l z rows)
 | .gone=>K .gone
def aep (c:rF) (K:rF→Z):Z:=match c with
 | .mk a cs=>fB a fun a=>fL fCE cs fun cs=>K (.mk a cs)
 | .ptr b=>K (.ptr b)
def fTE (e:TE) (K:TE→Z):Z:=match e with
 | .dead=>K .dead
 | .v tup es=>fB tup fun tup=>fL aep es fun es=>K (.v tup es)
 | .bp b off=>K (.bp b off)
 | .ep d cells=>fL fN d fun d=>fL fTC cells fun cells=>K (.ep d cells)
 | .er r path i f=>aiT path fun path=>K (.er r path i f)
 | .fn f caps=>K (.fn f caps)
 | .kb b=>fB b fun b=>K (.kb b)
def fOB (b:OB) (K:OB→Z):Z:=match b with|⟨d,z,rows⟩=>fB d fun d=>K ⟨d,z,rows⟩
def aeq (cs:List TC) (K:List TC→Z):Z:=fL fTC cs K
def fTV (v:TV) (K:TV→Z):Z:=match v with
 | .c c=>fTC c fun c=>K (.c c)
 | .ag cs=>aeq cs fun cs=>K (.ag cs)
 | .tu vs=>fL (fun p K=>match p with|(i,cs)=>aeq cs fun cs=>K (i,cs)) vs fun vs=>K (.tu vs)
 | .bx cs=>aeq cs fun cs=>K (.bx cs)
 | .fn f caps=>K (.fn f caps)
def fTS (st:TS) (K:TS→Z):Z:=
 fL (fun p K=>match p with|(i,e)=>fTE e fun e=>K (i,e)) st.tm fun tm=>
 fL (fun p K=>match p with|(i,cs)=>fL fCE cs fun cs=>K (i,cs)) st.bx fun bx=>
 fL (fun p K=>match p with|(i,b)=>fOB b fun b=>K (i,b)) st.ob fun ob=>K ⟨tm,bx,ob⟩
end
def pV (st:TS):CE→Option (Nat×List (List TC))
 | .nil z=>some (z,[])
 | .ref o cut=>match an o st.ob with|some ⟨_,z,rows⟩=>some (z,Yl cut rows)|none=>none
 | .snap _ _ z rows=>some (z,rows)
 |_=>none
def Cy (st:TS) (e:CE):Option TC:=match e with
 | .sc v=>some (.sc v)
 |e=>match pV st e with|some (z,rows)=>some (.sub z rows)|none=>none
def xq (st:TS):List CE→Option (List TC)
 |[]=>some []
 |e::r=>match Cy st e,xq st r with
  |some c,some cs=>some (c::cs)
  |_,_=>none
def Wp (c:TC):CE:=match c with| .sc v=> .sc v| .sub z _=> .nil z| .any=> .gone
section
variable (C : mG)
def Wq (ty:TypeId):Value→TE
 | .slice none 0 0=>match(C.tt ty).ti with
   | .slice e=>one (.nil (C.tt e).size)
   |_=> .dead
 | .int k n=>S (.int k n)
 | .bool b=> .kb b
 | .string s=>S (.string s)
 |_=> .dead
def ua (st:TS) (ty:TypeId):Operand→TE
 | .tmp i=>st.get i
 | .const v=>Wq C ty v
 | .func f=> .fn f []
 | .global _=> .dead
def aer:TE→Option Value
 | .v false [.mk false [.sc v]]=>some v
 | .kb b=>some (.bool b)
 |_=>none
def asInt:TE→Option Int
 | .v false [.mk false [.sc (.int _ n)]]=>some n
 |_=>none
def zy:TE→Option CE
 | .v false [.mk false [e]]=>some e
 | .kb b=>some (.sc (.bool b))
 |_=>none
def He:TE→Option (List CE)
 | .v false [.mk _ cs]=>some cs
 | .kb b=>some [.sc (.bool b)]
 |_=>none
def aes (op:BinOp):Value→Value→Option Value
 | .int k a,.int k' b=>
   match op with
   | .shl=>if 0≤b then some (.int k (ajr k a b)) else none
   | .shr=>if 0≤b then some (.int k (ac5 k a b)) else none
   |_=>if k=k' then
    match op with
    | .add=>some (.int k (aaE k a b))
    | .sub=>some (.int k (QF k a b))
    | .mul=>some (.int k (aaF k a b))
    | .and=>some (.int k (FI .and k a b))
    | .or=>some (.int k (FI .or k a b))
    | .xor=>some (.int k (FI .xor k a b))
    | .eql=>some (.bool (cO a b))
    | .neq=>some (.bool (!cO a b))
    | .lss=>some (.bool (cP a b))
    | .leq=>some (.bool (qC a b))
    | .gtr=>some (.bool (cP b a))
    | .geq=>some (.bool (qC b a))
    |_=>none
    else none
 | .string a,.string b=>match op with
   | .eql=>some (.bool (FE a b))
   | .neq=>some (.bool (!FE a b))
   | .lss=>some (.bool (LA a b))
   | .leq=>some (.bool (LA a b||FE a b))
   | .gtr=>some (.bool (!(LA a b||FE a b)))
   | .geq=>some (.bool (!LA a b))
   |_=>none
 |_,_=>none
def zM:List Nat→List CE→List CE→Option Bool
 |[],[],[]=>some true
 |1::ks,.sc (.int k a)::r,.sc (.int k' b)::r'=>if k=k' then(match zM ks r r' with|some q=>some (cO a b&&q)|none=>none) else none
 |2::ks,.sc (.bool a)::r,.sc (.bool b)::r'=>match zM ks r r' with|some q=>some (eqB a b&&q)|none=>none
 |3::ks,.sc (.string a)::r,.sc (.string b)::r'=>match zM ks r r' with|some q=>some (FE a b&&q)|none=>none
 |_,_,_=>none
def JV (t:TypeId):Bool:=match(C.tt t).ti with| .struct _=>true|_=>false
def rH (t:TypeId) (f:Nat):Option (Nat×TypeId):=match(C.tt t).ti with| .struct fs=>fs[f]?|_=>none
def ahi (t:TypeId) (f:Nat):TypeId:=match rH C t f with|some (_,ft)=>ft|none=>0
def AY (t:TypeId):Option TypeId:=match(C.tt t).ti with| .slice e=>some e|_=>none
def ajv (ds:List Nat) (loc:Option (Nat×Int×Nat)) (j:Nat) (c:TC):CE:=
 match c with
 | .sc v=> .sc v
 | .sub z rows=> .snap ds (match loc with|some (o,i,f)=>some (o,i,f+j)|none=>none) z rows
 | .any=> .gone
def Cz (ds:List Nat) (loc:Option (Nat×Int×Nat)):Nat→List TC→List CE
 |_,[]=>[]
 |j,c::r=>ajv ds loc j c::Cz ds loc (j+1) r
def known (i:mK):Bool:=match i.ti with| .other=>false|_=>true
def AZ (i:mK):Bool:=match i.ti with| .other=>false| .ptr _=>false|_=>true
def aet (t:TypeId) (xs:List CE):TE:= .v false [.mk (JV C t) xs]
variable {R : Type}
def H8 (t:TypeId) (xs:List CE) (K:TE→Ev R):Ev R:=match known (C.tt t),Nat.beq xs.length (C.tt t).size with
 |true,true=>K (aet C t xs)
 |_,_=> .fail
def Ws (e:TypeId) (z:Nat):Bool:=match known (C.tt e) with|true=>Nat.beq z (C.tt e).size|false=>false
def ab3 (st:TS) (o:Nat) (path:Option (Int×Nat)) (i:Int) (f:Nat) (K:List TC→Ev R):Ev R:=
 match an o st.ob with
 |some ⟨_,_,rows⟩=>match path with
  |none=> .row rows i fun row=>K (row.drop f)
  |some (i0,f0)=> .row rows i0 fun row0=>match row0[f0]? with
   |some (.sub _ r5)=> .row r5 i fun row=>K (row.drop f)
   |_=> .fail
 |none=> .fail
def H9 (st:TS) (t:TypeId) (e:TE) (K:TE→Ev R):Ev R:=
 match e with
 | .bp b off=>match an b st.bx with
   |some cs=>H8 C t ((cs.drop off).take (C.tt t).size) K
   |none=> .fail
 | .ep ds cells=>H8 C t (Cz ds none 0 (cells.take (C.tt t).size)) K
 | .er o path i f=>ab3 st o path i f fun cells=>
     H8 C t (Cz [o] (match path with|none=>some (o,i,f)|some _=>none) 0 (cells.take (C.tt t).size)) K
 |_=> .fail
def CB (t:TypeId):List (Nat×TE)→List CE→Option (List CE)
 |[],cs=>some cs
 |(f,e)::r,cs=>match rH C t f,He e with
  |some (off,ft),some c=>match Nat.beq c.length (C.tt ft).size with
   |true=>CB t r (cs.take off++c++cs.drop (off+c.length))
   |false=>none
  |_,_=>none
def Qk (st:TS):List Operand→Option (List Nat)
 |[]=>some []
 |x::r=>match ua C st 0 x,Qk st r with
  | .bp b 0,some bs=>some (b::bs)
  |_,_=>none
def bound (st:TS) (d:Int):Option Operand→Option Int
 |none=>some d
 |some a=>asInt (ua C st 0 a)
def plain:TE→TE
 | .kb b=>S (.bool b)
 |e=>e
def aeu (e:CE) (l h:Int):CE:=match e with
 | .nil z=> .nil z
 | .ref o none=> .ref o (some (l,h))
 | .ref o (some (a,_))=> .ref o (some (JU a l,JU a h))
 | .snap ds _ z rows=> .snap ds none z (aq rows l h)
 |e=>e
def aev (e:CE) (n:Int) (cells:List TC):TE:=match e with
 | .ref o none=> .er o none n 0
 | .ref o (some _)=> .ep [o] cells
 | .snap _ (some (o,i,f)) _ _=> .er o (some (i,f)) n 0
 | .snap ds none _ _=> .ep ds cells
 |_=> .dead
def Ql (t:TypeId):Bool:=match(C.tt t).ti with| .bool=>true|_=>false
def ajw (bt:Bool) (op:BinOp) (a b:Value) (K:TE→Ev R):Ev R:=match op,a,b with
 | .eql,.bool p,.bool q=>match bt with|true=>K (S (.bool (eqB p q)))|false=> .fail
 | .neq,.bool p,.bool q=>match bt with|true=>K (S (.bool (!eqB p q)))|false=> .fail
 | .rem,.int k p,.int k' q=>if k=k' then .test (cO q 0) fun z=>match z with
     |false=>K (S (.int k (TJ p q)))
     |true=> .fail
   else .fail
 | .quo,.int k p,.int k' q=>if k=k' then .test (cO q 0) fun z=>match z with
     |false=>K (S (.int k (dW k p q)))
     |true=> .fail
   else .fail
 | .add,.string p,.string q=> .test (fits (p.size+q.size) 1) fun z=>match z with
   |true=>K (S (.string (aeo p q)))
   |false=> .fail
 |_,_,_=>match aes op a b with
  |some v=>K (S v)
  |none=> .fail
def ajx (st:TS) (t:TypeId) (e:CE) (K:Value→Ev R):Ev R:=match(C.tt t).ti,e with
 | .str,.sc (.string s)=>K (.int .i64 s.size)
 | .slice _,e=>match pV st e with
   |some (_,rows)=>K (.int .i64 rows.length)
   |none=> .fail
 |_,_=> .fail
def jx (st:TS) (o:Oper) (K:TE→Ev R):Ev R:=
 match o.op with
 | .move x=>K (ua C st o.type x)
 | .assign x=>K (ua C st o.type x)
 | .pick c a b=>match ua C st o.type c with
   | .kb p=>match p with
     |true=>K (ua C st o.type a)
     |false=>K (ua C st o.type b)
   |_=> .fail
 | .load t a=>H9 C st t (ua C st 0 a) K
 | .nilCheck x=>match ua C st 0 x with
   | .bp b off=>K (.bp b off)
   | .ep d c=>K (.ep d c)
   | .er r p i f=>K (.er r p i f)
   |_=> .fail
 | .binOp op t x y _=>match plain (ua C st t x),plain (ua C st t y) with
   | .v false [.mk false [.sc a]],.v false [.mk false [.sc b]]=>ajw (Ql C t) op a b K
   | .v false [.mk true xs],.v false [.mk true ys]=>match known (C.tt t),(C.tt t).eqs with
     |false,_=> .fail
     |true,[]=> .fail
     |true,k::ks=>match op,zM (k::ks) xs ys with
      | .eql,some b=>K (S (.bool b))
      | .neq,some b=>K (S (.bool (!b)))
      |_,_=> .fail
   |_,_=> .fail
 | .unOp op _ x=>match op,ua C st o.type x with
   | .not,.kb b=>match b with|true=>K (.kb false)|false=>K (.kb true)
   | .not,.v false [.mk false [.sc (.bool b)]]=>K (S (.bool (!b)))
   | .neg,.v false [.mk false [.sc (.int k n)]]=>K (S (.int k (QF k 0 n)))
   |_,_=> .fail
 | .convert src dst x=>match(C.tt dst).ti,(C.tt src).ti,ua C st src x with
   | .int k,.int _,.v false [.mk false [.sc (.int _ n)]]=>K (S (.int k (vV k n)))
   | .str,.str,.v false [.mk false [.sc (.string s)]]=>K (S (.string s))
   | .str,.slice et,.v false [.mk false [e]]=>match(C.tt et).ti,pV st e with
     | .int .u8,some (_,rows)=> .bytes rows fun ns=>K (S (.string (FJ ns)))
     |_,_=> .fail
   |_,_,_=> .fail
 | .fieldAddr s x f=>match rH C s f,ua C st 0 x with
   |some (off,_),.bp b o=>K (.bp b (o+off))
   |some (off,_),.ep d cells=>K (.ep d (cells.drop off))
   |some (off,_),.er r p i g=>K (.er r p i (g+off))
   |_,_=> .fail
 | .field t x f=>match rH C t f,ua C st t x with
   |some (off,ft),.v false [.mk true cs]=>H8 C ft ((cs.drop off).take (C.tt ft).size) K
   |_,_=> .fail
 | .indexAddr t x i=>match AY C t,zy (ua C st t x),asInt (ua C st 0 i) with
   |some et,some e,some n=>match pV st e with
    |some (z,rows)=>match Ws C et z with
     |true=> .row rows n fun cells=>K (aev e n cells)
     |false=> .fail
    |none=> .fail
   |_,_,_=> .fail
 | .index t x i=>match(C.tt t).ti,aer (ua C st t x),asInt (ua C st 0 i) with
   | .str,some (.string s),some n=> .byte s n fun b=>K (S (.int .u8 b))
   |_,_,_=> .fail
 | .slice t x lo hi mx=>match mx,(C.tt t).ti,zy (ua C st t x) with
   |none,.str,some (.sc (.string s))=>match bound C st 0 lo,bound C st s.size hi with
    |some l,some h=> .test (eP l h s.size) fun z=>match z with
     |true=>K (S (.string (ak1 s l h)))
     |false=> .fail
    |_,_=> .fail
   |none,.slice et,some e=>match pV st e with
    |some (z,rows)=>match Ws C et z,bound C st 0 lo,bound C st rows.length hi with
     |true,some l,some h=> .test (eP l h rows.length) fun b=>match b with
      |true=>K (one (aeu e l h))
      |false=> .fail
     |_,_,_=> .fail
    |none=> .fail
   |_,_,_=> .fail
 | .extract x i=>match ua C st 0 x with
   | .v true es=>match es[i]? with
     |some (.mk a cs)=>K (.v false [.mk a cs])
     |some (.ptr b)=>K (.bp b 0)
     |none=> .fail
   |_=> .fail
 | .build t ps=>match JV C t,CB C t (ps.toList.map fun p=>(p.1,ua C st (ahi C t p.1) p.2)) ((C.tt t).zero.map Wp) with
   |true,some cs=>K (.v false [.mk true cs])
   |_,_=> .fail
 | .makeFunc fn first caps=>match fn,first.toList,Qk C st caps.toList with
   | .func f,[],some bs=>K (.fn f bs)
   |_,_,_=> .fail
 | .call {callee:= .builtin .len,args,argTypes}=>match args.toList,argTypes.toList with
   |[x],[t]=>match zy (ua C st t x) with
    |some e=>ajx C st t e fun v=>K (S v)
    |none=> .fail
   |_,_=> .fail
 | .call {callee:= .builtin .min,args,argTypes}=>match args.toList,argTypes.toList with
   |[x,y],t::_=>match aer (ua C st t x),asInt (ua C st t y) with
    |some (.int k a),some b=>K (S (.int k (TH a b)))
    |_,_=> .fail
   |_,_=> .fail
 |_=> .fail
def qk (e:CE) (st:TS):Option (TC×TS×Bool):=
 match e with
 | .sc v=>some (.sc v,st,true)
 | .nil z=>some (.sub z [],st,true)
 | .ref o cut=>match an o st.ob with
   |some ⟨d,z,rows⟩=>some (.sub z (Yl cut rows),o6 o st,d)
   |none=>none
 | .snap [] _ z rows=>some (.sub z rows,st,false)
 |_=>none
def QG:List CE→TS→Option (List TC×TS×Bool)
 |[],st=>some ([],st,true)
 |e::r,st=>match qk e st with
  |some (c,eM,d1)=>match QG r eM with
   |some (cs,qf,d2)=>some (c::cs,qf,d1&&d2)
   |none=>none
  |none=>none
def rowsOf (st:TS) (ty:TypeId):List (Nat×Operand)→Nat→Option (List (List TC)×TS×Bool)
 |[],_=>some ([],st,true)
 |(i,x)::r,n=>match Nat.beq i n,He (ua C st ty x) with
  |true,some cs=>match Nat.beq cs.length (C.tt ty).size,QG cs st with
   |true,some (cs',eM,d1)=>match rowsOf eM ty r (n+1) with
    |some (rs,qf,d2)=>some (cs'::rs,qf,d1&&d2)
    |none=>none
   |_,_=>none
  |_,_=>none
def uY (d k j:Nat):Nat:=1000+400*d+20*k+j
def bid (b j:Nat):Nat:=1000000000+100*b+j
def Bl (b:Nat):Bool:=match Nat.ble 200000 b with|true=>Nat.ble 300000 b|false=>true
def aiU (b:Nat):rF→Bool
 | .ptr c=>Nat.beq c b
 | .mk _ _=>false
def QH (b:Nat):TE→Bool
 | .bp c _=>Nat.beq c b
 | .fn _ caps=>m8 b caps
 | .v _ es=>es.any (aiU b)
 |_=>false
def Vs (b:Nat) (st:TS):TS:=⟨mapA (fun e=>match QH b e with|true=> .dead|false=>e) st.tm,rG b st.bx,st.ob⟩
def LC (b:Nat) (cs:List CE) (st:TS):TS:=(Vs b st).LB b cs
def setCells (f:Nat) (cs:List TC) (rows:List (List TC)) (i:Int):List (List TC):=setRow rows i f cs
def QI (o:Nat) (e:CE):CE:=match e with
 | .snap d (some (p,i,f)) z rows=>match Nat.beq p o with|true=> .snap [] none z rows|false=> .snap d (some (p,i,f)) z rows
 |e=>e
def aiV (o:Nat):TE→TE
 | .er p (some q) i f=>match Nat.beq p o with|true=> .dead|false=> .er p (some q) i f
 |e=>e
def TK (b:OB):OB:=⟨false,b.z,b.rows⟩
def Bq (o:Nat) (st:TS):TS:=match an o st.ob with
 |some b=>zK (QI o) (aiV o) (pU o (TK b)) st
 |none=>st
def aaH (o:Nat):List CE→Bool
 |[]=>false
 | .snap _ (some (p,_,_)) _ _::r=>match Nat.beq p o with|true=>true|false=>aaH o r
 |_::r=>aaH o r
def JW (o:Nat) (path:Option (Int×Nat)) (i:Int) (f:Nat) (cs:List CE) (st:TS) (K:TS→Ev R):Ev R:=
 match QG cs st with
 |some (ts,eM,d1)=>match an o eM.ob with
  |some ⟨d,z,rows⟩=>match path with
   |none=> .row rows i fun row=>match Nat.ble (f+ts.length) row.length with
    |true=>K (wJ [(o,⟨d&&d1,z,setRow rows i f ts⟩)] eM)
    |false=> .fail
   |some (i0,f0)=>match d,d1 with
    |true,true=> .row rows i0 fun row0=>match row0[f0]? with
     |some (.sub z1 r5)=> .row r5 i fun row=>match Nat.ble (f+ts.length) row.length with
      |true=>K (wJ [(o,⟨true,z,setRow rows i0 f0 [.sub z1 (setRow r5 i f ts)]⟩)] eM)
      |false=> .fail
     |_=> .fail
    |_,_=> .fail
  |none=> .fail
 |none=> .fail
def Qm:List CE→Bool
 |[]=>false
 | .gone::_=>true
 |_::r=>Qm r
def QJ (b off:Nat) (cs:List CE) (st:TS):Option TS:=
 match an b st.bx with
 |some old=>match Bl b&& !Qm cs,Nat.ble (off+cs.length) old.length with
  |true,true=>some (st.LB b (old.take off++cs++old.drop (off+cs.length)))
  |_,_=>none
 |none=>none
def A4 (st:TS) (e:CE):Option (Option Nat×Nat×Bool×List (List TC)):=
 match e with
 | .nil z=>some (none,z,true,[])
 | .ref o cut=>match an o st.ob with
   |some ⟨d,z,rows⟩=>some (some o,z,d,Yl cut rows)
   |none=>none
 |_=>none
def p7 (o:Option Nat) (st:TS):TS:=match o with|some o=>o6 o st|none=>st
def zz (d:Nat) (b:OB) (st:TS):TS:=(FK (uY d 0 0) b st).set d (one (.ref (uY d 0 0) none))
def LD (e:TypeId) (z:Nat):Bool:=match AZ (C.tt e) with|true=>Nat.beq z (C.tt e).size|false=>false
def IK (g o':Nat) (b:OB) (l h:Int) (st:TS):TS:=FK g ⟨true,1,[]⟩ (wI o' ⟨b.deep,b.z,kf b.z b.rows l h⟩ st)
def aaI (d:Nat) (o:Option Nat) (dp:Bool) (cx:CE) (st:TS):Option (Nat×List (List TC)×TS):=match cx with
 | .ref o' (some (l,h))=>match dp,an o' st.ob,(match o with|some o=>Nat.beq o o'||Nat.beq o (uY d 1 0)|none=>false)||Nat.beq o' (uY d 1 0) with
   |true,some ⟨true,z,rows⟩,false=>some (z,aq rows l h,o6 (uY d 1 0) (p7 o (IK (uY d 1 0) o' ⟨true,z,rows⟩ l h st)))
   |_,_,_=>none
 |_=>none
def aew (st:TS) (cx:CE):Option (Nat×List (List TC)):=match cx with
 | .ref o' cut=>match an o' st.ob with
   |some ⟨false,z,rows⟩=>some (z,Yl cut rows)
   |_=>none
 |_=>none
def ab4 (st:TS) (d:Nat) (t t':TypeId) (s:TE) (x:TE) (K:TS→Ev R):Ev R:=
 match AY C t,zy s,zy x with
 |some e,some cs,some cx=>match A4 st cs,(C.tt t').ti with
  |some (o,z,dp,rows),.str=>match LD C e z,Nat.beq z 1,cx with
   |true,true,.sc (.string b)=> .test (fits (rows.length+b.size) (C.tt e).bytes) fun q=>match q with
    |true=>K (zz d ⟨dp,z,rows++H7 b⟩ (p7 o st))
    |false=> .fail
   |_,_,_=> .fail
  |some (o,z,dp,rows),.slice _=>match LD C e z with
   |false=> .fail
   |true=>match(C.tt e).flat with
     |true=>match pV st cx with
      |some (z',bE)=>match Nat.beq z z' with
       |true=> .test (bF bE&&fits (rows.length+bE.length) (C.tt e).bytes) fun q=>match q with
        |true=>K (zz d ⟨dp,z,rows++bE⟩ (p7 o st))
        |false=> .fail
       |false=> .fail
      |none=> .fail
     |false=>match aaI d o dp cx st with
      |some (z',bE,eM)=>match Nat.beq z z' with
        |true=> .test (fits (rows.length+bE.length) (C.tt e).bytes) fun q=>match q with
         |true=>K (zz d ⟨dp,z,rows++bE⟩ eM)
         |false=> .fail
        |false=> .fail
      |none=>match aew st cx with
       |some (z',bE)=>match Nat.beq z z' with
        |true=> .test (fits (rows.length+bE.length) (C.tt e).bytes) fun q=>match q with
         |true=>K (zz d ⟨false,z,rows++bE⟩ (p7 o st))
         |false=> .fail
        |false=> .fail
       |none=>match qk cx (p7 o st) with
       |some (.sub z' bE,eM,d1)=>match Nat.beq z z' with
        |true=> .test (fits (rows.length+bE.length) (C.tt e).bytes) fun q=>match q with
         |true=>K (zz d ⟨dp&&d1,z,rows++bE⟩ eM)
         |false=> .fail
        |false=> .fail
       |_=> .fail
  |_,_=> .fail
 |_,_,_=> .fail
def aiW (st:TS) (d:Option Nat) (t:TypeId) (s:TE) (x:TE) (K:TS→Ev R):Ev R:=
 match AY C t,zy s,zy x with
 |some e,some (.ref o none),some cx=>match an o st.ob,pV st cx,AZ (C.tt e) with
  |some ⟨true,z,rows⟩,some (z',bE),true=>match Nat.beq z z'&&Nat.beq z (C.tt e).size with
   |true=> .test (bF bE) fun q=>match q with
    |true=>match d with
     |some d=>K ((wI o ⟨true,z,mg rows bE⟩ st).set d (one (.sc (.int .i64 (Int.ofNat (qj bE.length rows.length))))))
     |none=>K (wI o ⟨true,z,mg rows bE⟩ st)
    |false=> .fail
   |false=> .fail
  |_,_,_=> .fail
 |_,_,_=> .fail
def Wt (st:TS):List Nat→Option (List (List TC))
 |[]=>some []
 |b::r=>match an b st.bx with
  |some cs=>match xq st cs,Wt st r with
   |some c,some cs=>some (c::cs)
   |_,_=>none
  |none=>none
def aex (st:TS) (e:TE) (K:TV→Ev R):Ev R:=
 match e with
 | .v false [.mk a cs]=>match xq st cs with
   |some ts=>match a,ts with
    |true,ts=>K (.ag ts)
    |false,[c]=>K (.c c)
    |_,_=> .fail
   |none=> .fail
 | .kb b=>K (.c (.sc (.bool b)))
 | .bp b off=>match an b st.bx with
   |some cs=>match xq st (cs.drop off) with
    |some ts=>K (.bx ts)
    |none=> .fail
   |none=> .fail
 | .ep _ (c::cells)=>K (.bx (c::cells))
 | .er r p i f=>ab3 st r p i f fun cells=>match cells with
   |[]=> .fail
   |c::cells=>K (.bx (c::cells))
 | .fn f caps=>match Wt st caps with
   |some xs=>K (.fn f xs)
   |none=> .fail
 |_=> .fail
def Ym (st:TS):List TE→(List TV→Ev R)→Ev R
 |[],K=>K []
 |e::r,K=>aex st e fun v=>Ym st r fun vs=>K (v::vs)
def CC (st:TS) (b:Nat):List Nat:=match an b st.bx with
 |some cs=>(2*b+1)::(cs.flatMap ig).map (2* ·)
 |none=>[2*b+1]
def uc (st:TS):TE→List Nat
 | .v _ es=>(jP es).map (2* ·)
 | .ep d _=>d.map (2* ·)
 | .er o _ _ _=>[2*o]
 | .bp b _=>CC st b
 | .fn _ caps=>caps.flatMap (CC st)
 |_=>[]
def zN (st:TS) (o:Nat):Bool:=match an o st.ob with|some ⟨true,_,_⟩=>true|_=>false
def LF (st:TS) (o:Nat):Bool:=match an o st.ob with|some ⟨false,_,_⟩=>true|_=>false
def ud (st:TS) (c:Bool):List Mode→List CE→Option (List Nat)
 |_,[]=>some []
 |ms,e::r=>match ud st c (ms.drop 1) r with
  |some l=>match ms.headD .deep,e with
   |_,.sc _=>some l
   |_,.nil _=>some l
   | .snap,.snap [] none _ _=>some l
   | .snap,_=>none
   | .top,.ref o none=>match LF st o with|true=>some ((2*o)::l)|false=>none
   | .top,_=>none
   |_,.ref o none=>match zN st o with|true=>some ((2*o)::l)|false=>none
   |_,.ref o (some _)=>match c,zN st o with|true,true=>some ((2*o)::l)|_,_=>none
   |_,.snap _ (some (o,_,_)) _ _=>match c,zN st o with|false,true=>some ((2*o)::l)|_,_=>none
   |_,_=>none
  |none=>none
def sJ (st:TS) (c:Bool) (ms:List Mode) (e:TE):Option (List Nat):=match e with
 | .v false [.mk _ cs]=>match c,ms with|true,ms=>ud st true ms cs|false,[]=>ud st false [] cs|_,_=>none
 | .bp b 0=>match c,Bl b,an b st.bx with
   |false,true,some cs=>match ud st true ms cs with
    |some l=>some ((2*b+1)::l)
    |none=>none
   |_,_,_=>none
 |_=>none
def bY.ms:bY→List Mode
 | .inout ms=>ms
 | .consume ms=>ms
 |_=>[]
def IL:List Nat→Bool
 |[]=>true
 |a::r=>match m8 a r with|true=>false|false=>IL r
def CF (st:TS):List bY→List TE→Option (List Nat×List Nat)
 |[],[]=>some ([],[])
 |p::ps,e::es=>match CF st ps es with
  |some (own,rd)=>match p with
   | .borrow=>some (own,uc st e++rd)
   | .inout ms=>match sJ st false ms e with|some l=>some (l++own,rd)|none=>none
   | .consume ms=>match sJ st true ms e with|some l=>some (l++own,rd)|none=>none
  |none=>none
 |_,_=>none
def xu:List CE→TS→TS
 |[],st=>st
 | .ref o _::r,st=>xu r (o6 o st)
 |_::r,st=>xu r st
def ve (st:TS) (e:CE) (c:TC):Option (List (Nat×OB)):=
 match e,c with
 | .sc _,.sc _=>some []
 | .nil _,.sub _ []=>some []
 | .ref o none,.sub z rows=>match an o st.ob with
   |some ⟨true,z0,_⟩=>match Nat.beq z z0 with|true=>some [(o,⟨true,z,rows⟩)]|false=>none
   |_=>none
 | .snap _ (some (o,i,f)) z0 _,.sub z' bE=>match an o st.ob,Nat.beq z' z0 with
   |some ⟨true,z,rows⟩,true=>some [(o,⟨true,z,setRow rows i f [.sub z' bE]⟩)]
   |_,_=>none
 |_,_=>none
def Qn (st:TS):List CE→List TC→Option (List (Nat×OB))
 |[],[]=>some []
 |e::r,c::cs=>match ve st e c,Qn st r cs with
  |some a,some b=>some (a++b)
  |_,_=>none
 |_,_=>none
def cD (f:Nat→Nat):List Mode→Nat→List TC→TS→List CE×TS
 |_,_,[],st=>([],st)
 |ms,j,c::cs,st=>match c with
  | .sc v=>match cD f (ms.drop 1) (j+1) cs st with|(r,st')=>(.sc v::r,st')
  | .sub z rows=>match ms.headD .snap with
    | .snap=>match cD f (ms.drop 1) (j+1) cs st with|(r,st')=>(.snap [] none z rows::r,st')
    | .top=>match cD f (ms.drop 1) (j+1) cs (FK (f j) ⟨false,z,rows⟩ st) with|(r,st')=>(.ref (f j) none::r,st')
    | .deep=>match cD f (ms.drop 1) (j+1) cs (FK (f j) ⟨true,z,rows⟩ st) with|(r,st')=>(.ref (f j) none::r,st')
  | .any=>match cD f (ms.drop 1) (j+1) cs st with|(r,st')=>(.gone::r,st')
def vW (rC:TS):List bY→List TE→TS→TS
 |p::ps,e::es,st=>match p,e with
  | .consume _,.v false [.mk _ cs]=>vW rC ps es (xu cs st)
  | .inout _,.bp b _=>match an b rC.bx with
    |some cs=>vW rC ps es ⟨(xu cs st).tm,rG b (xu cs st).bx,(xu cs st).ob⟩
    |none=>vW rC ps es st
  |_,_=>vW rC ps es st
 |_,_,st=>st
def xw (st:TS):List bY→List TE→List TV→Option (List (Nat×OB)×List (Nat×List Mode×List TC))
 |p::ps,e::es,fs=>match p with
  | .inout ms=>match e,fs with
    | .v false [.mk false [e]],.c c::fs=>match ve st e c,xw st ps es fs with
      |some a,some (b,bs)=>some (a++b,bs)
      |_,_=>none
    | .v false [.mk true cs],.ag ts::fs=>match Qn st cs ts,xw st ps es fs with
      |some a,some (b,bs)=>some (a++b,bs)
      |_,_=>none
    | .bp b 0,.bx ts::fs=>match an b st.bx,xw st ps es fs with
      |some cs,some (a,bs)=>match Nat.beq cs.length ts.length with|true=>some (a,(b,ms,ts)::bs)|false=>none
      |_,_=>none
    |_,_=>none
  |_=>xw st ps es fs
 |[],[],[]=>some ([],[])
 |_,_,_=>none
def Yn:List Mode→List TC→List Mode
 |_,[]=>[]
 |ms,_::r=>(match ms.headD .deep with| .snap=> .snap|_=> .deep)::Yn (ms.drop 1) r
def JX:List (Nat×List Mode×List TC)→TS→TS
 |[],st=>st
 |(b,ms,ts)::r,st=>match cD (bid b) (Yn ms ts) 0 ts st with
  |(cs,st')=>JX r (st'.LB b cs)
def vf (st:TS):List Nat→TS
 |[]=>st
 |o::r=>vf (zL st o) r
def FL (st:TS):TE→List Nat
 | .bp b _=>match an b st.bx with|some cs=>cs.flatMap ig|none=>[]
 | .fn _ caps=>caps.flatMap fun b=>match an b st.bx with|some cs=>cs.flatMap ig|none=>[]
 |e=>AX e
def borrowed (st:TS):List bY→List TE→List Nat
 | .borrow::ps,e::es=>FL st e++borrowed st ps es
 |_::ps,_::es=>borrowed st ps es
 |_,_=>[]
def xx (d k:Nat):Nat:=400000+20*d+k
def iW (d:Nat):Nat→List (List Mode)→List (Nat×List TC)→TS→List rF×TS
 |_,_,[],st=>([],st)
 |k,ms,(a,cs)::r,st=>match cD (uY d k) (ms.headD []) 0 cs st with
  |(cs',st')=>match Nat.beq a 2 with
   |true=>match iW d (k+1) (ms.drop 1) r (LC (xx d k) cs' st') with
    |(es,Nw)=>(.ptr (xx d k)::es,Nw)
   |false=>match iW d (k+1) (ms.drop 1) r st' with
    |(es,Nw)=>(.mk (Nat.beq a 1) cs'::es,Nw)
def Hf:List (Nat×List TC)→Bool
 |[]=>true
 |(_,cs)::r=>match Nat.ble cs.length 20 with|true=>Hf r|false=>false
def aey (d:Nat) (ms:List (List Mode)) (v:TV) (st:TS):Option TS:=
 match v with
 | .c c=>match cD (uY d 0) (ms.headD []) 0 [c] st with|(cs,st')=>some (st'.set d (.v false [.mk false cs]))
 | .ag cs=>match cD (uY d 0) (ms.headD []) 0 cs st with|(cs,st')=>some (st'.set d (.v false [.mk true cs]))
 | .tu vs=>match Hf vs with
   |true=>match iW d 0 ms vs st with|(es,st')=>some (st'.set d (.v true es))
   |false=>none
 | .bx cs=>match cD (uY d 0) (ms.headD []) 0 cs st with|(cs',st')=>some ((LC (xx d 0) cs' st').set d (.bp (xx d 0) 0))
 |_=>none
def zO:TV→Bool
 | .c _=>true
 | .ag cs=>Nat.ble cs.length 16
 | .bx cs=>Nat.ble cs.length 16
 | .fn _ caps=>Nat.ble caps.length 900
 | .tu _=>false
def rI:List TV→Bool
 |[]=>true
 |v::r=>match zO v with|true=>rI r|false=>false
def yj (vs:List TV):Bool:=match Nat.ble vs.length 50 with|true=>rI vs|false=>false
def FM (sh:Bool) (st:TS) (ps:List bY) (es:List TE):TS:=match sh with
 |true=>vf (vW st ps es st) (borrowed st ps es)
 |false=>vW st ps es st
def qD:List Mode→List TC→Bool
 |_,[]=>true
 |ms,.sc _::r=>qD (ms.drop 1) r
 |ms,.sub _ _::r=>match ms.headD .snap with| .deep=>qD (ms.drop 1) r|_=>false
 |ms,.any::r=>match ms.headD .snap with| .deep=>qD (ms.drop 1) r|_=>false
def Qo:List (List Mode)→List (Nat×List TC)→Bool
 |_,[]=>true
 |ms,(_,cs)::r=>match qD (ms.headD []) cs with|true=>Qo (ms.drop 1) r|false=>false
def ab5 (ms:List (List Mode)):TV→Bool
 | .c c=>qD (ms.headD []) [c]
 | .ag cs=>qD (ms.headD []) cs
 | .bx cs=>qD (ms.headD []) cs
 | .tu vs=>Qo ms vs
 | .fn _ _=>false
def Wu:List bY→Bool
 |[]=>true
 | .inout (_::_)::_=>false
 |_::r=>Wu r
def aez:List bY→Bool
 |[]=>true
 | .inout (_::_)::_=>false
 | .consume (_::_)::_=>false
 |_::r=>aez r
def aaJ (g:Sig) (r:TV):Bool:=match g.shares with
 |true=>true
 |false=>match Wu g.ps with|true=>ab5 g.res r|false=>false
def JY (d:Option Tmp) (f:FuncId) (es:List TE) (st:TS) (K:TS→Ev R):Ev R:=
 match CF st (C.sig f).ps es with
 |some (own,rd)=>match IL own,w9 own rd,(C.sig f).shares&&m8 0 rd with
  |true,false,false=>Ym st es fun vs=>match yj vs with
   |true=> .call f vs fun r fs=>match aaJ (C.sig f) r with
    |false=> .fail
    |true=>match xw st (C.sig f).ps es fs with
     |some (W,B)=>fTS (JX B (wJ W (FM (C.sig f).shares st (C.sig f).ps es))) fun qf=>match d with
      |some d=>match aey d (C.sig f).res r qf with
       |some st4=>K st4
       |none=> .fail
      |none=>K qf
     |none=> .fail
   |false=> .fail
  |_,_,_=> .fail
 |none=> .fail
def JZ (st:TS):List Operand→List TypeId→List TE
 |x::xs,t::ts=>ua C st t x::JZ st xs ts
 |_,_=>[]
def Vt (st:TS) (o:Oper) (K:TS→Ev R):Ev R:=match o.dst with
 |some d=>jx C st o fun e=>K (st.set d e)
 |none=> .fail
def ql (st:TS) (o:Oper) (K:TS→Ev R):Ev R:=
 match o.op with
 | .alloc t=>match o.dst,AZ (C.tt t) with
   |some d,true=>match Bl d with
    |true=>K ((LC d ((C.tt t).zero.map Wp) st).set d (.bp d 0))
    |false=> .fail
   |_,_=> .fail
 | .box t x=>match o.dst,He (ua C st t x) with
   |some d,some cs=>match Bl d with
    |true=>K ((LC d cs st).set d (.bp d 0))
    |false=> .fail
   |_,_=> .fail
 | .store t a x=>match o.dst,known (C.tt t),He (ua C st t x) with
   |none,true,some cs=>match Nat.beq cs.length (C.tt t).size,ua C st 0 a with
    |true,.bp b off=>match QJ b off cs st with
     |some st'=>K st'
     |none=> .fail
    |true,.er r none i f=>match aaH r cs with
     |true=>JW r none i f (cs.map (QI r)) (Bq r st) K
     |false=>JW r none i f cs st K
    |true,.er r p i f=>JW r p i f cs st K
    |_,_=> .fail
   |_,_,_=> .fail
 | .buildSlice t n ps=>match o.dst,AY C t with
   |some d,some e=>match Nat.beq n ps.size&&Nat.ble (n*(C.tt e).size) 16777216&&AZ (C.tt e),rowsOf C st e ps.toList 0 with
    |true,some (rs,st',dp)=>K (zz d ⟨dp,(C.tt e).size,rs⟩ st')
    |_,_=> .fail
   |_,_=> .fail
 | .makeSlice t l c=>match o.dst,AY C t,asInt (ua C st 3 l),asInt (ua C st 3 c) with
   |some d,some e,some n,some n'=> .test (AZ (C.tt e)&&cO n n'&&qC 0 n&&fits (uX n) (C.tt e).bytes) fun z=>match z with
    |true=>K (zz d ⟨true,(C.tt e).size,List.replicate (uX n) (C.tt e).zero⟩ st)
    |false=> .fail
   |_,_,_,_=> .fail
 | .convert src dst x=>match(C.tt dst).ti,(C.tt src).ti with
   | .slice et,.str=>match o.dst,(C.tt et).ti,aer (ua C st src x) with
     |some d,.int .u8,some (.string s)=> .test (fits s.size 1) fun z=>match z with
      |true=>K (zz d ⟨true,1,H7 s⟩ st)
      |false=> .fail
     |_,_,_=> .fail
   |_,_=>Vt C st o K
 | .call {callee:= .builtin .append,args,argTypes}=>match o.dst,args.toList,argTypes.toList with
   |some d,[s,x],[t,t']=>ab4 C st d t t' (ua C st t s) (ua C st t' x) K
   |_,_,_=> .fail
 | .call {callee:= .builtin .copy,args,argTypes}=>match args.toList,argTypes.toList with
   |[s,x],[t,t']=>aiW C st o.dst t (ua C st t s) (ua C st t' x) K
   |_,_=> .fail
 | .call {callee:= .value (.func f),args,argTypes}=>match Nat.beq args.toList.length argTypes.toList.length with
   |true=>JY C o.dst f (JZ C st args.toList argTypes.toList) st K
   |false=> .fail
 | .call {callee:= .value (.tmp i),args,argTypes}=>match Nat.beq args.toList.length argTypes.toList.length with
   |true=>match st.get i with
    | .fn f caps=>JY C o.dst f (JZ C st args.toList argTypes.toList++caps.map fun b=> .bp b 0) st K
    |_=> .fail
   |false=> .fail
 |_=>Vt C st o K
def Wv (st:TS) (b:Nat):List Nat:=match an b st.bx with
 |some cs=>(2*b+1)::(cs.flatMap ig).map (2* ·)
 |none=>[2*b+1]
def FN (st:TS):TE→List Nat
 | .v _ es=>(jP es).map (2* ·)
 | .bp b _=>Wv st b
 |_=>[]
def sK (st:TS):List bY→List TE→List Nat
 | .borrow::ps,_::es=>sK st ps es
 |_::ps,e::es=>FN st e++sK st ps es
 |_,_=>[]
def writes (st:TS) (o:Oper):List Nat:=match o.op with
 | .store _ a _=>match ua C st 0 a with
   | .bp b _=>[2*b+1]
   | .er o _ _ _=>[2*o]
   |_=>[]
 | .call {callee:= .builtin .append,args,argTypes}=>match args.toList,argTypes.toList with
   |s::_,t::_=>(AX (ua C st t s)).map (2* ·)
   |_,_=>[]
 | .call {callee:= .builtin .copy,args,argTypes}=>match args.toList,argTypes.toList with
   |s::_,t::_=>(AX (ua C st t s)).map (2* ·)
   |_,_=>[]
 | .call {callee:= .value (.func f),args,argTypes}=>sK st (C.sig f).ps (JZ C st args.toList argTypes.toList)
 | .call {callee:= .value (.tmp i),args,argTypes}=>match st.get i with
   | .fn f caps=>sK st (C.sig f).ps (JZ C st args.toList argTypes.toList++caps.map fun b=> .bp b 0)
   |_=>[]
 |_=>[]
def aeA (st:TS) (o:Oper):Option (List Nat):=match o.op with
 | .load _ a=>match ua C st 0 a with
   | .bp b _=>match an b st.bx with
     |some _=>some [2*b+1]
     |none=>none
   | .ep d (_::_)=>some (d.map (2* ·))
   | .er o none _ _=>some [2*o]
   | .er o (some _) _ _=>match an o st.ob with
     |some ⟨true,_,_⟩=>some [2*o]
     |_=>none
   |_=>none
 |_=>none
def aiX (ops:Array Oper) (st:TS) (o:Oper):Bool:=match o.guard with
 |none=>false
 |some (j,want)=>match ops[j]? with
  |some oj=>match oj.dst with
   |some t=>match st.get t with
    | .kb b=>match b,want with
      |true,false=>true
      |false,true=>true
      |_,_=>false
    | .v true []=>true
    |_=>false
   |none=>false
  |none=>false
def FO (ops:Array Oper) (st:TS) (o:Oper):List Nat→Bool
 |[]=>true
 |l::r=>match ops[l]? with
  |some ol=>match aiX ops st ol with
   |true=>FO ops st o r
   |false=>match aeA C st ol with
    |some rd=>match w9 rd (writes C st o) with|true=>false|false=>FO ops st o r
    |none=>false
  |none=>false
def J0:List Mode→List CE→List Nat
 |_,[]=>[]
 |ms,e::r=>match ms.headD .deep,e with
  | .snap,.ref o none=>o::J0 (ms.drop 1) r
  |_,_=>J0 (ms.drop 1) r
def Vu (st:TS):List bY→List TE→List Nat
 |p::ps,e::es=>match p,e with
  | .inout (m::ms),.bp b _=>match an b st.bx with
    |some cs=>J0 (m::ms) cs++Vu st ps es
    |none=>Vu st ps es
  | .consume (m::ms),.v false [.mk _ cs]=>J0 (m::ms) cs++Vu st ps es
  |_,_=>Vu st ps es
 |_,_=>[]
def QL:List CE→List Nat
 |[]=>[]
 | .ref o _::r=>o::QL r
 |_::r=>QL r
def LG:List rF→List Nat
 |[]=>[]
 | .mk _ cs::r=>QL cs++LG r
 |_::r=>LG r
def ab6 (st:TS) (e:TypeId):List (Nat×Operand)→List Nat
 |[]=>[]
 |(_,x)::r=>match ua C st e x with
  | .v _ es=>LG es++ab6 st e r
  |_=>ab6 st e r
def ajz (fx:List Nat) (st:TS) (o:Oper):TS:=match o.op with
 | .buildSlice t _ ps=>match m8 777777 fx,AY C t with
   |true,some e=>vf st (ab6 C st e ps.toList)
   |_,_=>st
 | .call {callee:= .value (.func f),args,argTypes}=>match aez (C.sig f).ps with
   |true=>st
   |false=>vf st (Vu st (C.sig f).ps (JZ C st args.toList argTypes.toList))
 |_=>st
def Yo (fx fl:List Nat) (ops:Array Oper) (st:TS) (o:Oper) (K:TS→Ev R):Ev R:=fTS (ajz C fx st o) fun st=>match FO C ops st o fl with
 |true=>ql C st o K
 |false=> .fail
def Yp (st:TS) (o:Oper) (K:TS→Ev R):Ev R:=match o.dst with
 |some d=>K (st.set d (.v true []))
 |none=>K st
def aaK (fx fl:List Nat) (ops:Array Oper) (st:TS) (o:Oper) (b want:Bool) (K:TS→Ev R):Ev R:=
 match b,want with
 |true,true=>Yo C fx fl ops st o K
 |false,false=>Yo C fx fl ops st o K
 |_,_=>Yp st o K
def ab7 (fx:List Nat) (o:Oper):Bool:=match o.dst with|some d=> !m8 d fx|none=>true
def guarded (fx fl:List Nat) (ops:Array Oper) (st:TS) (o:Oper) (K:TS→Ev R):Ev R:=
 match ab7 fx o with
 |false=> .fail
 |true=>match o.guard with
  |none=>Yo C fx fl ops st o K
  |some (j,want)=>match ops[j]? with
   |some oj=>match oj.dst with
    |some t=>match st.get t with
     | .kb b=>aaK C fx fl ops st o b want K
     | .v false [.mk false [.sc (.bool b)]]=> .test b fun b=>aaK C fx fl ops (st.set t (.kb b)) o b want K
     | .v true []=>Yp st o K
     |_=> .fail
    |none=> .fail
   |none=> .fail
def Dw {α:Type} (l:List Nat):List (Nat×α)→List (Nat×α)
 |[]=>[]
 |(i,e)::r=>match m8 i l with|true=>(i,e)::Dw l r|false=>Dw l r
def Ww (fx:List Nat) (l:List Nat) (ops:Array Oper):List Oper→TS→(TS→Ev R)→Ev R
 |[],st,K=>fTS ⟨Dw l st.tm,st.bx,st.ob⟩ K
 |o::r,st,K=>guarded C fx [] ops st o fun st'=>fTS st' fun st'=>Ww fx l ops r st' K
def ue (fx:List Nat) (l:List Nat) (ops:Array Oper):G8→TS→(TS→Ev R)→Ev R
 | .nil,st,K=>fTS ⟨Dw l st.tm,st.bx,st.ob⟩ K
 | .op i fl r,st,K=>match ops[i]? with
   |some o=>guarded C fx fl ops st o fun st'=>fTS st' fun st'=>ue fx l ops r st' K
   |none=> .fail
 | .alt a b,st,K=> .both (ue fx l ops a st K) (ue fx l ops b st K)
def zP (l:List Nat):List (Nat×List CE)→List (Nat×List CE)
 |[]=>[]
 |(i,cs)::r=>match Nat.ble 100000 i with
  |true=>(i,cs)::zP l r
  |false=>match m8 i l with|true=>(i,cs)::zP l r|false=>zP l r
def je (n:Nat):List CE→List CE×Nat×List (Nat×OB)
 |[]=>([],n,[])
 | .nil z::r=>match Nat.ble 1 z with
   |true=>match je (n+1) r with|(cs,m,obs)=>(.ref n none::cs,m,(n,⟨true,z,[]⟩)::obs)
   |false=>match je n r with|(cs,m,obs)=>(.nil z::cs,m,obs)
 |e::r=>match je n r with|(cs,m,obs)=>(e::cs,m,obs)
def iF (n:Nat):List rF→List rF×Nat×List (Nat×OB)
 |[]=>([],n,[])
 | .mk a cs::r=>match je n cs with
   |(cs',m,o1)=>match iF m r with|(es,m',o2)=>(.mk a cs'::es,m',o1++o2)
 | .ptr b::r=>match iF n r with|(es,m,o2)=>(.ptr b::es,m,o2)
def IM (n:Nat) (e:TE):TE×Nat×List (Nat×OB):=match e with
 | .v tup es=>match iF n es with|(es',m,o)=>(.v tup es',m,o)
 | .kb b=>(S (.bool b),n,[])
 |e=>(e,n,[])
def Br (n:Nat):List (Nat×TE)→List (Nat×TE)×List (Nat×OB)
 |[]=>([],[])
 |(i,e)::r=>match IM n e with
  |(e',m,o1)=>match Br m r with|(r',o2)=>((i,e')::r',o1++o2)
def Yq (n:Nat):List (Nat×OB)→Bool
 |[]=>true
 |(i,_)::r=>match Nat.ble n i with|true=>false|false=>Yq n r
def Yr (st:TS):TS:=match Yq 900000000 st.ob with
 |true=>match Br 900000000 st.tm with|(tm,obs)=>⟨tm,st.bx,mh obs st.ob⟩
 |false=>st
def ajA (st:TS):List Nat:=(st.tm.flatMap fun p=>AX p.2)++st.bx.flatMap fun p=>p.2.flatMap ig
def number:List Nat→Nat→List (Nat×Nat)→List (Nat×Nat)
 |[],_,ρ=>ρ
 |o::r,n,ρ=>match Nat.beq o 0 with
  |true=>number r n ρ
  |false=>match an o ρ with
   |some _=>number r n ρ
   |none=>number r (n+1) ((o,n)::ρ)
def LH (ρ:List (Nat×Nat)) (o:Nat):Nat:=match an o ρ with|some n=>n|none=>0
def J1 (ρ:List (Nat×Nat)):CE→CE
 | .ref o cut=> .ref (LH ρ o) cut
 | .snap d l z rows=> .snap (d.map (LH ρ)) (match l with|some (o,i,f)=>some (LH ρ o,i,f)|none=>none) z rows
 |e=>e
def aeB (ρ:List (Nat×Nat)):TE→TE
 | .ep d cells=> .ep (d.map (LH ρ)) cells
 | .er o p i f=> .er (LH ρ o) p i f
 |e=>e
def xb (ob:List (Nat×OB)):List (Nat×Nat)→List (Nat×OB)
 |[]=>[]
 |(o,n)::r=>match an o ob with|some b=>pU n b (xb ob r)|none=>xb ob r
def ak4 (ρ:List (Nat×Nat)) (st:TS):TS:=⟨mapA (AW (J1 ρ) (aeB ρ)) st.tm,mapA (List.map (J1 ρ)) st.bx,xb st.ob ρ⟩
def canon (st:TS):TS:=ak4 (number (ajA st) 1 []) st
def Yt (l:List Nat) (st:TS):TS:=canon (Yr ⟨Dw l st.tm,zP l st.bx,st.ob⟩)
def run (fx:List Nat) (f:FuncId):Nat→Code→TS→(TX→TS→Ev R)→Ev R
 |_,.skip,st,K=>K .norm st
 |_,.region id ops draw,st,K=>match draw with
  |false=>Ww C fx (C.lr f id) ops ops.toList st (K .norm)
  |true=>match C.N8 f id with
   |some l=>ue C fx (C.lr f id) ops l st (K .norm)
   |none=> .fail
 |i,.seq a b,st,K=>run fx f i a st fun x st'=>match x with
  | .norm=>run fx f i b st' K
  |x=>K x st'
 |i,.cond c a b,st,K=>match ua C st 0 c with
  | .kb p=>match p with
    |true=>run fx f i a st K
    |false=>run fx f i b st K
  | .v false [.mk false [.sc (.bool p)]]=> .test p fun p=>match p with
    |true=>run fx f i a st K
    |false=>run fx f i b st K
  |_=> .fail
 |_,.block id body,st,K=>run fx f id body st fun x st'=>match x with
  | .ex id'=>match Nat.beq id' id with|true=>K .norm st'|false=>K (.ex id') st'
  |x=>K x st'
 |i,.loop body,st,K=>fTS (Yt (C.lb f i) st) fun st=> .loop f i body st K
 |_,.exit id,st,K=>K (.ex id) st
 |_,.ret,st,K=>K .ret st
 |_,_,_,_=> .fail
def dpM:Mode→Bool
 | .deep=>true
 |_=>false
def eD (sh:Bool) (p:bY) (n:Nat):Nat→List TC→List CE×List (Nat×OB)
 |_,[]=>([],[])
 |j,c::r=>match eD sh p n (j+1) r with
  |(es,obs)=>match c with
   | .sc v=>(.sc v::es,obs)
   | .sub z rows=>match p.mc j with
     | .snap=>(.snap (match sh with|true=>[]|false=>[0]) none z rows::es,obs)
     |m=>(.ref (n+j) none::es,(n+j,⟨dpM m,z,rows⟩)::obs)
   | .any=>(.gone::es,obs)
def LI (sh:Bool) (i:Nat):List (List TC)→List (Nat×List CE)
 |[]=>[]
 |c::r=>(i,(eD sh .borrow 0 0 c).1)::LI sh (i+1) r
def Bs (p:bY) (i:Nat):Nat:=match p with| .borrow=>200000+1000*i|_=>100000+1000*i
def init (sh:Bool) (ps:List bY) (i:Nat):List TV→TS
 |[]=>⟨[],[],[]⟩
 |v::r=>match init sh (ps.drop 1) (i+1) r with
  |⟨tm,bx,ob⟩=>match v with
   | .c c=>match eD sh (ps.headD .borrow) (500+16*i) 0 [c] with|(cs,o)=>⟨(i,.v false [.mk false cs])::tm,bx,o++ob⟩
   | .ag cs=>match eD sh (ps.headD .borrow) (500+16*i) 0 cs with|(cs,o)=>⟨(i,.v false [.mk true cs])::tm,bx,o++ob⟩
   | .bx cs=>match eD sh (ps.headD .borrow) (500+16*i) 0 cs with
     |(cs,o)=>⟨(i,.bp (Bs (ps.headD .borrow) i) 0)::tm,(Bs (ps.headD .borrow) i,cs)::bx,o++ob⟩
   | .fn f caps=>⟨(i,.fn f (List.range' (200000+1000*i+1) caps.length))::tm,LI sh (200000+1000*i+1) caps++bx,ob⟩
   | .tu _=>⟨tm,bx,ob⟩
def aaL (m:Mode) (e:CE) (deep:Bool):Bool:=match m,e with
 |_,.sc _=>true
 | .snap,_=>true
 |_,.nil _=>true
 | .top,.ref _ _=>true
 | .deep,.ref _ _=>deep
 |_,_=>false
def FP:List Mode→List CE→TS→Option (List TC×TS)
 |_,[],st=>some ([],st)
 |ms,e::r,st=>match qk e st with
  |some (c,st',d)=>match aaL (ms.headD .snap) e d with
   |true=>match FP (ms.drop 1) r st' with
    |some (cs,Nw)=>some (c::cs,Nw)
    |none=>none
   |false=>none
  |none=>none
def nU:List Mode→List CE→TS→Option (List TC×TS)
 |_,[],st=>some ([],st)
 |ms,e::r,st=>match ms.headD .deep,e with
  | .snap,e=>match qk e st with
    |some (c,st',_)=>match nU (ms.drop 1) r st' with
     |some (cs,Nw)=>some (c::cs,Nw)
     |none=>none
    |none=>none
  |_,.sc v=>match nU (ms.drop 1) r st with
   |some (cs,st')=>some (.sc v::cs,st')
   |none=>none
  |_,.nil z=>match nU (ms.drop 1) r st with
   |some (cs,st')=>some (.sub z []::cs,st')
   |none=>none
  |_,.ref o none=>match an o st.ob with
   |some ⟨true,z,rows⟩=>match nU (ms.drop 1) r (o6 o st) with
    |some (cs,st')=>some (.sub z rows::cs,st')
    |none=>none
   |_=>none
  |_,_=>none
def ajB (a:Bool):Nat:=match a with|true=>1|false=>0
def ab8 (st:TS) (r:ResultVar) (K:TE→Ev R):Ev R:=match r with
 | .tmp t=>K (st.get t)
 | .cell a t=>H9 C st t (st.get a) K
def QM:List (List Mode)→List ResultVar→TS→(List (Nat×List TC)→TS→Ev R)→Ev R
 |_,[],st,K=>K [] st
 |ms,r::rs,st,K=>ab8 C st r fun e=>match e with
  | .v false [.mk a cs]=>match FP (ms.headD []) cs st with
    |some (ts,st')=>QM (ms.drop 1) rs st' fun vs Nw=>K ((ajB a,ts)::vs) Nw
    |none=> .fail
  | .kb b=>QM (ms.drop 1) rs st fun vs Nw=>K ((0,[.sc (.bool b)])::vs) Nw
  | .bp b 0=>match Bl b,an b st.bx with
    |true,some cs=>match FP (ms.headD []) cs ⟨st.tm,rG b st.bx,st.ob⟩ with
     |some (ts,st')=>QM (ms.drop 1) rs st' fun vs Nw=>K ((2,ts)::vs) Nw
     |none=> .fail
    |_,_=> .fail
  |_=> .fail
def Yu:List bY→Nat→TS→Option (List TV)
 |[],_,_=>some []
 |p::ps,i,st=>match p with
  | .inout ms=>match ms,st.get i with
    |[],.v false [.mk false [e]]=>match nU [] [e] st with
     |some ([c],st')=>match Yu ps (i+1) st' with
      |some vs=>some (.c c::vs)
      |none=>none
     |_=>none
    |[],.v false [.mk true cs]=>match nU [] cs st with
     |some (ts,st')=>match Yu ps (i+1) st' with
      |some vs=>some (.ag ts::vs)
      |none=>none
     |none=>none
    |ms,.bp b 0=>match Bl b,an b st.bx with
     |true,some cs=>match nU ms cs st with
      |some (ts,st')=>match Yu ps (i+1) st' with
       |some vs=>some (.bx ts::vs)
       |none=>none
      |none=>none
     |_,_=>none
    |_,_=>none
  |_=>Yu ps (i+1) st
def LJ:List (Nat×List TC)→TV
 |[(0,[c])]=> .c c
 |[(1,cs)]=> .ag cs
 |[(2,cs)]=> .bx cs
 |vs=> .tu vs
def LK:List bY→Nat→List Nat
 |[],_=>[]
 | .inout _::r,i=>i::LK r (i+1)
 |_::r,i=>LK r (i+1)
def QN (g:Sig):List Nat:=match g.frz with|true=>777777::LK g.ps 0|false=>LK g.ps 0
def aeD (g:Sig) (rs:List ResultVar) (x:TX) (st:TS):Ev (TV×List TV):=match x with
 | .ex _=> .fail
 |_=>QM C g.res rs st fun rs st'=>match Yu g.ps 0 st' with
  |some fs=>fTV (LJ rs) fun r=>fL fTV fs fun fs=> .ret (r,fs)
  |none=> .fail
def FQ (g:Sig) (vs:List TV):TS:=init true g.ps 0 vs
def body (f:FuncId) (vs:List TV):Ev (TV×List TV):=
 match C.P.funcs[f]? with
 |none=> .fail
 |some fn=>match fn.body with
  |none=> .fail
  |some c=>fTS (FQ (C.sig f) vs) fun st=>run C (QN (C.sig f)) f 0 c st (aeD C (C.sig f) fn.results.toList)
end
abbrev Cf:=FuncId→List TV→TV→List TV→Prop
abbrev Lp:=FuncId→Nat→Code→TS→(TX→TS→Prop)→Prop
def Ev.holds {R:Type} (cf:Cf) (lp:Lp) (Q:R→Prop):Ev R→Prop
 | .fail=>False
 | .ret r=>Q r
 | .test b k=>(k b).holds cf lp Q
 | .row rows i k=> ∃c,rowAt rows i=some c∧(k c).holds cf lp Q
 | .byte s i k=> ∃b,va s i=some b∧(k b).holds cf lp Q
 | .bytes rows k=> ∃ns,tZ rows=some ns∧(k ns).holds cf lp Q
 | .call f vs k=> ∃r fs,cf f vs r fs∧(k r fs).holds cf lp Q
 | .loop f i c st k=>lp f i c st fun x st'=>(k x st').holds cf lp Q
 | .both a b=> ∃r,a.holds cf lp (fun r'=>r'=r)∧b.holds cf lp (fun r'=>r'=r)∧Q r
section
variable (C : mG)
def QO (x:TX) (st:TS):Ev (TX×TS):= .ret (x,st)
def iter (cf:Cf) (lp:Lp) (fx:List Nat) (f i:Nat) (c:Code) (Q:TX→TS→Prop):Nat→TS→Prop
 |0,_=>False
 |n+1,st=>(run C fx f i c st QO).holds cf lp fun p=>match p with
   |(.norm,st')=>fTS (Yt (C.lb f i) st') fun st'=>iter cf lp fx f i c Q n st'
   |(x,st')=>Q x st'
def lpN (cf:Cf) (k:Nat) (fx:List Nat):Nat→Lp
 |0=>fun _ _ _ _ _=>False
 |n+1=>fun f i c st Q=>iter C cf (lpN cf k fx n) fx f i c Q k st
def j7:Nat→Cf
 |0=>fun _ _ _ _=>False
 |k+1=>fun f vs r fs=>match C.ext f with
  |some p=>p vs=some (r,fs)
  |none=>(body C f vs).holds (j7 k) (lpN C (j7 k) k (QN (C.sig f)) 4) fun p=>p=(r,fs)
end
end Go.T
set_option linter.all false
namespace Go.T
inductive An where
 |b (x:Bool)
 |row (c:List TC)
 |n (i:Int)
 |ns (l:List Int)
 |call (r:TV) (fs:List TV)
 |loop (x:TX) (st:TS)
inductive Qr where
 |test (b x:Bool)
 |row (rows:List (List TC)) (i:Int) (c:List TC)
 |byte (s:ByteArray) (i b:Int)
 |bytes (rows:List (List TC)) (ns:List Int)
 |call (f:FuncId) (vs:List TV) (r:TV) (fs:List TV)
 |loop (f:FuncId) (i:Nat) (c:Code) (st:TS) (x:TX) (st':TS)
def Ev.trace {R:Type}:Ev R→List An→List Qr→Option (R×List Qr)
 | .fail,_,_=>none
 | .ret r,as,qs=>match as with|[]=>some (r,qs)|_=>none
 | .test b k,as,qs=>match as with| .b x::as=>(k x).trace as (.test b x::qs)|_=>none
 | .row rows i k,as,qs=>match as with| .row c::as=>(k c).trace as (.row rows i c::qs)|_=>none
 | .byte s i k,as,qs=>match as with| .n b::as=>(k b).trace as (.byte s i b::qs)|_=>none
 | .bytes rows k,as,qs=>match as with| .ns l::as=>(k l).trace as (.bytes rows l::qs)|_=>none
 | .call f vs k,as,qs=>match as with| .call r fs::as=>fL fTV vs fun vs=>(k r fs).trace as (.call f vs r fs::qs)|_=>none
 | .loop f i c st k,as,qs=>match as with| .loop x st'::as=>(k x st').trace as (.loop f i c st x st'::qs)|_=>none
 | .both _ _,_,_=>none
def Qr.ok (cf:Cf) (lp:Lp):Qr→Prop
 | .test b x=>b=x
 | .row rows i c=>rowAt rows i=some c
 | .byte s i b=>va s i=some b
 | .bytes rows ns=>tZ rows=some ns
 | .call f vs r fs=>cf f vs r fs
 | .loop f i c st x st'=>lp f i c st fun x1 eM=>x1=x∧eM=st'
section
variable {Z : Type}
theorem yl {α:Type} {f:α→(α→Z)→Z} (h: ∀a K,f a K=K a): ∀(l:List α) (K:List α→Z),fL f l K=K l
 |[],K=>rfl
 |a::r,K=>by simp only[fL,h,yl h r]
theorem aeE (b:Bool) (K:Bool→Z):fB b K=K b:=by cases b<;>rfl
theorem aeF (b:Nat) (K:Nat→Z):fN b K=K b:=rfl
theorem aeG (p:Option (Int×Nat)) (K:Option (Int×Nat)→Z):aiT p K=K p:=by cases p<;>rfl
theorem ahj (p:Option (Int×Int)) (K:Option (Int×Int)→Z):ak2 p K=K p:=by cases p<;>rfl
theorem ajC (p:Option (Nat×Int×Nat)) (K:Option (Nat×Int×Nat)→Z):fAt p K=K p:=by cases p<;>rfl
theorem aiY (v:Value) (K:Value→Z):fV v K=K v:=by cases v<;>rfl
theorem Wx (c:TC) (K:TC→Z):fTC c K=K c:=by cases c<;>simp only[fTC,aiY]
theorem aeH (e:CE) (K:CE→Z):fCE e K=K e:=by
 cases e<;>simp only[fCE,aiY,ahj,ajC,yl aeF]
theorem aeI (c:rF) (K:rF→Z):aep c K=K c:=by cases c<;>simp only[aep,aeE,yl aeH]
theorem ajD (e:TE) (K:TE→Z):fTE e K=K e:=by
 cases e<;>simp only[fTE,aeE,yl aeI,yl aeF,yl Wx,aeG]
theorem ajE (b:OB) (K:OB→Z):fOB b K=K b:=by cases b;simp only[fOB,aeE]
theorem aeJ (v:TV) (K:TV→Z):fTV v K=K v:=by
 cases v<;>simp only[fTV,aeq,Wx,yl Wx]
 rw[yl (fun a K=>by cases a;simp only[aeq,yl Wx])]
theorem uf (st:TS) (K:TS→Z):fTS st K=K st:=by
 cases st;simp only[fTS]
 rw[yl (fun a K=>by cases a;simp only[ajD]),yl (fun a K=>by cases a;simp only[yl aeH]),yl (fun a K=>by cases a;simp only[ajE])]
end
theorem gR {R:Type} {cf cf':Cf} {lp lp':Lp} (hc: ∀f vs r fs,cf f vs r fs→cf' f vs r fs) (Lv: ∀f i c st (Q Q':TX→TS→Prop),(∀x s,Q x s→Q' x s)→lp f i c st Q→lp' f i c st Q') {Q Q':R→Prop} (hQ: ∀r,Q r→Q' r):
 ∀(e:Ev R),e.holds cf lp Q→e.holds cf' lp' Q'
 | .fail,h=>h
 | .ret r,h=>hQ r h
 | .test b k,h=>gR hc Lv hQ (k b) h
 | .row rows i k,⟨c,h1,h2⟩=>⟨c,h1,gR hc Lv hQ (k c) h2⟩
 | .byte rows i k,⟨c,h1,h2⟩=>⟨c,h1,gR hc Lv hQ (k c) h2⟩
 | .bytes rows k,⟨c,h1,h2⟩=>⟨c,h1,gR hc Lv hQ (k c) h2⟩
 | .call f vs k,⟨r,fs,h1,h2⟩=>⟨r,fs,hc _ _ _ _ h1,gR hc Lv hQ (k r fs) h2⟩
 | .loop f i c st k,h=>Lv _ _ _ _ _ _ (fun x s hxs=>gR hc Lv hQ (k x s) hxs) h
 | .both a b,⟨r,h1,h2,h3⟩=>⟨r,gR hc Lv (fun _ h=>h) a h1,gR hc Lv (fun _ h=>h) b h2,hQ r h3⟩
section
variable {C : mG}
theorem Hg {cf cf':Cf} {lp lp':Lp} (hc: ∀f vs r fs,cf f vs r fs→cf' f vs r fs) (Lv: ∀f i c st (Q Q':TX→TS→Prop),(∀x s,Q x s→Q' x s)→lp f i c st Q→lp' f i c st Q')
 {fx:List Nat} {f i:Nat} {c:Code} {Q Q':TX→TS→Prop} (hQ: ∀x s,Q x s→Q' x s): ∀(n n':Nat),n≤n'→ ∀(st:TS),iter C cf lp fx f i c Q n st→iter C cf' lp' fx f i c Q' n' st
 |0,_,_,_,h=>h.elim
 |n+1,0,hn,_,_=>absurd hn au
 |n+1,n'+1,hn,st,h=>by
  refine gR hc Lv (fun p hp=> ?_) _ h;obtain⟨x,s⟩:=p
  cases x with
  |norm=>
   simp only at hp ⊢;rw[uf] at hp ⊢;exact Hg hc Lv hQ n n' au _ hp
  |ex id=>exact hQ _ _ hp
  |ret=>exact hQ _ _ hp
theorem rJ {cf cf':Cf} (hc: ∀f vs r fs,cf f vs r fs→cf' f vs r fs) {k k':Nat} (hk:k≤k') {fx:List Nat}: ∀(n:Nat) (f i:Nat) (c:Code) (st:TS) (Q Q':TX→TS→Prop),(∀x s,Q x s→Q' x s)→
 lpN C cf k fx n f i c st Q→lpN C cf' k' fx n f i c st Q'
 |0,_,_,_,_,_,_,_,h=>h.elim
 |n+1,f,i,c,st,Q,Q',hQ,h=>Hg hc (rJ hc hk n) hQ k k' hk st h
theorem FR: ∀(k:Nat) (f:FuncId) (vs:List TV) (r:TV) (fs:List TV),j7 C k f vs r fs→j7 C (k+1) f vs r fs
 |0,_,_,_,_,h=>h.elim
 |k+1,f,vs,r,fs,h=>by
  unfold j7 at h ⊢
  cases hx:C.ext f with
  |some p=>rw[hx] at h;exact h
  |none=>rw[hx] at h;exact gR (FR k) (rJ (FR k) (Nat.le_succ k) 4) (fun _ h=>h) _ h
theorem aaN {k:Nat} {f:FuncId} {vs:List TV} {r:TV} {fs:List TV} (hx:C.ext f=none) (h:(body C f vs).holds (j7 C k) (lpN C (j7 C k) k (QN (C.sig f)) 4) fun p=>p=(r,fs)):j7 C (k+1) f vs r fs:=by
 unfold j7;rw[hx];exact h
theorem ac7 {k:Nat} {f:FuncId} {vs:List TV} {r:TV} {fs:List TV} {p:List TV→Option (TV×List TV)} (hx:C.ext f=some p) (h:p vs=some (r,fs)):j7 C (k+1) f vs r fs:=by
 unfold j7;rw[hx];exact h
theorem oL {k k':Nat} (hk:k≤k') {f:FuncId} {vs:List TV} {r:TV} {fs:List TV} (h:j7 C k f vs r fs):j7 C k' f vs r fs:=by
 induction hk with
 |refl=>exact h
 |step _ ih=>exact FR _ _ _ _ _ ih
def LL (C:mG) (k:Nat) (fx:List Nat) (n:Nat) (f i:Nat) (c:Code) (m:Nat) (st:TS) (x:TX) (st':TS):Prop:=
 iter C (j7 C k) (lpN C (j7 C k) k fx n) fx f i c (fun x1 eM=>x1=x∧eM=st') m st
theorem LL.ok {k:Nat} {fx:List Nat} {n f i:Nat} {c:Code} {m:Nat} {st:TS} {x:TX} {st':TS} (h:LL C k fx n f i c m st x st') (hm:m≤k):(Qr.loop f i c st x st').ok (j7 C k) (lpN C (j7 C k) k fx (n+1)):=
 Hg (fun _ _ _ _ h=>h) (rJ (fun _ _ _ _ h=>h) (cL _) n) (fun _ _ h=>h) m k hm st h
end
end Go.T
namespace Go.T
def zQ (rows:List (List TC)) (i f:Nat):Option TC:=(rows[i]?).bind fun r=>r[f]?
def Oc:Value→Prop
 | .int _ _=>True
 | .bool _=>True
 | .string _=>True
 | .slice _ _ _=>True
 |_=>False
def Mode.nx:Mode→Mode
 | .deep=> .deep
 |_=> .snap
structure ak5 (w:World) (R:Nat→Prop) (m:Mode) (S:Nat→Prop) (z:Nat) (rows:List (List TC)) (A:Option Addr) (c:Nat) (u:Nat→Nat→Value) (T:Nat→Nat→Nat→Prop):Prop where
 len:rows.length≤c
 cap:c≤maxLen
 z0:0<z
 width: ∀r∈rows,r.length=z
 addr:rows≠[]→ ∃ad,A=some ad
 cell: ∀ad,A=some ad→ ∀i f tc,zQ rows i f=some tc→w.cell? (ad.add (i*z+f))=some (u i f)
 read:m= .snap→ ∀ad,A=some ad→rows≠[]→R ad.block
 own:m≠ .snap→(A=none→c=0)∧ ∀ad,A=some ad→S ad.block∧ad.spot=none∧
  ∀j,j<c*z→(∃x,w.cell? ⟨ad.block,ad.off+j,none⟩=some x)∧w.frozen? ⟨ad.block,ad.off+j,none⟩=false
 soft:m≠ .snap→1<z→ ∀ad,A=some ad→ ∀i,w.frozen? ⟨ad.block,i,none⟩=false
 qh:m= .deep→ ∀i f k,T i f k→S k∧(∀ad,A=some ad→k≠ad.block)∧ ∀i' f',T i' f' k→i'=i∧f'=f
inductive av (w:World) (R:Nat→Prop):Mode→(Nat→Prop)→TC→Value→Prop
 |sc (m:Mode) (S:Nat→Prop) (v:Value) (h:Oc v):av w R m S (.sc v) v
 |sub (m:Mode) (S:Nat→Prop) (z:Nat) (rows:List (List TC)) (A:Option Addr) (c:Nat) (u:Nat→Nat→Value) (T:Nat→Nat→Nat→Prop)
   (h:ak5 w R m S z rows A c u T) (hn: ∀i f tc,zQ rows i f=some tc→av w R m.nx (T i f) tc (u i f)):
   av w R m S (.sub z rows) (.slice A rows.length c)
 |any (m:Mode) (S:Nat→Prop) (v:Value) (h:v.oneCell'=true∧v.cells= #[v]):av w R m S .any v
variable {w w' : World} {R R' S S' : Nat → Prop} {m : Mode} {c : TC} {v : Value}
theorem LM {rows:List (List TC)} {i f:Nat} {tc:TC} (h:zQ rows i f=some tc):rows≠[]:=by
 rintro rfl;simp[zQ] at h
theorem gT {w w':World} {a:Addr} (h:w'.heap[a.block]?=w.heap[a.block]?):w'.cell? a=w.cell? a:=by
 unfold World.cell?;rw[h]
theorem nc {w w':World} {a:Addr} (h:w'.heap[a.block]?=w.heap[a.block]?):w'.frozen? a=w.frozen? a:=by
 unfold World.frozen?;rw[h]
theorem cR (a:Addr) (n:Nat):(a.add n).block=a.block:=by unfold Addr.add;split<;>rfl
theorem av.mono (h:av w R m S c v) (hS: ∀k,S k→S' k):av w R m S' c v:=by
 cases h with
 |any _ _ _ h=>exact .any _ _ _ h
 |sc _ _ _ h=>exact .sc _ _ _ h
 |sub _ _ z rows A c u T h hn=>
  refine .sub _ _ z rows A c u T {h with own:=fun hm=>⟨(h.own hm).1,fun ad ha=>⟨hS _ ((h.own hm).2 ad ha).1,((h.own hm).2 ad ha).2⟩⟩,qh:=fun hm i f k hk=>⟨hS _ (h.qh hm i f k hk).1,(h.qh hm i f k hk).2⟩} hn
theorem xy {m:Mode} (h:m.nx≠ .snap):m= .deep:=by cases m<;>simp_all [Mode.nx]
theorem av.move (h:av w R m S c v):(∀k,R k→R' k∧w'.heap[k]?=w.heap[k]?)→(m≠ .snap→ ∀k,S k→w'.heap[k]?=w.heap[k]?)→av w' R' m S c v:=by
 induction h with
 |any _ _ _ h=>exact fun _ _=> .any _ _ _ h
 |sc _ _ _ h=>exact fun _ _=> .sc _ _ _ h
 |sub m S z rows A c u T h hn ih=>
  intro hR hS;refine .sub _ _ z rows A c u T {h with cell:= ?_,read:= ?_,own:= ?_,soft:=fun hm h1 ad ha i=>by rw[nc (w:=w) (a:=⟨ad.block,i,none⟩) (hS hm _ ((h.own hm).2 ad ha).1)];exact h.soft hm h1 ad ha i} fun i f tc ht=>ih i f tc ht hR fun hm k hk=> ?_
  ·intro ad ha i f tc ht
   rw[gT (w:=w)]
   ·exact h.cell ad ha i f tc ht
   ·rw[cR]
    by_cases hm:m= .snap
    ·exact(hR _ (h.read hm ad ha (LM ht))).2
    ·exact hS hm _ ((h.own hm).2 ad ha).1
  ·exact fun hm ad ha hne=>(hR _ (h.read hm ad ha hne)).1
  ·intro hm
   refine⟨(h.own hm).1,fun ad ha=>⟨((h.own hm).2 ad ha).1,((h.own hm).2 ad ha).2.1,fun j hj=> ?_⟩⟩;have hb:=hS hm _ ((h.own hm).2 ad ha).1;obtain⟨⟨x,hx⟩,hf⟩:=((h.own hm).2 ad ha).2.2 j hj;exact⟨⟨x,by rw[gT (w:=w) (by exact hb)];exact hx⟩,by rw[nc (w:=w) (by exact hb)];exact hf⟩
  ·have:=xy hm
   subst this;exact hS bZ k (h.qh rfl i f k hk).1
theorem av.freeze (h:av w R m S c v):(∀k,R k→R' k)→(m≠ .snap→ ∀k,S k→R' k)→av w R' .snap S' c v:=by
 induction h generalizing S' with
 |any _ _ _ h=>exact fun _ _=> .any _ _ _ h
 |sc _ _ _ h=>exact fun _ _=> .sc _ _ _ h
 |sub m S z rows A c u T h hn ih=>
  intro hR hS;refine .sub _ _ z rows A c u (fun _ _ _=>False) {h with read:= ?_,own:=fun hm=>absurd rfl hm,soft:=fun hm=>absurd rfl hm,qh:=fun hm=>by cases hm} fun i f tc ht=>ih i f tc ht hR fun hm k hk=> ?_
  ·intro _ ad ha hne
   by_cases hm:m= .snap
   ·exact hR _ (h.read hm ad ha hne)
   ·exact hS hm _ ((h.own hm).2 ad ha).1
  ·have:=xy hm
   subst this;exact hS bZ k (h.qh rfl i f k hk).1
theorem av.rm (h:av w R .snap S c v) (hR: ∀k,R k→R' k):av w R' .snap S' c v:=h.freeze hR fun h=>absurd rfl h
end Go.T
namespace Go.T
theorem mj {o:Nat}: ∀{l:List Nat},m8 o l=true↔o∈l
 |[]=>by simp[m8]
 |a::r=>by
  simp only[m8,dJ]
  cases h:Nat.beq a o with
  |true=>simp[jw h]
  |false=>simp only[mj (l:=r)];have:=tY h;simp[Ne.symm this]
theorem fk {o:Nat} {l:List Nat}:m8 o l=false↔o∉l:=by
 rw[←mj];simp
theorem Bt {o d:Nat}: ∀{l:List Nat},d∈Yk o l↔d∈l∧d≠o
 |[]=>by simp[Yk]
 |a::r=>by
  simp only[Yk]
  cases h:Nat.beq a o with
  |true=>
   have h1:=jw h;subst h1;simp only[Bt (l:=r),dJ];exact⟨fun⟨x,y⟩=>⟨.inr x,y⟩,fun⟨x,y⟩=>⟨x.resolve_left y,y⟩⟩
  |false=>
   have h1:=tY h;simp only[dJ,Bt (l:=r)]
   constructor
   ·rintro(rfl|⟨x,y⟩)
    ·exact⟨.inl rfl,h1⟩
    ·exact⟨.inr x,y⟩
   ·rintro⟨rfl|x,y⟩
    ·exact .inl rfl
    ·exact .inr ⟨x,y⟩
theorem tw {a:List Nat} {l:List Nat} (h:w9 a l=false) {x:Nat} (hx:x∈a):x∉l:=by
 induction a with
 |nil=>cases hx
 |cons y r ih=>
  simp only[w9] at h
  cases h1:m8 y l with
  |true=>rw[h1] at h;cases h
  |false=>
   rw[h1] at h;rcases dJ.1 hx with rfl|hx
   ·exact fk.1 h1
   ·exact ih h hx
theorem beq_false {a b:Nat} (h:a≠b):Nat.beq a b=false:=by
 cases h1:Nat.beq a b with
 |true=>exact absurd (jw h1) h
 |false=>rfl
theorem FT (a:Nat):Nat.beq a a=true:=by simp
section
variable {α β : Type}
theorem gf (i j:Nat) (e:α): ∀(l:List (Nat×α)),an j (pU i e l)=if j=i then some e else an j l
 |[]=>by
  simp only[pU,an]
  by_cases h:j=i
  ·subst h;simp
  ·rw[beq_false (Ne.symm h),aJ h]
 |(a,x)::r=>by
  have ih:=gf i j e r;simp only[pU]
  cases h1:Nat.beq a i with
  |true=>
   have h1:=jw h1;subst h1;simp only[an]
   by_cases h:j=a
   ·subst h;simp
   ·rw[beq_false (Ne.symm h),aJ h]
  |false=>
   have h1:=tY h1
   cases h2:Nat.ble i a with
   |true=>
    simp only[an]
    by_cases h:j=i
    ·subst h;simp
    ·rw[beq_false (Ne.symm h),aJ h]
   |false=>
    simp only[an]
    by_cases h3:a=j
    ·subst h3;rw[FT,aJ h1]
    ·rw[beq_false h3];exact ih
theorem jQ (i j:Nat): ∀(l:List (Nat×α)),an j (rG i l)=if j=i then none else an j l
 |[]=>by simp[rG,an]
 |(a,x)::r=>by
  have ih:=jQ i j r;simp only[rG]
  cases h1:Nat.beq a i with
  |true=>
   have h1:=jw h1;subst h1;simp only[an,ih]
   by_cases h:j=a
   ·simp[h]
   ·rw[beq_false (Ne.symm h)]
  |false=>
   have h1:=tY h1;simp only[an]
   by_cases h3:a=j
   ·subst h3;rw[FT,aJ h1]
   ·rw[beq_false h3];exact ih
theorem vg (f:α→α) (j:Nat): ∀(l:List (Nat×α)),an j (mapA f l)=(an j l).map f
 |[]=>rfl
 |(a,x)::r=>by
  simp only[mapA,an]
  cases Nat.beq a j with
  |true=>rfl
  |false=>exact vg f j r
theorem QS (l:List Nat) (j:Nat): ∀(m:List (Nat×α)),an j (Dw l m)=if j∈l then an j m else none
 |[]=>by simp[Dw,an]
 |(a,x)::r=>by
  have ih:=QS l j r;simp only[Dw]
  cases h1:m8 a l with
  |true=>
   have h1:=mj.1 h1;simp only[an]
   by_cases h:a=j
   ·subst h;rw[FT,aR h1]
   ·rw[beq_false h];exact ih
  |false=>
   have h1:=fk.1 h1;simp only[an,ih]
   by_cases h:a=j
   ·subst h;rw[aJ h1,aJ h1]
   ·rw[beq_false h]
end
structure Fp where
 I:Nat→Prop
 S:Nat→Nat→Prop
 V:Nat→Value
 β:Nat→Addr
def rd (φ:Fp) (ds:List Nat) (k:Nat):Prop:=φ.I k∨ ∃d,d∈ds∧φ.S d k
abbrev Lw:Nat→Prop:=fun _=>False
def OB.m (b:OB):Mode:=if b.deep then .deep else .top
def o7 (w:World) (φ:Fp) (o:Nat) (b:OB):Prop:=av w φ.I b.m (φ.S o) (.sub b.z b.rows) (φ.V o)
def Dx (z n:Nat) (l h:Int) (V v:Value):Prop:=
 0≤l∧l≤h∧h≤n∧ ∃A A' c,V= .slice A n c∧v= .slice A' (h.toNat-l.toNat) (c-l.toNat)∧(c≠l.toNat→A'=A.map fun a=>a.add (l.toNat*z))∧(A=none→A'=none)∧
  ∀ad,A=some ad→ ∃ad',A'=some ad'∧ad'.block=ad.block∧(ad.spot=none→ad'.spot=none)
def aT (ob:List (Nat×OB)) (d:Nat):Prop:= ∃b,an d ob=some b
def ab9 (ob:List (Nat×OB)) (w:World) (φ:Fp) (z:Nat) (rows:List (List TC)) (v:Value) (o:Nat) (i:Int) (f:Nat):Prop:=
 ∃b,an o ob=some b∧0≤i∧zQ b.rows i.toNat f=some (.sub z rows)∧ ∃ad n c,φ.V o= .slice (some ad) n c∧w.cell? (ad.add (i.toNat*b.z+f))=some v
def ek (ob:List (Nat×OB)) (w:World) (φ:Fp) (e:CE) (v:Value):Prop:=
 match e with
 | .sc x=>v=x∧Oc x
 | .nil z=>v= .slice none 0 0∧0<z
 | .ref o cut=> ∃b,an o ob=some b∧match cut with
   |none=>v=φ.V o
   |some (l,h)=>Dx b.z b.rows.length l h (φ.V o) v
 | .snap ds loc z rows=>(∀d∈ds,d=0∨aT ob d)∧av w (rd φ ds) .snap Lw (.sub z rows) v∧ ∀o i f,loc=some (o,i,f)→o∈ds∧ab9 ob w φ z rows v o i f
 | .gone=>True
def nV (ob:List (Nat×OB)) (w:World) (φ:Fp) (c:rF) (u:Value):Prop:=
 match c with
 | .mk true cs=> ∃xs:Array Value,u= .agg xs∧xs.size=cs.length∧ ∀(j:Nat) (e:CE),cs[j]?=some e→ ∃x,xs[j]?=some x∧x.cells= #[x]∧ek ob w φ e x
 | .mk false cs=> ∃e,cs=[e]∧u.cells= #[u]∧ek ob w φ e u
 | .ptr b=>u= .pointer (some (φ.β b))
def dx (ob:List (Nat×OB)) (w:World) (φ:Fp) (e:TE) (v:Value):Prop:=
 match e with
 | .dead=>True
 | .v true es=> ∃vs:Array Value,v= .tuple vs∧vs.size=es.length∧ ∀(k:Nat) (c:rF),es[k]?=some c→ ∃u,vs[k]?=some u∧nV ob w φ c u
 | .v false es=> ∃c,es=[c]∧nV ob w φ c v
 | .bp b off=>v= .pointer (some ((φ.β b).add off))
 | .ep ds cells=>(∀d∈ds,d=0∨aT ob d)∧ ∃ad,v= .pointer (some ad)∧(cells≠[]→rd φ ds ad.block)∧ ∀(j:Nat) (tc:TC),cells[j]?=some tc→ ∃u,w.cell? (ad.add j)=some u∧av w (rd φ ds) .snap Lw tc u
 | .er o path i f=> ∃b,an o ob=some b∧0≤i∧ ∃ad n c,φ.V o= .slice (some ad) n c∧match path with
   |none=>v= .pointer (some (ad.add (i.toNat*b.z+f)))
   |some (i0,f0)=>0≤i0∧ ∃z1 r5,zQ b.rows i0.toNat f0=some (.sub z1 r5)∧ ∃ad1 n1 c1,w.cell? (ad.add (i0.toNat*b.z+f0))=some (.slice (some ad1) n1 c1)∧
    v= .pointer (some (ad1.add (i.toNat*z1+f)))
 | .fn f caps=>v= .func (.func f) #[] (caps.map fun b=>Value.pointer (some (φ.β b))).toArray
 | .kb b=>v= .bool b
structure J2 (F:Nat→Prop) (w0 w:World):Prop where
 os:w.os=w0.os
 tape:w.tape=w0.tape
 output:w.output=w0.output
 size:w0.heap.size≤w.heap.size
 block: ∀k,k<w0.heap.size→ ¬F k→w.heap[k]?=w0.heap[k]?
structure Arg where
 all:Nat→Prop
 sh:Nat→Prop
structure Sep (F:Nat→Prop) (A:Arg) (w0 w:World) (φ:Fp) (bx:List (Nat×List CE)) (ob:List (Nat×OB)):Prop where
 arg:φ.S 0=A.all
 nz: ∀o,aT ob o→o≠0
 apart: ∀o o' k,aT ob o→aT ob o'→φ.S o k→φ.S o' k→o=o'
 read: ∀o k,aT ob o→φ.S o k→ ¬φ.I k
 fresh: ∀o k,aT ob o→φ.S o k→k<w.heap.size∧(w0.heap.size≤k∨F k)
 ro: ∀k,φ.I k→k<w.heap.size∧(w0.heap.size≤k∨F k∨A.sh k)
 oY: ∀k,A.all k→k<w0.heap.size∧ ¬F k
 box: ∀b cs,an b bx=some cs→Bl b=true→ ¬φ.I (φ.β b).block∧(∀o,aT ob o→ ¬φ.S o (φ.β b).block)∧(w0.heap.size≤(φ.β b).block∨F (φ.β b).block)∧
  ∀b' cs',an b' bx=some cs'→b'≠b→(φ.β b').block≠(φ.β b).block
 spot: ∀b cs,an b bx=some cs→(Bl b=true→(φ.β b).spot=none)∧(φ.β b).block<w.heap.size∧(Bl b=false→A.all (φ.β b).block)
 soft: ∀b cs j,an b bx=some cs→Bl b=true→j<cs.length→w.frozen? ((φ.β b).add j)=false
structure bw (F:Nat→Prop) (A:Arg) (w0:World) (φ:Fp) (st:TS) (tm:Array Value) (w:World):Prop where
 tmp: ∀i,dx st.ob w φ (st.get i) (tm.getD i undef)
 box: ∀b cs,an b st.bx=some cs→ ∀(j:Nat) (e:CE),cs[j]?=some e→ ∃v,w.cell? ((φ.β b).add j)=some v∧v.cells= #[v]∧ek st.ob w φ e v
 obj: ∀o b,an o st.ob=some b→o7 w φ o b
 sep:Sep F A w0 w φ st.bx st.ob
 frm:J2 F w0 w
def Rel (F:Nat→Prop) (A:Arg) (w0:World) (st:TS) (tm:Array Value) (w:World):Prop:= ∃φ,bw F A w0 φ st tm w
section
variable {ob G4 : List (Nat × OB)} {w w' : World} {φ φ' : Fp} {f : CE → CE} {g : TE → TE}
def ym (f:CE→CE):rF→rF
 | .mk a cs=> .mk a (cs.map f)
 | .ptr b=> .ptr b
theorem xz (f:CE→CE): ∀(es:List rF) (k:Nat),(m9 f es)[k]?=(es[k]?).map (ym f)
 |[],_=>by simp[m9]
 | .mk a cs::r,0=>by simp[m9,ym]
 | .ptr b::r,0=>by simp[m9,ym]
 | .mk a cs::r,k+1=>by simp[m9,xz f r k]
 | .ptr b::r,k+1=>by simp[m9,xz f r k]
theorem r6 (f:CE→CE): ∀(es:List rF),(m9 f es).length=es.length
 |[]=>rfl
 | .mk a cs::r=>by simp[m9,r6 f r]
 | .ptr b::r=>by simp[m9,r6 f r]
theorem nV.IN (hβ:φ'.β=φ.β) (hc: ∀e v,ek ob w φ e v→ek G4 w' φ' (f e) v) {c:rF} {u:Value} (h:nV ob w φ c u):
 nV G4 w' φ' (ym f c) u:=by
 cases c with
 |ptr b=>simp only[nV,ym] at h ⊢;rw[hβ];exact h
 |mk a cs=>
  cases a with
  |true=>
   obtain⟨xs,h1,h2,h3⟩:=h;refine⟨xs,h1,by simp[h2],fun j e he=> ?_⟩;rw[me] at he
   cases h4:cs[j]? with
   |none=>rw[h4] at he;cases he
   |some e0=>
    rw[h4] at he;simp only[nT,bq] at he;subst he;obtain⟨x,hx,hx1,hok⟩:=h3 j e0 h4;exact⟨x,hx,hx1,hc _ _ hok⟩
  |false=>
   obtain⟨e,rfl,h2,h3⟩:=h;exact⟨f e,rfl,h2,hc _ _ h3⟩
theorem dx.IN (hβ:φ'.β=φ.β) (hc: ∀e v,ek ob w φ e v→ek G4 w' φ' (f e) v) (ht: ∀e v,(∀t es,e≠ .v t es)→dx ob w φ e v→dx G4 w' φ' (g e) v) {e:TE} {v:Value} (h:dx ob w φ e v):
 dx G4 w' φ' (AW f g e) v:=by
 by_cases hv: ∃t es,e= .v t es
 ·obtain⟨tup,es,rfl⟩:=hv
  cases tup with
  |true=>
   obtain⟨vs,h1,h2,h3⟩:=h;refine⟨vs,h1,by rw[r6];exact h2,fun k c hk=> ?_⟩;rw[xz] at hk
   cases h4:es[k]? with
   |none=>rw[h4] at hk;cases hk
   |some c0=>
    rw[h4] at hk;simp only[nT,bq] at hk;obtain⟨u,hu,hok⟩:=h3 k c0 h4;exact⟨u,hu,by rw[←hk];exact hok.IN hβ hc⟩
  |false=>
   obtain⟨c,rfl,hok⟩:=h;refine⟨_,?_,hok.IN hβ hc⟩
   cases c<;>rfl
 ·have h1:AW f g e=g e:=by cases e<;>first|rfl|exact absurd ⟨_,_,rfl⟩ hv
  rw[h1];exact ht e v (fun t es he=>hv ⟨t,es,he⟩) h
end
theorem get_map (f:CE→CE) (g:TE→TE) (h:List (Nat×OB)→List (Nat×OB)) (hd:g .dead= .dead) (st:TS) (i:Nat):(zK f g h st).get i=AW f g (st.get i):=by
 unfold TS.get zK;simp only[vg]
 cases an i st.tm with
 |none=>exact hd.symm
 |some e=>rfl
variable {F : Nat → Prop} {A : Arg} {w0 w w' : World} {φ φ' : Fp} {st st' : TS} {tm IF : Array Value}
theorem bw.IN (h:bw F A w0 φ st tm w) {f:CE→CE} {g:TE→TE} {k:List (Nat×OB)→List (Nat×OB)} (hd:g .dead= .dead) (hβ:φ'.β=φ.β)
 (hc: ∀e v,ek st.ob w φ e v→ek (k st.ob) w' φ' (f e) v) (ht: ∀e v,(∀t es,e≠ .v t es)→dx st.ob w φ e v→dx (k st.ob) w' φ' (g e) v)
 (hw: ∀b cs,an b st.bx=some cs→ ∀j,j<cs.length→w'.cell? ((φ.β b).add j)=w.cell? ((φ.β b).add j))
 (ho: ∀o b,an o (k st.ob)=some b→o7 w' φ' o b) (hs:Sep F A w0 w' φ' (mapA (List.map f) st.bx) (k st.ob)) (hf:J2 F w0 w'):bw F A w0 φ' (zK f g k st) tm w' where
 tmp i:=by rw[get_map f g k hd];exact(h.tmp i).IN hβ hc ht
 box b cs hb j e he:=by
  simp only[zK,vg] at hb
  cases h1:an b st.bx with
  |none=>rw[h1] at hb;cases hb
  |some cs0=>
   rw[h1] at hb;simp only[nT,bq] at hb;subst hb;rw[me] at he
   cases h2:cs0[j]? with
   |none=>rw[h2] at he;cases he
   |some e0=>
    rw[h2] at he;simp only[nT,bq] at he;subst he;obtain⟨v,hv,h1c,hok⟩:=h.box b cs0 h1 j e0 h2;refine⟨v,?_,h1c,hc _ _ hok⟩;rw[hβ,hw b cs0 h1 j (List.getElem?_eq_some_iff.1 h2).1];exact hv
 obj:=ho
 sep:=hs
 frm:=hf
theorem Sep.boxes {bx bx':List (Nat×List CE)} {ob:List (Nat×OB)} (h:Sep F A w0 w φ bx ob) (hb: ∀b cs',an b bx'=some cs'→ ∃cs,an b bx=some cs∧cs'.length=cs.length):Sep F A w0 w φ bx' ob where
 arg:=h.arg
 nz:=h.nz
 apart:=h.apart
 read:=h.read
 fresh:=h.fresh
 ro:=h.ro
 oY:=h.oY
 box b cs' hl hw:=by
  obtain⟨cs,h1,_⟩:=hb b cs' hl;obtain⟨a1,a2,a3,a4⟩:=h.box b cs h1 hw;refine⟨a1,a2,a3,fun b' X5 hl' hne=> ?_⟩;obtain⟨cs2,h2,_⟩:=hb b' X5 hl';exact a4 b' cs2 h2 hne
 spot b cs' hl:=by obtain⟨cs,h1,_⟩:=hb b cs' hl;exact h.spot b cs h1
 soft b cs' j hl hw hj:=by obtain⟨cs,h1,h2⟩:=hb b cs' hl;exact h.soft b cs j h1 hw au
theorem iX (f:CE→CE) {bx:List (Nat×List CE)}: ∀b cs',an b (mapA (List.map f) bx)=some cs'→ ∃cs,an b bx=some cs∧cs'.length=cs.length:=by
 intro b cs' h;rw[vg] at h
 cases h1:an b bx with
 |none=>rw[h1] at h;cases h
 |some cs=>
  rw[h1] at h;simp only[nT,bq] at h;exact⟨cs,rfl,by rw[←h];simp⟩
theorem Sep.lt {bx:List (Nat×List CE)} {ob:List (Nat×OB)} (h:Sep F A w0 w φ bx ob) (hs:w0.heap.size≤w.heap.size) {d:Nat} (hd:d=0∨aT ob d) {k:Nat} (hk:φ.S d k):k<w.heap.size:=by
 rcases hd with rfl|hd
 ·rw[h.arg] at hk;exact kE (h.oY k hk).1 hs
 ·exact(h.fresh d k hd hk).1
theorem Sep.ajF {bx:List (Nat×List CE)} {ob:List (Nat×OB)} (h:Sep F A w0 w φ bx ob) (hs:w0.heap.size≤w.heap.size) {ds:List Nat} (hd: ∀d∈ds,d=0∨aT ob d) {k:Nat} (hk:rd φ ds k):k<w.heap.size:=by
 rcases hk with hk|⟨d,hm,hk⟩
 ·exact(h.ro k hk).1
 ·exact h.lt hs (hd d hm) hk
structure nQ (w w':World):Prop where
 os:w'.os=w.os
 tape:w'.tape=w.tape
 output:w'.output=w.output
 size:w.heap.size≤w'.heap.size
 block: ∀k,k<w.heap.size→w'.heap[k]?=w.heap[k]?
theorem nQ.refl (w:World):nQ w w:=⟨rfl,rfl,rfl,cL _,fun _ _=>rfl⟩
theorem nQ.alloc (w:World) (o:Obj):nQ w (w.alloc o):=⟨rfl,rfl,rfl,by simp,fun k hk=>heap_alloc_old w o hk⟩
theorem nQ.drew (w:World):nQ w w.drew:=⟨rfl,rfl,rfl,cL _,fun _ _=>rfl⟩
theorem nQ.trans {a b c:World} (h:nQ a b) (k:nQ b c):nQ a c:=
 ⟨k.os.trans h.os,k.tape.trans h.tape,k.output.trans h.output,bQ h.size k.size,fun i hi=>(k.block i (kE hi h.size)).trans (h.block i hi)⟩
theorem J2.J3 (h:J2 F w0 w) (g:nQ w w'):J2 F w0 w':=
 ⟨g.os.trans h.os,g.tape.trans h.tape,g.output.trans h.output,bQ h.size g.size,fun k hk hf=>(g.block k (kE hk h.size)).trans (h.block k hk hf)⟩
theorem nQ.cell (g:nQ w w') {a:Addr} {v:Value} (h:w.cell? a=some v):w'.cell? a=some v:=by
 rw[gT (w:=w) (g.block _ (World.block_lt_of_cell? w a h))];exact h
theorem nQ.J4 (g:nQ w w') {a:Addr} (h:a.block<w.heap.size):w'.cell? a=w.cell? a:=gT (g.block _ h)
theorem ek.stay {ob:List (Nat×OB)} (hI: ∀k,φ.I k→w'.heap[k]?=w.heap[k]?) (hS: ∀d k,d=0∨aT ob d→φ.S d k→w'.heap[k]?=w.heap[k]?)
 (hV: ∀o,aT ob o→ ∀ad n c,φ.V o= .slice (some ad) n c→ ∀i v,w.cell? (ad.add i)=some v→w'.cell? (ad.add i)=some v) {e:CE} {v:Value} (h:ek ob w φ e v):ek ob w' φ e v:=by
 cases e with
 |snap ds loc z rows=>
  obtain⟨h1,h2,h3⟩:=h;refine⟨h1,h2.move (fun k hk=>⟨hk,?_⟩) (fun hm=>absurd rfl hm),fun o i f hl=>⟨(h3 o i f hl).1,?_⟩⟩
  ·rcases hk with hk|⟨d,hd,hk⟩
   ·exact hI k hk
   ·exact hS d k (h1 d hd) hk
  ·obtain⟨b,a1,a2,a3,ad,n,c,a4,a5⟩:=(h3 o i f hl).2
   exact⟨b,a1,a2,a3,ad,n,c,a4,hV o ⟨b,a1⟩ ad n c a4 _ _ a5⟩
 |_=>exact h
theorem dx.stay {ob:List (Nat×OB)} (hI: ∀k,φ.I k→w'.heap[k]?=w.heap[k]?) (hS: ∀d k,d=0∨aT ob d→φ.S d k→w'.heap[k]?=w.heap[k]?)
 (hV: ∀o,aT ob o→ ∀ad n c,φ.V o= .slice (some ad) n c→ ∀i v,w.cell? (ad.add i)=some v→w'.cell? (ad.add i)=some v)
 (hA: ∀ad v,w.cell? ad=some v→(∀k,ad.block=k→w'.heap[k]?=w.heap[k]?)→w'.cell? ad=some v) (hE: ∀ds cells v,dx ob w φ (.ep ds cells) v→dx ob w' φ (.ep ds cells) v) {e:TE} {v:Value} (hv: ∀t es,e≠ .v t es)
 (h:dx ob w φ e v):dx ob w' φ e v:=by
 cases e with
 |v t es=>exact absurd rfl (hv t es)
 |ep ds cells=>exact hE ds cells v h
 |er o path i f=>
  obtain⟨b,h1,h2,ad,n,c,h3,h4⟩:=h;refine⟨b,h1,h2,ad,n,c,h3,?_⟩
  cases path with
  |none=>exact h4
  |some q=>
   obtain⟨i0,f0⟩:=q;obtain⟨a1,z1,r5,a2,ad1,n1,c1,a3,a4⟩:=h4;exact⟨a1,z1,r5,a2,ad1,n1,c1,hV o ⟨b,h1⟩ ad n c h3 _ _ a3,a4⟩
 |_=>exact h
theorem yo (st:TS):zK id id id st=st:=by
 have h1: ∀(es:List rF),m9 id es=es:=by
  intro es
  induction es with
  |nil=>rfl
  |cons c r ih=>cases c<;>simp[m9,ih]
 have h2: ∀e:TE,AW id id e=e:=by
  intro e;cases e<;>first|rfl|(simp only[AW,h1])
 have h3: ∀{α:Type} (f:α→α) (hf: ∀a,f a=a) (l:List (Nat×α)),mapA f l=l:=by
  intro α f hf l
  induction l with
  |nil=>rfl
  |cons a r ih=>obtain⟨j,x⟩:=a;simp only[mapA,hf,ih]
 unfold zK;rw[h3 _ h2,h3 _ (fun l=>List.map_id l)]
 rfl
theorem Sep.J3 {bx:List (Nat×List CE)} {ob:List (Nat×OB)} (h:Sep F A w0 w φ bx ob) (g:nQ w w'):Sep F A w0 w' φ bx ob where
 arg:=h.arg
 nz:=h.nz
 apart:=h.apart
 read:=h.read
 fresh o k ho hk:=⟨kE (h.fresh o k ho hk).1 g.size,(h.fresh o k ho hk).2⟩
 ro k hk:=⟨kE (h.ro k hk).1 g.size,(h.ro k hk).2⟩
 oY:=h.oY
 box:=h.box
 spot b cs hb:=⟨(h.spot b cs hb).1,kE (h.spot b cs hb).2.1 g.size,(h.spot b cs hb).2.2⟩
 soft b cs j hb hw hj:=by
  rw[nc (w:=w) (g.block _ (by rw[cR];exact(h.spot b cs hb).2.1))];exact h.soft b cs j hb hw hj
theorem bw.J3 (h:bw F A w0 φ st tm w) (g:nQ w w'):bw F A w0 φ st tm w':=by
 have hI: ∀k,φ.I k→w'.heap[k]?=w.heap[k]?:=fun k hk=>g.block k (h.sep.ro k hk).1;have hS: ∀d k,d=0∨aT st.ob d→φ.S d k→w'.heap[k]?=w.heap[k]?:=fun d k hd hk=>g.block k (h.sep.lt h.frm.size hd hk)
 have hE: ∀ds cells v,dx st.ob w φ (.ep ds cells) v→dx st.ob w' φ (.ep ds cells) v:=by
  intro ds cells v ⟨h1,ad,h2,hr,h3⟩;refine⟨h1,ad,h2,hr,fun j tc hj=> ?_⟩;obtain⟨u,h4,h5⟩:=h3 j tc hj;exact⟨u,g.cell h4,h5.move (fun k hk=>⟨hk,g.block k (h.sep.ajF h.frm.size h1 hk)⟩) (fun hm=>absurd rfl hm)⟩
 have:=h.IN (f:=id) (g:=id) (k:=id) (φ':=φ) (w':=w') rfl rfl (fun e v he=>he.stay hI hS (fun o ho ad n c hv i v hc=>g.cell hc))
  (fun e v hv he=>dx.stay hI hS (fun o ho ad n c hv i v hc=>g.cell hc) (fun ad v hc _=>g.cell hc) hE hv he)
  (fun b cs hb j hj=>g.J4 (by rw[cR];exact(h.sep.spot b cs hb).2.1))
  (fun o b hb=>(h.obj o b hb).move (fun k hk=>⟨hk,hI k hk⟩) (fun _ k hk=>hS o k (.inr ⟨b,hb⟩) hk))
  (by
    have h3:mapA (List.map (id:CE→CE)) st.bx=st.bx:=by
     have:=congrArg TS.bx (yo st);exact this
    rw[h3]
    exact h.sep.J3 g) (h.frm.J3 g)
 rw[yo] at this;exact this
end Go.T
namespace Go.T
variable {F : Nat → Prop} {A : Arg} {w0 w w' : World} {φ φ' : Fp} {st st' : TS} {tm IF : Array Value}
theorem getD_set_ne (tm:Array Value) (d i:Nat) (v x:Value) (h:i≠d):(tm.setIfInBounds d v).getD i x=tm.getD i x:=by
 simp only[w7,Vo];rw[aJ fun h'=>h h'.symm]
theorem TL (tm:Array Value) (d:Nat) (v x:Value) (h:d<tm.size):(tm.setIfInBounds d v).getD d x=v:=by
 simp only[w7,Vo];simp[h]
theorem Wy (st:TS) (d i:Nat) (e:TE):(st.set d e).get i=if i=d then e else st.get i:=by
 unfold TS.get TS.set;simp only[gf]
 by_cases h:i=d
 ·simp[h]
 ·simp[h]
theorem bw.TM (h:bw F A w0 φ st tm w) {d:Nat} {e:TE} {v:Value} (hd:d<tm.size) (ht:dx st.ob w φ e v):bw F A w0 φ (st.set d e) (tm.setIfInBounds d v) w where
 tmp i:=by
  rw[Wy]
  by_cases hi:i=d
  ·subst hi;rw[aR rfl,TL _ _ _ _ hd];exact ht
  ·rw[aJ hi,getD_set_ne _ _ _ _ _ hi];exact h.tmp i
 box:=h.box
 obj:=h.obj
 sep:=h.sep
 frm:=h.frm
theorem bw.ahk (h:bw F A w0 φ st tm w) {d:Nat} {e:TE} (ht:dx st.ob w φ e (tm.getD d undef)):bw F A w0 φ (st.set d e) tm w where
 tmp i:=by
  rw[Wy]
  by_cases hi:i=d
  ·subst hi;rw[aR rfl];exact ht
  ·rw[aJ hi];exact h.tmp i
 box:=h.box
 obj:=h.obj
 sep:=h.sep
 frm:=h.frm
theorem Sep.sub {bx:List (Nat×List CE)} {ob G4:List (Nat×OB)} (h:Sep F A w0 w φ bx ob) (hd: ∀o,aT G4 o→aT ob o):Sep F A w0 w φ bx G4 where
 arg:=h.arg
 nz o ho:=h.nz o (hd o ho)
 apart o o' k h1 h2:=h.apart o o' k (hd o h1) (hd o' h2)
 read o k ho:=h.read o k (hd o ho)
 fresh o k ho:=h.fresh o k (hd o ho)
 ro:=h.ro
 oY:=h.oY
 box b cs hb hw:=by
  obtain⟨a1,a2,a3,a4⟩:=h.box b cs hb hw;exact⟨a1,fun o ho=>a2 o (hd o ho),a3,a4⟩
 spot:=h.spot
 soft:=h.soft
theorem pM {o d:Nat} {ob:List (Nat×OB)}:aT (rG o ob) d↔d≠o∧aT ob d:=by
 unfold aT;rw[jQ]
 by_cases h:d=o
 ·simp[h]
 ·simp[h]
theorem yp {o d:Nat} {ob:List (Nat×OB)} (h:d≠o):an d (rG o ob)=an d ob:=by rw[jQ,aJ h]
theorem ek.kill {o:Nat} {ob:List (Nat×OB)} {e:CE} {v:Value} (h:ek ob w φ e v):ek (rG o ob) w φ (Vr o e) v:=by
 unfold Vr
 cases hd:m8 o (ig e) with
 |true=>trivial
 |false=>
  have hd:=fk.1 hd
  cases e with
  |ref p cut=>
   simp only[ig,j6] at hd;obtain⟨b,h1,h2⟩:=h;exact⟨b,by rw[yp (Ne.symm hd)];exact h1,h2⟩
  |snap ds loc z rows=>
   simp only[ig] at hd;obtain⟨h1,h2,h3⟩:=h;refine⟨fun d hm=> ?_,h2,fun p i f hl=> ?_⟩
   ·rcases h1 d hm with h|h
    ·exact .inl h
    ·exact .inr (pM.2 ⟨fun e=>hd (e▸hm),h⟩)
   ·obtain⟨a1,b,a2,a3⟩:=h3 p i f hl
    have hp:p≠o:=fun e=>by subst e;exact hd a1
    exact⟨a1,b,by rw[yp hp];exact a2,a3⟩
  |_=>exact h
theorem dx.kill {o:Nat} {ob:List (Nat×OB)} {e:TE} {v:Value} (hv: ∀t es,e≠ .v t es) (h:dx ob w φ e v):dx (rG o ob) w φ (ab2 o e) v:=by
 cases e with
 |v t es=>exact absurd rfl (hv t es)
 |ep ds cells=>
  simp only[ab2]
  cases hd:m8 o ds with
  |true=>trivial
  |false=>
   have hd:=fk.1 hd;obtain⟨h1,h2⟩:=h;refine⟨fun d hm=> ?_,h2⟩;rcases h1 d hm with h|h
   ·exact .inl h
   ·exact .inr (pM.2 ⟨fun e=>hd (e▸hm),h⟩)
 |er p path i f=>
  simp only[ab2]
  cases hd:Nat.beq p o with
  |true=>trivial
  |false=>
   have hd:=tY hd;obtain⟨b,h1,h2⟩:=h;exact⟨b,by rw[yp hd];exact h1,h2⟩
 |_=>exact h
theorem bw.o6 (h:bw F A w0 φ st tm w) (o:Nat):bw F A w0 φ (o6 o st) tm w:=by
 refine h.IN (φ':=φ) rfl rfl (fun e v he=>he.kill) (fun e v hv he=>he.kill hv) (fun _ _ _ _ _=>rfl) (fun p b hb=> ?_) ?_ h.frm
 ·rw[jQ] at hb
  split at hb
  ·cases hb
  ·exact h.obj p b hb
 ·exact(h.sep.boxes (iX _)).sub fun d hd=>(pM.1 hd).2
theorem lP {o d:Nat}:aT (T.o6 o st).ob d↔d≠o∧aT st.ob d:=pM
theorem Vv {o d:Nat} (h:d≠o):an d (T.o6 o st).ob=an d st.ob:=yp h
def Fp.more (φ:Fp) (X:Nat→Prop):Fp:={φ with I:=fun k=>φ.I k∨X k}
theorem Wz {X:Nat→Prop} {ds:List Nat} {k:Nat} (h:rd φ ds k):rd (φ.more X) ds k:=h.imp .inl id
theorem av.qm {R R' S:Nat→Prop} {m:Mode} {c:TC} {v:Value} (h:av w R m S c v) (hR: ∀k,R k→R' k):av w R' m S c v:=
 h.move (fun k hk=>⟨hR k hk,rfl⟩) fun _ _ _=>rfl
theorem ek.more {X:Nat→Prop} {ob:List (Nat×OB)} {e:CE} {v:Value} (h:ek ob w φ e v):ek ob w (φ.more X) e v:=by
 cases e with
 |snap ds loc z rows=>
  obtain⟨h1,h2,h3⟩:=h;exact⟨h1,h2.qm fun k hk=>Wz hk,h3⟩
 |_=>exact h
theorem dx.more {X:Nat→Prop} {ob:List (Nat×OB)} {e:TE} {v:Value} (hv: ∀t es,e≠ .v t es) (h:dx ob w φ e v):dx ob w (φ.more X) e v:=by
 cases e with
 |v t es=>exact absurd rfl (hv t es)
 |ep ds cells=>
  obtain⟨h1,ad,h2,hr,h3⟩:=h;refine⟨h1,ad,h2,fun hc=>Wz (hr hc),fun j tc hj=> ?_⟩;obtain⟨u,h4,h5⟩:=h3 j tc hj;exact⟨u,h4,h5.qm fun k hk=>Wz hk⟩
 |_=>exact h
theorem LN (st:TS):mapA (List.map (id:CE→CE)) st.bx=st.bx:=congrArg TS.bx (yo st)
theorem bw.more (h:bw F A w0 φ st tm w) {X:Nat→Prop} (hX: ∀k,X k→k<w.heap.size∧(w0.heap.size≤k∨F k∨A.sh k)) (hS: ∀k o,X k→aT st.ob o→ ¬φ.S o k)
 (hB: ∀b cs,an b st.bx=some cs→Bl b=true→ ¬X (φ.β b).block):bw F A w0 (φ.more X) st tm w:=by
 have:=h.IN (f:=id) (g:=id) (k:=id) (φ':=φ.more X) (w':=w) rfl rfl (fun e v he=>he.more) (fun e v hv he=>he.more hv) (fun _ _ _ _ _=>rfl)
  (fun o b hb=>(h.obj o b hb).qm fun k hk=> .inl hk)
  (by
    rw[LN]
    exact {
     arg:=h.sep.arg,nz:=h.sep.nz,apart:=h.sep.apart,fresh:=h.sep.fresh,oY:=h.sep.oY,spot:=h.sep.spot,soft:=h.sep.soft
     read:=fun o k ho hk hI=>hI.elim (h.sep.read o k ho hk) fun hx=>hS k o hx ho hk
     ro:=fun k hk=>hk.elim (h.sep.ro k) (hX k)
     box:=fun b cs hb hw=>by
      obtain⟨a1,a2,a3,a4⟩:=h.sep.box b cs hb hw
      exact⟨fun hI=>hI.elim a1 (hB b cs hb hw),a2,a3,a4⟩}) h.frm
 rw[yo] at this;exact this
def Fp.add (φ:Fp) (o:Nat) (X:Nat→Prop) (v:Value):Fp:={φ with S:=fun d k=>if d=o then X k else φ.S d k,V:=fun d=>if d=o then v else φ.V d}
theorem WA {o:Nat} {X:Nat→Prop} {v:Value} {ds:List Nat} (hd:o∉ds) {k:Nat} (h:rd φ ds k):rd (φ.add o X v) ds k:=by
 rcases h with h|⟨d,hm,h⟩
 ·exact .inl h
 ·refine .inr ⟨d,hm,?_⟩
  show(if d=o then X k else φ.S d k)
  have hp:d≠o:=fun e=>by subst e;exact hd hm
  rw[aJ hp];exact h
theorem xd {o d:Nat} {X:Nat→Prop} {v:Value} (h:d≠o) {k:Nat}:(φ.add o X v).S d k=φ.S d k:=aJ h
theorem aeK {o d:Nat} {X:Nat→Prop} {v:Value} (h:d≠o):(φ.add o X v).V d=φ.V d:=aJ h
theorem kG {o d:Nat} {b:OB} {ob:List (Nat×OB)}:aT (pU o b ob) d↔d=o∨aT ob d:=by
 unfold aT;rw[gf]
 by_cases h:d=o
 ·simp[h]
 ·simp[h]
theorem ng {o d:Nat} {b:OB} {ob:List (Nat×OB)} (h:d≠o):an d (pU o b ob)=an d ob:=by rw[gf,aJ h]
theorem nI {o:Nat} {b:OB} {ob:List (Nat×OB)}:an o (pU o b ob)=some b:=by rw[gf,aR rfl]
theorem ek.add {o:Nat} {b:OB} {X:Nat→Prop} {V:Value} {ob:List (Nat×OB)} (h0:o≠0) (hn: ¬aT ob o) {e:CE} {v:Value} (h:ek ob w φ e v):ek (pU o b ob) w (φ.add o X V) e v:=by
 cases e with
 |ref p cut=>
  obtain⟨b',h1,h2⟩:=h;have hp:p≠o:=fun e=>hn ⟨b',e▸h1⟩;refine⟨b',by rw[ng hp];exact h1,?_⟩;rw[aeK hp];exact h2
 |snap ds loc z rows=>
  obtain⟨h1,h2,h3⟩:=h;have hd:o∉ds:=fun hm=>(h1 o hm).elim h0 hn;refine⟨fun d hm=>(h1 d hm).imp id fun h=>kG.2 (.inr h),h2.qm fun k hk=>WA hd hk,fun p i f hl=>⟨(h3 p i f hl).1,?_⟩⟩;obtain⟨a1,b',a2,a3,a4,ad,n,c,a5,a6⟩:=h3 p i f hl;have hp:p≠o:=fun e=>hn ⟨b',e▸a2⟩;exact⟨b',by rw[ng hp];exact a2,a3,a4,ad,n,c,by rw[aeK hp];exact a5,a6⟩
 |_=>exact h
theorem dx.add {o:Nat} {b:OB} {X:Nat→Prop} {V:Value} {ob:List (Nat×OB)} (h0:o≠0) (hn: ¬aT ob o) {e:TE} {v:Value} (hv: ∀t es,e≠ .v t es) (h:dx ob w φ e v):
 dx (pU o b ob) w (φ.add o X V) e v:=by
 cases e with
 |v t es=>exact absurd rfl (hv t es)
 |ep ds cells=>
  obtain⟨h1,ad,h2,hr,h3⟩:=h;have hd:o∉ds:=fun hm=>(h1 o hm).elim h0 hn;refine⟨fun d hm=>(h1 d hm).imp id fun h=>kG.2 (.inr h),ad,h2,fun hc=>WA hd (hr hc),fun j tc hj=> ?_⟩;obtain⟨u,h4,h5⟩:=h3 j tc hj;exact⟨u,h4,h5.qm fun k hk=>WA hd hk⟩
 |er p path i f=>
  obtain⟨b',h1,h2,ad,n,c,h3,h4⟩:=h;have hp:p≠o:=fun e=>hn ⟨b',e▸h1⟩;exact⟨b',by rw[ng hp];exact h1,h2,ad,n,c,by rw[aeK hp];exact h3,h4⟩
 |_=>exact h
theorem ahl (st:TS) (o:Nat) (b:OB):st.ajs o b=zK id id (pU o b) st:=by
 have h:=yo st;unfold zK at h ⊢;have h1:=congrArg TS.tm h;have h2:=congrArg TS.bx h;simp only at h1 h2;rw[h1,h2];rfl
theorem bw.add (h:bw F A w0 φ st tm w) {o:Nat} {b:OB} {X:Nat→Prop} {v:Value} (h0:o≠0) (hn: ¬aT st.ob o) (hc:av w φ.I b.m X (.sub b.z b.rows) v)
 (hX: ∀k,X k→k<w.heap.size∧(w0.heap.size≤k∨F k)) (hI: ∀k,X k→ ¬φ.I k) (hS: ∀k d,X k→aT st.ob d→ ¬φ.S d k)
 (hB: ∀b cs,an b st.bx=some cs→Bl b=true→ ¬X (φ.β b).block):bw F A w0 (φ.add o X v) (st.ajs o b) tm w:=by
 rw[ahl];refine h.IN (φ':=φ.add o X v) (w':=w) rfl rfl (fun e u he=>he.add h0 hn) (fun e u hv he=>he.add h0 hn hv) (fun _ _ _ _ _=>rfl) (fun p b' hb=> ?_) ?_ h.frm
 ·unfold o7
  by_cases hp:p=o
  ·subst hp
   rw[nI] at hb
   cases hb
   show av w φ.I b.m (fun k=>if p=p then X k else φ.S p k) (.sub b.z b.rows) (if p=p then v else φ.V p);simp only[if_true];exact hc
  ·rw[ng hp] at hb
   have:=h.obj p b' hb;unfold o7 at this;show av w φ.I b'.m (fun k=>if p=o then X k else φ.S p k) (.sub b'.z b'.rows) (if p=o then v else φ.V p);simp only[aJ hp];exact this
 ·rw[LN]
  exact {
   arg:=by
    show(fun k=>if 0=o then X k else φ.S 0 k)=A.all;simp only[aJ (Ne.symm h0)];exact h.sep.arg
   nz:=fun d hd=>(kG.1 hd).elim (fun e=>e▸h0) (h.sep.nz d)
   apart:=fun d d' k h1 h2 h3 h4=>by
    by_cases e1:d=o
    ·by_cases e2:d'=o
     ·rw[e1,e2]
     ·subst e1
      rw[xd e2] at h4
      have h3:X k:=by have h3':(if d=d then X k else φ.S d k):=h3;simpa using h3'
      exact absurd h4 (hS k d' h3 ((kG.1 h2).resolve_left e2))
    ·rw[xd e1] at h3
     by_cases e2:d'=o
     ·subst e2
      have h4:X k:=by have h4':(if d'=d' then X k else φ.S d' k):=h4;simpa using h4'
      exact absurd h3 (hS k d h4 ((kG.1 h1).resolve_left e1))
     ·rw[xd e2] at h4
      exact h.sep.apart d d' k ((kG.1 h1).resolve_left e1) ((kG.1 h2).resolve_left e2) h3 h4
   read:=fun d k hd hk=>by
    by_cases e1:d=o
    ·subst e1
     have hk:X k:=by have hk':(if d=d then X k else φ.S d k):=hk;simpa using hk'
     exact hI k hk
    ·rw[xd e1] at hk
     exact h.sep.read d k ((kG.1 hd).resolve_left e1) hk
   fresh:=fun d k hd hk=>by
    by_cases e1:d=o
    ·subst e1
     have hk:X k:=by have hk':(if d=d then X k else φ.S d k):=hk;simpa using hk'
     exact hX k hk
    ·rw[xd e1] at hk
     exact h.sep.fresh d k ((kG.1 hd).resolve_left e1) hk
   ro:=h.sep.ro
   oY:=h.sep.oY
   box:=fun b' cs hb hw=>by
    obtain⟨a1,a2,a3,a4⟩:=h.sep.box b' cs hb hw;refine⟨a1,fun d hd hk=> ?_,a3,a4⟩
    by_cases e1:d=o
    ·subst e1
     have hk:X (φ.β b').block:=by have hk':(if d=d then X (φ.β b').block else φ.S d (φ.β b').block):=hk;simpa using hk'
     exact hB b' cs hb hw hk
    ·rw[xd e1] at hk
     exact a2 d ((kG.1 hd).resolve_left e1) hk
   spot:=h.sep.spot
   soft:=h.sep.soft}
theorem bw.FK (h:bw F A w0 φ st tm w) {o:Nat} {b:OB} {X:Nat→Prop} {v:Value} (h0:o≠0) (hc:av w φ.I b.m X (.sub b.z b.rows) v)
 (hX: ∀k,X k→k<w.heap.size∧(w0.heap.size≤k∨F k)) (hI: ∀k,X k→ ¬φ.I k) (hS: ∀k d,X k→d≠o→aT st.ob d→ ¬φ.S d k)
 (hB: ∀b cs,an b st.bx=some cs→Bl b=true→ ¬X (φ.β b).block):bw F A w0 (φ.add o X v) (T.FK o b st) tm w:=
 (h.o6 o).add h0 (fun hd=>(lP.1 hd).1 rfl) hc hX hI (fun k d hx hd=>hS k d hx (lP.1 hd).1 (lP.1 hd).2)
   fun b cs hb hw=>by
    obtain⟨cs0,h1,_⟩:=iX _ b cs hb;exact hB b cs0 h1 hw
end Go.T
namespace Go.T
variable {F : Nat → Prop} {A : Arg} {w0 w w' : World} {φ φ' : Fp} {st st' : TS} {tm IF : Array Value}
attribute [local semireducible] aq in
theorem CG (rows:List (List TC)) (l h:Int):aq rows l h=(rows.take h.toNat).drop l.toNat:=rfl
theorem QT {rows:List (List TC)} {l h:Int} (h2:h≤rows.length):(aq rows l h).length=h.toNat-l.toNat:=by
 rw[CG,gQ,c7]
 have:h.toNat≤rows.length:=by omega
 omega
theorem WB {rows:List (List TC)} {l h:Int} {i f:Nat} {tc:TC} (ht:zQ (aq rows l h) i f=some tc):zQ rows (i+l.toNat) f=some tc∧i+l.toNat<h.toNat:=by
 unfold zQ at ht ⊢;rw[CG,o5,zG] at ht
 by_cases hi:l.toNat+i<h.toNat
 ·rw[aR hi] at ht
  rw[Nat.add_comm];exact⟨ht,hi⟩
 ·rw[aJ hi] at ht;cases ht
theorem FU {a:Addr} (n:Nat) (h:a.spot=none):(a.add n).spot=none:=by unfold Addr.add;split<;>simp[h]
theorem xA {a:Addr} (n:Nat) (h:a.spot=none):a.add n=⟨a.block,a.off+n,none⟩:=by
 unfold Addr.add;split
 ·subst n;cases a;simp_all
 ·rfl
theorem av.cut {R S:Nat→Prop} {m:Mode} {z:Nat} {rows:List (List TC)} {V v:Value} {l h:Int} (k:av w R m S (.sub z rows) V) (hc:Dx z rows.length l h V v):
 av w R m S (.sub z (aq rows l h)) v:=by
 cases k with
 |sub _ _ _ _ A c u T k hn=>
  obtain⟨h0,h1,h2,A1,A',c1,e1,rfl,e2,e3,e4⟩:=hc
  cases e1
  have hlen:=QT (rows:=rows) (l:=l) h2
  have hle:h.toNat≤rows.length:=by omega
  rw[←hlen];have hcl:=k.len
  have hne: ∀i f tc,zQ (aq rows l h) i f=some tc→c≠l.toNat:=fun i f tc ht=>by
   have:=(WB ht).2;omega
  refine .sub _ _ _ _ A' (c-l.toNat) (fun i f=>u (i+l.toNat) f) (fun i f=>T (i+l.toNat) f) ?_ fun i f tc ht=>hn _ _ _ (WB ht).1
  have hb: ∀ad',A'=some ad'→ ∃ad,A=some ad∧ad'.block=ad.block∧(ad.spot=none→ad'.spot=none):=fun ad' ha=>by
   cases hA:A with
   |none=>rw[e3 hA] at ha;cases ha
   |some ad=>
    obtain⟨ad2,b1,b2,b3⟩:=e4 ad hA;rw[b1] at ha;cases ha;exact⟨ad,rfl,b2,b3⟩
  have hnm:rows=[]→aq rows l h=[]:=fun e=>by rw[CG,e];simp
  refine⟨by omega,bQ (Nat.sub_le _ _) k.cap,k.z0,fun r hr=>k.width r ?_,fun hr=> ?_,fun ad' ha i f tc ht=> ?_,fun hm ad' ha hr=> ?_,fun hm=>⟨fun ha=> ?_,fun ad' ha=> ?_⟩,fun hm h1z ad' ha i=> ?_,fun hm i f q hq=> ?_⟩
  ·rw[CG] at hr
   exact tf (rD hr)
  ·obtain⟨ad,ha⟩:=k.addr fun e=>hr (hnm e)
   obtain⟨ad',b1,_⟩:=e4 ad ha;exact⟨ad',b1⟩
  ·obtain⟨ad,hA,_⟩:=hb ad' ha
   have:=e2 (hne i f tc ht);rw[hA] at this;simp only[nT] at this;rw[this] at ha
   cases ha
   rw[Addr.add_add];have:=k.cell ad hA _ _ _ (WB ht).1;rw[rE] at this;rw[show l.toNat*z+(i*z+f)=i*z+l.toNat*z+f by omega];exact this
  ·obtain⟨ad,hA,b1,_⟩:=hb ad' ha
   rw[b1];exact k.read hm ad hA fun e=>hr (hnm e)
  ·cases hA:A with
   |none=>rw[(k.own hm).1 hA];omega
   |some ad=>obtain⟨ad2,b1,_⟩:=e4 ad hA;rw[b1] at ha;cases ha
  ·obtain⟨ad,hA,b1,b2⟩:=hb ad' ha
   obtain⟨a1,a2,a3⟩:=(k.own hm).2 ad hA;refine⟨by rw[b1];exact a1,b2 a2,fun j hj=> ?_⟩
   have ank:c≠l.toNat:=fun e=>by rw[e] at hj;simp at hj
   have:=e2 ank;rw[hA] at this;simp only[nT] at this;rw[this] at ha
   cases ha
   rw[xA _ a2];simp only;rw[nO];refine a3 _ ?_
   have:l.toNat*z+(c-l.toNat)*z≤c*z:=by
    rw[←rE];exact oH _ au
   omega
  ·obtain⟨ad,hA,b1,b2⟩:=hb ad' ha
   rw[b1];exact k.soft hm h1z ad hA i
  ·obtain⟨a1,a2,a3⟩:=k.qh hm _ _ _ hq
   refine⟨a1,fun ad' ha=> ?_,fun i' f' Tt=> ?_⟩
   ·obtain⟨ad,hA,b1,_⟩:=hb ad' ha
    rw[b1];exact a2 ad hA
   ·obtain⟨c1,c2⟩:=a3 _ _ Tt
    exact⟨by omega,c2⟩
theorem o7.cut {o:Nat} {b:OB} (h:o7 w φ o b) {cut:Option (Int×Int)} {v:Value} (hc:match(generalizing:=false) cut with|none=>v=φ.V o|some (l,h)=>Dx b.z b.rows.length l h (φ.V o) v):
 av w φ.I b.m (φ.S o) (.sub b.z (Yl cut b.rows)) v:=by
 cases cut with
 |none=>simp only at hc;rw[hc];exact h
 |some q=>obtain⟨l,h1⟩:=q;exact av.cut h hc
theorem ac8 {o:Nat} {l:Option (Nat×Int×Nat)} {p:Nat} {i:Int} {f:Nat} (h:ajt o l=some (p,i,f)):l=some (p,i,f)∧p≠o:=by
 unfold ajt at h
 cases l with
 |none=>cases h
 |some q=>
  obtain⟨a,b,c⟩:=q;simp only at h
  cases h1:Nat.beq a o with
  |true=>rw[h1] at h;cases h
  |false=>rw[h1] at h;cases h;exact⟨rfl,tY h1⟩
theorem aaO {o:Nat} {ds:List Nat} {k:Nat} (h:rd φ ds k):rd (φ.more (φ.S o)) (Yk o ds) k:=by
 rcases h with h|⟨d,hd,h⟩
 ·exact .inl (.inl h)
 ·by_cases e:d=o
  ·subst e;exact .inl (.inr h)
  ·exact .inr ⟨d,Bt.2 ⟨hd,e⟩,h⟩
theorem ek.freeze {o:Nat} {b:OB} {ob:List (Nat×OB)} (hb:an o ob=some b) (hO:o7 w φ o b) {e:CE} {v:Value} (h:ek ob w φ e v):ek (rG o ob) w (φ.more (φ.S o)) (Qj o b e) v:=by
 cases e with
 |ref p cut=>
  obtain⟨b',h1,h2⟩:=h;simp only[Qj]
  cases hd:Nat.beq p o with
  |true=>
   have:=jw hd;subst this;rw[hb] at h1;cases h1;refine And.intro (fun d hm=>by cases hm) (And.intro ?_ (fun _ _ _ hl=>by cases hl));exact(hO.cut h2).freeze (fun k hk=> .inl (.inl hk)) fun _ k hk=> .inl (.inr hk)
  |false=>
   have:=tY hd;exact⟨b',by rw[yp this];exact h1,h2⟩
 |snap ds loc z rows=>
  obtain⟨h1,h2,h3⟩:=h;refine⟨fun d hm=> ?_,h2.qm fun k hk=>aaO hk,fun p i f hl=> ?_⟩
  ·obtain⟨a1,a2⟩:=Bt.1 hm
   exact(h1 d a1).imp id fun h=>pM.2 ⟨a2,h⟩
  ·obtain⟨a1,a2⟩:=ac8 hl
   obtain⟨a3,b',a4,a5⟩:=h3 p i f a1;exact⟨Bt.2 ⟨a3,a2⟩,b',by rw[yp a2];exact a4,a5⟩
 |_=>exact h
theorem dx.freeze {o:Nat} {ob:List (Nat×OB)} {e:TE} {v:Value} (hv: ∀t es,e≠ .v t es) (h:dx ob w φ e v):dx (rG o ob) w (φ.more (φ.S o)) (Wo o e) v:=by
 cases e with
 |v t es=>exact absurd rfl (hv t es)
 |ep ds cells=>
  obtain⟨h1,ad,h2,hr,h3⟩:=h;refine⟨fun d hm=> ?_,ad,h2,fun hc=>aaO (hr hc),fun j tc hj=> ?_⟩
  ·obtain⟨a1,a2⟩:=Bt.1 hm
   exact(h1 d a1).imp id fun h=>pM.2 ⟨a2,h⟩
  ·obtain⟨u,h4,h5⟩:=h3 j tc hj
   exact⟨u,h4,h5.qm fun k hk=>aaO hk⟩
 |er p path i f=>
  simp only[Wo]
  cases hd:Nat.beq p o with
  |true=>trivial
  |false=>
   obtain⟨b,h1,h2⟩:=h;exact⟨b,by rw[yp (tY hd)];exact h1,h2⟩
 |_=>exact h
theorem bw.zL (h:bw F A w0 φ st tm w) (o:Nat): ∃φ',bw F A w0 φ' (zL st o) tm w∧φ'.β=φ.β∧φ'.V=φ.V∧φ'.S=φ.S∧ ∀k,φ'.I k↔φ.I k∨(aT st.ob o∧φ.S o k):=by
 unfold T.zL
 cases hb:an o st.ob with
 |none=>exact⟨φ,h,rfl,rfl,rfl,fun k=>⟨.inl,fun hk=>hk.elim id fun⟨⟨b,hb'⟩,_⟩=>by rw[hb] at hb';cases hb'⟩⟩
 |some b=>
  refine⟨φ.more (φ.S o),h.IN (φ':=φ.more (φ.S o)) (w':=w) rfl rfl (fun e v he=>he.freeze hb (h.obj o b hb)) (fun e v hv he=>he.freeze hv) (fun _ _ _ _ _=>rfl) (fun p b' hp=> ?_) ?_ h.frm,rfl,rfl,rfl,fun k=>⟨fun hk=>hk.imp id fun hk=>⟨⟨b,hb⟩,hk⟩,fun hk=>hk.imp id fun hk=>hk.2⟩⟩
  ·rw[jQ] at hp
   split at hp
   ·cases hp
   ·exact(h.obj p b' hp).qm fun k hk=> .inl hk
  ·have hs:=(h.sep.boxes (iX (Qj o b))).sub (G4:=rG o st.ob) fun d hd=>(pM.1 hd).2
   have hin:aT st.ob o:=⟨b,hb⟩
   exact {
    arg:=hs.arg,nz:=hs.nz,apart:=hs.apart,fresh:=hs.fresh,oY:=hs.oY,spot:=hs.spot,soft:=hs.soft
    read:=fun p k hp hk hI=>by
     obtain⟨a1,a2⟩:=pM.1 hp;rcases hI with hI|hI
     ·exact h.sep.read p k a2 hk hI
     ·exact a1 (h.sep.apart p o k a2 hin hk hI)
    ro:=fun k hk=>hk.elim (h.sep.ro k) fun hk=>⟨(h.sep.fresh o k hin hk).1,(h.sep.fresh o k hin hk).2.imp id .inl⟩
    box:=fun b' cs hb' hw=>by
     obtain⟨a1,a2,a3,a4⟩:=hs.box b' cs hb' hw;obtain⟨cs0,c1,_⟩:=iX _ b' cs hb'
     exact⟨fun hI=>hI.elim a1 ((h.sep.box b' cs0 c1 hw).2.1 o hin),a2,a3,a4⟩}
theorem bw.wI (h:bw F A w0 φ st tm w) {o:Nat} {b b':OB} {X:Nat→Prop} (hb:an o st.ob=some b) (hz:b'.z=b.z) (hl:b'.rows.length=b.rows.length)
 (hc:av w' φ.I b'.m X (.sub b'.z b'.rows) (φ.V o)) (hf:J2 F w0 w') (hsz:w.heap.size≤w'.heap.size) (hw: ∀k,k<w.heap.size→ ¬φ.S o k→w'.heap[k]?=w.heap[k]?)
 (hX: ∀k,X k→k<w'.heap.size∧(w0.heap.size≤k∨F k)) (hI: ∀k,X k→ ¬φ.I k) (hS: ∀k d,X k→d≠o→aT st.ob d→ ¬φ.S d k)
 (hB: ∀b cs,an b st.bx=some cs→Bl b=true→ ¬X (φ.β b).block):bw F A w0 (φ.add o X (φ.V o)) (wI o b' st) tm w':=by
 have hin:aT st.ob o:=⟨b,hb⟩;have h0:o≠0:=h.sep.nz o hin
 have hV:(φ.add o X (φ.V o)).V=φ.V:=by
  funext d
  show(if d=o then φ.V o else φ.V d)=φ.V d
  split
  ·subst_vars;rfl
  ·rfl
 have q9: ∀d,aT (pU o b' st.ob) d↔aT st.ob d:=fun d=>by
  rw[kG];exact⟨fun h=>h.elim (fun e=>e▸hin) id,.inr⟩
 have stI: ∀k,φ.I k→w'.heap[k]?=w.heap[k]?:=fun k hk=>hw k (h.sep.ro k hk).1 fun hs=>h.sep.read o k hin hs hk
 have stS: ∀d k,d≠o→d=0∨aT st.ob d→φ.S d k→w'.heap[k]?=w.heap[k]?:=fun d k hne hd hk=>hw k (h.sep.lt h.frm.size hd hk) fun hs=>by
  rcases hd with rfl|hd
  ·rw[h.sep.arg] at hk
   have:=h.sep.oY k hk;rcases (h.sep.fresh o k hin hs).2 with h3|h3
   ·omega
   ·exact this.2 h3
  ·exact hne (h.sep.apart d o k hd hin hk hs)
 have stR: ∀ds k,o∉ds→(∀d∈ds,d=0∨aT st.ob d)→rd φ ds k→rd (φ.add o X (φ.V o)) ds k∧w'.heap[k]?=w.heap[k]?:=fun ds k hn hd hk=>by
  refine⟨WA hn hk,?_⟩;rcases hk with hk|⟨d,hm,hk⟩
  ·exact stI k hk
  ·exact stS d k (fun e=>by subst e;exact hn hm) (hd d hm) hk
 have stV: ∀p b1 ad n c i f tc u,p≠o→an p st.ob=some b1→φ.V p= .slice (some ad) n c→zQ b1.rows i f=some tc→w.cell? (ad.add (i*b1.z+f))=some u→w'.cell? (ad.add (i*b1.z+f))=some u:=by
  intro p b1 ad n c i f tc u hne hp hv ht hcell;have hO:=h.obj p b1 hp;unfold o7 at hO;rw[hv] at hO
  have hS:φ.S p ad.block:=by
   cases hO with
   |sub _ _ _ _ _ _ u T k hn=>exact(k.own (by unfold OB.m;split<;>simp)).2 ad rfl|>.1
  rw[gT (w:=w)]
  ·exact hcell
  ·rw[cR];exact stS p _ hne (.inr ⟨b1,hp⟩) hS
 have cbox: ∀p cs,an p st.bx=some cs→w'.heap[(φ.β p).block]?=w.heap[(φ.β p).block]?:=fun p cs hp=>by
  obtain⟨a1,a2,a3⟩:=h.sep.spot p cs hp;refine hw _ a2 fun hs=> ?_
  cases HW:Bl p with
  |true=>exact(h.sep.box p cs hp HW).2.1 o hin hs
  |false=>
   have:=h.sep.oY _ (a3 HW);rcases (h.sep.fresh o _ hin hs).2 with h3|h3
   ·omega
   ·exact this.2 h3
 refine h.IN (φ':=φ.add o X (φ.V o)) rfl rfl (fun e v he=> ?_) (fun e v hv he=> ?_) (fun p cs hp j hj=> ?_) (fun p b1 hp=> ?_) ?_ hf
 ·cases e with
  |ref p cut=>
   obtain⟨b1,h1,h2⟩:=he
   by_cases hp:p=o
   ·subst hp
    rw[hb] at h1;cases h1;refine⟨b',nI,?_⟩;rw[hV]
    cases cut with
    |none=>exact h2
    |some q=>obtain⟨l,r⟩:=q;simp only at h2 ⊢;rw[hz,hl];exact h2
   ·exact⟨b1,by rw[ng hp];exact h1,by rw[hV];exact h2⟩
  |snap ds loc z rows=>
   simp only[aaG]
   cases hd:m8 o ds with
   |true=>trivial
   |false=>
    have hd:=fk.1 hd;obtain⟨h1,h2,h3⟩:=he;refine⟨fun d hm=>(h1 d hm).imp id (q9 d).2,h2.move (fun k hk=>stR ds k hd h1 hk) (fun hm=>absurd rfl hm),fun p i f hl=> ?_⟩;obtain⟨a1,b1,a2,a3,a4,ad,n,c,a5,a6⟩:=h3 p i f hl
    have hp:p≠o:=fun e=>by subst e;exact hd a1
    refine⟨a1,b1,by rw[ng hp];exact a2,a3,a4,ad,n,c,by rw[hV];exact a5,stV p b1 ad n c _ _ _ _ hp a2 a5 a4 a6⟩
  |_=>exact he
 ·cases e with
  |v t es=>exact absurd rfl (hv t es)
  |ep ds cells=>
   simp only[Wn]
   cases hd:m8 o ds with
   |true=>trivial
   |false=>
    have hd:=fk.1 hd;obtain⟨h1,ad,h2,hr,h3⟩:=he;refine⟨fun d hm=>(h1 d hm).imp id (q9 d).2,ad,h2,fun hc=>(stR ds _ hd h1 (hr hc)).1,fun j tc hj=> ?_⟩;obtain⟨u,h4,h5⟩:=h3 j tc hj
    have hc:cells≠[]:=fun e=>by rw[e] at hj;simp at hj
    exact⟨u,by rw[gT (w:=w) (by rw[cR];exact(stR ds _ hd h1 (hr hc)).2)];exact h4,h5.move (fun k hk=>stR ds k hd h1 hk) (fun hm=>absurd rfl hm)⟩
  |er p path i f=>
   obtain⟨b1,h1,h2,ad,n,c,h3,h4⟩:=he
   cases path with
   |none=>
    simp only[Wn]
    by_cases hp:p=o
    ·subst hp
     rw[hb] at h1;cases h1;exact⟨b',nI,h2,ad,n,c,by rw[hV];exact h3,by rw[hz];exact h4⟩
    ·exact⟨b1,by rw[ng hp];exact h1,h2,ad,n,c,by rw[hV];exact h3,h4⟩
   |some q=>
    obtain⟨i0,f0⟩:=q;simp only[Wn]
    cases hd:Nat.beq p o with
    |true=>trivial
    |false=>
     have hp:=tY hd;obtain⟨a1,z1,r5,a2,ad1,n1,c1,a3,a4⟩:=h4;exact⟨b1,by rw[ng hp];exact h1,h2,ad,n,c,by rw[hV];exact h3,a1,z1,r5,a2,ad1,n1,c1,stV p b1 ad n c _ _ _ _ hp h1 h3 a2 a3,a4⟩
  |_=>exact he
 ·exact gT (by rw[cR];exact cbox p cs hp)
 ·unfold o7
  by_cases X6:p=o
  ·subst X6
   rw[nI] at hp;cases hp;rw[hV];show av w' φ.I b'.m (fun k=>if p=p then X k else φ.S p k) (.sub b'.z b'.rows) (φ.V p);simp only[if_true];exact hc
  ·rw[ng X6] at hp
   rw[hV];show av w' φ.I b1.m (fun k=>if p=o then X k else φ.S p k) (.sub b1.z b1.rows) (φ.V p);simp only[aJ X6];exact(h.obj p b1 hp).move (fun k hk=>⟨hk,stI k hk⟩) fun _ k hk=>stS p k X6 (.inr ⟨b1,hp⟩) hk
 ·have hs:=h.sep.boxes (iX (aaG o))
  have self: ∀k,(φ.add o X (φ.V o)).S o k→X k:=fun k hk=>by
   have hk':(if o=o then X k else φ.S o k):=hk;simpa using hk'
  exact {
   arg:=by
    show(fun k=>if 0=o then X k else φ.S 0 k)=A.all;simp only[aJ (Ne.symm h0)];exact h.sep.arg
   nz:=fun d hd=>h.sep.nz d ((q9 d).1 hd)
   apart:=fun d d' k h1 h2 h3 h4=>by
    have i1:=(q9 d).1 h1;have i2:=(q9 d').1 h2
    by_cases e1:d=o
    ·subst e1
     by_cases e2:d'=d
     ·exact e2.symm
     ·rw[xd e2] at h4;exact absurd h4 (hS k d' (self k h3) e2 i2)
    ·rw[xd e1] at h3
     by_cases e2:d'=o
     ·subst e2;exact absurd h3 (hS k d (self k h4) e1 i1)
     ·rw[xd e2] at h4;exact h.sep.apart d d' k i1 i2 h3 h4
   read:=fun d k hd hk=>by
    have hd:=(q9 d).1 hd
    by_cases e1:d=o
    ·subst e1;exact hI k (self k hk)
    ·rw[xd e1] at hk;exact h.sep.read d k hd hk
   fresh:=fun d k hd hk=>by
    have hd:=(q9 d).1 hd
    by_cases e1:d=o
    ·subst e1;exact hX k (self k hk)
    ·rw[xd e1] at hk
     exact⟨kE (h.sep.fresh d k hd hk).1 hsz,(h.sep.fresh d k hd hk).2⟩
   ro:=fun k hk=>⟨kE (h.sep.ro k hk).1 hsz,(h.sep.ro k hk).2⟩
   oY:=h.sep.oY
   box:=fun p cs hp HW=>by
    obtain⟨cs0,c1,_⟩:=iX _ p cs hp;obtain⟨a1,a2,a3,a4⟩:=hs.box p cs hp HW;refine⟨a1,fun d hd hk=> ?_,a3,a4⟩;have hd:=(q9 d).1 hd
    by_cases e1:d=o
    ·subst e1;exact hB p cs0 c1 HW (self _ hk)
    ·rw[xd e1] at hk;exact a2 d hd hk
   spot:=fun p cs hp=>⟨(hs.spot p cs hp).1,kE (hs.spot p cs hp).2.1 hsz,(hs.spot p cs hp).2.2⟩
   soft:=fun p cs j hp HW hj=>by
    obtain⟨cs0,c1,c2⟩:=iX _ p cs hp;rw[nc (w:=w) (by rw[cR];exact cbox p cs0 c1)]
    exact h.sep.soft p cs0 j c1 HW au}
end Go.T
namespace Go.T
variable {F : Nat → Prop} {A : Arg} {w0 w w' : World} {φ φ' : Fp} {st st' : TS} {tm IF : Array Value}
theorem bw.less (h:bw F A w0 φ st tm w) (ht: ∀i,st'.get i= .dead∨st'.get i=st.get i) (hb: ∀b cs,an b st'.bx=some cs→an b st.bx=some cs) (ho:st'.ob=st.ob):bw F A w0 φ st' tm w where
 tmp i:=by
  rw[ho];rcases ht i with h1|h1
  ·rw[h1];trivial
  ·rw[h1];exact h.tmp i
 box b cs h1:=by rw[ho];exact h.box b cs (hb b cs h1)
 obj:=by rw[ho];exact h.obj
 sep:=by rw[ho];exact h.sep.boxes fun b cs h1=>⟨cs,hb b cs h1,rfl⟩
 frm:=h.frm
theorem Yv (st:TS) (l:List Nat) (bx:List (Nat×List CE)) (ob:List (Nat×OB)) (i:Nat):(⟨Dw l st.tm,bx,ob⟩:TS).get i= .dead∨(⟨Dw l st.tm,bx,ob⟩:TS).get i=st.get i:=by
 unfold TS.get;simp only[QS]
 by_cases h:i∈l
 ·right;rw[aR h]
 ·left;rw[aJ h]
theorem bw.keep (h:bw F A w0 φ st tm w) (l:List Nat):bw F A w0 φ ⟨Dw l st.tm,st.bx,st.ob⟩ tm w:=
 h.less (Yv st l st.bx st.ob) (fun _ _ h=>h) rfl
theorem QU (l:List Nat) (j:Nat): ∀(m:List (Nat×List CE)) (cs:List CE),an j (zP l m)=some cs→an j m=some cs
 |[],cs,h=>by simp[zP,an] at h
 |(a,x)::r,cs,h=>by
  have ih:=QU l j r cs
  have key:an j ((a,x)::zP l r)=some cs→an j ((a,x)::r)=some cs:=fun h=>by
   simp only[an] at h ⊢
   cases h1:Nat.beq a j with
   |true=>rw[h1] at h;exact h
   |false=>rw[h1] at h;exact ih h
  have skip:(100000≤a→False)→a∉l→an j (zP l r)=some cs→an j ((a,x)::r)=some cs:=fun h1 h2 h=>by
   simp only[an]
   cases h3:Nat.beq a j with
   |false=>exact ih h
   |true=>
    exfalso
    have h3:=jw h3;subst h3
    have: ∀(m:List (Nat×List CE)),an a (zP l m)=none:=by
     intro m
     induction m with
     |nil=>rfl
     |cons p r ih=>
      obtain⟨c,y⟩:=p;simp only[zP]
      have hk: ∀(hc:c≠a),an a ((c,y)::zP l r)=none:=fun hc=>by
       simp only[an,beq_false hc];exact ih
      split
      ·rename_i h4
       exact hk fun e=>h1 (by subst e;exact tX h4)
      ·split
       ·rename_i h5
        exact hk fun e=>h2 (by subst e;exact mj.1 h5)
       ·exact ih
    rw[this] at h;cases h
  simp only[zP] at h
  split at h
  ·exact key h
  ·rename_i h4
   split at h
   ·exact key h
   ·rename_i h5
    exact skip (fun h6=>by rw[QE h6] at h4;cases h4) (fk.1 h5) h
theorem bw.ak6 (h:bw F A w0 φ st tm w) (l:List Nat):bw F A w0 φ ⟨Dw l st.tm,zP l st.bx,st.ob⟩ tm w:=
 h.less (Yv st l (zP l st.bx) st.ob) (fun b cs hb=>QU l b st.bx cs hb) rfl
theorem ac9 {b:Nat} {ob:List (Nat×OB)} {β:Nat→Addr} (hβ: ∀c,c≠b→β c=φ.β c) {e:TE} {v:Value} (hn:QH b e=false) (h:dx ob w φ e v):dx ob w {φ with β:=β} e v:=by
 have aja: ∀(c:rF) (u:Value),aiU b c=false→nV ob w φ c u→nV ob w {φ with β:=β} c u:=by
  intro c u hc h
  cases c with
  |ptr c=>
   simp only[nV] at h ⊢;rw[hβ c (tY hc)];exact h
  |mk a cs=>cases a<;>exact h
 cases e with
 |v t es=>
  simp only[QH,List.any_eq_false] at hn
  cases t with
  |true=>
   obtain⟨vs,h1,h2,h3⟩:=h;refine⟨vs,h1,h2,fun k c hk=> ?_⟩;obtain⟨u,h4,h5⟩:=h3 k c hk;exact⟨u,h4,aja c u (by simpa using hn c (iV hk)) h5⟩
  |false=>
   obtain⟨c,rfl,h3⟩:=h;exact⟨c,rfl,aja c v (by simpa using hn c bZ) h3⟩
 |bp c off=>
  simp only[dx] at h ⊢;rw[hβ c (tY hn)];exact h
 |fn f caps=>
  simp only[dx] at h ⊢;rw[h];have hn:=fk.1 hn
  congr 2
  refine List.map_congr_left fun c hc=> ?_;rw[hβ c fun e=>by subst e;exact hn hc]
 |_=>exact h
theorem Vw (b:Nat) (st:TS) (i:Nat):(Vs b st).get i=if QH b (st.get i)=true then .dead else st.get i:=by
 unfold TS.get Vs;simp only[vg]
 cases an i st.tm with
 |none=>simp
 |some e=>
  simp only[nT]
  cases QH b e<;>simp
theorem bw.Vs (h:bw F A w0 φ st tm w) (b:Nat):bw F A w0 φ (Vs b st) tm w:=by
 refine h.less (fun i=> ?_) (fun c cs hc=> ?_) rfl
 ·rw[Vw];split<;>simp
 ·have:an c (rG b st.bx)=some cs:=hc
  rw[jQ] at this
  split at this
  ·cases this
  ·exact this
def Fp.box (φ:Fp) (b:Nat) (ad:Addr):Fp:={φ with β:=fun c=>if c=b then ad else φ.β c}
theorem yq {b:Nat} {ad:Addr}:(φ.box b ad).β b=ad:=aR rfl
theorem pW {b c:Nat} {ad:Addr} (h:c≠b):(φ.box b ad).β c=φ.β c:=aJ h
theorem bw.LC (h:bw F A w0 φ st tm w) {b:Nat} {cs:List CE} {ad:Addr} (hw:Bl b=true) (hs:ad.spot=none) (hlt:ad.block<w.heap.size) (hS: ∀o,aT st.ob o→ ¬φ.S o ad.block)
 (hI: ¬φ.I ad.block) (hF:w0.heap.size≤ad.block∨F ad.block) (hB: ∀b' cs',an b' st.bx=some cs'→b'≠b→(φ.β b').block≠ad.block)
 (hc: ∀(j:Nat) (e:CE),cs[j]?=some e→ ∃v,w.cell? (ad.add j)=some v∧v.cells= #[v]∧ek st.ob w φ e v) (hf: ∀j,j<cs.length→w.frozen? (ad.add j)=false):bw F A w0 (φ.box b ad) (LC b cs st) tm w:=by
 have zo: ∀c,an c (T.LC b cs st).bx=if c=b then some cs else an c st.bx:=fun c=>by
  show an c (pU b cs (rG b st.bx))=_;rw[gf,jQ]
  by_cases hc:c=b<;>simp[hc]
 refine⟨fun i=> ?_,fun c cs' zx j e he=> ?_,h.obj,?_,h.frm⟩
 ·show dx st.ob w (φ.box b ad) ((T.Vs b st).get i) (tm.getD i undef)
  rw[Vw]
  split
  ·trivial
  ·rename_i hn
   exact ac9 (fun c hc=>pW hc) (by simpa using hn) (h.tmp i)
 ·rw[zo] at zx
  by_cases hcb:c=b
  ·subst hcb
   rw[aR rfl] at zx;cases zx;rw[yq];exact hc j e he
  ·rw[aJ hcb] at zx
   rw[pW hcb];exact h.box c cs' zx j e he
 ·exact {
   arg:=h.sep.arg,nz:=h.sep.nz,apart:=h.sep.apart,read:=h.sep.read,fresh:=h.sep.fresh,ro:=h.sep.ro,oY:=h.sep.oY
   box:=fun c cs' zx hwc=>by
    rw[zo] at zx
    by_cases hcb:c=b
    ·subst hcb
     rw[yq];refine⟨hI,hS,hF,fun b' X5 hb' hne=> ?_⟩;rw[zo,aJ hne] at hb';rw[pW hne];exact hB b' X5 hb' hne
    ·rw[aJ hcb] at zx
     rw[pW hcb];obtain⟨a1,a2,a3,a4⟩:=h.sep.box c cs' zx hwc;refine⟨a1,a2,a3,fun b' X5 hb' hne=> ?_⟩;rw[zo] at hb'
     by_cases hb2:b'=b
     ·subst hb2
      rw[yq];exact fun e=>hB c cs' zx hcb e.symm
     ·rw[aJ hb2] at hb'
      rw[pW hb2];exact a4 b' X5 hb' hne
   spot:=fun c cs' zx=>by
    rw[zo] at zx
    by_cases hcb:c=b
    ·subst hcb
     rw[yq];exact⟨fun _=>hs,hlt,fun e=>by rw[hw] at e;cases e⟩
    ·rw[aJ hcb] at zx
     rw[pW hcb];exact h.sep.spot c cs' zx
   soft:=fun c cs' j zx hwc hj=>by
    rw[zo] at zx
    by_cases hcb:c=b
    ·subst hcb
     rw[aR rfl] at zx;cases zx;rw[yq];exact hf j hj
    ·rw[aJ hcb] at zx
     rw[pW hcb];exact h.sep.soft c cs' j zx hwc hj}
theorem bw.LB (h:bw F A w0 φ st tm w) {b:Nat} {cs old:List CE} (hb:an b st.bx=some old) (HW:Bl b=true) (hl:cs.length=old.length) (hf:J2 F w0 w') (hsz:w.heap.size≤w'.heap.size)
 (hw: ∀k,k<w.heap.size→k≠(φ.β b).block→w'.heap[k]?=w.heap[k]?) (hfz: ∀j,j<cs.length→w'.frozen? ((φ.β b).add j)=false)
 (hc: ∀(j:Nat) (e:CE),cs[j]?=some e→ ∃v,w'.cell? ((φ.β b).add j)=some v∧v.cells= #[v]∧ek st.ob w φ e v):bw F A w0 φ (st.LB b cs) tm w':=by
 obtain⟨b1,b2,b3,b4⟩:=h.sep.box b old hb HW;have stI: ∀k,φ.I k→w'.heap[k]?=w.heap[k]?:=fun k hk=>hw k (h.sep.ro k hk).1 fun e=>b1 (e▸hk)
 have nA: ∀k,A.all k→k≠(φ.β b).block:=fun k hk e=>by
  subst e;have:=h.sep.oY _ hk;rcases b3 with b3|b3
  ·omega
  ·exact this.2 b3
 have stS: ∀d k,d=0∨aT st.ob d→φ.S d k→w'.heap[k]?=w.heap[k]?:=fun d k hd hk=>hw k (h.sep.lt h.frm.size hd hk) fun e=>by
  subst e;rcases hd with rfl|hd
  ·rw[h.sep.arg] at hk;exact nA _ hk rfl
  ·exact b2 d hd hk
 have own: ∀o ad n c,aT st.ob o→φ.V o= .slice (some ad) n c→φ.S o ad.block:=fun o ad n c ⟨bo,ho⟩ hv=>by
  have hO:=h.obj o bo ho;unfold o7 at hO;rw[hv] at hO
  cases hO with
  |sub _ _ _ _ _ _ u T k hn=>exact(k.own (by unfold OB.m;split<;>simp)).2 ad rfl|>.1
 have hV: ∀o,aT st.ob o→ ∀ad n c,φ.V o= .slice (some ad) n c→ ∀i v,w.cell? (ad.add i)=some v→w'.cell? (ad.add i)=some v:=fun o ho ad n c hv i v hcell=>by
  rw[gT (w:=w)]
  ·exact hcell
  ·rw[cR];exact stS o _ (.inr ho) (own o ad n c ho hv)
 have hCE: ∀e v,ek st.ob w φ e v→ek st.ob w' φ e v:=fun e v he=>he.stay stI stS hV
 have hE: ∀ds cells v,dx st.ob w φ (.ep ds cells) v→dx st.ob w' φ (.ep ds cells) v:=by
  intro ds cells v ⟨h1,ad,h2,hr,h3⟩;refine⟨h1,ad,h2,hr,fun j tc hj=> ?_⟩;obtain⟨u,h4,h5⟩:=h3 j tc hj
  have hcn:cells≠[]:=fun e=>by rw[e] at hj;simp at hj
  have stR: ∀k,rd φ ds k→w'.heap[k]?=w.heap[k]?:=fun k hk=>by
   rcases hk with hk|⟨d,hm,hk⟩
   ·exact stI k hk
   ·exact stS d k (h1 d hm) hk
  exact⟨u,by rw[gT (w:=w) (by rw[cR];exact stR _ (hr hcn))];exact h4,h5.move (fun k hk=>⟨hk,stR k hk⟩) (fun hm=>absurd rfl hm)⟩
 have hT: ∀e v,dx st.ob w φ e v→dx st.ob w' φ e v:=fun e v he=>by
  have:=dx.IN (f:=id) (g:=id) rfl hCE (fun e v hv he=>dx.stay stI stS hV (fun ad v hc hk=>by rw[gT (w:=w) (hk _ rfl)];exact hc) hE hv he) he
  have hid:AW id id e=e:=by
   have h1:=congrArg TS.tm (yo ⟨[(0,e)],[],[]⟩);simpa [zK,mapA] using h1
  rw[hid] at this;exact this
 have zo: ∀c,an c (st.LB b cs).bx=if c=b then some cs else an c st.bx:=fun c=>gf _ _ _ _
 have obox: ∀c cs',an c st.bx=some cs'→c≠b→w'.heap[(φ.β c).block]?=w.heap[(φ.β c).block]?:=fun c cs' zx hne=>hw _ (h.sep.spot c cs' zx).2.1 (b4 c cs' zx hne);refine⟨fun i=>hT _ _ (h.tmp i),fun c cs' zx j e he=> ?_,fun o bo ho=> ?_,?_,hf⟩
 ·rw[zo] at zx
  by_cases hcb:c=b
  ·subst hcb
   rw[aR rfl] at zx;cases zx;obtain⟨v,h1,h3,h2⟩:=hc j e he;exact⟨v,h1,h3,hCE _ _ h2⟩
  ·rw[aJ hcb] at zx
   obtain⟨v,h1,h3,h2⟩:=h.box c cs' zx j e he;exact⟨v,by rw[gT (w:=w) (by rw[cR];exact obox c cs' zx hcb)];exact h1,h3,hCE _ _ h2⟩
 ·exact(h.obj o bo ho).move (fun k hk=>⟨hk,stI k hk⟩) fun _ k hk=>stS o k (.inr ⟨bo,ho⟩) hk
 ·have len: ∀c cs',an c (st.LB b cs).bx=some cs'→ ∃cs0,an c st.bx=some cs0∧cs'.length=cs0.length:=fun c cs' zx=>by
   rw[zo] at zx
   by_cases hcb:c=b
   ·subst hcb
    rw[aR rfl] at zx;cases zx;exact⟨old,hb,hl⟩
   ·rw[aJ hcb] at zx;exact⟨cs',zx,rfl⟩
  have hs:=h.sep.boxes len
  exact {
   arg:=hs.arg,nz:=hs.nz,apart:=hs.apart,read:=hs.read,oY:=hs.oY,box:=hs.box
   fresh:=fun o k ho hk=>⟨kE (hs.fresh o k ho hk).1 hsz,(hs.fresh o k ho hk).2⟩
   ro:=fun k hk=>⟨kE (hs.ro k hk).1 hsz,(hs.ro k hk).2⟩
   spot:=fun c cs' zx=>⟨(hs.spot c cs' zx).1,kE (hs.spot c cs' zx).2.1 hsz,(hs.spot c cs' zx).2.2⟩
   soft:=fun c cs' j zx hwc hj=>by
    obtain⟨cs0,c1,c2⟩:=len c cs' zx
    by_cases hcb:c=b
    ·subst hcb
     rw[zo,aR rfl] at zx;cases zx;exact hfz j hj
    ·rw[nc (w:=w) (by rw[cR];exact obox c cs0 c1 hcb)]
     exact h.sep.soft c cs0 j c1 hwc au}
end Go.T
namespace Go.T
variable {F : Nat → Prop} {A : Arg} {w0 w w' : World} {φ φ' : Fp} {st st' : TS} {tm IF : Array Value}
structure Ext (ob G4:List (Nat×OB)) (φ φ':Fp):Prop where
 look: ∀d b,an d ob=some b→an d G4=some b
 I:φ'.I=φ.I
 β:φ'.β=φ.β
 S: ∀d,d=0∨aT ob d→φ'.S d=φ.S d
 V: ∀d,aT ob d→φ'.V d=φ.V d
section
variable {ob G4 : List (Nat × OB)}
theorem Ext.dom (x:Ext ob G4 φ φ') {d:Nat} (h:aT ob d):aT G4 d:=let ⟨b,h⟩:=h;⟨b,x.look d b h⟩
theorem Ext.rd (x:Ext ob G4 φ φ') {ds:List Nat} (hd: ∀d∈ds,d=0∨aT ob d) {k:Nat} (h:T.rd φ ds k):T.rd φ' ds k:=by
 rcases h with h|⟨d,hm,h⟩
 ·exact .inl (by rw[x.I];exact h)
 ·exact .inr ⟨d,hm,by rw[x.S d (hd d hm)];exact h⟩
theorem ek.ext (x:Ext ob G4 φ φ') {e:CE} {v:Value} (h:ek ob w φ e v):ek G4 w φ' e v:=by
 cases e with
 |ref o cut=>
  obtain⟨b,h1,h2⟩:=h;exact⟨b,x.look o b h1,by rw[x.V o ⟨b,h1⟩];exact h2⟩
 |snap ds loc z rows=>
  obtain⟨h1,h2,h3⟩:=h;refine⟨fun d hm=>(h1 d hm).imp id x.dom,h2.qm fun k hk=>x.rd h1 hk,fun o i f hl=> ?_⟩;obtain⟨a1,b,a2,a3,a4,ad,n,c,a5,a6⟩:=h3 o i f hl;exact⟨a1,b,x.look o b a2,a3,a4,ad,n,c,by rw[x.V o ⟨b,a2⟩];exact a5,a6⟩
 |_=>exact h
theorem nV.ext (x:Ext ob G4 φ φ') {c:rF} {v:Value} (h:nV ob w φ c v):nV G4 w φ' c v:=by
 cases c with
 |ptr b=>simp only[nV] at h ⊢;rw[x.β];exact h
 |mk a cs=>
  cases a with
  |true=>obtain⟨xs,h1,h2,h3⟩:=h;exact⟨xs,h1,h2,fun j e he=>let ⟨y,h4,h6,h5⟩:=h3 j e he;⟨y,h4,h6,h5.ext x⟩⟩
  |false=>obtain⟨e,h1,h2,h3⟩:=h;exact⟨e,h1,h2,h3.ext x⟩
theorem dx.ext (x:Ext ob G4 φ φ') {e:TE} {v:Value} (h:dx ob w φ e v):dx G4 w φ' e v:=by
 cases e with
 |v t es=>
  cases t with
  |true=>obtain⟨vs,h1,h2,h3⟩:=h;exact⟨vs,h1,h2,fun j e he=>let ⟨y,h4,h5⟩:=h3 j e he;⟨y,h4,h5.ext x⟩⟩
  |false=>obtain⟨c,h1,h2⟩:=h;exact⟨c,h1,h2.ext x⟩
 |ep ds cells=>
  obtain⟨h1,ad,h2,hr,h3⟩:=h;refine⟨fun d hm=>(h1 d hm).imp id x.dom,ad,h2,fun hc=>x.rd h1 (hr hc),fun j tc hj=> ?_⟩;obtain⟨u,h4,h5⟩:=h3 j tc hj;exact⟨u,h4,h5.qm fun k hk=>x.rd h1 hk⟩
 |er o path i f=>
  obtain⟨b,h1,h2,ad,n,c,h3,h4⟩:=h;exact⟨b,x.look o b h1,h2,ad,n,c,by rw[x.V o ⟨b,h1⟩];exact h3,h4⟩
 |bp b off=>simp only[dx] at h ⊢;rw[x.β];exact h
 |fn f caps=>simp only[dx] at h ⊢;rw[x.β];exact h
 |_=>exact h
end
def Ye:Nat→Nat→List (Nat×OB)→Prop
 |n,m,[]=>n≤m
 |n,m,(i,b)::r=>n≤i∧(b.deep=true∧b.rows=[]∧0<b.z)∧Ye (i+1) m r
theorem Ye.le: ∀{n m:Nat} {l:List (Nat×OB)},Ye n m l→n≤m
 |_,_,[],h=>h
 |_,_,(i,b)::r,h=>by have:=Ye.le h.2.2;have:=h.1;omega
theorem Ye.down {n n' m:Nat} {l:List (Nat×OB)} (h:Ye n m l) (hn:n'≤n):Ye n' m l:=by
 cases l with
 |nil=>exact bQ hn h
 |cons p r=>obtain⟨i,b⟩:=p;exact⟨bQ hn h.1,h.2⟩
theorem Ye.app: ∀{n m k:Nat} {l l':List (Nat×OB)},Ye n m l→Ye m k l'→Ye n k (l++l')
 |_,_,_,[],_,h,h'=>h'.down h
 |_,_,_,(i,b)::r,_,h,h'=>⟨h.1,h.2.1,h.2.2.app h'⟩
theorem Ye.mem: ∀{n m:Nat} {l:List (Nat×OB)} {i:Nat} {b:OB},Ye n m l→(i,b)∈l→n≤i∧i<m∧b.deep=true∧b.rows=[]∧0<b.z
 |n,m,(j,b')::r,i,b,h,hm=>by
  rcases dJ.1 hm with e|hm
  ·cases e
   have:=h.2.2.le;exact⟨h.1,by omega,h.2.1⟩
  ·obtain⟨h1,h2,h3⟩:=h.2.2.mem hm
   exact⟨by have:=h.1;omega,h2,h3⟩
theorem ND: ∀{n m:Nat} {l:List (Nat×OB)} {ob:List (Nat×OB)},Ye n m l→(∀i b,(i,b)∈l→an i (mh l ob)=some b)∧ ∀d,d<n→an d (mh l ob)=an d ob
 |_,_,[],ob,_=>⟨fun _ _ h=>(by cases h),fun _ _=>rfl⟩
 |n,m,(j,b')::r,ob,h=>by
  obtain⟨h1,h2⟩:=ND (ob:=ob) h.2.2;refine⟨fun i b hm=> ?_,fun d hd=> ?_⟩
  ·simp only[mh,gf]
   rcases dJ.1 hm with e|hm
   ·cases e;rw[aR rfl]
   ·have:=(h.2.2.mem hm).1
    rw[aJ au];exact h1 i b hm
  ·have:=h.1
   simp only[mh,gf];rw[aJ au];exact h2 d au
theorem IP: ∀{l:List (Nat×OB)} {ob:List (Nat×OB)} {d:Nat} {b:OB},an d (mh l ob)=some b→(d,b)∈l∨an d ob=some b
 |[],_,_,_,h=> .inr h
 |(j,b')::r,ob,d,b,h=>by
  simp only[mh,gf] at h
  by_cases hd:d=j
  ·rw[aR hd] at h;cases h;subst hd;exact .inl (.head _)
  ·rw[aJ hd] at h
   exact(IP h).imp (.tail _) id
def ajG:Value:= .slice none 0 0
def opened (N:Nat) (φ:Fp):Fp:={φ with S:=fun d k=>d<N∧φ.S d k,V:=fun d=>if d<N then φ.V d else ajG}
section
variable {ob G4 : List (Nat × OB)} {N : Nat} (x : Ext ob G4 φ (opened N φ))
include x
theorem IQ: ∀(cs:List CE) (n:Nat),N≤n→Ye n (je n cs).2.1 (je n cs).2.2∧(je n cs).1.length=cs.length∧
 ((∀i b,(i,b)∈(je n cs).2.2→an i G4=some b)→ ∀(j:Nat) (e':CE),(je n cs).1[j]?=some e'→ ∃e,cs[j]?=some e∧ ∀v,ek ob w φ e v→ek G4 w (opened N φ) e' v)
 |[],n,hn=>⟨cL _,rfl,fun _ j e' h=>by simp[je] at h⟩
 |e::r,n,hn=>by
  have keep: ∀(e:CE),(∀z,Nat.ble 1 z=true→e≠ .nil z)→je n (e::r)=(e::(je n r).1,(je n r).2.1,(je n r).2.2):=by
   intro e he
   cases e with
   |nil z=>
    simp only[je]
    cases h:Nat.ble 1 z with
    |true=>exact absurd rfl (he z h)
    |false=>rfl
   |_=>rfl
  by_cases hz: ∃z,Nat.ble 1 z=true∧e= .nil z
  ·obtain⟨z,hz,rfl⟩:=hz
   have heq:je n (.nil z::r)=(.ref n none::(je (n+1) r).1,(je (n+1) r).2.1,(n,⟨true,z,[]⟩)::(je (n+1) r).2.2):=by simp only[je,hz]
   rw[heq];obtain⟨h1,h2,h3⟩:=IQ r (n+1) au;refine⟨⟨cL _,⟨rfl,rfl,tX hz⟩,h1⟩,by simp[h2],fun hl j e' he=> ?_⟩
   cases j with
   |zero=>
    simp only[fu,bq] at he;subst he;refine⟨_,rfl,fun v hv=>⟨_,hl n _ (.head _),?_⟩⟩
    show v=if n<N then φ.V n else ajG
    rw[aJ au];exact hv.1
   |succ j=>
    simp only[tU] at he ⊢;exact h3 (fun i b hm=>hl i b (.tail _ hm)) j e' he
  ·rw[keep e fun z hz' he=>hz ⟨z,hz',he⟩]
   obtain⟨h1,h2,h3⟩:=IQ r n hn;refine⟨h1,by simp[h2],fun hl j e' he=> ?_⟩
   cases j with
   |zero=>
    simp only[fu,bq] at he;subst he;exact⟨_,rfl,fun v hv=>hv.ext x⟩
   |succ j=>
    simp only[tU] at he ⊢;exact h3 hl j e' he
theorem CH: ∀(cs:List rF) (n:Nat),N≤n→Ye n (iF n cs).2.1 (iF n cs).2.2∧(iF n cs).1.length=cs.length∧
 ((∀i b,(i,b)∈(iF n cs).2.2→an i G4=some b)→ ∀(j:Nat) (e':rF),(iF n cs).1[j]?=some e'→ ∃e,cs[j]?=some e∧ ∀v,nV ob w φ e v→nV G4 w (opened N φ) e' v)
 |[],n,hn=>⟨cL _,rfl,fun _ j e' h=>by simp[iF] at h⟩
 | .ptr b::r,n,hn=>by
   obtain⟨h1,h2,h3⟩:=CH r n hn;refine⟨h1,by simp[iF,h2],fun hl j e' he=> ?_⟩
   cases j with
   |zero=>
    simp only[iF,fu,bq] at he;subst he;exact⟨_,rfl,fun v hv=>hv.ext x⟩
   |succ j=>
    simp only[iF,tU] at he ⊢;exact h3 hl j e' he
 | .mk a cs::r,n,hn=>by
   obtain⟨g1,g2,g3⟩:=IQ (w:=w) x cs n hn;obtain⟨h1,h2,h3⟩:=CH r (je n cs).2.1 (bQ hn g1.le);refine⟨g1.app h1,by simp[iF,h2],fun hl j e' he=> ?_⟩
   cases j with
   |zero=>
    simp only[iF,fu,bq] at he;subst he;refine⟨_,rfl,fun v hv=> ?_⟩;have g4:=g3 fun i b hm=>hl i b (kD _ hm)
    cases a with
    |true=>
     obtain⟨xs,k1,k2,k3⟩:=hv;refine⟨xs,k1,by rw[g2];exact k2,fun j e' he=> ?_⟩;obtain⟨e,k4,k5⟩:=g4 j e' he;obtain⟨y,k6,k8,k7⟩:=k3 j e k4;exact⟨y,k6,k8,k5 y k7⟩
    |false=>
     obtain⟨e,rfl,k2,k3⟩:=hv;have hlen:(je n [e]).1.length=1:=g2
     obtain⟨e',he'⟩: ∃e',(je n [e]).1=[e']:=by
      cases hq:(je n [e]).1 with
      |nil=>rw[hq] at hlen;cases hlen
      |cons y t=>cases t with
       |nil=>exact⟨y,rfl⟩
       |cons _ _=>rw[hq] at hlen;simp at hlen
     obtain⟨e0,k4,k5⟩:=g4 0 e' (by rw[he'];rfl);simp only[fu,bq] at k4;subst k4;exact⟨e',he',k2,k5 v k3⟩
   |succ j=>
    simp only[iF,tU] at he ⊢;exact h3 (fun i b hm=>hl i b (p6 _ hm)) j e' he
theorem ada (e:TE) (n:Nat) (hn:N≤n):Ye n (IM n e).2.1 (IM n e).2.2∧
 ((∀i b,(i,b)∈(IM n e).2.2→an i G4=some b)→ ∀v,dx ob w φ e v→dx G4 w (opened N φ) (IM n e).1 v):=by
 cases e with
 |v t es=>
  obtain⟨h1,h2,h3⟩:=CH (w:=w) x es n hn;refine⟨h1,fun hl v hv=> ?_⟩;have h4:=h3 hl;simp only[IM]
  cases t with
  |true=>
   obtain⟨vs,k1,k2,k3⟩:=hv;refine⟨vs,k1,by rw[h2];exact k2,fun j e' he=> ?_⟩;obtain⟨e,k4,k5⟩:=h4 j e' he;obtain⟨y,k6,k7⟩:=k3 j e k4;exact⟨y,k6,k5 y k7⟩
  |false=>
   obtain⟨c,rfl,k1⟩:=hv;have hlen:(iF n [c]).1.length=1:=h2
   obtain⟨e',he'⟩: ∃e',(iF n [c]).1=[e']:=by
    cases hq:(iF n [c]).1 with
    |nil=>rw[hq] at hlen;cases hlen
    |cons y t=>cases t with
     |nil=>exact⟨y,rfl⟩
     |cons _ _=>rw[hq] at hlen;simp at hlen
   obtain⟨e0,k4,k5⟩:=h4 0 e' (by rw[he'];rfl);simp only[fu,bq] at k4;subst k4;exact⟨e',he',k5 v k1⟩
 |kb b=>
  refine⟨cL _,fun _ v hv=> ?_⟩;simp only[dx] at hv;subst hv;exact⟨_,rfl,_,rfl,rfl,rfl,trivial⟩
 |_=>exact⟨cL _,fun _ v hv=>hv.ext x⟩
theorem QW: ∀(l:List (Nat×TE)) (n:Nat),N≤n→(∃m,Ye n m (Br n l).2)∧
 ((∀i b,(i,b)∈(Br n l).2→an i G4=some b)→ ∀(i:Nat) (e':TE),an i (Br n l).1=some e'→ ∃e,an i l=some e∧ ∀v,dx ob w φ e v→dx G4 w (opened N φ) e' v)
 |[],n,hn=>⟨⟨n,cL _⟩,fun _ i e' h=>by simp[Br,an] at h⟩
 |(j,e)::r,n,hn=>by
  obtain⟨g1,g2⟩:=ada (w:=w) x e n hn;obtain⟨⟨m,h1⟩,h2⟩:=QW r (IM n e).2.1 (bQ hn g1.le);refine⟨⟨m,g1.app h1⟩,fun hl i e' he=> ?_⟩;simp only[Br,an] at he ⊢
  cases hj:Nat.beq j i with
  |true=>
   rw[hj] at he;simp only[bq] at he;subst he;exact⟨e,rfl,g2 fun i b hm=>hl i b (kD _ hm)⟩
  |false=>
   rw[hj] at he;exact h2 (fun i b hm=>hl i b (p6 _ hm)) i e' he
end
theorem Yw {n:Nat}: ∀{ob:List (Nat×OB)},Yq n ob=true→ ∀o,aT ob o→o<n
 |[],_,o,⟨b,h⟩=>by cases h
 |(i,x)::r,ha,o,⟨b,h⟩=>by
  simp only[Yq] at ha
  cases h1:Nat.ble n i with
  |true=>rw[h1] at ha;cases ha
  |false=>
   rw[h1] at ha;simp only[an] at h
   cases h2:Nat.beq i o with
   |true=>
    have:=jw h2;subst this
    exact Nat.lt_of_not_le fun h3=>by rw[QE h3] at h1;cases h1
   |false=>rw[h2] at h;exact Yw ha o ⟨b,h⟩
theorem bw.Yr (h:bw F A w0 φ st tm w): ∃φ',bw F A w0 φ' (Yr st) tm w∧φ'.β=φ.β:=by
 unfold T.Yr
 cases ha:Yq 900000000 st.ob with
 |false=>exact⟨φ,h,rfl⟩
 |true=>
  have hlt:=Yw ha
  have x1: ∀G4,(∀d b,an d st.ob=some b→an d G4=some b)→Ext st.ob G4 φ (opened 900000000 φ):=fun G4 hl=>
   ⟨hl,rfl,rfl,fun d hd=>by
     have:d<900000000:=hd.elim (fun e=>by omega) (hlt d)
     funext k
     simp[opened,this],fun d hd=>aR (hlt d hd)⟩
  obtain⟨⟨m,aki⟩,_⟩:=QW (w:=w) (x1 st.ob fun _ _ h=>h) st.tm 900000000 (cL _);obtain⟨l1,l2⟩:=ND (ob:=st.ob) aki
  have x:Ext st.ob (mh (Br 900000000 st.tm).2 st.ob) φ (opened 900000000 φ):=x1 _ fun d b hd=>by rw[l2 d (hlt d ⟨b,hd⟩)];exact hd
  obtain⟨_,hT⟩:=QW (w:=w) x st.tm 900000000 (cL _);have hT:=hT l1
  have old: ∀d,aT (mh (Br 900000000 st.tm).2 st.ob) d→(d<900000000∧aT st.ob d)∨900000000≤d:=fun d ⟨b,hd⟩=>by
   rcases IP hd with h1|h1
   ·exact .inr (aki.mem h1).1
   ·exact .inl ⟨hlt d ⟨b,h1⟩,b,h1⟩
  have oldS: ∀d k,aT (mh (Br 900000000 st.tm).2 st.ob) d→(opened 900000000 φ).S d k→aT st.ob d∧φ.S d k:=fun d k hd hk=>by
   rcases old d hd with h1|h1
   ·exact⟨h1.2,hk.2⟩
   ·exact absurd hk.1 au
  refine⟨opened 900000000 φ,⟨fun i=> ?_,fun b cs hb j e he=> ?_,fun o b ho=> ?_,?_,h.frm⟩,rfl⟩
  ·show dx (mh (Br 900000000 st.tm).2 st.ob) w (opened 900000000 φ) (match an i (Br 900000000 st.tm).1 with|some e=>e|none=> .dead) (tm.getD i undef)
   cases hi:an i (Br 900000000 st.tm).1 with
   |none=>trivial
   |some e'=>
    obtain⟨e,h1,h2⟩:=hT i e' hi;have:=h.tmp i;unfold TS.get at this;rw[h1] at this;exact h2 _ this
  ·obtain⟨v,h1,h3,h2⟩:=h.box b cs hb j e he
   exact⟨v,h1,h3,h2.ext x⟩
  ·unfold o7
   rcases IP ho with h1|h1
   ·obtain⟨a1,a2,a3,a4,a5⟩:=aki.mem h1
    obtain⟨bd,bz,br⟩:=b;simp only at a3 a4 a5;subst a3 a4;have hv:(opened 900000000 φ).V o=ajG:=aJ au;rw[hv]
    refine av.sub _ _ bz [] none 0 (fun _ _=>default) (fun _ _ _=>False) ⟨cL _,cW _,a5,fun r hr=>(by cases hr),fun hr=>absurd rfl hr,fun _ ha=>(by cases ha),fun _ _ ha=>(by cases ha),
     fun _=>⟨fun _=>rfl,fun _ ha=>(by cases ha)⟩,fun _ _ _ ha=>(by cases ha),fun _ _ _ _ hk=>hk.elim⟩ fun i f tc ht=>absurd rfl (LM ht)
   ·have hd:=hlt o ⟨b,h1⟩
    have:=h.obj o b h1;unfold o7 at this;rw[x.V o ⟨b,h1⟩,x.S o (.inr ⟨b,h1⟩)];exact this
  ·exact {
    arg:=by rw[x.S 0 (.inl rfl)];exact h.sep.arg
    nz:=fun o ho e=>by
     rcases old o ho with h1|h1
     ·exact h.sep.nz o h1.2 e
     ·omega
    apart:=fun o o' k h1 h2 h3 h4=>h.sep.apart o o' k (oldS o k h1 h3).1 (oldS o' k h2 h4).1 (oldS o k h1 h3).2 (oldS o' k h2 h4).2
    read:=fun o k h1 h2=>h.sep.read o k (oldS o k h1 h2).1 (oldS o k h1 h2).2
    fresh:=fun o k h1 h2=>h.sep.fresh o k (oldS o k h1 h2).1 (oldS o k h1 h2).2
    ro:=h.sep.ro
    oY:=h.sep.oY
    box:=fun b cs hb hw=>by
     obtain⟨a1,a2,a3,a4⟩:=h.sep.box b cs hb hw;exact⟨a1,fun o ho hk=>a2 o (oldS o _ ho hk).1 (oldS o _ ho hk).2,a3,a4⟩
    spot:=h.sep.spot
    soft:=h.sep.soft}
end Go.T
namespace Go.T
variable {F : Nat → Prop} {A : Arg} {w0 w w' : World} {φ φ' : Fp} {st st' : TS} {tm IF : Array Value}
structure QY (n:Nat) (ρ:List (Nat×Nat)):Prop where
 rng: ∀o m,(o,m)∈ρ→1≤m∧m<n∧o≠0
 apart:ρ.Pairwise fun a b=>a.1≠b.1∧a.2≠b.2
theorem kg {α:Type} {o:Nat} {m:α}: ∀{ρ:List (Nat×α)},an o ρ=some m→(o,m)∈ρ
 |(a,x)::r,h=>by
  simp only[an] at h
  cases h1:Nat.beq a o with
  |true=>
   rw[h1] at h
   cases h
   have:=jw h1;subst this;exact .head _
  |false=>rw[h1] at h;exact .tail _ (kg h)
theorem wK {α:Type} {o:Nat}: ∀{ρ:List (Nat×α)},an o ρ=none→ ∀m,(o,m)∉ρ
 |[],_,_=>by simp
 |(a,x)::r,h,m=>by
  simp only[an] at h
  cases h1:Nat.beq a o with
  |true=>rw[h1] at h;cases h
  |false=>
   rw[h1] at h;intro hm;rcases dJ.1 hm with e|hm
   ·cases e;exact tY h1 rfl
   ·exact wK h m hm
theorem FV {n o m:Nat}: ∀{ρ:List (Nat×Nat)},(ρ.Pairwise fun a b=>a.1≠b.1∧a.2≠b.2)→(o,m)∈ρ→an o ρ=some m
 |(a,x)::r,h,hm=>by
  simp only[an];rw[List.pairwise_cons] at h;rcases dJ.1 hm with e|hm
  ·cases e;rw[FT]
  ·have:=(h.1 _ hm).1
   rw[beq_false this];exact FV (n:=n) h.2 hm
theorem Hh: ∀(l:List Nat) (n:Nat) (ρ:List (Nat×Nat)),1≤n→QY n ρ→ ∃n',QY n' (number l n ρ)∧(∀o m,an o ρ=some m→an o (number l n ρ)=some m)∧ ∀o∈l,o≠0→ ∃m,an o (number l n ρ)=some m
 |[],n,ρ,_,h=>⟨n,h,fun _ _ h=>h,fun _ h=>by cases h⟩
 |o::r,n,ρ,hn,h=>by
  simp only[number]
  cases h0:Nat.beq o 0 with
  |true=>
   obtain⟨n',h1,h2,h3⟩:=Hh r n ρ hn h;refine⟨n',h1,h2,fun p hp hp0=> ?_⟩;rcases dJ.1 hp with e|hp
   ·exact absurd (e.trans (jw h0)) hp0
   ·exact h3 p hp hp0
  |false=>
   have h0:=tY h0
   cases hl:an o ρ with
   |some m=>
    obtain⟨n',h1,h2,h3⟩:=Hh r n ρ hn h;refine⟨n',h1,h2,fun p hp hp0=> ?_⟩;rcases dJ.1 hp with e|hp
    ·subst e;exact⟨m,h2 _ _ hl⟩
    ·exact h3 p hp hp0
   |none=>
    have hk:QY (n+1) ((o,n)::ρ):=by
     refine⟨fun p m hm=> ?_,List.pairwise_cons.2 ⟨fun a ha=>⟨fun e=> ?_,fun e=> ?_⟩,h.apart⟩⟩
     ·rcases dJ.1 hm with e|hm
      ·cases e;exact⟨hn,by omega,h0⟩
      ·have:=h.rng p m hm;exact⟨this.1,by omega,this.2.2⟩
     ·obtain⟨a1,a2⟩:=a
      simp only at e;subst e;exact wK hl a2 ha
     ·obtain⟨a1,a2⟩:=a
      simp only at e;have:=(h.rng a1 a2 ha).2.1;omega
    obtain⟨n',h1,h2,h3⟩:=Hh r (n+1) ((o,n)::ρ) au hk
    have hon:an o ((o,n)::ρ)=some n:=by simp only[an,FT]
    refine⟨n',h1,fun p m hp=>h2 p m ?_,fun p hp hp0=> ?_⟩
    ·simp only[an]
     rw[beq_false fun e=>by subst e;rw[hl] at hp;cases hp];exact hp
    ·rcases dJ.1 hp with e|hp
     ·subst e;exact⟨n,h2 _ _ hon⟩
     ·exact h3 p hp hp0
theorem aiZ {o o' m:Nat}: ∀{ρ:List (Nat×Nat)},(ρ.Pairwise fun a b=>a.1≠b.1∧a.2≠b.2)→(o,m)∈ρ→(o',m)∈ρ→o=o'
 |p::r,h,h1,h2=>by
  rw[List.pairwise_cons] at h;rcases dJ.1 h1 with e1|h1
  ·rcases dJ.1 h2 with e2|h2
   ·rw[←e1] at e2;cases e2;rfl
   ·exact absurd (by rw[←e1]) (h.1 _ h2).2
  ·rcases dJ.1 h2 with e2|h2
   ·exact absurd (by rw[←e2]) (h.1 _ h1).2
   ·exact aiZ h.2 h1 h2
def inv (ρ:List (Nat×Nat)) (m:Nat):Nat:=match ρ.find? fun p=>Nat.beq p.2 m with|some p=>p.1|none=>0
theorem inv_eq {n o m:Nat} {ρ:List (Nat×Nat)} (h:QY n ρ) (hl:an o ρ=some m):inv ρ m=o:=by
 unfold inv;have hm:=kg hl
 cases hf:ρ.find? fun p=>Nat.beq p.2 m with
 |none=>
  have:=List.find?_eq_none.1 hf _ hm;simp at this
 |some p=>
  have h1:=List.mem_of_find?_eq_some hf;have h2:=List.find?_some hf;have h2:=jw h2;simp only;obtain⟨p1,p2⟩:=p;simp only at h2;subst h2;exact aiZ h.apart h1 hm
theorem inv_zero {n:Nat} {ρ:List (Nat×Nat)} (h:QY n ρ):inv ρ 0=0:=by
 unfold inv
 cases hf:ρ.find? fun p=>Nat.beq p.2 0 with
 |none=>rfl
 |some p=>
  have h1:=List.mem_of_find?_eq_some hf;have h2:=List.find?_some hf;have h2:=jw h2;obtain⟨p1,p2⟩:=p;have:=(h.rng p1 p2 h1).1;simp only at h2;omega
theorem J5 {o m:Nat} {ρ:List (Nat×Nat)} (hl:an o ρ=some m):LH ρ o=m:=by unfold LH;rw[hl]
theorem Vx {n:Nat} {ρ:List (Nat×Nat)} (h:QY n ρ):LH ρ 0=0:=by
 unfold LH
 cases hl:an 0 ρ with
 |none=>rfl
 |some m=>exact absurd rfl (h.rng 0 m (kg hl)).2.2
theorem J6 {ob:List (Nat×OB)} {m:Nat} {b:OB}: ∀{ρ:List (Nat×Nat)},an m (xb ob ρ)=some b→ ∃o,(o,m)∈ρ∧an o ob=some b
 |(o,n)::r,h=>by
  simp only[xb] at h
  cases ho:an o ob with
  |none=>
   rw[ho] at h;obtain⟨o',h1,h2⟩:=J6 h;exact⟨o',.tail _ h1,h2⟩
  |some b'=>
   rw[ho] at h;simp only[gf] at h
   by_cases hm:m=n
   ·rw[aR hm] at h;cases h;subst hm;exact⟨o,.head _,ho⟩
   ·rw[aJ hm] at h
    obtain⟨o',h1,h2⟩:=J6 h;exact⟨o',.tail _ h1,h2⟩
theorem Yx {ob:List (Nat×OB)} {o m:Nat} {b:OB} (ho:an o ob=some b): ∀{ρ:List (Nat×Nat)},(ρ.Pairwise fun a b=>a.1≠b.1∧a.2≠b.2)→(o,m)∈ρ→an m (xb ob ρ)=some b
 |(o',n)::r,h,hm=>by
  rw[List.pairwise_cons] at h;simp only[xb];rcases dJ.1 hm with e|hm
  ·cases e
   rw[ho];simp only[gf,aR]
  ·have h1:=(h.1 _ hm).2
   have ih:=Yx ho h.2 hm
   cases ho':an o' ob with
   |none=>exact ih
   |some b'=>
    simp only[gf];rw[aJ (Ne.symm h1)];exact ih
def Fp.Yy (φ:Fp) (ρ:List (Nat×Nat)):Fp:={φ with S:=fun m=>φ.S (inv ρ m),V:=fun m=>φ.V (inv ρ m)}
section
variable {ob : List (Nat × OB)} {n : Nat} {ρ : List (Nat × Nat)} (hρ : QY n ρ)
include hρ
theorem J7 {o m:Nat} {b:OB} (hm:an o ρ=some m) (ho:an o ob=some b):an m (xb ob ρ)=some b:=Yx ho hρ.apart (kg hm)
theorem aeL {o m:Nat} (hm:an o ρ=some m):(φ.Yy ρ).S m=φ.S o:=by show φ.S (inv ρ m)=_;rw[inv_eq hρ hm]
theorem acd {o m:Nat} (hm:an o ρ=some m):(φ.Yy ρ).V m=φ.V o:=by show φ.V (inv ρ m)=_;rw[inv_eq hρ hm]
theorem aeM:(φ.Yy ρ).S 0=φ.S 0:=by show φ.S (inv ρ 0)=_;rw[inv_zero hρ]
theorem aeN {ds:List Nat} (hz: ∀d,aT ob d→d≠0) (hd: ∀d∈ds,d=0∨aT ob d) (hc: ∀o∈ds,o≠0→ ∃m,an o ρ=some m):
 (∀d∈ds.map (LH ρ),d=0∨aT (xb ob ρ) d)∧ ∀k,rd φ ds k→rd (φ.Yy ρ) (ds.map (LH ρ)) k:=by
 refine⟨fun d hm=> ?_,fun k hk=> ?_⟩
 ·obtain⟨o,h1,rfl⟩:=List.mem_map.1 hm
  rcases hd o h1 with rfl|h2
  ·exact .inl (Vx hρ)
  ·obtain⟨m,h3⟩:=hc o h1 (hz o h2)
   obtain⟨b,h4⟩:=h2;rw[J5 h3];exact .inr ⟨b,J7 hρ h3 h4⟩
 ·rcases hk with hk|⟨d,hm,hk⟩
  ·exact .inl hk
  ·refine .inr ⟨LH ρ d,List.mem_map_of_mem hm,?_⟩
   rcases hd d hm with rfl|h2
   ·rw[Vx hρ,aeM hρ];exact hk
   ·obtain⟨m,h3⟩:=hc d hm (hz d h2)
    rw[J5 h3,aeL hρ h3];exact hk
theorem ek.Yy (hz: ∀d,aT ob d→d≠0) {e:CE} {v:Value} (hc: ∀o∈ig e,o≠0→ ∃m,an o ρ=some m) (h:ek ob w φ e v):ek (xb ob ρ) w (φ.Yy ρ) (J1 ρ e) v:=by
 cases e with
 |ref o cut=>
  obtain⟨b,h1,h2⟩:=h;obtain⟨m,h3⟩:=hc o (by simp[ig]) (hz o ⟨b,h1⟩);simp only[J1];rw[J5 h3];exact⟨b,J7 hρ h3 h1,by rw[acd hρ h3];exact h2⟩
 |snap ds loc z rows=>
  obtain⟨h1,h2,h3⟩:=h;obtain⟨g1,g2⟩:=aeN hρ (φ:=φ) hz h1 hc;refine⟨g1,h2.qm g2,fun o i f hl=> ?_⟩
  cases loc with
  |none=>cases hl
  |some q=>
   obtain⟨o',i',f'⟩:=q;simp only[bq,zJ] at hl;obtain⟨rfl,rfl,rfl⟩:=hl;obtain⟨a1,b,a2,a3,a4,ad,n,c,a5,a6⟩:=h3 o' i' f' rfl;obtain⟨m,a7⟩:=hc o' a1 (hz o' ⟨b,a2⟩);refine⟨List.mem_map_of_mem a1,?_⟩;rw[J5 a7];exact⟨b,J7 hρ a7 a2,a3,a4,ad,n,c,by rw[acd hρ a7];exact a5,a6⟩
 |_=>exact h
theorem dx.Yy (hz: ∀d,aT ob d→d≠0) {e:TE} {v:Value} (hc: ∀o∈AX e,o≠0→ ∃m,an o ρ=some m) (h:dx ob w φ e v):dx (xb ob ρ) w (φ.Yy ρ) (AW (J1 ρ) (aeB ρ) e) v:=by
 have comp: ∀(c:rF) (u:Value),(∀o∈jP [c],o≠0→ ∃m,an o ρ=some m)→nV ob w φ c u→nV (xb ob ρ) w (φ.Yy ρ) (ym (J1 ρ) c) u:=by
  intro c u hc h
  cases c with
  |ptr b=>exact h
  |mk a cs=>
   simp only[jP,m0] at hc;have hc1: ∀e∈cs,∀o∈ig e,o≠0→ ∃m,an o ρ=some m:=fun e he o ho=>hc o (List.mem_flatMap.2 ⟨e,he,ho⟩)
   cases a with
   |true=>
    obtain⟨xs,h1,h2,h3⟩:=h;refine⟨xs,h1,by simp[h2],fun j e he=> ?_⟩;rw[me] at he
    cases h4:cs[j]? with
    |none=>rw[h4] at he;cases he
    |some e0=>
     rw[h4] at he;simp only[nT,bq] at he;subst he;obtain⟨x,hx,hx1,hok⟩:=h3 j e0 h4;exact⟨x,hx,hx1,hok.Yy hρ hz (hc1 e0 (iV h4))⟩
   |false=>
    obtain⟨e,rfl,h2,h3⟩:=h;exact⟨_,rfl,h2,h3.Yy hρ hz (hc1 e bZ)⟩
 have dcomp: ∀(es:List rF) (c:rF),c∈es→ ∀o,o∈jP [c]→o∈jP es:=by
  intro es
  induction es with
  |nil=>intro c hc;cases hc
  |cons x r ih=>
   intro c hc o ho;rcases dJ.1 hc with rfl|hc
   ·cases c with
    |ptr b=>simp[jP] at ho
    |mk a cs=>
     simp only[jP,m0] at ho;simp only[jP];exact kD _ ho
   ·have:=ih c hc o ho
    cases x with
    |ptr b=>exact this
    |mk a cs=>simp only[jP];exact p6 _ this
 cases e with
 |v t es=>
  cases t with
  |true=>
   obtain⟨vs,h1,h2,h3⟩:=h;refine⟨vs,h1,by rw[r6];exact h2,fun k c hk=> ?_⟩;rw[xz] at hk
   cases h4:es[k]? with
   |none=>rw[h4] at hk;cases hk
   |some c0=>
    rw[h4] at hk;simp only[nT,bq] at hk;obtain⟨u,hu,hok⟩:=h3 k c0 h4;exact⟨u,hu,by rw[←hk];exact comp c0 u (fun o ho=>hc o (dcomp es c0 (iV h4) o ho)) hok⟩
  |false=>
   obtain⟨c,rfl,hok⟩:=h;refine⟨ym (J1 ρ) c,?_,comp c v hc hok⟩
   cases c<;>rfl
 |ep ds cells=>
  obtain⟨h1,ad,h2,hr,h3⟩:=h;obtain⟨g1,g2⟩:=aeN hρ (φ:=φ) hz h1 hc;refine⟨g1,ad,h2,fun hne=>g2 _ (hr hne),fun j tc hj=> ?_⟩;obtain⟨u,h4,h5⟩:=h3 j tc hj;exact⟨u,h4,h5.qm g2⟩
 |er o path i f=>
  obtain⟨b,h1,h2,ad,n,c,h3,h4⟩:=h;obtain⟨m,h5⟩:=hc o (by simp[AX]) (hz o ⟨b,h1⟩);show dx (xb ob ρ) w (φ.Yy ρ) (.er (LH ρ o) path i f) v;rw[J5 h5];exact⟨b,J7 hρ h5 h1,h2,ad,n,c,by rw[acd hρ h5];exact h3,h4⟩
 |_=>exact h
end
theorem bw.canon (h:bw F A w0 φ st tm w): ∃φ',bw F A w0 φ' (canon st) tm w∧φ'.β=φ.β:=by
 obtain⟨n,hρ,_,hall⟩:=Hh (ajA st) 1 [] (cL _) ⟨fun _ _ h=>(by cases h),List.Pairwise.nil⟩;unfold T.canon ak4;generalize number (ajA st) 1 []=ρ at hρ hall;have hz:=h.sep.nz
 have dom: ∀m,aT (xb st.ob ρ) m→ ∃o,an o ρ=some m∧aT st.ob o:=fun m ⟨b,hm⟩=>by
  obtain⟨o,h1,h2⟩:=J6 hm;exact⟨o,FV (n:=n) hρ.apart h1,b,h2⟩
 have domS: ∀m k,aT (xb st.ob ρ) m→(φ.Yy ρ).S m k→ ∃o,an o ρ=some m∧aT st.ob o∧φ.S o k:=fun m k hm hk=>by
  obtain⟨o,h1,h2⟩:=dom m hm;rw[aeL hρ h1] at hk;exact⟨o,h1,h2,hk⟩
 refine⟨φ.Yy ρ,⟨fun i=> ?_,fun b cs hb j e he=> ?_,fun m b hm=> ?_,?_,h.frm⟩,rfl⟩
 ·show dx (xb st.ob ρ) w (φ.Yy ρ) (match an i (mapA (AW (J1 ρ) (aeB ρ)) st.tm) with|some e=>e|none=> .dead) (tm.getD i undef)
  rw[vg]
  cases hi:an i st.tm with
  |none=>trivial
  |some e=>
   have:=h.tmp i;unfold TS.get at this;rw[hi] at this;exact this.Yy hρ hz fun o ho ho0=>hall o (kD _ (List.mem_flatMap.2 ⟨_,kg hi,ho⟩)) ho0
 ·simp only[vg] at hb
  cases h1:an b st.bx with
  |none=>rw[h1] at hb;cases hb
  |some cs0=>
   rw[h1] at hb;simp only[nT,bq] at hb;subst hb;rw[me] at he
   cases h2:cs0[j]? with
   |none=>rw[h2] at he;cases he
   |some e0=>
    rw[h2] at he;simp only[nT,bq] at he;subst he;obtain⟨v,h3,h5,h4⟩:=h.box b cs0 h1 j e0 h2;exact⟨v,h3,h5,h4.Yy hρ hz fun o ho ho0=>hall o (p6 _ (List.mem_flatMap.2 ⟨_,kg h1,List.mem_flatMap.2 ⟨e0,iV h2,ho⟩⟩)) ho0⟩
 ·obtain⟨o,h1,h2⟩:=J6 hm
  have h1:=FV (n:=n) hρ.apart h1;unfold o7;rw[aeL hρ h1,acd hρ h1];exact h.obj o b h2
 ·have hs:=h.sep.boxes (iX (J1 ρ))
  exact {
   arg:=by rw[aeM hρ];exact h.sep.arg
   nz:=fun m hm e=>by
    obtain⟨o,h1,_⟩:=dom m hm;have:=(hρ.rng o m (kg h1)).1;omega
   apart:=fun m m' k h1 h2 h3 h4=>by
    obtain⟨o,a1,a2,a3⟩:=domS m k h1 h3;obtain⟨o',b1,b2,b3⟩:=domS m' k h2 h4;have:=h.sep.apart o o' k a2 b2 a3 b3;subst this;rw[a1] at b1;cases b1;rfl
   read:=fun m k h1 h2=>by obtain⟨o,a1,a2,a3⟩:=domS m k h1 h2;exact h.sep.read o k a2 a3
   fresh:=fun m k h1 h2=>by obtain⟨o,a1,a2,a3⟩:=domS m k h1 h2;exact h.sep.fresh o k a2 a3
   ro:=hs.ro
   oY:=hs.oY
   box:=fun b cs hb hw=>by
    obtain⟨a1,a2,a3,a4⟩:=hs.box b cs hb hw;refine⟨a1,fun m hm hk=> ?_,a3,a4⟩;obtain⟨o,c1,c2,c3⟩:=domS m _ hm hk;exact a2 o c2 c3
   spot:=hs.spot
   soft:=hs.soft}
theorem bw.head (h:bw F A w0 φ st tm w) (l:List Nat):Rel F A w0 (Yt l st) tm w:=by
 obtain⟨φ1,h1,_⟩:=(h.ak6 l).Yr;obtain⟨φ2,h2,_⟩:=h1.canon;exact⟨φ2,h2⟩
end Go.T
