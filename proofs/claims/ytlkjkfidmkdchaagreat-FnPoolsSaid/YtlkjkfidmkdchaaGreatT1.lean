import Derived.Below
import Derived.WalkKit
import Derived.Laws.AppendOwn
import Derived.DataElems
namespace Go.T
theorem fG {P Q:Prop} (h:P:=by rfl) (k:Q:=by trivial):P∧Q:=⟨h,k⟩
theorem zYa {P:Prop} (h:P:=by first|rfl|(simp;done)|(simp;omega)):P:=h
theorem az {P:Prop} (h:P:=by omega):P:=h
theorem ic {P:Prop} (h:P:=by assumption):P:=h
theorem ie {P:Prop} (h:P:=by simp;omega):P:=h
theorem lu {P:Prop} (h:P:=by simp<;>omega):P:=h
theorem cE {P:Prop} (h:P:=by simp):P:=h
theorem zYt {P:Prop} (h:P:=by trivial):P:=h
theorem zYr {P:Prop} (h:P:=by rfl):P:=h
abbrev vM:= @Array.getD_eq_getD_getElem?
abbrev wX:= @Array.getElem?_eq_getElem
abbrev Tf:= @Array.getElem?_setIfInBounds
abbrev Wh:= @Array.getElem?_toList
abbrev Ao:= @Array.length_toList
abbrev dW:= @Bool.and_eq_true
abbrev jz:= @Bool.and_true
abbrev Ey:= @Bool.false_eq_true
abbrev GF:= @Bool.false_or
abbrev wY:= @Bool.not_eq_true'
abbrev LL:= @Bool.not_true
abbrev dz:= @Bool.true_and
abbrev oD:= @Int.ofNat_eq_natCast
abbrev pT:= @Int.toNat_natCast
abbrev pF:= @List.all_cons
abbrev oE:= @List.all_nil
abbrev Ap:= @List.append_assoc
abbrev nG:= @List.append_nil
abbrev Ez:= @List.cons_append
abbrev wZ:= @List.drop_eq_getElem_cons
abbrev fF:= @List.drop_length
abbrev LM:= @List.drop_of_length_le
abbrev EA:= @List.eq_nil_of_length_eq_zero
abbrev Z8:= @List.flatten_append
abbrev EB:= @List.flatten_cons
abbrev qK:= @List.getD_eq_getElem?_getD
abbrev ny:= @List.getElem?_append_left
abbrev nH:= @List.getElem?_append_right
abbrev sP:= @List.getElem?_cons_succ
abbrev fM:= @List.getElem?_cons_zero
abbrev qL:= @List.getElem?_drop
abbrev bH:= @List.getElem?_eq_getElem
abbrev Tg:= @List.getElem?_eq_none
abbrev kg:= @List.getElem?_map
abbrev EC:= @List.getElem?_take
abbrev tT:= @List.getElem_mem
abbrev cT:= @List.length_append
abbrev g7:= @List.length_cons
abbrev lD:= @List.length_drop
abbrev LN:= @List.length_filter_le
abbrev cn:= @List.length_map
abbrev Th:= @List.length_modify
abbrev fY:= @List.length_singleton
abbrev gz:= @List.length_take
abbrev ED:= @List.map_append
abbrev Ti:= @List.map_drop
abbrev Wi:= @List.map_take
abbrev ki:= @List.mem_append_left
abbrev pG:= @List.mem_append_right
abbrev ef:= @List.mem_cons
abbrev ja:= @List.mem_of_getElem?
abbrev EE:= @List.mem_of_mem_drop
abbrev Aq:= @List.mem_of_mem_take
abbrev jS:= @List.mem_singleton
abbrev w4:= @List.nil_append
abbrev GG:= @List.take_append_drop
abbrev ai2:= @List.take_append_of_le_length
abbrev sQ:= @List.take_length
abbrev ack:= @List.take_of_length_le
abbrev yu:= @Nat.add_assoc
abbrev pU:= @Nat.add_eq
abbrev uQ:= @Nat.add_mul
abbrev tU:= @Nat.add_zero
abbrev OC:= @Nat.ble_eq_true_of_le
abbrev Io:= @Nat.div_add_mod'
abbrev jj:= @Nat.eq_of_beq_eq_true
abbrev EF:= @Nat.le_max_left
abbrev sR:= @Nat.le_of_ble_eq_true
abbrev dj:= @Nat.le_refl
abbrev cU:= @Nat.le_trans
abbrev kX:= @Nat.lt_of_lt_of_le
abbrev Ar:= @Nat.min
abbrev sw:= @Nat.mul_le_mul_right
abbrev sU:= @Nat.ne_of_beq_eq_false
abbrev oF:= @Nat.sub_self
abbrev OD:= @Nat.succ_mul
abbrev nI:= @Nat.zero_add
abbrev dm:= @Nat.zero_le
abbrev nB:= @Option.map_some
abbrev bq:= @Option.some.injEq
abbrev Cl:= @Prod.mk.injEq
abbrev iZ:= @decide_eq_false
abbrev iK:= @decide_eq_true
abbrev eC:= @exists_eq_left
abbrev eT:= @exists_eq_left'
abbrev aK:= @if_neg
abbrev aT:= @if_pos
abbrev qM:= @of_decide_eq_true
inductive TC where
 |sc (v:Value)
 |sub (s:Nat) (rows:List (List TC))
 |any
 deriving Inhabited
inductive Mode where
 |snap|top|deep
 deriving DecidableEq,Inhabited
inductive CE where
 |sc (v:Value)
 |nil (z:Nat)
 |ref (o:Nat) (cut:Option (Int×Int))
 |snap (ds:List Nat) (loc:Option (Nat×Int×Nat)) (z:Nat) (rows:List (List TC))
 |gone
 deriving Inhabited
inductive qX where
 |mk (agg:Bool) (cs:List CE)
 |ptr (b:Nat)
inductive TE where
 |dead
 |v (tup:Bool) (es:List qX)
 |bp (b off:Nat)
 |ep (ds:List Nat) (cells:List TC)
 |er (o:Nat) (path:Option (Int×Nat)) (i:Int) (f:Nat)
 |fn (f:FuncId) (caps:List Nat)
 |kb (b:Bool)
 deriving Inhabited
structure OB where
 deep:Bool
 z:Nat
 rows:List (List TC)
structure TS where
 tm:List (Nat×TE)
 bx:List (Nat×List CE)
 ob:List (Nat×OB)
inductive TI where
 |int (k:IntKind)
 |bool
 |str
 |slice (e:TypeId)
 |ptr (e:TypeId)
 |struct (fs:List (Nat×TypeId))
 |other
 deriving Inhabited
structure mz where
 ti:TI
 size:Nat
 bytes:Nat
 flat:Bool
 zero:List TC
 eqs:List Nat:=[]
 deriving Inhabited
inductive TV where
 |c (c:TC)
 |ag (cs:List TC)
 |tu (vs:List (Nat×List TC))
 |bx (cs:List TC)
 |fn (f:FuncId) (caps:List (List TC))
inductive cg where
 |borrow|inout (ms:List Mode)|consume (ms:List Mode)
 deriving DecidableEq
def cg.mc:cg→Nat→Mode
 | .borrow,_=> .snap
 | .inout ms,j=>match ms[j]? with|some m=>m|none=> .deep
 | .consume ms,j=>match ms[j]? with|some m=>m|none=> .deep
structure Z9 where
 ps:List cg
 shares:Bool
 res:List (List Mode)
 frz:Bool:=false
inductive F1 where
 |nil
 |op (i:Nat) (fl:List Nat) (r:F1)
 |alt (a b:F1)
structure mA where
 P:Program
 tt:TypeId→mz
 sig:FuncId→Z9
 lr:FuncId→Nat→List Nat
 lb:FuncId→Nat→List Nat
 Mf:FuncId→Nat→Option F1
 ext:FuncId→Option (List TV→Option (TV×List TV))
inductive TX where
 |norm|ex (id:Nat)|ret
 deriving DecidableEq
inductive Ev (R:Type) where
 |fail
 |ret (r:R)
 |test (b:Bool) (k:Bool→Ev R)
 |row (rows:List (List TC)) (i:Int) (k:List TC→Ev R)
 |byte (s:ByteArray) (i:Int) (k:Int→Ev R)
 |bytes (rows:List (List TC)) (k:List Int→Ev R)
 |call (f:FuncId) (vs:List TV) (k:TV→List TV→Ev R)
 |loop (f:FuncId) (i:Nat) (c:Code) (st:TS) (k:TX→TS→Ev R)
 |both (a b:Ev R)
@[irreducible] def cN (a b:Int):Bool:=decide (a<b)
@[irreducible] def pQ (a b:Int):Bool:=decide (a≤b)
@[irreducible] def c6 (a b:Int):Bool:=a==b
@[irreducible] def eqB (a b:Bool):Bool:=a==b
@[irreducible] def OE (a b:ByteArray):Bool:=a.toList==b.toList
@[irreducible] def JZ (a b:ByteArray):Bool:=Op.bytesLess a.toList b.toList
@[irreducible] def fits (n b:Nat):Bool:=decide (n*b≤140737488355328∧n≤140737488355328)
@[irreducible] def bM (rows:List (List TC)):Bool:=rows.all fun r=>r.all fun c=>match c with| .sc _=>true|_=>false
@[irreducible] def ew (l h n:Int):Bool:=decide (0≤l∧l≤h∧h≤n)
@[irreducible] def rowAt (rows:List (List TC)) (i:Int):Option (List TC):=if 0≤i then rows[i.toNat]? else none
@[irreducible] def tY (s:ByteArray) (i:Int):Option Int:=if 0≤i then(s[i.toNat]?).map fun b=>(b.toNat:Int) else none
@[irreducible] def au (rows:List (List TC)) (l h:Int):List (List TC):=(rows.take h.toNat).drop l.toNat
@[irreducible] def oG (z:Nat) (rows:List (List TC)) (l h:Int):List (List TC):=rows.take l.toNat++List.replicate (h.toNat-l.toNat) (List.replicate z .any)++rows.drop h.toNat
@[irreducible] def pV (rows bF:List (List TC)):List (List TC):=bF.take rows.length++rows.drop bF.length
@[irreducible] def setRow (rows:List (List TC)) (i:Int) (f:Nat) (cs:List TC):List (List TC):=
  match rows[i.toNat]? with
  |some r=>rows.set i.toNat (r.take f++cs++r.drop (f+cs.length))
  |none=>rows
@[irreducible] def Ru (a b:Int):Int:=if b<a then b else a
@[irreducible] def w5 (n:Int):Nat:=n.toNat
@[irreducible] def Ip (a b:Int):Int:=a+b
@[irreducible] def YD (k:IntKind) (a b:Int):Int:=k.wrap (a+b)
@[irreducible] def OF (k:IntKind) (a b:Int):Int:=k.wrap (a-b)
@[irreducible] def YE (k:IntKind) (a b:Int):Int:=k.wrap (a*b)
@[irreducible] def dU (k:IntKind) (a b:Int):Int:=k.wrap (a.tdiv b)
@[irreducible] def Rv (a b:Int):Int:=a.tmod b
@[irreducible] def ahr (k:IntKind) (a b:Int):Int:=k.wrap (a*2 ^ (min b.toNat k.bits))
@[irreducible] def aa7 (k:IntKind) (a b:Int):Int:=a.fdiv (2 ^ (min b.toNat k.bits))
@[irreducible] def EG (op:BinOp) (k:IntKind) (a b:Int):Int:=Go.bits op k a b
@[irreducible] def vN (k:IntKind) (n:Int):Int:=k.wrap n
@[irreducible] def ai3 (a b:ByteArray):ByteArray:=a++b
@[irreducible] def ai4 (s:ByteArray) (l h:Int):ByteArray:=s.extract l.toNat h.toNat
def wQ:List (List TC)→Option (List Int)
 |[]=>some []
 |[.sc (.int .u8 n)]::r=>(wQ r).map fun ns=>n::ns
 |_=>none
@[irreducible] def As (rows:List (List TC)):Option (List Int):=wQ rows
@[irreducible] def Wj (ns:List Int):ByteArray:=⟨(ns.map fun n:Int=>UInt8.ofNat n.toNat).toArray⟩
@[irreducible] def GH (s:ByteArray):List (List TC):=s.data.toList.map fun b=>[TC.sc (.int .u8 b.toNat)]
abbrev one (c:CE):TE:= .v false [.mk false [c]]
abbrev S (v:Value):TE:=one (.sc v)
def mR (o:Nat):List Nat→Bool
 |[]=>false
 |a::r=>match Nat.beq a o with|true=>true|false=>mR o r
def Wk (o:Nat):List Nat→List Nat
 |[]=>[]
 |a::r=>match Nat.beq a o with|true=>Wk o r|false=>a::Wk o r
def vO:List Nat→List Nat→Bool
 |[],_=>false
 |a::r,l=>match mR a l with|true=>true|false=>vO r l
section
variable {α : Type}
def ak (i:Nat):List (Nat×α)→Option α
 |[]=>none
 |(j,e)::r=>match Nat.beq j i with|true=>some e|false=>ak i r
def o7 (i:Nat) (e:α):List (Nat×α)→List (Nat×α)
 |[]=>[(i,e)]
 |(j,e')::r=>match Nat.beq j i with
  |true=>(i,e)::r
  |false=>match Nat.ble i j with
   |true=>(i,e)::(j,e')::r
   |false=>(j,e')::o7 i e r
def qY (i:Nat):List (Nat×α)→List (Nat×α)
 |[]=>[]
 |(j,e)::r=>match Nat.beq j i with|true=>qY i r|false=>(j,e)::qY i r
def mapA (f:α→α):List (Nat×α)→List (Nat×α)
 |[]=>[]
 |(j,e)::r=>(j,f e)::mapA f r
end
def TS.get (st:TS) (i:Nat):TE:=match ak i st.tm with|some e=>e|none=> .dead
def TS.set (st:TS) (i:Nat) (e:TE):TS:=⟨o7 i e st.tm,st.bx,st.ob⟩
def TS.J0 (st:TS) (i:Nat) (cs:List CE):TS:=⟨st.tm,o7 i cs st.bx,st.ob⟩
def TS.ahs (st:TS) (i:Nat) (o:OB):TS:=⟨st.tm,st.bx,o7 i o st.ob⟩
def mS (f:CE→CE):List qX→List qX
 |[]=>[]
 | .mk a cs::r=> .mk a (cs.map f)::mS f r
 | .ptr b::r=> .ptr b::mS f r
def zN (f:CE→CE) (g:TE→TE):TE→TE
 | .v tup es=> .v tup (mS f es)
 |e=>g e
def yw (f:CE→CE) (g:TE→TE) (h:List (Nat×OB)→List (Nat×OB)) (st:TS):TS:=
 ⟨mapA (zN f g) st.tm,mapA (List.map f) st.bx,h st.ob⟩
def g9:CE→List Nat
 | .ref o _=>[o]
 | .snap d _ _ _=>d
 |_=>[]
def jD:List qX→List Nat
 |[]=>[]
 | .mk _ cs::r=>cs.flatMap g9++jD r
 | .ptr _::r=>jD r
def zO:TE→List Nat
 | .v _ es=>jD es
 | .ep d _=>d
 | .er o _ _ _=>[o]
 |_=>[]
def Tj (o:Nat) (e:CE):CE:=match mR o (g9 e) with|true=> .gone|false=>e
def aaa (o:Nat):TE→TE
 | .ep d cells=>match mR o d with|true=> .dead|false=> .ep d cells
 | .er p path i f=>match Nat.beq p o with|true=> .dead|false=> .er p path i f
 |e=>e
def oH (o:Nat) (st:TS):TS:=yw (Tj o) (aaa o) (qY o) st
def YF (o:Nat) (e:CE):CE:=match e with
 | .snap d l z rows=>match mR o d with|true=> .gone|false=> .snap d l z rows
 |e=>e
def Un (o:Nat):TE→TE
 | .ep d cells=>match mR o d with|true=> .dead|false=> .ep d cells
 | .er p (some q) i f=>match Nat.beq p o with|true=> .dead|false=> .er p (some q) i f
 |e=>e
def vm (o:Nat) (b:OB) (st:TS):TS:=yw (YF o) (Un o) (o7 o b) st
def Wl (cut:Option (Int×Int)) (rows:List (List TC)):List (List TC):=match cut with
 |none=>rows
 |some (l,h)=>au rows l h
def aht (o:Nat) (l:Option (Nat×Int×Nat)):Option (Nat×Int×Nat):=match l with
 |some (p,i,f)=>match Nat.beq p o with|true=>none|false=>some (p,i,f)
 |none=>none
def Ol (o:Nat) (b:OB) (e:CE):CE:=match e with
 | .ref p cut=>match Nat.beq p o with|true=> .snap [] none b.z (Wl cut b.rows)|false=> .ref p cut
 | .snap d l z rows=> .snap (Wk o d) (aht o l) z rows
 |e=>e
def Uo (o:Nat):TE→TE
 | .ep d cells=> .ep (Wk o d) cells
 | .er p path i f=>match Nat.beq p o with|true=> .dead|false=> .er p path i f
 |e=>e
def yx (st:TS) (o:Nat):TS:=match ak o st.ob with
 |some b=>yw (Ol o b) (Uo o) (qY o) st
 |none=>st
def EH (o:Nat) (b:OB) (st:TS):TS:=(oH o st).ahs o b
def lU:List (Nat×OB)→List (Nat×OB)→List (Nat×OB)
 |[],ob=>ob
 |(i,b)::r,ob=>o7 i b (lU r ob)
def tV {α:Type}:List (Nat×α)→List Nat
 |[]=>[]
 |(o,_)::r=>o::tV r
def F2 (l:List Nat) (e:CE):CE:=match e with
 | .snap d l' z rows=>match vO d l with|true=> .gone|false=> .snap d l' z rows
 |e=>e
def By (l:List Nat):TE→TE
 | .ep d cells=>match vO d l with|true=> .dead|false=> .ep d cells
 | .er p (some q) i f=>match mR p l with|true=> .dead|false=> .er p (some q) i f
 |e=>e
def vn (W:List (Nat×OB)) (st:TS):TS:=match W with
 |[]=>st
 |W=>yw (F2 (tV W)) (By (tV W)) (lU W) st
section
variable {Z : Type}
def fL {α:Type} (f:α→(α→Z)→Z):List α→(List α→Z)→Z
 |[],K=>K []
 |a::r,K=>f a fun a'=>fL f r fun r'=>K (a'::r')
def fB (b:Bool) (K:Bool→Z):Z:=match b with|true=>K true|false=>K false
def fN (n:Nat) (K:Nat→Z):Z:=K n
def agT (p:Option (Int×Nat)) (K:Option (Int×Nat)→Z):Z:=match p with|none=>K none|some (a,b)=>K (some (a,b))
def ai5 (p:Option (Int×Int)) (K:Option (Int×Int)→Z):Z:=match p with|none=>K none|some (a,b)=>K (some (a,b))
def fAt (p:Option (Nat×Int×Nat)) (K:Option (Nat×Int×Nat)→Z):Z:=match p with|none=>K none|some (a,b,c)=>K (some (a,b,c))
def fV (v:Value) (K:Value→Z):Z:=match v with
 | .int k n=>K (.int k n)
 | .bool b=>K (.bool b)
 | .string s=>K (.string s)
 |v=>K v
def fTC (c:TC) (K:TC→Z):Z:=match c with| .sc v=>fV v fun v=>K (.sc v)| .sub z rows=>K (.sub z rows)| .any=>K .any
def fCE (e:CE) (K:CE→Z):Z:=match e with
 | .sc v=>fV v fun v=>K (.sc v)
 | .nil z=>K (.nil z)
 | .ref o cut=>ai5 cut fun cut=>K (.ref o cut)
 | .snap d l z rows=>fL fN d fun d=>fAt l fun l=>K (.snap d l z rows)
 | .gone=>K .gone
def acm (c:qX) (K:qX→Z):Z:=match c with
 | .mk a cs=>fB a fun a=>fL fCE cs fun cs=>K (.mk a cs)
 | .ptr b=>K (.ptr b)
def fTE (e:TE) (K:TE→Z):Z:=match e with
 | .dead=>K .dead
 | .v tup es=>fB tup fun tup=>fL acm es fun es=>K (.v tup es)
 | .bp b off=>K (.bp b off)
 | .ep d cells=>fL fN d fun d=>fL fTC cells fun cells=>K (.ep d cells)
 | .er r path i f=>agT path fun path=>K (.er r path i f)
 | .fn f caps=>K (.fn f caps)
 | .kb b=>fB b fun b=>K (.kb b)
def fOB (b:OB) (K:OB→Z):Z:=match b with|⟨d,z,rows⟩=>fB d fun d=>K ⟨d,z,rows⟩
def acn (cs:List TC) (K:List TC→Z):Z:=fL fTC cs K
def fTV (v:TV) (K:TV→Z):Z:=match v with
 | .c c=>fTC c fun c=>K (.c c)
 | .ag cs=>acn cs fun cs=>K (.ag cs)
 | .tu vs=>fL (fun p K=>match p with|(i,cs)=>acn cs fun cs=>K (i,cs)) vs fun vs=>K (.tu vs)
 | .bx cs=>acn cs fun cs=>K (.bx cs)
 | .fn f caps=>K (.fn f caps)
def fTS (st:TS) (K:TS→Z):Z:=
 fL (fun p K=>match p with|(i,e)=>fTE e fun e=>K (i,e)) st.tm fun tm=>
 fL (fun p K=>match p with|(i,cs)=>fL fCE cs fun cs=>K (i,cs)) st.bx fun bx=>
 fL (fun p K=>match p with|(i,b)=>fOB b fun b=>K (i,b)) st.ob fun ob=>K ⟨tm,bx,ob⟩
end
def o8 (st:TS):CE→Option (Nat×List (List TC))
 | .nil z=>some (z,[])
 | .ref o cut=>match ak o st.ob with|some ⟨_,z,rows⟩=>some (z,Wl cut rows)|none=>none
 | .snap _ _ z rows=>some (z,rows)
 |_=>none
def Bz (st:TS) (e:CE):Option TC:=match e with
 | .sc v=>some (.sc v)
 |e=>match o8 st e with|some (z,rows)=>some (.sub z rows)|none=>none
def vZ (st:TS):List CE→Option (List TC)
 |[]=>some []
 |e::r=>match Bz st e,vZ st r with
  |some c,some cs=>some (c::cs)
  |_,_=>none
def Up (c:TC):CE:=match c with| .sc v=> .sc v| .sub z _=> .nil z| .any=> .gone
section
variable (C : mA)
def Uq (ty:TypeId):Value→TE
 | .slice none 0 0=>match(C.tt ty).ti with
   | .slice e=>one (.nil (C.tt e).size)
   |_=> .dead
 | .int k n=>S (.int k n)
 | .bool b=> .kb b
 | .string s=>S (.string s)
 |_=> .dead
def sV (st:TS) (ty:TypeId):Operand→TE
 | .tmp i=>st.get i
 | .const v=>Uq C ty v
 | .func f=> .fn f []
 | .global _=> .dead
def aco:TE→Option Value
 | .v false [.mk false [.sc v]]=>some v
 | .kb b=>some (.bool b)
 |_=>none
def asInt:TE→Option Int
 | .v false [.mk false [.sc (.int _ n)]]=>some n
 |_=>none
def ym:TE→Option CE
 | .v false [.mk false [e]]=>some e
 | .kb b=>some (.sc (.bool b))
 |_=>none
def F3:TE→Option (List CE)
 | .v false [.mk _ cs]=>some cs
 | .kb b=>some [.sc (.bool b)]
 |_=>none
def acp (op:BinOp):Value→Value→Option Value
 | .int k a,.int k' b=>
   match op with
   | .shl=>if 0≤b then some (.int k (ahr k a b)) else none
   | .shr=>if 0≤b then some (.int k (aa7 k a b)) else none
   |_=>if k=k' then
    match op with
    | .add=>some (.int k (YD k a b))
    | .sub=>some (.int k (OF k a b))
    | .mul=>some (.int k (YE k a b))
    | .and=>some (.int k (EG .and k a b))
    | .or=>some (.int k (EG .or k a b))
    | .xor=>some (.int k (EG .xor k a b))
    | .eql=>some (.bool (c6 a b))
    | .neq=>some (.bool (!c6 a b))
    | .lss=>some (.bool (cN a b))
    | .leq=>some (.bool (pQ a b))
    | .gtr=>some (.bool (cN b a))
    | .geq=>some (.bool (pQ b a))
    |_=>none
    else none
 | .string a,.string b=>match op with
   | .eql=>some (.bool (OE a b))
   | .neq=>some (.bool (!OE a b))
   | .lss=>some (.bool (JZ a b))
   | .leq=>some (.bool (JZ a b||OE a b))
   | .gtr=>some (.bool (!(JZ a b||OE a b)))
   | .geq=>some (.bool (!JZ a b))
   |_=>none
 |_,_=>none
def yy:List Nat→List CE→List CE→Option Bool
 |[],[],[]=>some true
 |1::ks,.sc (.int k a)::r,.sc (.int k' b)::r'=>if k=k' then(match yy ks r r' with|some q=>some (c6 a b&&q)|none=>none) else none
 |2::ks,.sc (.bool a)::r,.sc (.bool b)::r'=>match yy ks r r' with|some q=>some (eqB a b&&q)|none=>none
 |3::ks,.sc (.string a)::r,.sc (.string b)::r'=>match yy ks r r' with|some q=>some (OE a b&&q)|none=>none
 |_,_,_=>none
def Iq (t:TypeId):Bool:=match(C.tt t).ti with| .struct _=>true|_=>false
def qZ (t:TypeId) (f:Nat):Option (Nat×TypeId):=match(C.tt t).ti with| .struct fs=>fs[f]?|_=>none
def ae8 (t:TypeId) (f:Nat):TypeId:=match qZ C t f with|some (_,ft)=>ft|none=>0
def zP (t:TypeId):Option TypeId:=match(C.tt t).ti with| .slice e=>some e|_=>none
def ahv (ds:List Nat) (loc:Option (Nat×Int×Nat)) (j:Nat) (c:TC):CE:=
 match c with
 | .sc v=> .sc v
 | .sub z rows=> .snap ds (match loc with|some (o,i,f)=>some (o,i,f+j)|none=>none) z rows
 | .any=> .gone
def BA (ds:List Nat) (loc:Option (Nat×Int×Nat)):Nat→List TC→List CE
 |_,[]=>[]
 |j,c::r=>ahv ds loc j c::BA ds loc (j+1) r
def known (i:mz):Bool:=match i.ti with| .other=>false|_=>true
def zQ (i:mz):Bool:=match i.ti with| .other=>false| .ptr _=>false|_=>true
def acq (t:TypeId) (xs:List CE):TE:= .v false [.mk (Iq C t) xs]
variable {R : Type}
def GI (t:TypeId) (xs:List CE) (K:TE→Ev R):Ev R:=match known (C.tt t),Nat.beq xs.length (C.tt t).size with
 |true,true=>K (acq C t xs)
 |_,_=> .fail
def Ur (e:TypeId) (z:Nat):Bool:=match known (C.tt e) with|true=>Nat.beq z (C.tt e).size|false=>false
def aab (st:TS) (o:Nat) (path:Option (Int×Nat)) (i:Int) (f:Nat) (K:List TC→Ev R):Ev R:=
 match ak o st.ob with
 |some ⟨_,_,rows⟩=>match path with
  |none=> .row rows i fun row=>K (row.drop f)
  |some (i0,f0)=> .row rows i0 fun row0=>match row0[f0]? with
   |some (.sub _ rG)=> .row rG i fun row=>K (row.drop f)
   |_=> .fail
 |none=> .fail
def GJ (st:TS) (t:TypeId) (e:TE) (K:TE→Ev R):Ev R:=
 match e with
 | .bp b off=>match ak b st.bx with
   |some cs=>GI C t ((cs.drop off).take (C.tt t).size) K
   |none=> .fail
 | .ep ds cells=>GI C t (BA ds none 0 (cells.take (C.tt t).size)) K
 | .er o path i f=>aab st o path i f fun cells=>
     GI C t (BA [o] (match path with|none=>some (o,i,f)|some _=>none) 0 (cells.take (C.tt t).size)) K
 |_=> .fail
def BC (t:TypeId):List (Nat×TE)→List CE→Option (List CE)
 |[],cs=>some cs
 |(f,e)::r,cs=>match qZ C t f,F3 e with
  |some (off,ft),some c=>match Nat.beq c.length (C.tt ft).size with
   |true=>BC t r (cs.take off++c++cs.drop (off+c.length))
   |false=>none
  |_,_=>none
def Om (st:TS):List Operand→Option (List Nat)
 |[]=>some []
 |x::r=>match sV C st 0 x,Om st r with
  | .bp b 0,some bs=>some (b::bs)
  |_,_=>none
def bound (st:TS) (d:Int):Option Operand→Option Int
 |none=>some d
 |some a=>asInt (sV C st 0 a)
def plain:TE→TE
 | .kb b=>S (.bool b)
 |e=>e
def acr (e:CE) (l h:Int):CE:=match e with
 | .nil z=> .nil z
 | .ref o none=> .ref o (some (l,h))
 | .ref o (some (a,_))=> .ref o (some (Ip a l,Ip a h))
 | .snap ds _ z rows=> .snap ds none z (au rows l h)
 |e=>e
def acs (e:CE) (n:Int) (cells:List TC):TE:=match e with
 | .ref o none=> .er o none n 0
 | .ref o (some _)=> .ep [o] cells
 | .snap _ (some (o,i,f)) _ _=> .er o (some (i,f)) n 0
 | .snap ds none _ _=> .ep ds cells
 |_=> .dead
def On (t:TypeId):Bool:=match(C.tt t).ti with| .bool=>true|_=>false
def ahw (bt:Bool) (op:BinOp) (a b:Value) (K:TE→Ev R):Ev R:=match op,a,b with
 | .eql,.bool p,.bool q=>match bt with|true=>K (S (.bool (eqB p q)))|false=> .fail
 | .neq,.bool p,.bool q=>match bt with|true=>K (S (.bool (!eqB p q)))|false=> .fail
 | .rem,.int k p,.int k' q=>if k=k' then .test (c6 q 0) fun z=>match z with
     |false=>K (S (.int k (Rv p q)))
     |true=> .fail
   else .fail
 | .quo,.int k p,.int k' q=>if k=k' then .test (c6 q 0) fun z=>match z with
     |false=>K (S (.int k (dU k p q)))
     |true=> .fail
   else .fail
 | .add,.string p,.string q=> .test (fits (p.size+q.size) 1) fun z=>match z with
   |true=>K (S (.string (ai3 p q)))
   |false=> .fail
 |_,_,_=>match acp op a b with
  |some v=>K (S v)
  |none=> .fail
def ahx (st:TS) (t:TypeId) (e:CE) (K:Value→Ev R):Ev R:=match(C.tt t).ti,e with
 | .str,.sc (.string s)=>K (.int .i64 s.size)
 | .slice _,e=>match o8 st e with
   |some (_,rows)=>K (.int .i64 rows.length)
   |none=> .fail
 |_,_=> .fail
def jk (st:TS) (o:Oper) (K:TE→Ev R):Ev R:=
 match o.op with
 | .move x=>K (sV C st o.type x)
 | .assign x=>K (sV C st o.type x)
 | .pick c a b=>match sV C st o.type c with
   | .kb p=>match p with
     |true=>K (sV C st o.type a)
     |false=>K (sV C st o.type b)
   |_=> .fail
 | .load t a=>GJ C st t (sV C st 0 a) K
 | .nilCheck x=>match sV C st 0 x with
   | .bp b off=>K (.bp b off)
   | .ep d c=>K (.ep d c)
   | .er r p i f=>K (.er r p i f)
   |_=> .fail
 | .binOp op t x y _=>match plain (sV C st t x),plain (sV C st t y) with
   | .v false [.mk false [.sc a]],.v false [.mk false [.sc b]]=>ahw (On C t) op a b K
   | .v false [.mk true xs],.v false [.mk true ys]=>match known (C.tt t),(C.tt t).eqs with
     |false,_=> .fail
     |true,[]=> .fail
     |true,k::ks=>match op,yy (k::ks) xs ys with
      | .eql,some b=>K (S (.bool b))
      | .neq,some b=>K (S (.bool (!b)))
      |_,_=> .fail
   |_,_=> .fail
 | .unOp op _ x=>match op,sV C st o.type x with
   | .not,.kb b=>match b with|true=>K (.kb false)|false=>K (.kb true)
   | .not,.v false [.mk false [.sc (.bool b)]]=>K (S (.bool (!b)))
   | .neg,.v false [.mk false [.sc (.int k n)]]=>K (S (.int k (OF k 0 n)))
   |_,_=> .fail
 | .convert src dst x=>match(C.tt dst).ti,(C.tt src).ti,sV C st src x with
   | .int k,.int _,.v false [.mk false [.sc (.int _ n)]]=>K (S (.int k (vN k n)))
   | .str,.str,.v false [.mk false [.sc (.string s)]]=>K (S (.string s))
   | .str,.slice et,.v false [.mk false [e]]=>match(C.tt et).ti,o8 st e with
     | .int .u8,some (_,rows)=> .bytes rows fun ns=>K (S (.string (Wj ns)))
     |_,_=> .fail
   |_,_,_=> .fail
 | .fieldAddr s x f=>match qZ C s f,sV C st 0 x with
   |some (off,_),.bp b o=>K (.bp b (o+off))
   |some (off,_),.ep d cells=>K (.ep d (cells.drop off))
   |some (off,_),.er r p i g=>K (.er r p i (g+off))
   |_,_=> .fail
 | .field t x f=>match qZ C t f,sV C st t x with
   |some (off,ft),.v false [.mk true cs]=>GI C ft ((cs.drop off).take (C.tt ft).size) K
   |_,_=> .fail
 | .indexAddr t x i=>match zP C t,ym (sV C st t x),asInt (sV C st 0 i) with
   |some et,some e,some n=>match o8 st e with
    |some (z,rows)=>match Ur C et z with
     |true=> .row rows n fun cells=>K (acs e n cells)
     |false=> .fail
    |none=> .fail
   |_,_,_=> .fail
 | .index t x i=>match(C.tt t).ti,aco (sV C st t x),asInt (sV C st 0 i) with
   | .str,some (.string s),some n=> .byte s n fun b=>K (S (.int .u8 b))
   |_,_,_=> .fail
 | .slice t x lo hi mx=>match mx,(C.tt t).ti,ym (sV C st t x) with
   |none,.str,some (.sc (.string s))=>match bound C st 0 lo,bound C st s.size hi with
    |some l,some h=> .test (ew l h s.size) fun z=>match z with
     |true=>K (S (.string (ai4 s l h)))
     |false=> .fail
    |_,_=> .fail
   |none,.slice et,some e=>match o8 st e with
    |some (z,rows)=>match Ur C et z,bound C st 0 lo,bound C st rows.length hi with
     |true,some l,some h=> .test (ew l h rows.length) fun b=>match b with
      |true=>K (one (acr e l h))
      |false=> .fail
     |_,_,_=> .fail
    |none=> .fail
   |_,_,_=> .fail
 | .extract x i=>match sV C st 0 x with
   | .v true es=>match es[i]? with
     |some (.mk a cs)=>K (.v false [.mk a cs])
     |some (.ptr b)=>K (.bp b 0)
     |none=> .fail
   |_=> .fail
 | .build t ps=>match Iq C t,BC C t (ps.toList.map fun p=>(p.1,sV C st (ae8 C t p.1) p.2)) ((C.tt t).zero.map Up) with
   |true,some cs=>K (.v false [.mk true cs])
   |_,_=> .fail
 | .makeFunc fn first caps=>match fn,first.toList,Om C st caps.toList with
   | .func f,[],some bs=>K (.fn f bs)
   |_,_,_=> .fail
 | .call {callee:= .builtin .len,args,argTypes}=>match args.toList,argTypes.toList with
   |[x],[t]=>match ym (sV C st t x) with
    |some e=>ahx C st t e fun v=>K (S v)
    |none=> .fail
   |_,_=> .fail
 | .call {callee:= .builtin .min,args,argTypes}=>match args.toList,argTypes.toList with
   |[x,y],t::_=>match aco (sV C st t x),asInt (sV C st t y) with
    |some (.int k a),some b=>K (S (.int k (Ru a b)))
    |_,_=> .fail
   |_,_=> .fail
 |_=> .fail
def pW (e:CE) (st:TS):Option (TC×TS×Bool):=
 match e with
 | .sc v=>some (.sc v,st,true)
 | .nil z=>some (.sub z [],st,true)
 | .ref o cut=>match ak o st.ob with
   |some ⟨d,z,rows⟩=>some (.sub z (Wl cut rows),oH o st,d)
   |none=>none
 | .snap [] _ z rows=>some (.sub z rows,st,false)
 |_=>none
def OG:List CE→TS→Option (List TC×TS×Bool)
 |[],st=>some ([],st,true)
 |e::r,st=>match pW e st with
  |some (c,eY,d1)=>match OG r eY with
   |some (cs,pO,d2)=>some (c::cs,pO,d1&&d2)
   |none=>none
  |none=>none
def rowsOf (st:TS) (ty:TypeId):List (Nat×Operand)→Nat→Option (List (List TC)×TS×Bool)
 |[],_=>some ([],st,true)
 |(i,x)::r,n=>match Nat.beq i n,F3 (sV C st ty x) with
  |true,some cs=>match Nat.beq cs.length (C.tt ty).size,OG cs st with
   |true,some (cs',eY,d1)=>match rowsOf eY ty r (n+1) with
    |some (rs,pO,d2)=>some (cs'::rs,pO,d1&&d2)
    |none=>none
   |_,_=>none
  |_,_=>none
def tO (d k j:Nat):Nat:=1000+400*d+20*k+j
def bid (b j:Nat):Nat:=1000000000+100*b+j
def Am (b:Nat):Bool:=match Nat.ble 200000 b with|true=>Nat.ble 300000 b|false=>true
def agU (b:Nat):qX→Bool
 | .ptr c=>Nat.beq c b
 | .mk _ _=>false
def OH (b:Nat):TE→Bool
 | .bp c _=>Nat.beq c b
 | .fn _ caps=>mR b caps
 | .v _ es=>es.any (agU b)
 |_=>false
def Tk (b:Nat) (st:TS):TS:=⟨mapA (fun e=>match OH b e with|true=> .dead|false=>e) st.tm,qY b st.bx,st.ob⟩
def J1 (b:Nat) (cs:List CE) (st:TS):TS:=(Tk b st).J0 b cs
def setCells (f:Nat) (cs:List TC) (rows:List (List TC)) (i:Int):List (List TC):=setRow rows i f cs
def OI (o:Nat) (e:CE):CE:=match e with
 | .snap d (some (p,i,f)) z rows=>match Nat.beq p o with|true=> .snap [] none z rows|false=> .snap d (some (p,i,f)) z rows
 |e=>e
def agV (o:Nat):TE→TE
 | .er p (some q) i f=>match Nat.beq p o with|true=> .dead|false=> .er p (some q) i f
 |e=>e
def Rw (b:OB):OB:=⟨false,b.z,b.rows⟩
def At (o:Nat) (st:TS):TS:=match ak o st.ob with
 |some b=>yw (OI o) (agV o) (o7 o (Rw b)) st
 |none=>st
def YG (o:Nat):List CE→Bool
 |[]=>false
 | .snap _ (some (p,_,_)) _ _::r=>match Nat.beq p o with|true=>true|false=>YG o r
 |_::r=>YG o r
def Ir (o:Nat) (path:Option (Int×Nat)) (i:Int) (f:Nat) (cs:List CE) (st:TS) (K:TS→Ev R):Ev R:=
 match OG cs st with
 |some (ts,eY,d1)=>match ak o eY.ob with
  |some ⟨d,z,rows⟩=>match path with
   |none=> .row rows i fun row=>match Nat.ble (f+ts.length) row.length with
    |true=>K (vn [(o,⟨d&&d1,z,setRow rows i f ts⟩)] eY)
    |false=> .fail
   |some (i0,f0)=>match d,d1 with
    |true,true=> .row rows i0 fun row0=>match row0[f0]? with
     |some (.sub z1 rG)=> .row rG i fun row=>match Nat.ble (f+ts.length) row.length with
      |true=>K (vn [(o,⟨true,z,setRow rows i0 f0 [.sub z1 (setRow rG i f ts)]⟩)] eY)
      |false=> .fail
     |_=> .fail
    |_,_=> .fail
  |none=> .fail
 |none=> .fail
def Oo:List CE→Bool
 |[]=>false
 | .gone::_=>true
 |_::r=>Oo r
def OJ (b off:Nat) (cs:List CE) (st:TS):Option TS:=
 match ak b st.bx with
 |some old=>match Am b&& !Oo cs,Nat.ble (off+cs.length) old.length with
  |true,true=>some (st.J0 b (old.take off++cs++old.drop (off+cs.length)))
  |_,_=>none
 |none=>none
def zR (st:TS) (e:CE):Option (Option Nat×Nat×Bool×List (List TC)):=
 match e with
 | .nil z=>some (none,z,true,[])
 | .ref o cut=>match ak o st.ob with
   |some ⟨d,z,rows⟩=>some (some o,z,d,Wl cut rows)
   |none=>none
 |_=>none
def pH (o:Option Nat) (st:TS):TS:=match o with|some o=>oH o st|none=>st
def yo (d:Nat) (b:OB) (st:TS):TS:=(EH (tO d 0 0) b st).set d (one (.ref (tO d 0 0) none))
def J2 (e:TypeId) (z:Nat):Bool:=match zQ (C.tt e) with|true=>Nat.beq z (C.tt e).size|false=>false
def Hg (g o':Nat) (b:OB) (l h:Int) (st:TS):TS:=EH g ⟨true,1,[]⟩ (vm o' ⟨b.deep,b.z,oG b.z b.rows l h⟩ st)
def YH (d:Nat) (o:Option Nat) (dp:Bool) (cx:CE) (st:TS):Option (Nat×List (List TC)×TS):=match cx with
 | .ref o' (some (l,h))=>match dp,ak o' st.ob,(match o with|some o=>Nat.beq o o'||Nat.beq o (tO d 1 0)|none=>false)||Nat.beq o' (tO d 1 0) with
   |true,some ⟨true,z,rows⟩,false=>some (z,au rows l h,oH (tO d 1 0) (pH o (Hg (tO d 1 0) o' ⟨true,z,rows⟩ l h st)))
   |_,_,_=>none
 |_=>none
def acu (st:TS) (cx:CE):Option (Nat×List (List TC)):=match cx with
 | .ref o' cut=>match ak o' st.ob with
   |some ⟨false,z,rows⟩=>some (z,Wl cut rows)
   |_=>none
 |_=>none
def aac (st:TS) (d:Nat) (t t':TypeId) (s:TE) (x:TE) (K:TS→Ev R):Ev R:=
 match zP C t,ym s,ym x with
 |some e,some cs,some cx=>match zR st cs,(C.tt t').ti with
  |some (o,z,dp,rows),.str=>match J2 C e z,Nat.beq z 1,cx with
   |true,true,.sc (.string b)=> .test (fits (rows.length+b.size) (C.tt e).bytes) fun q=>match q with
    |true=>K (yo d ⟨dp,z,rows++GH b⟩ (pH o st))
    |false=> .fail
   |_,_,_=> .fail
  |some (o,z,dp,rows),.slice _=>match J2 C e z with
   |false=> .fail
   |true=>match(C.tt e).flat with
     |true=>match o8 st cx with
      |some (z',bF)=>match Nat.beq z z' with
       |true=> .test (bM bF&&fits (rows.length+bF.length) (C.tt e).bytes) fun q=>match q with
        |true=>K (yo d ⟨dp,z,rows++bF⟩ (pH o st))
        |false=> .fail
       |false=> .fail
      |none=> .fail
     |false=>match YH d o dp cx st with
      |some (z',bF,eY)=>match Nat.beq z z' with
        |true=> .test (fits (rows.length+bF.length) (C.tt e).bytes) fun q=>match q with
         |true=>K (yo d ⟨dp,z,rows++bF⟩ eY)
         |false=> .fail
        |false=> .fail
      |none=>match acu st cx with
       |some (z',bF)=>match Nat.beq z z' with
        |true=> .test (fits (rows.length+bF.length) (C.tt e).bytes) fun q=>match q with
         |true=>K (yo d ⟨false,z,rows++bF⟩ (pH o st))
         |false=> .fail
        |false=> .fail
       |none=>match pW cx (pH o st) with
       |some (.sub z' bF,eY,d1)=>match Nat.beq z z' with
        |true=> .test (fits (rows.length+bF.length) (C.tt e).bytes) fun q=>match q with
         |true=>K (yo d ⟨dp&&d1,z,rows++bF⟩ eY)
         |false=> .fail
        |false=> .fail
       |_=> .fail
  |_,_=> .fail
 |_,_,_=> .fail
def agW (st:TS) (d:Option Nat) (t:TypeId) (s:TE) (x:TE) (K:TS→Ev R):Ev R:=
 match zP C t,ym s,ym x with
 |some e,some (.ref o none),some cx=>match ak o st.ob,o8 st cx,zQ (C.tt e) with
  |some ⟨true,z,rows⟩,some (z',bF),true=>match Nat.beq z z'&&Nat.beq z (C.tt e).size with
   |true=> .test (bM bF) fun q=>match q with
    |true=>match d with
     |some d=>K ((vm o ⟨true,z,pV rows bF⟩ st).set d (one (.sc (.int .i64 (Int.ofNat (Ar bF.length rows.length))))))
     |none=>K (vm o ⟨true,z,pV rows bF⟩ st)
    |false=> .fail
   |false=> .fail
  |_,_,_=> .fail
 |_,_,_=> .fail
def Us (st:TS):List Nat→Option (List (List TC))
 |[]=>some []
 |b::r=>match ak b st.bx with
  |some cs=>match vZ st cs,Us st r with
   |some c,some cs=>some (c::cs)
   |_,_=>none
  |none=>none
def acv (st:TS) (e:TE) (K:TV→Ev R):Ev R:=
 match e with
 | .v false [.mk a cs]=>match vZ st cs with
   |some ts=>match a,ts with
    |true,ts=>K (.ag ts)
    |false,[c]=>K (.c c)
    |_,_=> .fail
   |none=> .fail
 | .kb b=>K (.c (.sc (.bool b)))
 | .bp b off=>match ak b st.bx with
   |some cs=>match vZ st (cs.drop off) with
    |some ts=>K (.bx ts)
    |none=> .fail
   |none=> .fail
 | .ep _ (c::cells)=>K (.bx (c::cells))
 | .er r p i f=>aab st r p i f fun cells=>match cells with
   |[]=> .fail
   |c::cells=>K (.bx (c::cells))
 | .fn f caps=>match Us st caps with
   |some xs=>K (.fn f xs)
   |none=> .fail
 |_=> .fail
def Wm (st:TS):List TE→(List TV→Ev R)→Ev R
 |[],K=>K []
 |e::r,K=>acv st e fun v=>Wm st r fun vs=>K (v::vs)
def BD (st:TS) (b:Nat):List Nat:=match ak b st.bx with
 |some cs=>(2*b+1)::(cs.flatMap g9).map (2* ·)
 |none=>[2*b+1]
def sW (st:TS):TE→List Nat
 | .v _ es=>(jD es).map (2* ·)
 | .ep d _=>d.map (2* ·)
 | .er o _ _ _=>[2*o]
 | .bp b _=>BD st b
 | .fn _ caps=>caps.flatMap (BD st)
 |_=>[]
def yz (st:TS) (o:Nat):Bool:=match ak o st.ob with|some ⟨true,_,_⟩=>true|_=>false
def J3 (st:TS) (o:Nat):Bool:=match ak o st.ob with|some ⟨false,_,_⟩=>true|_=>false
def sX (st:TS) (c:Bool):List Mode→List CE→Option (List Nat)
 |_,[]=>some []
 |ms,e::r=>match sX st c (ms.drop 1) r with
  |some l=>match ms.headD .deep,e with
   |_,.sc _=>some l
   |_,.nil _=>some l
   | .snap,.snap [] none _ _=>some l
   | .snap,_=>none
   | .top,.ref o none=>match J3 st o with|true=>some ((2*o)::l)|false=>none
   | .top,_=>none
   |_,.ref o none=>match yz st o with|true=>some ((2*o)::l)|false=>none
   |_,.ref o (some _)=>match c,yz st o with|true,true=>some ((2*o)::l)|_,_=>none
   |_,.snap _ (some (o,_,_)) _ _=>match c,yz st o with|false,true=>some ((2*o)::l)|_,_=>none
   |_,_=>none
  |none=>none
def sg (st:TS) (c:Bool) (ms:List Mode) (e:TE):Option (List Nat):=match e with
 | .v false [.mk _ cs]=>match c,ms with|true,ms=>sX st true ms cs|false,[]=>sX st false [] cs|_,_=>none
 | .bp b 0=>match c,Am b,ak b st.bx with
   |false,true,some cs=>match sX st true ms cs with
    |some l=>some ((2*b+1)::l)
    |none=>none
   |_,_,_=>none
 |_=>none
def cg.ms:cg→List Mode
 | .inout ms=>ms
 | .consume ms=>ms
 |_=>[]
def Hh:List Nat→Bool
 |[]=>true
 |a::r=>match mR a r with|true=>false|false=>Hh r
def BE (st:TS):List cg→List TE→Option (List Nat×List Nat)
 |[],[]=>some ([],[])
 |p::ps,e::es=>match BE st ps es with
  |some (own,rd)=>match p with
   | .borrow=>some (own,sW st e++rd)
   | .inout ms=>match sg st false ms e with|some l=>some (l++own,rd)|none=>none
   | .consume ms=>match sg st true ms e with|some l=>some (l++own,rd)|none=>none
  |none=>none
 |_,_=>none
def v7:List CE→TS→TS
 |[],st=>st
 | .ref o _::r,st=>v7 r (oH o st)
 |_::r,st=>v7 r st
def tZ (st:TS) (e:CE) (c:TC):Option (List (Nat×OB)):=
 match e,c with
 | .sc _,.sc _=>some []
 | .nil _,.sub _ []=>some []
 | .ref o none,.sub z rows=>match ak o st.ob with
   |some ⟨true,z0,_⟩=>match Nat.beq z z0 with|true=>some [(o,⟨true,z,rows⟩)]|false=>none
   |_=>none
 | .snap _ (some (o,i,f)) z0 _,.sub z' bF=>match ak o st.ob,Nat.beq z' z0 with
   |some ⟨true,z,rows⟩,true=>some [(o,⟨true,z,setRow rows i f [.sub z' bF]⟩)]
   |_,_=>none
 |_,_=>none
def Oq (st:TS):List CE→List TC→Option (List (Nat×OB))
 |[],[]=>some []
 |e::r,c::cs=>match tZ st e c,Oq st r cs with
  |some a,some b=>some (a++b)
  |_,_=>none
 |_,_=>none
def cF (f:Nat→Nat):List Mode→Nat→List TC→TS→List CE×TS
 |_,_,[],st=>([],st)
 |ms,j,c::cs,st=>match c with
  | .sc v=>match cF f (ms.drop 1) (j+1) cs st with|(r,st')=>(.sc v::r,st')
  | .sub z rows=>match ms.headD .snap with
    | .snap=>match cF f (ms.drop 1) (j+1) cs st with|(r,st')=>(.snap [] none z rows::r,st')
    | .top=>match cF f (ms.drop 1) (j+1) cs (EH (f j) ⟨false,z,rows⟩ st) with|(r,st')=>(.ref (f j) none::r,st')
    | .deep=>match cF f (ms.drop 1) (j+1) cs (EH (f j) ⟨true,z,rows⟩ st) with|(r,st')=>(.ref (f j) none::r,st')
  | .any=>match cF f (ms.drop 1) (j+1) cs st with|(r,st')=>(.gone::r,st')
def uR (qW:TS):List cg→List TE→TS→TS
 |p::ps,e::es,st=>match p,e with
  | .consume _,.v false [.mk _ cs]=>uR qW ps es (v7 cs st)
  | .inout _,.bp b _=>match ak b qW.bx with
    |some cs=>uR qW ps es ⟨(v7 cs st).tm,qY b (v7 cs st).bx,(v7 cs st).ob⟩
    |none=>uR qW ps es st
  |_,_=>uR qW ps es st
 |_,_,st=>st
def v8 (st:TS):List cg→List TE→List TV→Option (List (Nat×OB)×List (Nat×List Mode×List TC))
 |p::ps,e::es,fs=>match p with
  | .inout ms=>match e,fs with
    | .v false [.mk false [e]],.c c::fs=>match tZ st e c,v8 st ps es fs with
      |some a,some (b,bs)=>some (a++b,bs)
      |_,_=>none
    | .v false [.mk true cs],.ag ts::fs=>match Oq st cs ts,v8 st ps es fs with
      |some a,some (b,bs)=>some (a++b,bs)
      |_,_=>none
    | .bp b 0,.bx ts::fs=>match ak b st.bx,v8 st ps es fs with
      |some cs,some (a,bs)=>match Nat.beq cs.length ts.length with|true=>some (a,(b,ms,ts)::bs)|false=>none
      |_,_=>none
    |_,_=>none
  |_=>v8 st ps es fs
 |[],[],[]=>some ([],[])
 |_,_,_=>none
def Wn:List Mode→List TC→List Mode
 |_,[]=>[]
 |ms,_::r=>(match ms.headD .deep with| .snap=> .snap|_=> .deep)::Wn (ms.drop 1) r
def Is:List (Nat×List Mode×List TC)→TS→TS
 |[],st=>st
 |(b,ms,ts)::r,st=>match cF (bid b) (Wn ms ts) 0 ts st with
  |(cs,st')=>Is r (st'.J0 b cs)
def ua (st:TS):List Nat→TS
 |[]=>st
 |o::r=>ua (yx st o) r
def EI (st:TS):TE→List Nat
 | .bp b _=>match ak b st.bx with|some cs=>cs.flatMap g9|none=>[]
 | .fn _ caps=>caps.flatMap fun b=>match ak b st.bx with|some cs=>cs.flatMap g9|none=>[]
 |e=>zO e
def borrowed (st:TS):List cg→List TE→List Nat
 | .borrow::ps,e::es=>EI st e++borrowed st ps es
 |_::ps,_::es=>borrowed st ps es
 |_,_=>[]
def we (d k:Nat):Nat:=400000+20*d+k
def iP (d:Nat):Nat→List (List Mode)→List (Nat×List TC)→TS→List qX×TS
 |_,_,[],st=>([],st)
 |k,ms,(a,cs)::r,st=>match cF (tO d k) (ms.headD []) 0 cs st with
  |(cs',st')=>match Nat.beq a 2 with
   |true=>match iP d (k+1) (ms.drop 1) r (J1 (we d k) cs' st') with
    |(es,LI)=>(.ptr (we d k)::es,LI)
   |false=>match iP d (k+1) (ms.drop 1) r st' with
    |(es,LI)=>(.mk (Nat.beq a 1) cs'::es,LI)
def F4:List (Nat×List TC)→Bool
 |[]=>true
 |(_,cs)::r=>match Nat.ble cs.length 20 with|true=>F4 r|false=>false
def acw (d:Nat) (ms:List (List Mode)) (v:TV) (st:TS):Option TS:=
 match v with
 | .c c=>match cF (tO d 0) (ms.headD []) 0 [c] st with|(cs,st')=>some (st'.set d (.v false [.mk false cs]))
 | .ag cs=>match cF (tO d 0) (ms.headD []) 0 cs st with|(cs,st')=>some (st'.set d (.v false [.mk true cs]))
 | .tu vs=>match F4 vs with
   |true=>match iP d 0 ms vs st with|(es,st')=>some (st'.set d (.v true es))
   |false=>none
 | .bx cs=>match cF (tO d 0) (ms.headD []) 0 cs st with|(cs',st')=>some ((J1 (we d 0) cs' st').set d (.bp (we d 0) 0))
 |_=>none
def yA:TV→Bool
 | .c _=>true
 | .ag cs=>Nat.ble cs.length 16
 | .bx cs=>Nat.ble cs.length 16
 | .fn _ caps=>Nat.ble caps.length 900
 | .tu _=>false
def q7:List TV→Bool
 |[]=>true
 |v::r=>match yA v with|true=>q7 r|false=>false
def w6 (vs:List TV):Bool:=match Nat.ble vs.length 50 with|true=>q7 vs|false=>false
def EJ (sh:Bool) (st:TS) (ps:List cg) (es:List TE):TS:=match sh with
 |true=>ua (uR st ps es st) (borrowed st ps es)
 |false=>uR st ps es st
def qk:List Mode→List TC→Bool
 |_,[]=>true
 |ms,.sc _::r=>qk (ms.drop 1) r
 |ms,.sub _ _::r=>match ms.headD .snap with| .deep=>qk (ms.drop 1) r|_=>false
 |ms,.any::r=>match ms.headD .snap with| .deep=>qk (ms.drop 1) r|_=>false
def Ot:List (List Mode)→List (Nat×List TC)→Bool
 |_,[]=>true
 |ms,(_,cs)::r=>match qk (ms.headD []) cs with|true=>Ot (ms.drop 1) r|false=>false
def aad (ms:List (List Mode)):TV→Bool
 | .c c=>qk (ms.headD []) [c]
 | .ag cs=>qk (ms.headD []) cs
 | .bx cs=>qk (ms.headD []) cs
 | .tu vs=>Ot ms vs
 | .fn _ _=>false
def Ut:List cg→Bool
 |[]=>true
 | .inout (_::_)::_=>false
 |_::r=>Ut r
def acy:List cg→Bool
 |[]=>true
 | .inout (_::_)::_=>false
 | .consume (_::_)::_=>false
 |_::r=>acy r
def YI (g:Z9) (r:TV):Bool:=match g.shares with
 |true=>true
 |false=>match Ut g.ps with|true=>aad g.res r|false=>false
def Iu (d:Option Tmp) (f:FuncId) (es:List TE) (st:TS) (K:TS→Ev R):Ev R:=
 match BE st (C.sig f).ps es with
 |some (own,rd)=>match Hh own,vO own rd,(C.sig f).shares&&mR 0 rd with
  |true,false,false=>Wm st es fun vs=>match w6 vs with
   |true=> .call f vs fun r fs=>match YI (C.sig f) r with
    |false=> .fail
    |true=>match v8 st (C.sig f).ps es fs with
     |some (W,B)=>fTS (Is B (vn W (EJ (C.sig f).shares st (C.sig f).ps es))) fun pO=>match d with
      |some d=>match acw d (C.sig f).res r pO with
       |some st4=>K st4
       |none=> .fail
      |none=>K pO
     |none=> .fail
   |false=> .fail
  |_,_,_=> .fail
 |none=> .fail
def Iv (st:TS):List Operand→List TypeId→List TE
 |x::xs,t::ts=>sV C st t x::Iv st xs ts
 |_,_=>[]
def Tl (st:TS) (o:Oper) (K:TS→Ev R):Ev R:=match o.dst with
 |some d=>jk C st o fun e=>K (st.set d e)
 |none=> .fail
def pX (st:TS) (o:Oper) (K:TS→Ev R):Ev R:=
 match o.op with
 | .alloc t=>match o.dst,zQ (C.tt t) with
   |some d,true=>match Am d with
    |true=>K ((J1 d ((C.tt t).zero.map Up) st).set d (.bp d 0))
    |false=> .fail
   |_,_=> .fail
 | .box t x=>match o.dst,F3 (sV C st t x) with
   |some d,some cs=>match Am d with
    |true=>K ((J1 d cs st).set d (.bp d 0))
    |false=> .fail
   |_,_=> .fail
 | .store t a x=>match o.dst,known (C.tt t),F3 (sV C st t x) with
   |none,true,some cs=>match Nat.beq cs.length (C.tt t).size,sV C st 0 a with
    |true,.bp b off=>match OJ b off cs st with
     |some st'=>K st'
     |none=> .fail
    |true,.er r none i f=>match YG r cs with
     |true=>Ir r none i f (cs.map (OI r)) (At r st) K
     |false=>Ir r none i f cs st K
    |true,.er r p i f=>Ir r p i f cs st K
    |_,_=> .fail
   |_,_,_=> .fail
 | .buildSlice t n ps=>match o.dst,zP C t with
   |some d,some e=>match Nat.beq n ps.size&&Nat.ble (n*(C.tt e).size) 16777216&&zQ (C.tt e),rowsOf C st e ps.toList 0 with
    |true,some (rs,st',dp)=>K (yo d ⟨dp,(C.tt e).size,rs⟩ st')
    |_,_=> .fail
   |_,_=> .fail
 | .makeSlice t l c=>match o.dst,zP C t,asInt (sV C st 3 l),asInt (sV C st 3 c) with
   |some d,some e,some n,some n'=> .test (zQ (C.tt e)&&c6 n n'&&pQ 0 n&&fits (w5 n) (C.tt e).bytes) fun z=>match z with
    |true=>K (yo d ⟨true,(C.tt e).size,List.replicate (w5 n) (C.tt e).zero⟩ st)
    |false=> .fail
   |_,_,_,_=> .fail
 | .convert src dst x=>match(C.tt dst).ti,(C.tt src).ti with
   | .slice et,.str=>match o.dst,(C.tt et).ti,aco (sV C st src x) with
     |some d,.int .u8,some (.string s)=> .test (fits s.size 1) fun z=>match z with
      |true=>K (yo d ⟨true,1,GH s⟩ st)
      |false=> .fail
     |_,_,_=> .fail
   |_,_=>Tl C st o K
 | .call {callee:= .builtin .append,args,argTypes}=>match o.dst,args.toList,argTypes.toList with
   |some d,[s,x],[t,t']=>aac C st d t t' (sV C st t s) (sV C st t' x) K
   |_,_,_=> .fail
 | .call {callee:= .builtin .copy,args,argTypes}=>match args.toList,argTypes.toList with
   |[s,x],[t,t']=>agW C st o.dst t (sV C st t s) (sV C st t' x) K
   |_,_=> .fail
 | .call {callee:= .value (.func f),args,argTypes}=>match Nat.beq args.toList.length argTypes.toList.length with
   |true=>Iu C o.dst f (Iv C st args.toList argTypes.toList) st K
   |false=> .fail
 | .call {callee:= .value (.tmp i),args,argTypes}=>match Nat.beq args.toList.length argTypes.toList.length with
   |true=>match st.get i with
    | .fn f caps=>Iu C o.dst f (Iv C st args.toList argTypes.toList++caps.map fun b=> .bp b 0) st K
    |_=> .fail
   |false=> .fail
 |_=>Tl C st o K
def Uu (st:TS) (b:Nat):List Nat:=match ak b st.bx with
 |some cs=>(2*b+1)::(cs.flatMap g9).map (2* ·)
 |none=>[2*b+1]
def EK (st:TS):TE→List Nat
 | .v _ es=>(jD es).map (2* ·)
 | .bp b _=>Uu st b
 |_=>[]
def si (st:TS):List cg→List TE→List Nat
 | .borrow::ps,_::es=>si st ps es
 |_::ps,e::es=>EK st e++si st ps es
 |_,_=>[]
def writes (st:TS) (o:Oper):List Nat:=match o.op with
 | .store _ a _=>match sV C st 0 a with
   | .bp b _=>[2*b+1]
   | .er o _ _ _=>[2*o]
   |_=>[]
 | .call {callee:= .builtin .append,args,argTypes}=>match args.toList,argTypes.toList with
   |s::_,t::_=>(zO (sV C st t s)).map (2* ·)
   |_,_=>[]
 | .call {callee:= .builtin .copy,args,argTypes}=>match args.toList,argTypes.toList with
   |s::_,t::_=>(zO (sV C st t s)).map (2* ·)
   |_,_=>[]
 | .call {callee:= .value (.func f),args,argTypes}=>si st (C.sig f).ps (Iv C st args.toList argTypes.toList)
 | .call {callee:= .value (.tmp i),args,argTypes}=>match st.get i with
   | .fn f caps=>si st (C.sig f).ps (Iv C st args.toList argTypes.toList++caps.map fun b=> .bp b 0)
   |_=>[]
 |_=>[]
def acz (st:TS) (o:Oper):Option (List Nat):=match o.op with
 | .load _ a=>match sV C st 0 a with
   | .bp b _=>match ak b st.bx with
     |some _=>some [2*b+1]
     |none=>none
   | .ep d (_::_)=>some (d.map (2* ·))
   | .er o none _ _=>some [2*o]
   | .er o (some _) _ _=>match ak o st.ob with
     |some ⟨true,_,_⟩=>some [2*o]
     |_=>none
   |_=>none
 |_=>none
def agX (ops:Array Oper) (st:TS) (o:Oper):Bool:=match o.guard with
 |none=>false
 |some (j,want)=>match ops[j]? with
  |some oj=>match oj.dst with
   |some t=>match st.get t with
    | .kb b=>match b,want with
      |true,false=>true
      |false,true=>true
      |_,_=>false
    | .v true []=>true
    |_=>false
   |none=>false
  |none=>false
def EL (ops:Array Oper) (st:TS) (o:Oper):List Nat→Bool
 |[]=>true
 |l::r=>match ops[l]? with
  |some ol=>match agX ops st ol with
   |true=>EL ops st o r
   |false=>match acz C st ol with
    |some rd=>match vO rd (writes C st o) with|true=>false|false=>EL ops st o r
    |none=>false
  |none=>false
def Iw:List Mode→List CE→List Nat
 |_,[]=>[]
 |ms,e::r=>match ms.headD .deep,e with
  | .snap,.ref o none=>o::Iw (ms.drop 1) r
  |_,_=>Iw (ms.drop 1) r
def Tm (st:TS):List cg→List TE→List Nat
 |p::ps,e::es=>match p,e with
  | .inout (m::ms),.bp b _=>match ak b st.bx with
    |some cs=>Iw (m::ms) cs++Tm st ps es
    |none=>Tm st ps es
  | .consume (m::ms),.v false [.mk _ cs]=>Iw (m::ms) cs++Tm st ps es
  |_,_=>Tm st ps es
 |_,_=>[]
def OK:List CE→List Nat
 |[]=>[]
 | .ref o _::r=>o::OK r
 |_::r=>OK r
def J4:List qX→List Nat
 |[]=>[]
 | .mk _ cs::r=>OK cs++J4 r
 |_::r=>J4 r
def aae (st:TS) (e:TypeId):List (Nat×Operand)→List Nat
 |[]=>[]
 |(_,x)::r=>match sV C st e x with
  | .v _ es=>J4 es++aae st e r
  |_=>aae st e r
def ahz (fx:List Nat) (st:TS) (o:Oper):TS:=match o.op with
 | .buildSlice t _ ps=>match mR 777777 fx,zP C t with
   |true,some e=>ua st (aae C st e ps.toList)
   |_,_=>st
 | .call {callee:= .value (.func f),args,argTypes}=>match acy (C.sig f).ps with
   |true=>st
   |false=>ua st (Tm st (C.sig f).ps (Iv C st args.toList argTypes.toList))
 |_=>st
def Wo (fx fl:List Nat) (ops:Array Oper) (st:TS) (o:Oper) (K:TS→Ev R):Ev R:=fTS (ahz C fx st o) fun st=>match EL C ops st o fl with
 |true=>pX C st o K
 |false=> .fail
def Wp (st:TS) (o:Oper) (K:TS→Ev R):Ev R:=match o.dst with
 |some d=>K (st.set d (.v true []))
 |none=>K st
def YJ (fx fl:List Nat) (ops:Array Oper) (st:TS) (o:Oper) (b want:Bool) (K:TS→Ev R):Ev R:=
 match b,want with
 |true,true=>Wo C fx fl ops st o K
 |false,false=>Wo C fx fl ops st o K
 |_,_=>Wp st o K
def aaf (fx:List Nat) (o:Oper):Bool:=match o.dst with|some d=> !mR d fx|none=>true
def guarded (fx fl:List Nat) (ops:Array Oper) (st:TS) (o:Oper) (K:TS→Ev R):Ev R:=
 match aaf fx o with
 |false=> .fail
 |true=>match o.guard with
  |none=>Wo C fx fl ops st o K
  |some (j,want)=>match ops[j]? with
   |some oj=>match oj.dst with
    |some t=>match st.get t with
     | .kb b=>YJ C fx fl ops st o b want K
     | .v false [.mk false [.sc (.bool b)]]=> .test b fun b=>YJ C fx fl ops (st.set t (.kb b)) o b want K
     | .v true []=>Wp st o K
     |_=> .fail
    |none=> .fail
   |none=> .fail
def Cm {α:Type} (l:List Nat):List (Nat×α)→List (Nat×α)
 |[]=>[]
 |(i,e)::r=>match mR i l with|true=>(i,e)::Cm l r|false=>Cm l r
def Uv (fx:List Nat) (l:List Nat) (ops:Array Oper):List Oper→TS→(TS→Ev R)→Ev R
 |[],st,K=>fTS ⟨Cm l st.tm,st.bx,st.ob⟩ K
 |o::r,st,K=>guarded C fx [] ops st o fun st'=>fTS st' fun st'=>Uv fx l ops r st' K
def sY (fx:List Nat) (l:List Nat) (ops:Array Oper):F1→TS→(TS→Ev R)→Ev R
 | .nil,st,K=>fTS ⟨Cm l st.tm,st.bx,st.ob⟩ K
 | .op i fl r,st,K=>match ops[i]? with
   |some o=>guarded C fx fl ops st o fun st'=>fTS st' fun st'=>sY fx l ops r st' K
   |none=> .fail
 | .alt a b,st,K=> .both (sY fx l ops a st K) (sY fx l ops b st K)
def yB (l:List Nat):List (Nat×List CE)→List (Nat×List CE)
 |[]=>[]
 |(i,cs)::r=>match Nat.ble 100000 i with
  |true=>(i,cs)::yB l r
  |false=>match mR i l with|true=>(i,cs)::yB l r|false=>yB l r
def iW (n:Nat):List CE→List CE×Nat×List (Nat×OB)
 |[]=>([],n,[])
 | .nil z::r=>match Nat.ble 1 z with
   |true=>match iW (n+1) r with|(cs,m,obs)=>(.ref n none::cs,m,(n,⟨true,z,[]⟩)::obs)
   |false=>match iW n r with|(cs,m,obs)=>(.nil z::cs,m,obs)
 |e::r=>match iW n r with|(cs,m,obs)=>(e::cs,m,obs)
def iw (n:Nat):List qX→List qX×Nat×List (Nat×OB)
 |[]=>([],n,[])
 | .mk a cs::r=>match iW n cs with
   |(cs',m,o1)=>match iw m r with|(es,m',o2)=>(.mk a cs'::es,m',o1++o2)
 | .ptr b::r=>match iw n r with|(es,m,o2)=>(.ptr b::es,m,o2)
def Hi (n:Nat) (e:TE):TE×Nat×List (Nat×OB):=match e with
 | .v tup es=>match iw n es with|(es',m,o)=>(.v tup es',m,o)
 | .kb b=>(S (.bool b),n,[])
 |e=>(e,n,[])
def Au (n:Nat):List (Nat×TE)→List (Nat×TE)×List (Nat×OB)
 |[]=>([],[])
 |(i,e)::r=>match Hi n e with
  |(e',m,o1)=>match Au m r with|(r',o2)=>((i,e')::r',o1++o2)
def Wq (n:Nat):List (Nat×OB)→Bool
 |[]=>true
 |(i,_)::r=>match Nat.ble n i with|true=>false|false=>Wq n r
def Ws (st:TS):TS:=match Wq 900000000 st.ob with
 |true=>match Au 900000000 st.tm with|(tm,obs)=>⟨tm,st.bx,lU obs st.ob⟩
 |false=>st
def ahA (st:TS):List Nat:=(st.tm.flatMap fun p=>zO p.2)++st.bx.flatMap fun p=>p.2.flatMap g9
def number:List Nat→Nat→List (Nat×Nat)→List (Nat×Nat)
 |[],_,ρ=>ρ
 |o::r,n,ρ=>match Nat.beq o 0 with
  |true=>number r n ρ
  |false=>match ak o ρ with
   |some _=>number r n ρ
   |none=>number r (n+1) ((o,n)::ρ)
def J5 (ρ:List (Nat×Nat)) (o:Nat):Nat:=match ak o ρ with|some n=>n|none=>0
def Ix (ρ:List (Nat×Nat)):CE→CE
 | .ref o cut=> .ref (J5 ρ o) cut
 | .snap d l z rows=> .snap (d.map (J5 ρ)) (match l with|some (o,i,f)=>some (J5 ρ o,i,f)|none=>none) z rows
 |e=>e
def acA (ρ:List (Nat×Nat)):TE→TE
 | .ep d cells=> .ep (d.map (J5 ρ)) cells
 | .er o p i f=> .er (J5 ρ o) p i f
 |e=>e
def vP (ob:List (Nat×OB)):List (Nat×Nat)→List (Nat×OB)
 |[]=>[]
 |(o,n)::r=>match ak o ob with|some b=>o7 n b (vP ob r)|none=>vP ob r
def ai7 (ρ:List (Nat×Nat)) (st:TS):TS:=⟨mapA (zN (Ix ρ) (acA ρ)) st.tm,mapA (List.map (Ix ρ)) st.bx,vP st.ob ρ⟩
def canon (st:TS):TS:=ai7 (number (ahA st) 1 []) st
def Wt (l:List Nat) (st:TS):TS:=canon (Ws ⟨Cm l st.tm,yB l st.bx,st.ob⟩)
def run (fx:List Nat) (f:FuncId):Nat→Code→TS→(TX→TS→Ev R)→Ev R
 |_,.skip,st,K=>K .norm st
 |_,.region id ops draw,st,K=>match draw with
  |false=>Uv C fx (C.lr f id) ops ops.toList st (K .norm)
  |true=>match C.Mf f id with
   |some l=>sY C fx (C.lr f id) ops l st (K .norm)
   |none=> .fail
 |i,.seq a b,st,K=>run fx f i a st fun x st'=>match x with
  | .norm=>run fx f i b st' K
  |x=>K x st'
 |i,.cond c a b,st,K=>match sV C st 0 c with
  | .kb p=>match p with
    |true=>run fx f i a st K
    |false=>run fx f i b st K
  | .v false [.mk false [.sc (.bool p)]]=> .test p fun p=>match p with
    |true=>run fx f i a st K
    |false=>run fx f i b st K
  |_=> .fail
 |_,.block id body,st,K=>run fx f id body st fun x st'=>match x with
  | .ex id'=>match Nat.beq id' id with|true=>K .norm st'|false=>K (.ex id') st'
  |x=>K x st'
 |i,.loop body,st,K=>fTS (Wt (C.lb f i) st) fun st=> .loop f i body st K
 |_,.exit id,st,K=>K (.ex id) st
 |_,.ret,st,K=>K .ret st
 |_,_,_,_=> .fail
def dpM:Mode→Bool
 | .deep=>true
 |_=>false
def eH (sh:Bool) (p:cg) (n:Nat):Nat→List TC→List CE×List (Nat×OB)
 |_,[]=>([],[])
 |j,c::r=>match eH sh p n (j+1) r with
  |(es,obs)=>match c with
   | .sc v=>(.sc v::es,obs)
   | .sub z rows=>match p.mc j with
     | .snap=>(.snap (match sh with|true=>[]|false=>[0]) none z rows::es,obs)
     |m=>(.ref (n+j) none::es,(n+j,⟨dpM m,z,rows⟩)::obs)
   | .any=>(.gone::es,obs)
def J6 (sh:Bool) (i:Nat):List (List TC)→List (Nat×List CE)
 |[]=>[]
 |c::r=>(i,(eH sh .borrow 0 0 c).1)::J6 sh (i+1) r
def Av (p:cg) (i:Nat):Nat:=match p with| .borrow=>200000+1000*i|_=>100000+1000*i
def init (sh:Bool) (ps:List cg) (i:Nat):List TV→TS
 |[]=>⟨[],[],[]⟩
 |v::r=>match init sh (ps.drop 1) (i+1) r with
  |⟨tm,bx,ob⟩=>match v with
   | .c c=>match eH sh (ps.headD .borrow) (500+16*i) 0 [c] with|(cs,o)=>⟨(i,.v false [.mk false cs])::tm,bx,o++ob⟩
   | .ag cs=>match eH sh (ps.headD .borrow) (500+16*i) 0 cs with|(cs,o)=>⟨(i,.v false [.mk true cs])::tm,bx,o++ob⟩
   | .bx cs=>match eH sh (ps.headD .borrow) (500+16*i) 0 cs with
     |(cs,o)=>⟨(i,.bp (Av (ps.headD .borrow) i) 0)::tm,(Av (ps.headD .borrow) i,cs)::bx,o++ob⟩
   | .fn f caps=>⟨(i,.fn f (List.range' (200000+1000*i+1) caps.length))::tm,J6 sh (200000+1000*i+1) caps++bx,ob⟩
   | .tu _=>⟨tm,bx,ob⟩
def YK (m:Mode) (e:CE) (deep:Bool):Bool:=match m,e with
 |_,.sc _=>true
 | .snap,_=>true
 |_,.nil _=>true
 | .top,.ref _ _=>true
 | .deep,.ref _ _=>deep
 |_,_=>false
def EM:List Mode→List CE→TS→Option (List TC×TS)
 |_,[],st=>some ([],st)
 |ms,e::r,st=>match pW e st with
  |some (c,st',d)=>match YK (ms.headD .snap) e d with
   |true=>match EM (ms.drop 1) r st' with
    |some (cs,LI)=>some (c::cs,LI)
    |none=>none
   |false=>none
  |none=>none
def nJ:List Mode→List CE→TS→Option (List TC×TS)
 |_,[],st=>some ([],st)
 |ms,e::r,st=>match ms.headD .deep,e with
  | .snap,e=>match pW e st with
    |some (c,st',_)=>match nJ (ms.drop 1) r st' with
     |some (cs,LI)=>some (c::cs,LI)
     |none=>none
    |none=>none
  |_,.sc v=>match nJ (ms.drop 1) r st with
   |some (cs,st')=>some (.sc v::cs,st')
   |none=>none
  |_,.nil z=>match nJ (ms.drop 1) r st with
   |some (cs,st')=>some (.sub z []::cs,st')
   |none=>none
  |_,.ref o none=>match ak o st.ob with
   |some ⟨true,z,rows⟩=>match nJ (ms.drop 1) r (oH o st) with
    |some (cs,st')=>some (.sub z rows::cs,st')
    |none=>none
   |_=>none
  |_,_=>none
def ahB (a:Bool):Nat:=match a with|true=>1|false=>0
def aag (st:TS) (r:ResultVar) (K:TE→Ev R):Ev R:=match r with
 | .tmp t=>K (st.get t)
 | .cell a t=>GJ C st t (st.get a) K
def OL:List (List Mode)→List ResultVar→TS→(List (Nat×List TC)→TS→Ev R)→Ev R
 |_,[],st,K=>K [] st
 |ms,r::rs,st,K=>aag C st r fun e=>match e with
  | .v false [.mk a cs]=>match EM (ms.headD []) cs st with
    |some (ts,st')=>OL (ms.drop 1) rs st' fun vs LI=>K ((ahB a,ts)::vs) LI
    |none=> .fail
  | .kb b=>OL (ms.drop 1) rs st fun vs LI=>K ((0,[.sc (.bool b)])::vs) LI
  | .bp b 0=>match Am b,ak b st.bx with
    |true,some cs=>match EM (ms.headD []) cs ⟨st.tm,qY b st.bx,st.ob⟩ with
     |some (ts,st')=>OL (ms.drop 1) rs st' fun vs LI=>K ((2,ts)::vs) LI
     |none=> .fail
    |_,_=> .fail
  |_=> .fail
def Wu:List cg→Nat→TS→Option (List TV)
 |[],_,_=>some []
 |p::ps,i,st=>match p with
  | .inout ms=>match ms,st.get i with
    |[],.v false [.mk false [e]]=>match nJ [] [e] st with
     |some ([c],st')=>match Wu ps (i+1) st' with
      |some vs=>some (.c c::vs)
      |none=>none
     |_=>none
    |[],.v false [.mk true cs]=>match nJ [] cs st with
     |some (ts,st')=>match Wu ps (i+1) st' with
      |some vs=>some (.ag ts::vs)
      |none=>none
     |none=>none
    |ms,.bp b 0=>match Am b,ak b st.bx with
     |true,some cs=>match nJ ms cs st with
      |some (ts,st')=>match Wu ps (i+1) st' with
       |some vs=>some (.bx ts::vs)
       |none=>none
      |none=>none
     |_,_=>none
    |_,_=>none
  |_=>Wu ps (i+1) st
def J7:List (Nat×List TC)→TV
 |[(0,[c])]=> .c c
 |[(1,cs)]=> .ag cs
 |[(2,cs)]=> .bx cs
 |vs=> .tu vs
def J8:List cg→Nat→List Nat
 |[],_=>[]
 | .inout _::r,i=>i::J8 r (i+1)
 |_::r,i=>J8 r (i+1)
def OM (g:Z9):List Nat:=match g.frz with|true=>777777::J8 g.ps 0|false=>J8 g.ps 0
def acC (g:Z9) (rs:List ResultVar) (x:TX) (st:TS):Ev (TV×List TV):=match x with
 | .ex _=> .fail
 |_=>OL C g.res rs st fun rs st'=>match Wu g.ps 0 st' with
  |some fs=>fTV (J7 rs) fun r=>fL fTV fs fun fs=> .ret (r,fs)
  |none=> .fail
def EN (g:Z9) (vs:List TV):TS:=init true g.ps 0 vs
def body (f:FuncId) (vs:List TV):Ev (TV×List TV):=
 match C.P.funcs[f]? with
 |none=> .fail
 |some fn=>match fn.body with
  |none=> .fail
  |some c=>fTS (EN (C.sig f) vs) fun st=>run C (OM (C.sig f)) f 0 c st (acC C (C.sig f) fn.results.toList)
end
abbrev Cf:=FuncId→List TV→TV→List TV→Prop
abbrev Lp:=FuncId→Nat→Code→TS→(TX→TS→Prop)→Prop
def Ev.holds {R:Type} (cf:Cf) (lp:Lp) (Q:R→Prop):Ev R→Prop
 | .fail=>False
 | .ret r=>Q r
 | .test b k=>(k b).holds cf lp Q
 | .row rows i k=> ∃c,rowAt rows i=some c∧(k c).holds cf lp Q
 | .byte s i k=> ∃b,tY s i=some b∧(k b).holds cf lp Q
 | .bytes rows k=> ∃ns,As rows=some ns∧(k ns).holds cf lp Q
 | .call f vs k=> ∃r fs,cf f vs r fs∧(k r fs).holds cf lp Q
 | .loop f i c st k=>lp f i c st fun x st'=>(k x st').holds cf lp Q
 | .both a b=> ∃r,a.holds cf lp (fun r'=>r'=r)∧b.holds cf lp (fun r'=>r'=r)∧Q r
section
variable (C : mA)
def ON (x:TX) (st:TS):Ev (TX×TS):= .ret (x,st)
def iter (cf:Cf) (lp:Lp) (fx:List Nat) (f i:Nat) (c:Code) (Q:TX→TS→Prop):Nat→TS→Prop
 |0,_=>False
 |n+1,st=>(run C fx f i c st ON).holds cf lp fun p=>match p with
   |(.norm,st')=>fTS (Wt (C.lb f i) st') fun st'=>iter cf lp fx f i c Q n st'
   |(x,st')=>Q x st'
def YL (cf:Cf) (k:Nat) (fx:List Nat):Nat→Lp
 |0=>fun _ _ _ _ _=>False
 |n+1=>fun f i c st Q=>iter C cf (YL cf k fx n) fx f i c Q k st
def jT:Nat→Cf
 |0=>fun _ _ _ _=>False
 |k+1=>fun f vs r fs=>match C.ext f with
  |some p=>p vs=some (r,fs)
  |none=>(body C f vs).holds (jT k) (YL C (jT k) k (OM (C.sig f)) 4) fun p=>p=(r,fs)
end
end Go.T
set_option linter.all false
namespace Go.T
inductive An where
 |b (x:Bool)
 |row (c:List TC)
 |n (i:Int)
 |ns (l:List Int)
 |call (r:TV) (fs:List TV)
 |loop (x:TX) (st:TS)
inductive Qr where
 |test (b x:Bool)
 |row (rows:List (List TC)) (i:Int) (c:List TC)
 |byte (s:ByteArray) (i b:Int)
 |bytes (rows:List (List TC)) (ns:List Int)
 |call (f:FuncId) (vs:List TV) (r:TV) (fs:List TV)
 |loop (f:FuncId) (i:Nat) (c:Code) (st:TS) (x:TX) (st':TS)
def Ev.trace {R:Type}:Ev R→List An→List Qr→Option (R×List Qr)
 | .fail,_,_=>none
 | .ret r,as,qs=>match as with|[]=>some (r,qs)|_=>none
 | .test b k,as,qs=>match as with| .b x::as=>(k x).trace as (.test b x::qs)|_=>none
 | .row rows i k,as,qs=>match as with| .row c::as=>(k c).trace as (.row rows i c::qs)|_=>none
 | .byte s i k,as,qs=>match as with| .n b::as=>(k b).trace as (.byte s i b::qs)|_=>none
 | .bytes rows k,as,qs=>match as with| .ns l::as=>(k l).trace as (.bytes rows l::qs)|_=>none
 | .call f vs k,as,qs=>match as with| .call r fs::as=>fL fTV vs fun vs=>(k r fs).trace as (.call f vs r fs::qs)|_=>none
 | .loop f i c st k,as,qs=>match as with| .loop x st'::as=>(k x st').trace as (.loop f i c st x st'::qs)|_=>none
 | .both _ _,_,_=>none
def Qr.ok (cf:Cf) (lp:Lp):Qr→Prop
 | .test b x=>b=x
 | .row rows i c=>rowAt rows i=some c
 | .byte s i b=>tY s i=some b
 | .bytes rows ns=>As rows=some ns
 | .call f vs r fs=>cf f vs r fs
 | .loop f i c st x st'=>lp f i c st fun x1 eY=>x1=x∧eY=st'
section
variable {Z : Type}
theorem w7 {α:Type} {f:α→(α→Z)→Z} (h: ∀a K,f a K=K a): ∀(l:List α) (K:List α→Z),fL f l K=K l
 |[],K=>rfl
 |a::r,K=>by simp only[fL,h,w7 h r]
theorem acD (b:Bool) (K:Bool→Z):fB b K=K b:=by cases b<;>rfl
theorem acE (b:Nat) (K:Nat→Z):fN b K=K b:=rfl
theorem acF (p:Option (Int×Nat)) (K:Option (Int×Nat)→Z):agT p K=K p:=by cases p<;>rfl
theorem ae9 (p:Option (Int×Int)) (K:Option (Int×Int)→Z):ai5 p K=K p:=by cases p<;>rfl
theorem ahC (p:Option (Nat×Int×Nat)) (K:Option (Nat×Int×Nat)→Z):fAt p K=K p:=by cases p<;>rfl
theorem agY (v:Value) (K:Value→Z):fV v K=K v:=by cases v<;>rfl
theorem Uw (c:TC) (K:TC→Z):fTC c K=K c:=by cases c<;>simp only[fTC,agY]
theorem acG (e:CE) (K:CE→Z):fCE e K=K e:=by
 cases e<;>simp only[fCE,agY,ae9,ahC,w7 acE]
theorem acH (c:qX) (K:qX→Z):acm c K=K c:=by cases c<;>simp only[acm,acD,w7 acG]
theorem ahD (e:TE) (K:TE→Z):fTE e K=K e:=by
 cases e<;>simp only[fTE,acD,w7 acH,w7 acE,w7 Uw,acF]
theorem ahE (b:OB) (K:OB→Z):fOB b K=K b:=by cases b;simp only[fOB,acD]
theorem acI (v:TV) (K:TV→Z):fTV v K=K v:=by
 cases v<;>simp only[fTV,acn,Uw,w7 Uw]
 rw[w7 (fun a K=>by cases a;simp only[acn,w7 Uw])]
theorem sZ (st:TS) (K:TS→Z):fTS st K=K st:=by
 cases st;simp only[fTS]
 rw[w7 (fun a K=>by cases a;simp only[ahD]),w7 (fun a K=>by cases a;simp only[w7 acG]),w7 (fun a K=>by cases a;simp only[ahE])]
end
theorem gG {R:Type} {cf cf':Cf} {lp lp':Lp} (hc: ∀f vs r fs,cf f vs r fs→cf' f vs r fs) (JT: ∀f i c st (Q Q':TX→TS→Prop),(∀x s,Q x s→Q' x s)→lp f i c st Q→lp' f i c st Q') {Q Q':R→Prop} (hQ: ∀r,Q r→Q' r):
 ∀(e:Ev R),e.holds cf lp Q→e.holds cf' lp' Q'
 | .fail,h=>h
 | .ret r,h=>hQ r h
 | .test b k,h=>gG hc JT hQ (k b) h
 | .row rows i k,⟨c,h1,h2⟩=>⟨c,h1,gG hc JT hQ (k c) h2⟩
 | .byte rows i k,⟨c,h1,h2⟩=>⟨c,h1,gG hc JT hQ (k c) h2⟩
 | .bytes rows k,⟨c,h1,h2⟩=>⟨c,h1,gG hc JT hQ (k c) h2⟩
 | .call f vs k,⟨r,fs,h1,h2⟩=>⟨r,fs,hc _ _ _ _ h1,gG hc JT hQ (k r fs) h2⟩
 | .loop f i c st k,h=>JT _ _ _ _ _ _ (fun x s hxs=>gG hc JT hQ (k x s) hxs) h
 | .both a b,⟨r,h1,h2,h3⟩=>⟨r,gG hc JT (fun _ h=>h) a h1,gG hc JT (fun _ h=>h) b h2,hQ r h3⟩
section
variable {C : mA}
theorem F5 {cf cf':Cf} {lp lp':Lp} (hc: ∀f vs r fs,cf f vs r fs→cf' f vs r fs) (JT: ∀f i c st (Q Q':TX→TS→Prop),(∀x s,Q x s→Q' x s)→lp f i c st Q→lp' f i c st Q')
 {fx:List Nat} {f i:Nat} {c:Code} {Q Q':TX→TS→Prop} (hQ: ∀x s,Q x s→Q' x s): ∀(n n':Nat),n≤n'→ ∀(st:TS),iter C cf lp fx f i c Q n st→iter C cf' lp' fx f i c Q' n' st
 |0,_,_,_,h=>h.elim
 |n+1,0,hn,_,_=>absurd hn az
 |n+1,n'+1,hn,st,h=>by
  refine gG hc JT (fun p hp=> ?_) _ h;obtain⟨x,s⟩:=p
  cases x with
  |norm=>
   simp only at hp ⊢;rw[sZ] at hp ⊢;exact F5 hc JT hQ n n' az _ hp
  |ex id=>exact hQ _ _ hp
  |ret=>exact hQ _ _ hp
theorem q8 {cf cf':Cf} (hc: ∀f vs r fs,cf f vs r fs→cf' f vs r fs) {k k':Nat} (hk:k≤k') {fx:List Nat}: ∀(n:Nat) (f i:Nat) (c:Code) (st:TS) (Q Q':TX→TS→Prop),(∀x s,Q x s→Q' x s)→
 YL C cf k fx n f i c st Q→YL C cf' k' fx n f i c st Q'
 |0,_,_,_,_,_,_,_,h=>h.elim
 |n+1,f,i,c,st,Q,Q',hQ,h=>F5 hc (q8 hc hk n) hQ k k' hk st h
theorem EO: ∀(k:Nat) (f:FuncId) (vs:List TV) (r:TV) (fs:List TV),jT C k f vs r fs→jT C (k+1) f vs r fs
 |0,_,_,_,_,h=>h.elim
 |k+1,f,vs,r,fs,h=>by
  unfold jT at h ⊢
  cases hx:C.ext f with
  |some p=>rw[hx] at h;exact h
  |none=>rw[hx] at h;exact gG (EO k) (q8 (EO k) (Nat.le_succ k) 4) (fun _ h=>h) _ h
theorem YM {k:Nat} {f:FuncId} {vs:List TV} {r:TV} {fs:List TV} (hx:C.ext f=none) (h:(body C f vs).holds (jT C k) (YL C (jT C k) k (OM (C.sig f)) 4) fun p=>p=(r,fs)):jT C (k+1) f vs r fs:=by
 unfold jT;rw[hx];exact h
theorem aa9 {k:Nat} {f:FuncId} {vs:List TV} {r:TV} {fs:List TV} {p:List TV→Option (TV×List TV)} (hx:C.ext f=some p) (h:p vs=some (r,fs)):jT C (k+1) f vs r fs:=by
 unfold jT;rw[hx];exact h
theorem oq {k k':Nat} (hk:k≤k') {f:FuncId} {vs:List TV} {r:TV} {fs:List TV} (h:jT C k f vs r fs):jT C k' f vs r fs:=by
 induction hk with
 |refl=>exact h
 |step _ ih=>exact EO _ _ _ _ _ ih
def J9 (C:mA) (k:Nat) (fx:List Nat) (n:Nat) (f i:Nat) (c:Code) (m:Nat) (st:TS) (x:TX) (st':TS):Prop:=
 iter C (jT C k) (YL C (jT C k) k fx n) fx f i c (fun x1 eY=>x1=x∧eY=st') m st
theorem J9.ok {k:Nat} {fx:List Nat} {n f i:Nat} {c:Code} {m:Nat} {st:TS} {x:TX} {st':TS} (h:J9 C k fx n f i c m st x st') (hm:m≤k):(Qr.loop f i c st x st').ok (jT C k) (YL C (jT C k) k fx (n+1)):=
 F5 (fun _ _ _ _ h=>h) (q8 (fun _ _ _ _ h=>h) (dj _) n) (fun _ _ h=>h) m k hm st h
end
end Go.T
namespace Go.T
def yC (rows:List (List TC)) (i f:Nat):Option TC:=(rows[i]?).bind fun r=>r[f]?
def Mi:Value→Prop
 | .int _ _=>True
 | .bool _=>True
 | .string _=>True
 | .slice _ _ _=>True
 |_=>False
def Mode.nx:Mode→Mode
 | .deep=> .deep
 |_=> .snap
structure ai8 (w:World) (R:Nat→Prop) (m:Mode) (S:Nat→Prop) (z:Nat) (rows:List (List TC)) (A:Option Addr) (c:Nat) (u:Nat→Nat→Value) (T:Nat→Nat→Nat→Prop):Prop where
 len:rows.length≤c
 cap:c≤maxLen
 z0:0<z
 width: ∀r∈rows,r.length=z
 addr:rows≠[]→ ∃ad,A=some ad
 cell: ∀ad,A=some ad→ ∀i f tc,yC rows i f=some tc→w.cell? (ad.add (i*z+f))=some (u i f)
 read:m= .snap→ ∀ad,A=some ad→rows≠[]→R ad.block
 own:m≠ .snap→(A=none→c=0)∧ ∀ad,A=some ad→S ad.block∧ad.spot=none∧
  ∀j,j<c*z→(∃x,w.cell? ⟨ad.block,ad.off+j,none⟩=some x)∧w.frozen? ⟨ad.block,ad.off+j,none⟩=false
 soft:m≠ .snap→1<z→ ∀ad,A=some ad→ ∀i,w.frozen? ⟨ad.block,i,none⟩=false
 qV:m= .deep→ ∀i f k,T i f k→S k∧(∀ad,A=some ad→k≠ad.block)∧ ∀i' f',T i' f' k→i'=i∧f'=f
inductive aA (w:World) (R:Nat→Prop):Mode→(Nat→Prop)→TC→Value→Prop
 |sc (m:Mode) (S:Nat→Prop) (v:Value) (h:Mi v):aA w R m S (.sc v) v
 |sub (m:Mode) (S:Nat→Prop) (z:Nat) (rows:List (List TC)) (A:Option Addr) (c:Nat) (u:Nat→Nat→Value) (T:Nat→Nat→Nat→Prop)
   (h:ai8 w R m S z rows A c u T) (hn: ∀i f tc,yC rows i f=some tc→aA w R m.nx (T i f) tc (u i f)):
   aA w R m S (.sub z rows) (.slice A rows.length c)
 |any (m:Mode) (S:Nat→Prop) (v:Value) (h:v.oneCell'=true∧v.cells= #[v]):aA w R m S .any v
variable {w w' : World} {R R' S S' : Nat → Prop} {m : Mode} {c : TC} {v : Value}
theorem Ka {rows:List (List TC)} {i f:Nat} {tc:TC} (h:yC rows i f=some tc):rows≠[]:=by
 rintro rfl;simp[yC] at h
theorem gH {w w':World} {a:Addr} (h:w'.heap[a.block]?=w.heap[a.block]?):w'.cell? a=w.cell? a:=by
 unfold World.cell?;rw[h]
theorem mT {w w':World} {a:Addr} (h:w'.heap[a.block]?=w.heap[a.block]?):w'.frozen? a=w.frozen? a:=by
 unfold World.frozen?;rw[h]
theorem cX (a:Addr) (n:Nat):(a.add n).block=a.block:=by unfold Addr.add;split<;>rfl
theorem aA.mono (h:aA w R m S c v) (hS: ∀k,S k→S' k):aA w R m S' c v:=by
 cases h with
 |any _ _ _ h=>exact .any _ _ _ h
 |sc _ _ _ h=>exact .sc _ _ _ h
 |sub _ _ z rows A c u T h hn=>
  refine .sub _ _ z rows A c u T {h with own:=fun hm=>⟨(h.own hm).1,fun ad ha=>⟨hS _ ((h.own hm).2 ad ha).1,((h.own hm).2 ad ha).2⟩⟩,qV:=fun hm i f k hk=>⟨hS _ (h.qV hm i f k hk).1,(h.qV hm i f k hk).2⟩} hn
theorem wg {m:Mode} (h:m.nx≠ .snap):m= .deep:=by cases m<;>simp_all [Mode.nx]
theorem aA.move (h:aA w R m S c v):(∀k,R k→R' k∧w'.heap[k]?=w.heap[k]?)→(m≠ .snap→ ∀k,S k→w'.heap[k]?=w.heap[k]?)→aA w' R' m S c v:=by
 induction h with
 |any _ _ _ h=>exact fun _ _=> .any _ _ _ h
 |sc _ _ _ h=>exact fun _ _=> .sc _ _ _ h
 |sub m S z rows A c u T h hn ih=>
  intro hR hS;refine .sub _ _ z rows A c u T {h with cell:= ?_,read:= ?_,own:= ?_,soft:=fun hm h1 ad ha i=>by rw[mT (w:=w) (a:=⟨ad.block,i,none⟩) (hS hm _ ((h.own hm).2 ad ha).1)];exact h.soft hm h1 ad ha i} fun i f tc ht=>ih i f tc ht hR fun hm k hk=> ?_
  ·intro ad ha i f tc ht
   rw[gH (w:=w)]
   ·exact h.cell ad ha i f tc ht
   ·rw[cX]
    by_cases hm:m= .snap
    ·exact(hR _ (h.read hm ad ha (Ka ht))).2
    ·exact hS hm _ ((h.own hm).2 ad ha).1
  ·exact fun hm ad ha hne=>(hR _ (h.read hm ad ha hne)).1
  ·intro hm
   refine⟨(h.own hm).1,fun ad ha=>⟨((h.own hm).2 ad ha).1,((h.own hm).2 ad ha).2.1,fun j hj=> ?_⟩⟩;have hb:=hS hm _ ((h.own hm).2 ad ha).1;obtain⟨⟨x,hx⟩,hf⟩:=((h.own hm).2 ad ha).2.2 j hj;exact⟨⟨x,by rw[gH (w:=w) (by exact hb)];exact hx⟩,by rw[mT (w:=w) (by exact hb)];exact hf⟩
  ·have:=wg hm
   subst this;exact hS cE k (h.qV rfl i f k hk).1
theorem aA.freeze (h:aA w R m S c v):(∀k,R k→R' k)→(m≠ .snap→ ∀k,S k→R' k)→aA w R' .snap S' c v:=by
 induction h generalizing S' with
 |any _ _ _ h=>exact fun _ _=> .any _ _ _ h
 |sc _ _ _ h=>exact fun _ _=> .sc _ _ _ h
 |sub m S z rows A c u T h hn ih=>
  intro hR hS;refine .sub _ _ z rows A c u (fun _ _ _=>False) {h with read:= ?_,own:=fun hm=>absurd rfl hm,soft:=fun hm=>absurd rfl hm,qV:=fun hm=>by cases hm} fun i f tc ht=>ih i f tc ht hR fun hm k hk=> ?_
  ·intro _ ad ha hne
   by_cases hm:m= .snap
   ·exact hR _ (h.read hm ad ha hne)
   ·exact hS hm _ ((h.own hm).2 ad ha).1
  ·have:=wg hm
   subst this;exact hS cE k (h.qV rfl i f k hk).1
theorem aA.qN (h:aA w R .snap S c v) (hR: ∀k,R k→R' k):aA w R' .snap S' c v:=h.freeze hR fun h=>absurd rfl h
end Go.T
namespace Go.T
theorem lV {o:Nat}: ∀{l:List Nat},mR o l=true↔o∈l
 |[]=>by simp[mR]
 |a::r=>by
  simp only[mR,ef]
  cases h:Nat.beq a o with
  |true=>simp[jj h]
  |false=>simp only[lV (l:=r)];have:=sU h;simp[Ne.symm this]
theorem fA {o:Nat} {l:List Nat}:mR o l=false↔o∉l:=by
 rw[←lV];simp
theorem Aw {o d:Nat}: ∀{l:List Nat},d∈Wk o l↔d∈l∧d≠o
 |[]=>by simp[Wk]
 |a::r=>by
  simp only[Wk]
  cases h:Nat.beq a o with
  |true=>
   have h1:=jj h;subst h1;simp only[Aw (l:=r),ef];exact⟨fun⟨x,y⟩=>⟨.inr x,y⟩,fun⟨x,y⟩=>⟨x.resolve_left y,y⟩⟩
  |false=>
   have h1:=sU h;simp only[ef,Aw (l:=r)]
   constructor
   ·rintro(rfl|⟨x,y⟩)
    ·exact⟨.inl rfl,h1⟩
    ·exact⟨.inr x,y⟩
   ·rintro⟨rfl|x,y⟩
    ·exact .inl rfl
    ·exact .inr ⟨x,y⟩
theorem sx {a:List Nat} {l:List Nat} (h:vO a l=false) {x:Nat} (hx:x∈a):x∉l:=by
 induction a with
 |nil=>cases hx
 |cons y r ih=>
  simp only[vO] at h
  cases h1:mR y l with
  |true=>rw[h1] at h;cases h
  |false=>
   rw[h1] at h;rcases ef.1 hx with rfl|hx
   ·exact fA.1 h1
   ·exact ih h hx
theorem beq_false {a b:Nat} (h:a≠b):Nat.beq a b=false:=by
 cases h1:Nat.beq a b with
 |true=>exact absurd (jj h1) h
 |false=>rfl
theorem EP (a:Nat):Nat.beq a a=true:=by simp
section
variable {α β : Type}
theorem gn (i j:Nat) (e:α): ∀(l:List (Nat×α)),ak j (o7 i e l)=if j=i then some e else ak j l
 |[]=>by
  simp only[o7,ak]
  by_cases h:j=i
  ·subst h;simp
  ·rw[beq_false (Ne.symm h),aK h]
 |(a,x)::r=>by
  have ih:=gn i j e r;simp only[o7]
  cases h1:Nat.beq a i with
  |true=>
   have h1:=jj h1;subst h1;simp only[ak]
   by_cases h:j=a
   ·subst h;simp
   ·rw[beq_false (Ne.symm h),aK h]
  |false=>
   have h1:=sU h1
   cases h2:Nat.ble i a with
   |true=>
    simp only[ak]
    by_cases h:j=i
    ·subst h;simp
    ·rw[beq_false (Ne.symm h),aK h]
   |false=>
    simp only[ak]
    by_cases h3:a=j
    ·subst h3;rw[EP,aK h1]
    ·rw[beq_false h3];exact ih
theorem jE (i j:Nat): ∀(l:List (Nat×α)),ak j (qY i l)=if j=i then none else ak j l
 |[]=>by simp[qY,ak]
 |(a,x)::r=>by
  have ih:=jE i j r;simp only[qY]
  cases h1:Nat.beq a i with
  |true=>
   have h1:=jj h1;subst h1;simp only[ak,ih]
   by_cases h:j=a
   ·simp[h]
   ·rw[beq_false (Ne.symm h)]
  |false=>
   have h1:=sU h1;simp only[ak]
   by_cases h3:a=j
   ·subst h3;rw[EP,aK h1]
   ·rw[beq_false h3];exact ih
theorem uc (f:α→α) (j:Nat): ∀(l:List (Nat×α)),ak j (mapA f l)=(ak j l).map f
 |[]=>rfl
 |(a,x)::r=>by
  simp only[mapA,ak]
  cases Nat.beq a j with
  |true=>rfl
  |false=>exact uc f j r
theorem OO (l:List Nat) (j:Nat): ∀(m:List (Nat×α)),ak j (Cm l m)=if j∈l then ak j m else none
 |[]=>by simp[Cm,ak]
 |(a,x)::r=>by
  have ih:=OO l j r;simp only[Cm]
  cases h1:mR a l with
  |true=>
   have h1:=lV.1 h1;simp only[ak]
   by_cases h:a=j
   ·subst h;rw[EP,aT h1]
   ·rw[beq_false h];exact ih
  |false=>
   have h1:=fA.1 h1;simp only[ak,ih]
   by_cases h:a=j
   ·subst h;rw[aK h1,aK h1]
   ·rw[beq_false h]
end
structure Fp where
 I:Nat→Prop
 S:Nat→Nat→Prop
 V:Nat→Value
 β:Nat→Addr
def rd (φ:Fp) (ds:List Nat) (k:Nat):Prop:=φ.I k∨ ∃d,d∈ds∧φ.S d k
abbrev JV:Nat→Prop:=fun _=>False
def OB.m (b:OB):Mode:=if b.deep then .deep else .top
def oI (w:World) (φ:Fp) (o:Nat) (b:OB):Prop:=aA w φ.I b.m (φ.S o) (.sub b.z b.rows) (φ.V o)
def Cn (z n:Nat) (l h:Int) (V v:Value):Prop:=
 0≤l∧l≤h∧h≤n∧ ∃A A' c,V= .slice A n c∧v= .slice A' (h.toNat-l.toNat) (c-l.toNat)∧(c≠l.toNat→A'=A.map fun a=>a.add (l.toNat*z))∧(A=none→A'=none)∧
  ∀ad,A=some ad→ ∃ad',A'=some ad'∧ad'.block=ad.block∧(ad.spot=none→ad'.spot=none)
def aW (ob:List (Nat×OB)) (d:Nat):Prop:= ∃b,ak d ob=some b
def aah (ob:List (Nat×OB)) (w:World) (φ:Fp) (z:Nat) (rows:List (List TC)) (v:Value) (o:Nat) (i:Int) (f:Nat):Prop:=
 ∃b,ak o ob=some b∧0≤i∧yC b.rows i.toNat f=some (.sub z rows)∧ ∃ad n c,φ.V o= .slice (some ad) n c∧w.cell? (ad.add (i.toNat*b.z+f))=some v
def ej (ob:List (Nat×OB)) (w:World) (φ:Fp) (e:CE) (v:Value):Prop:=
 match e with
 | .sc x=>v=x∧Mi x
 | .nil z=>v= .slice none 0 0∧0<z
 | .ref o cut=> ∃b,ak o ob=some b∧match cut with
   |none=>v=φ.V o
   |some (l,h)=>Cn b.z b.rows.length l h (φ.V o) v
 | .snap ds loc z rows=>(∀d∈ds,d=0∨aW ob d)∧aA w (rd φ ds) .snap JV (.sub z rows) v∧ ∀o i f,loc=some (o,i,f)→o∈ds∧aah ob w φ z rows v o i f
 | .gone=>True
def nK (ob:List (Nat×OB)) (w:World) (φ:Fp) (c:qX) (u:Value):Prop:=
 match c with
 | .mk true cs=> ∃xs:Array Value,u= .agg xs∧xs.size=cs.length∧ ∀(j:Nat) (e:CE),cs[j]?=some e→ ∃x,xs[j]?=some x∧x.cells= #[x]∧ej ob w φ e x
 | .mk false cs=> ∃e,cs=[e]∧u.cells= #[u]∧ej ob w φ e u
 | .ptr b=>u= .pointer (some (φ.β b))
def dw (ob:List (Nat×OB)) (w:World) (φ:Fp) (e:TE) (v:Value):Prop:=
 match e with
 | .dead=>True
 | .v true es=> ∃vs:Array Value,v= .tuple vs∧vs.size=es.length∧ ∀(k:Nat) (c:qX),es[k]?=some c→ ∃u,vs[k]?=some u∧nK ob w φ c u
 | .v false es=> ∃c,es=[c]∧nK ob w φ c v
 | .bp b off=>v= .pointer (some ((φ.β b).add off))
 | .ep ds cells=>(∀d∈ds,d=0∨aW ob d)∧ ∃ad,v= .pointer (some ad)∧(cells≠[]→rd φ ds ad.block)∧ ∀(j:Nat) (tc:TC),cells[j]?=some tc→ ∃u,w.cell? (ad.add j)=some u∧aA w (rd φ ds) .snap JV tc u
 | .er o path i f=> ∃b,ak o ob=some b∧0≤i∧ ∃ad n c,φ.V o= .slice (some ad) n c∧match path with
   |none=>v= .pointer (some (ad.add (i.toNat*b.z+f)))
   |some (i0,f0)=>0≤i0∧ ∃z1 rG,yC b.rows i0.toNat f0=some (.sub z1 rG)∧ ∃ad1 n1 c1,w.cell? (ad.add (i0.toNat*b.z+f0))=some (.slice (some ad1) n1 c1)∧
    v= .pointer (some (ad1.add (i.toNat*z1+f)))
 | .fn f caps=>v= .func (.func f) #[] (caps.map fun b=>Value.pointer (some (φ.β b))).toArray
 | .kb b=>v= .bool b
structure Frm (F:Nat→Prop) (w0 w:World):Prop where
 os:w.os=w0.os
 tape:w.tape=w0.tape
 output:w.output=w0.output
 size:w0.heap.size≤w.heap.size
 block: ∀k,k<w0.heap.size→ ¬F k→w.heap[k]?=w0.heap[k]?
structure Arg where
 all:Nat→Prop
 sh:Nat→Prop
structure Sep (F:Nat→Prop) (A:Arg) (w0 w:World) (φ:Fp) (bx:List (Nat×List CE)) (ob:List (Nat×OB)):Prop where
 arg:φ.S 0=A.all
 nz: ∀o,aW ob o→o≠0
 apart: ∀o o' k,aW ob o→aW ob o'→φ.S o k→φ.S o' k→o=o'
 read: ∀o k,aW ob o→φ.S o k→ ¬φ.I k
 fresh: ∀o k,aW ob o→φ.S o k→k<w.heap.size∧(w0.heap.size≤k∨F k)
 ro: ∀k,φ.I k→k<w.heap.size∧(w0.heap.size≤k∨F k∨A.sh k)
 oC: ∀k,A.all k→k<w0.heap.size∧ ¬F k
 box: ∀b cs,ak b bx=some cs→Am b=true→ ¬φ.I (φ.β b).block∧(∀o,aW ob o→ ¬φ.S o (φ.β b).block)∧(w0.heap.size≤(φ.β b).block∨F (φ.β b).block)∧
  ∀b' cs',ak b' bx=some cs'→b'≠b→(φ.β b').block≠(φ.β b).block
 spot: ∀b cs,ak b bx=some cs→(Am b=true→(φ.β b).spot=none)∧(φ.β b).block<w.heap.size∧(Am b=false→A.all (φ.β b).block)
 soft: ∀b cs j,ak b bx=some cs→Am b=true→j<cs.length→w.frozen? ((φ.β b).add j)=false
structure bw (F:Nat→Prop) (A:Arg) (w0:World) (φ:Fp) (st:TS) (tm:Array Value) (w:World):Prop where
 tmp: ∀i,dw st.ob w φ (st.get i) (tm.getD i undef)
 box: ∀b cs,ak b st.bx=some cs→ ∀(j:Nat) (e:CE),cs[j]?=some e→ ∃v,w.cell? ((φ.β b).add j)=some v∧v.cells= #[v]∧ej st.ob w φ e v
 obj: ∀o b,ak o st.ob=some b→oI w φ o b
 sep:Sep F A w0 w φ st.bx st.ob
 frm:Frm F w0 w
def Rel (F:Nat→Prop) (A:Arg) (w0:World) (st:TS) (tm:Array Value) (w:World):Prop:= ∃φ,bw F A w0 φ st tm w
section
variable {ob FW : List (Nat × OB)} {w w' : World} {φ φ' : Fp} {f : CE → CE} {g : TE → TE}
def w8 (f:CE→CE):qX→qX
 | .mk a cs=> .mk a (cs.map f)
 | .ptr b=> .ptr b
theorem wh (f:CE→CE): ∀(es:List qX) (k:Nat),(mS f es)[k]?=(es[k]?).map (w8 f)
 |[],_=>by simp[mS]
 | .mk a cs::r,0=>by simp[mS,w8]
 | .ptr b::r,0=>by simp[mS,w8]
 | .mk a cs::r,k+1=>by simp[mS,wh f r k]
 | .ptr b::r,k+1=>by simp[mS,wh f r k]
theorem rH (f:CE→CE): ∀(es:List qX),(mS f es).length=es.length
 |[]=>rfl
 | .mk a cs::r=>by simp[mS,rH f r]
 | .ptr b::r=>by simp[mS,rH f r]
theorem nK.Hj (hβ:φ'.β=φ.β) (hc: ∀e v,ej ob w φ e v→ej FW w' φ' (f e) v) {c:qX} {u:Value} (h:nK ob w φ c u):
 nK FW w' φ' (w8 f c) u:=by
 cases c with
 |ptr b=>simp only[nK,w8] at h ⊢;rw[hβ];exact h
 |mk a cs=>
  cases a with
  |true=>
   obtain⟨xs,h1,h2,h3⟩:=h;refine⟨xs,h1,by simp[h2],fun j e he=> ?_⟩;rw[kg] at he
   cases h4:cs[j]? with
   |none=>rw[h4] at he;cases he
   |some e0=>
    rw[h4] at he;simp only[nB,bq] at he;subst he;obtain⟨x,hx,hx1,hok⟩:=h3 j e0 h4;exact⟨x,hx,hx1,hc _ _ hok⟩
  |false=>
   obtain⟨e,rfl,h2,h3⟩:=h;exact⟨f e,rfl,h2,hc _ _ h3⟩
theorem dw.Hj (hβ:φ'.β=φ.β) (hc: ∀e v,ej ob w φ e v→ej FW w' φ' (f e) v) (ht: ∀e v,(∀t es,e≠ .v t es)→dw ob w φ e v→dw FW w' φ' (g e) v) {e:TE} {v:Value} (h:dw ob w φ e v):
 dw FW w' φ' (zN f g e) v:=by
 by_cases hv: ∃t es,e= .v t es
 ·obtain⟨tup,es,rfl⟩:=hv
  cases tup with
  |true=>
   obtain⟨vs,h1,h2,h3⟩:=h;refine⟨vs,h1,by rw[rH];exact h2,fun k c hk=> ?_⟩;rw[wh] at hk
   cases h4:es[k]? with
   |none=>rw[h4] at hk;cases hk
   |some c0=>
    rw[h4] at hk;simp only[nB,bq] at hk;obtain⟨u,hu,hok⟩:=h3 k c0 h4;exact⟨u,hu,by rw[←hk];exact hok.Hj hβ hc⟩
  |false=>
   obtain⟨c,rfl,hok⟩:=h;refine⟨_,?_,hok.Hj hβ hc⟩
   cases c<;>rfl
 ·have h1:zN f g e=g e:=by cases e<;>first|rfl|exact absurd ⟨_,_,rfl⟩ hv
  rw[h1];exact ht e v (fun t es he=>hv ⟨t,es,he⟩) h
end
theorem get_map (f:CE→CE) (g:TE→TE) (h:List (Nat×OB)→List (Nat×OB)) (hd:g .dead= .dead) (st:TS) (i:Nat):(yw f g h st).get i=zN f g (st.get i):=by
 unfold TS.get yw;simp only[uc]
 cases ak i st.tm with
 |none=>exact hd.symm
 |some e=>rfl
variable {F : Nat → Prop} {A : Arg} {w0 w w' : World} {φ φ' : Fp} {st st' : TS} {tm G9 : Array Value}
theorem bw.Hj (h:bw F A w0 φ st tm w) {f:CE→CE} {g:TE→TE} {k:List (Nat×OB)→List (Nat×OB)} (hd:g .dead= .dead) (hβ:φ'.β=φ.β)
 (hc: ∀e v,ej st.ob w φ e v→ej (k st.ob) w' φ' (f e) v) (ht: ∀e v,(∀t es,e≠ .v t es)→dw st.ob w φ e v→dw (k st.ob) w' φ' (g e) v)
 (hw: ∀b cs,ak b st.bx=some cs→ ∀j,j<cs.length→w'.cell? ((φ.β b).add j)=w.cell? ((φ.β b).add j))
 (ho: ∀o b,ak o (k st.ob)=some b→oI w' φ' o b) (hs:Sep F A w0 w' φ' (mapA (List.map f) st.bx) (k st.ob)) (hf:Frm F w0 w'):bw F A w0 φ' (yw f g k st) tm w' where
 tmp i:=by rw[get_map f g k hd];exact(h.tmp i).Hj hβ hc ht
 box b cs hb j e he:=by
  simp only[yw,uc] at hb
  cases h1:ak b st.bx with
  |none=>rw[h1] at hb;cases hb
  |some cs0=>
   rw[h1] at hb;simp only[nB,bq] at hb;subst hb;rw[kg] at he
   cases h2:cs0[j]? with
   |none=>rw[h2] at he;cases he
   |some e0=>
    rw[h2] at he;simp only[nB,bq] at he;subst he;obtain⟨v,hv,h1c,hok⟩:=h.box b cs0 h1 j e0 h2;refine⟨v,?_,h1c,hc _ _ hok⟩;rw[hβ,hw b cs0 h1 j (List.getElem?_eq_some_iff.1 h2).1];exact hv
 obj:=ho
 sep:=hs
 frm:=hf
theorem Sep.boxes {bx bx':List (Nat×List CE)} {ob:List (Nat×OB)} (h:Sep F A w0 w φ bx ob) (hb: ∀b cs',ak b bx'=some cs'→ ∃cs,ak b bx=some cs∧cs'.length=cs.length):Sep F A w0 w φ bx' ob where
 arg:=h.arg
 nz:=h.nz
 apart:=h.apart
 read:=h.read
 fresh:=h.fresh
 ro:=h.ro
 oC:=h.oC
 box b cs' hl hw:=by
  obtain⟨cs,h1,_⟩:=hb b cs' hl;obtain⟨a1,a2,a3,a4⟩:=h.box b cs h1 hw;refine⟨a1,a2,a3,fun b' V3 hl' hne=> ?_⟩;obtain⟨cs2,h2,_⟩:=hb b' V3 hl';exact a4 b' cs2 h2 hne
 spot b cs' hl:=by obtain⟨cs,h1,_⟩:=hb b cs' hl;exact h.spot b cs h1
 soft b cs' j hl hw hj:=by obtain⟨cs,h1,h2⟩:=hb b cs' hl;exact h.soft b cs j h1 hw az
theorem iQ (f:CE→CE) {bx:List (Nat×List CE)}: ∀b cs',ak b (mapA (List.map f) bx)=some cs'→ ∃cs,ak b bx=some cs∧cs'.length=cs.length:=by
 intro b cs' h;rw[uc] at h
 cases h1:ak b bx with
 |none=>rw[h1] at h;cases h
 |some cs=>
  rw[h1] at h;simp only[nB,bq] at h;exact⟨cs,rfl,by rw[←h];simp⟩
theorem Sep.lt {bx:List (Nat×List CE)} {ob:List (Nat×OB)} (h:Sep F A w0 w φ bx ob) (hs:w0.heap.size≤w.heap.size) {d:Nat} (hd:d=0∨aW ob d) {k:Nat} (hk:φ.S d k):k<w.heap.size:=by
 rcases hd with rfl|hd
 ·rw[h.arg] at hk;exact kX (h.oC k hk).1 hs
 ·exact(h.fresh d k hd hk).1
theorem Sep.ahF {bx:List (Nat×List CE)} {ob:List (Nat×OB)} (h:Sep F A w0 w φ bx ob) (hs:w0.heap.size≤w.heap.size) {ds:List Nat} (hd: ∀d∈ds,d=0∨aW ob d) {k:Nat} (hk:rd φ ds k):k<w.heap.size:=by
 rcases hk with hk|⟨d,hm,hk⟩
 ·exact(h.ro k hk).1
 ·exact h.lt hs (hd d hm) hk
structure pY (w w':World):Prop where
 os:w'.os=w.os
 tape:w'.tape=w.tape
 output:w'.output=w.output
 size:w.heap.size≤w'.heap.size
 block: ∀k,k<w.heap.size→w'.heap[k]?=w.heap[k]?
theorem pY.refl (w:World):pY w w:=⟨rfl,rfl,rfl,dj _,fun _ _=>rfl⟩
theorem pY.alloc (w:World) (o:Obj):pY w (w.alloc o):=⟨rfl,rfl,rfl,by simp,fun k hk=>heap_alloc_old w o hk⟩
theorem pY.drew (w:World):pY w w.drew:=⟨rfl,rfl,rfl,dj _,fun _ _=>rfl⟩
theorem pY.trans {a b c:World} (h:pY a b) (k:pY b c):pY a c:=
 ⟨k.os.trans h.os,k.tape.trans h.tape,k.output.trans h.output,cU h.size k.size,fun i hi=>(k.block i (kX hi h.size)).trans (h.block i hi)⟩
theorem Frm.YO (h:Frm F w0 w) (g:pY w w'):Frm F w0 w':=
 ⟨g.os.trans h.os,g.tape.trans h.tape,g.output.trans h.output,cU h.size g.size,fun k hk hf=>(g.block k (kX hk h.size)).trans (h.block k hk hf)⟩
theorem pY.cell (g:pY w w') {a:Addr} {v:Value} (h:w.cell? a=some v):w'.cell? a=some v:=by
 rw[gH (w:=w) (g.block _ (World.block_lt_of_cell? w a h))];exact h
theorem pY.aaj (g:pY w w') {a:Addr} (h:a.block<w.heap.size):w'.cell? a=w.cell? a:=gH (g.block _ h)
theorem ej.stay {ob:List (Nat×OB)} (hI: ∀k,φ.I k→w'.heap[k]?=w.heap[k]?) (hS: ∀d k,d=0∨aW ob d→φ.S d k→w'.heap[k]?=w.heap[k]?)
 (hV: ∀o,aW ob o→ ∀ad n c,φ.V o= .slice (some ad) n c→ ∀i v,w.cell? (ad.add i)=some v→w'.cell? (ad.add i)=some v) {e:CE} {v:Value} (h:ej ob w φ e v):ej ob w' φ e v:=by
 cases e with
 |snap ds loc z rows=>
  obtain⟨h1,h2,h3⟩:=h;refine⟨h1,h2.move (fun k hk=>⟨hk,?_⟩) (fun hm=>absurd rfl hm),fun o i f hl=>⟨(h3 o i f hl).1,?_⟩⟩
  ·rcases hk with hk|⟨d,hd,hk⟩
   ·exact hI k hk
   ·exact hS d k (h1 d hd) hk
  ·obtain⟨b,a1,a2,a3,ad,n,c,a4,a5⟩:=(h3 o i f hl).2
   exact⟨b,a1,a2,a3,ad,n,c,a4,hV o ⟨b,a1⟩ ad n c a4 _ _ a5⟩
 |_=>exact h
theorem dw.stay {ob:List (Nat×OB)} (hI: ∀k,φ.I k→w'.heap[k]?=w.heap[k]?) (hS: ∀d k,d=0∨aW ob d→φ.S d k→w'.heap[k]?=w.heap[k]?)
 (hV: ∀o,aW ob o→ ∀ad n c,φ.V o= .slice (some ad) n c→ ∀i v,w.cell? (ad.add i)=some v→w'.cell? (ad.add i)=some v)
 (hA: ∀ad v,w.cell? ad=some v→(∀k,ad.block=k→w'.heap[k]?=w.heap[k]?)→w'.cell? ad=some v) (hE: ∀ds cells v,dw ob w φ (.ep ds cells) v→dw ob w' φ (.ep ds cells) v) {e:TE} {v:Value} (hv: ∀t es,e≠ .v t es)
 (h:dw ob w φ e v):dw ob w' φ e v:=by
 cases e with
 |v t es=>exact absurd rfl (hv t es)
 |ep ds cells=>exact hE ds cells v h
 |er o path i f=>
  obtain⟨b,h1,h2,ad,n,c,h3,h4⟩:=h;refine⟨b,h1,h2,ad,n,c,h3,?_⟩
  cases path with
  |none=>exact h4
  |some q=>
   obtain⟨i0,f0⟩:=q;obtain⟨a1,z1,rG,a2,ad1,n1,c1,a3,a4⟩:=h4;exact⟨a1,z1,rG,a2,ad1,n1,c1,hV o ⟨b,h1⟩ ad n c h3 _ _ a3,a4⟩
 |_=>exact h
theorem w9 (st:TS):yw id id id st=st:=by
 have h1: ∀(es:List qX),mS id es=es:=by
  intro es
  induction es with
  |nil=>rfl
  |cons c r ih=>cases c<;>simp[mS,ih]
 have h2: ∀e:TE,zN id id e=e:=by
  intro e;cases e<;>first|rfl|(simp only[zN,h1])
 have h3: ∀{α:Type} (f:α→α) (hf: ∀a,f a=a) (l:List (Nat×α)),mapA f l=l:=by
  intro α f hf l
  induction l with
  |nil=>rfl
  |cons a r ih=>obtain⟨j,x⟩:=a;simp only[mapA,hf,ih]
 unfold yw;rw[h3 _ h2,h3 _ (fun l=>List.map_id l)]
 rfl
theorem Sep.YO {bx:List (Nat×List CE)} {ob:List (Nat×OB)} (h:Sep F A w0 w φ bx ob) (g:pY w w'):Sep F A w0 w' φ bx ob where
 arg:=h.arg
 nz:=h.nz
 apart:=h.apart
 read:=h.read
 fresh o k ho hk:=⟨kX (h.fresh o k ho hk).1 g.size,(h.fresh o k ho hk).2⟩
 ro k hk:=⟨kX (h.ro k hk).1 g.size,(h.ro k hk).2⟩
 oC:=h.oC
 box:=h.box
 spot b cs hb:=⟨(h.spot b cs hb).1,kX (h.spot b cs hb).2.1 g.size,(h.spot b cs hb).2.2⟩
 soft b cs j hb hw hj:=by
  rw[mT (w:=w) (g.block _ (by rw[cX];exact(h.spot b cs hb).2.1))];exact h.soft b cs j hb hw hj
theorem bw.YO (h:bw F A w0 φ st tm w) (g:pY w w'):bw F A w0 φ st tm w':=by
 have hI: ∀k,φ.I k→w'.heap[k]?=w.heap[k]?:=fun k hk=>g.block k (h.sep.ro k hk).1;have hS: ∀d k,d=0∨aW st.ob d→φ.S d k→w'.heap[k]?=w.heap[k]?:=fun d k hd hk=>g.block k (h.sep.lt h.frm.size hd hk)
 have hE: ∀ds cells v,dw st.ob w φ (.ep ds cells) v→dw st.ob w' φ (.ep ds cells) v:=by
  intro ds cells v ⟨h1,ad,h2,hr,h3⟩;refine⟨h1,ad,h2,hr,fun j tc hj=> ?_⟩;obtain⟨u,h4,h5⟩:=h3 j tc hj;exact⟨u,g.cell h4,h5.move (fun k hk=>⟨hk,g.block k (h.sep.ahF h.frm.size h1 hk)⟩) (fun hm=>absurd rfl hm)⟩
 have:=h.Hj (f:=id) (g:=id) (k:=id) (φ':=φ) (w':=w') rfl rfl (fun e v he=>he.stay hI hS (fun o ho ad n c hv i v hc=>g.cell hc))
  (fun e v hv he=>dw.stay hI hS (fun o ho ad n c hv i v hc=>g.cell hc) (fun ad v hc _=>g.cell hc) hE hv he)
  (fun b cs hb j hj=>g.aaj (by rw[cX];exact(h.sep.spot b cs hb).2.1))
  (fun o b hb=>(h.obj o b hb).move (fun k hk=>⟨hk,hI k hk⟩) (fun _ k hk=>hS o k (.inr ⟨b,hb⟩) hk))
  (by
    have h3:mapA (List.map (id:CE→CE)) st.bx=st.bx:=by
     have:=congrArg TS.bx (w9 st);exact this
    rw[h3]
    exact h.sep.YO g) (h.frm.YO g)
 rw[w9] at this;exact this
end Go.T
namespace Go.T
variable {F : Nat → Prop} {A : Arg} {w0 w w' : World} {φ φ' : Fp} {st st' : TS} {tm G9 : Array Value}
theorem getD_set_ne (tm:Array Value) (d i:Nat) (v x:Value) (h:i≠d):(tm.setIfInBounds d v).getD i x=tm.getD i x:=by
 simp only[vM,Tf];rw[aK fun h'=>h h'.symm]
theorem Rx (tm:Array Value) (d:Nat) (v x:Value) (h:d<tm.size):(tm.setIfInBounds d v).getD d x=v:=by
 simp only[vM,Tf];simp[h]
theorem Ux (st:TS) (d i:Nat) (e:TE):(st.set d e).get i=if i=d then e else st.get i:=by
 unfold TS.get TS.set;simp only[gn]
 by_cases h:i=d
 ·simp[h]
 ·simp[h]
theorem bw.Ry (h:bw F A w0 φ st tm w) {d:Nat} {e:TE} {v:Value} (hd:d<tm.size) (ht:dw st.ob w φ e v):bw F A w0 φ (st.set d e) (tm.setIfInBounds d v) w where
 tmp i:=by
  rw[Ux]
  by_cases hi:i=d
  ·subst hi;rw[aT rfl,Rx _ _ _ _ hd];exact ht
  ·rw[aK hi,getD_set_ne _ _ _ _ _ hi];exact h.tmp i
 box:=h.box
 obj:=h.obj
 sep:=h.sep
 frm:=h.frm
theorem bw.afa (h:bw F A w0 φ st tm w) {d:Nat} {e:TE} (ht:dw st.ob w φ e (tm.getD d undef)):bw F A w0 φ (st.set d e) tm w where
 tmp i:=by
  rw[Ux]
  by_cases hi:i=d
  ·subst hi;rw[aT rfl];exact ht
  ·rw[aK hi];exact h.tmp i
 box:=h.box
 obj:=h.obj
 sep:=h.sep
 frm:=h.frm
theorem Sep.sub {bx:List (Nat×List CE)} {ob FW:List (Nat×OB)} (h:Sep F A w0 w φ bx ob) (hd: ∀o,aW FW o→aW ob o):Sep F A w0 w φ bx FW where
 arg:=h.arg
 nz o ho:=h.nz o (hd o ho)
 apart o o' k h1 h2:=h.apart o o' k (hd o h1) (hd o' h2)
 read o k ho:=h.read o k (hd o ho)
 fresh o k ho:=h.fresh o k (hd o ho)
 ro:=h.ro
 oC:=h.oC
 box b cs hb hw:=by
  obtain⟨a1,a2,a3,a4⟩:=h.box b cs hb hw;exact⟨a1,fun o ho=>a2 o (hd o ho),a3,a4⟩
 spot:=h.spot
 soft:=h.soft
theorem oW {o d:Nat} {ob:List (Nat×OB)}:aW (qY o ob) d↔d≠o∧aW ob d:=by
 unfold aW;rw[jE]
 by_cases h:d=o
 ·simp[h]
 ·simp[h]
theorem xb {o d:Nat} {ob:List (Nat×OB)} (h:d≠o):ak d (qY o ob)=ak d ob:=by rw[jE,aK h]
theorem ej.kill {o:Nat} {ob:List (Nat×OB)} {e:CE} {v:Value} (h:ej ob w φ e v):ej (qY o ob) w φ (Tj o e) v:=by
 unfold Tj
 cases hd:mR o (g9 e) with
 |true=>trivial
 |false=>
  have hd:=fA.1 hd
  cases e with
  |ref p cut=>
   simp only[g9,jS] at hd;obtain⟨b,h1,h2⟩:=h;exact⟨b,by rw[xb (Ne.symm hd)];exact h1,h2⟩
  |snap ds loc z rows=>
   simp only[g9] at hd;obtain⟨h1,h2,h3⟩:=h;refine⟨fun d hm=> ?_,h2,fun p i f hl=> ?_⟩
   ·rcases h1 d hm with h|h
    ·exact .inl h
    ·exact .inr (oW.2 ⟨fun e=>hd (e▸hm),h⟩)
   ·obtain⟨a1,b,a2,a3⟩:=h3 p i f hl
    have hp:p≠o:=fun e=>by subst e;exact hd a1
    exact⟨a1,b,by rw[xb hp];exact a2,a3⟩
  |_=>exact h
theorem dw.kill {o:Nat} {ob:List (Nat×OB)} {e:TE} {v:Value} (hv: ∀t es,e≠ .v t es) (h:dw ob w φ e v):dw (qY o ob) w φ (aaa o e) v:=by
 cases e with
 |v t es=>exact absurd rfl (hv t es)
 |ep ds cells=>
  simp only[aaa]
  cases hd:mR o ds with
  |true=>trivial
  |false=>
   have hd:=fA.1 hd;obtain⟨h1,h2⟩:=h;refine⟨fun d hm=> ?_,h2⟩;rcases h1 d hm with h|h
   ·exact .inl h
   ·exact .inr (oW.2 ⟨fun e=>hd (e▸hm),h⟩)
 |er p path i f=>
  simp only[aaa]
  cases hd:Nat.beq p o with
  |true=>trivial
  |false=>
   have hd:=sU hd;obtain⟨b,h1,h2⟩:=h;exact⟨b,by rw[xb hd];exact h1,h2⟩
 |_=>exact h
theorem bw.oH (h:bw F A w0 φ st tm w) (o:Nat):bw F A w0 φ (oH o st) tm w:=by
 refine h.Hj (φ':=φ) rfl rfl (fun e v he=>he.kill) (fun e v hv he=>he.kill hv) (fun _ _ _ _ _=>rfl) (fun p b hb=> ?_) ?_ h.frm
 ·rw[jE] at hb
  split at hb
  ·cases hb
  ·exact h.obj p b hb
 ·exact(h.sep.boxes (iQ _)).sub fun d hd=>(oW.1 hd).2
theorem lK {o d:Nat}:aW (T.oH o st).ob d↔d≠o∧aW st.ob d:=oW
theorem Tn {o d:Nat} (h:d≠o):ak d (T.oH o st).ob=ak d st.ob:=xb h
def Fp.more (φ:Fp) (X:Nat→Prop):Fp:={φ with I:=fun k=>φ.I k∨X k}
theorem Uy {X:Nat→Prop} {ds:List Nat} {k:Nat} (h:rd φ ds k):rd (φ.more X) ds k:=h.imp .inl id
theorem aA.pZ {R R' S:Nat→Prop} {m:Mode} {c:TC} {v:Value} (h:aA w R m S c v) (hR: ∀k,R k→R' k):aA w R' m S c v:=
 h.move (fun k hk=>⟨hR k hk,rfl⟩) fun _ _ _=>rfl
theorem ej.more {X:Nat→Prop} {ob:List (Nat×OB)} {e:CE} {v:Value} (h:ej ob w φ e v):ej ob w (φ.more X) e v:=by
 cases e with
 |snap ds loc z rows=>
  obtain⟨h1,h2,h3⟩:=h;exact⟨h1,h2.pZ fun k hk=>Uy hk,h3⟩
 |_=>exact h
theorem dw.more {X:Nat→Prop} {ob:List (Nat×OB)} {e:TE} {v:Value} (hv: ∀t es,e≠ .v t es) (h:dw ob w φ e v):dw ob w (φ.more X) e v:=by
 cases e with
 |v t es=>exact absurd rfl (hv t es)
 |ep ds cells=>
  obtain⟨h1,ad,h2,hr,h3⟩:=h;refine⟨h1,ad,h2,fun hc=>Uy (hr hc),fun j tc hj=> ?_⟩;obtain⟨u,h4,h5⟩:=h3 j tc hj;exact⟨u,h4,h5.pZ fun k hk=>Uy hk⟩
 |_=>exact h
theorem Kb (st:TS):mapA (List.map (id:CE→CE)) st.bx=st.bx:=congrArg TS.bx (w9 st)
theorem bw.more (h:bw F A w0 φ st tm w) {X:Nat→Prop} (hX: ∀k,X k→k<w.heap.size∧(w0.heap.size≤k∨F k∨A.sh k)) (hS: ∀k o,X k→aW st.ob o→ ¬φ.S o k)
 (hB: ∀b cs,ak b st.bx=some cs→Am b=true→ ¬X (φ.β b).block):bw F A w0 (φ.more X) st tm w:=by
 have:=h.Hj (f:=id) (g:=id) (k:=id) (φ':=φ.more X) (w':=w) rfl rfl (fun e v he=>he.more) (fun e v hv he=>he.more hv) (fun _ _ _ _ _=>rfl)
  (fun o b hb=>(h.obj o b hb).pZ fun k hk=> .inl hk)
  (by
    rw[Kb]
    exact {
     arg:=h.sep.arg,nz:=h.sep.nz,apart:=h.sep.apart,fresh:=h.sep.fresh,oC:=h.sep.oC,spot:=h.sep.spot,soft:=h.sep.soft
     read:=fun o k ho hk hI=>hI.elim (h.sep.read o k ho hk) fun hx=>hS k o hx ho hk
     ro:=fun k hk=>hk.elim (h.sep.ro k) (hX k)
     box:=fun b cs hb hw=>by
      obtain⟨a1,a2,a3,a4⟩:=h.sep.box b cs hb hw
      exact⟨fun hI=>hI.elim a1 (hB b cs hb hw),a2,a3,a4⟩}) h.frm
 rw[w9] at this;exact this
def Fp.add (φ:Fp) (o:Nat) (X:Nat→Prop) (v:Value):Fp:={φ with S:=fun d k=>if d=o then X k else φ.S d k,V:=fun d=>if d=o then v else φ.V d}
theorem Uz {o:Nat} {X:Nat→Prop} {v:Value} {ds:List Nat} (hd:o∉ds) {k:Nat} (h:rd φ ds k):rd (φ.add o X v) ds k:=by
 rcases h with h|⟨d,hm,h⟩
 ·exact .inl h
 ·refine .inr ⟨d,hm,?_⟩
  show(if d=o then X k else φ.S d k)
  have hp:d≠o:=fun e=>by subst e;exact hd hm
  rw[aK hp];exact h
theorem vQ {o d:Nat} {X:Nat→Prop} {v:Value} (h:d≠o) {k:Nat}:(φ.add o X v).S d k=φ.S d k:=aK h
theorem acJ {o d:Nat} {X:Nat→Prop} {v:Value} (h:d≠o):(φ.add o X v).V d=φ.V d:=aK h
theorem kj {o d:Nat} {b:OB} {ob:List (Nat×OB)}:aW (o7 o b ob) d↔d=o∨aW ob d:=by
 unfold aW;rw[gn]
 by_cases h:d=o
 ·simp[h]
 ·simp[h]
theorem mU {o d:Nat} {b:OB} {ob:List (Nat×OB)} (h:d≠o):ak d (o7 o b ob)=ak d ob:=by rw[gn,aK h]
theorem nq {o:Nat} {b:OB} {ob:List (Nat×OB)}:ak o (o7 o b ob)=some b:=by rw[gn,aT rfl]
theorem ej.add {o:Nat} {b:OB} {X:Nat→Prop} {V:Value} {ob:List (Nat×OB)} (h0:o≠0) (hn: ¬aW ob o) {e:CE} {v:Value} (h:ej ob w φ e v):ej (o7 o b ob) w (φ.add o X V) e v:=by
 cases e with
 |ref p cut=>
  obtain⟨b',h1,h2⟩:=h;have hp:p≠o:=fun e=>hn ⟨b',e▸h1⟩;refine⟨b',by rw[mU hp];exact h1,?_⟩;rw[acJ hp];exact h2
 |snap ds loc z rows=>
  obtain⟨h1,h2,h3⟩:=h;have hd:o∉ds:=fun hm=>(h1 o hm).elim h0 hn;refine⟨fun d hm=>(h1 d hm).imp id fun h=>kj.2 (.inr h),h2.pZ fun k hk=>Uz hd hk,fun p i f hl=>⟨(h3 p i f hl).1,?_⟩⟩;obtain⟨a1,b',a2,a3,a4,ad,n,c,a5,a6⟩:=h3 p i f hl;have hp:p≠o:=fun e=>hn ⟨b',e▸a2⟩;exact⟨b',by rw[mU hp];exact a2,a3,a4,ad,n,c,by rw[acJ hp];exact a5,a6⟩
 |_=>exact h
theorem dw.add {o:Nat} {b:OB} {X:Nat→Prop} {V:Value} {ob:List (Nat×OB)} (h0:o≠0) (hn: ¬aW ob o) {e:TE} {v:Value} (hv: ∀t es,e≠ .v t es) (h:dw ob w φ e v):
 dw (o7 o b ob) w (φ.add o X V) e v:=by
 cases e with
 |v t es=>exact absurd rfl (hv t es)
 |ep ds cells=>
  obtain⟨h1,ad,h2,hr,h3⟩:=h;have hd:o∉ds:=fun hm=>(h1 o hm).elim h0 hn;refine⟨fun d hm=>(h1 d hm).imp id fun h=>kj.2 (.inr h),ad,h2,fun hc=>Uz hd (hr hc),fun j tc hj=> ?_⟩;obtain⟨u,h4,h5⟩:=h3 j tc hj;exact⟨u,h4,h5.pZ fun k hk=>Uz hd hk⟩
 |er p path i f=>
  obtain⟨b',h1,h2,ad,n,c,h3,h4⟩:=h;have hp:p≠o:=fun e=>hn ⟨b',e▸h1⟩;exact⟨b',by rw[mU hp];exact h1,h2,ad,n,c,by rw[acJ hp];exact h3,h4⟩
 |_=>exact h
theorem afb (st:TS) (o:Nat) (b:OB):st.ahs o b=yw id id (o7 o b) st:=by
 have h:=w9 st;unfold yw at h ⊢;have h1:=congrArg TS.tm h;have h2:=congrArg TS.bx h;simp only at h1 h2;rw[h1,h2];rfl
theorem bw.add (h:bw F A w0 φ st tm w) {o:Nat} {b:OB} {X:Nat→Prop} {v:Value} (h0:o≠0) (hn: ¬aW st.ob o) (hc:aA w φ.I b.m X (.sub b.z b.rows) v)
 (hX: ∀k,X k→k<w.heap.size∧(w0.heap.size≤k∨F k)) (hI: ∀k,X k→ ¬φ.I k) (hS: ∀k d,X k→aW st.ob d→ ¬φ.S d k)
 (hB: ∀b cs,ak b st.bx=some cs→Am b=true→ ¬X (φ.β b).block):bw F A w0 (φ.add o X v) (st.ahs o b) tm w:=by
 rw[afb];refine h.Hj (φ':=φ.add o X v) (w':=w) rfl rfl (fun e u he=>he.add h0 hn) (fun e u hv he=>he.add h0 hn hv) (fun _ _ _ _ _=>rfl) (fun p b' hb=> ?_) ?_ h.frm
 ·unfold oI
  by_cases hp:p=o
  ·subst hp
   rw[nq] at hb
   cases hb
   show aA w φ.I b.m (fun k=>if p=p then X k else φ.S p k) (.sub b.z b.rows) (if p=p then v else φ.V p);simp only[if_true];exact hc
  ·rw[mU hp] at hb
   have:=h.obj p b' hb;unfold oI at this;show aA w φ.I b'.m (fun k=>if p=o then X k else φ.S p k) (.sub b'.z b'.rows) (if p=o then v else φ.V p);simp only[aK hp];exact this
 ·rw[Kb]
  exact {
   arg:=by
    show(fun k=>if 0=o then X k else φ.S 0 k)=A.all;simp only[aK (Ne.symm h0)];exact h.sep.arg
   nz:=fun d hd=>(kj.1 hd).elim (fun e=>e▸h0) (h.sep.nz d)
   apart:=fun d d' k h1 h2 h3 h4=>by
    by_cases e1:d=o
    ·by_cases e2:d'=o
     ·rw[e1,e2]
     ·subst e1
      rw[vQ e2] at h4
      have h3:X k:=by have ZZ:(if d=d then X k else φ.S d k):=h3;simpa using ZZ
      exact absurd h4 (hS k d' h3 ((kj.1 h2).resolve_left e2))
    ·rw[vQ e1] at h3
     by_cases e2:d'=o
     ·subst e2
      have h4:X k:=by have h4':(if d'=d' then X k else φ.S d' k):=h4;simpa using h4'
      exact absurd h3 (hS k d h4 ((kj.1 h1).resolve_left e1))
     ·rw[vQ e2] at h4
      exact h.sep.apart d d' k ((kj.1 h1).resolve_left e1) ((kj.1 h2).resolve_left e2) h3 h4
   read:=fun d k hd hk=>by
    by_cases e1:d=o
    ·subst e1
     have hk:X k:=by have hk':(if d=d then X k else φ.S d k):=hk;simpa using hk'
     exact hI k hk
    ·rw[vQ e1] at hk
     exact h.sep.read d k ((kj.1 hd).resolve_left e1) hk
   fresh:=fun d k hd hk=>by
    by_cases e1:d=o
    ·subst e1
     have hk:X k:=by have hk':(if d=d then X k else φ.S d k):=hk;simpa using hk'
     exact hX k hk
    ·rw[vQ e1] at hk
     exact h.sep.fresh d k ((kj.1 hd).resolve_left e1) hk
   ro:=h.sep.ro
   oC:=h.sep.oC
   box:=fun b' cs hb hw=>by
    obtain⟨a1,a2,a3,a4⟩:=h.sep.box b' cs hb hw;refine⟨a1,fun d hd hk=> ?_,a3,a4⟩
    by_cases e1:d=o
    ·subst e1
     have hk:X (φ.β b').block:=by have hk':(if d=d then X (φ.β b').block else φ.S d (φ.β b').block):=hk;simpa using hk'
     exact hB b' cs hb hw hk
    ·rw[vQ e1] at hk
     exact a2 d ((kj.1 hd).resolve_left e1) hk
   spot:=h.sep.spot
   soft:=h.sep.soft}
theorem bw.EH (h:bw F A w0 φ st tm w) {o:Nat} {b:OB} {X:Nat→Prop} {v:Value} (h0:o≠0) (hc:aA w φ.I b.m X (.sub b.z b.rows) v)
 (hX: ∀k,X k→k<w.heap.size∧(w0.heap.size≤k∨F k)) (hI: ∀k,X k→ ¬φ.I k) (hS: ∀k d,X k→d≠o→aW st.ob d→ ¬φ.S d k)
 (hB: ∀b cs,ak b st.bx=some cs→Am b=true→ ¬X (φ.β b).block):bw F A w0 (φ.add o X v) (T.EH o b st) tm w:=
 (h.oH o).add h0 (fun hd=>(lK.1 hd).1 rfl) hc hX hI (fun k d hx hd=>hS k d hx (lK.1 hd).1 (lK.1 hd).2)
   fun b cs hb hw=>by
    obtain⟨cs0,h1,_⟩:=iQ _ b cs hb;exact hB b cs0 h1 hw
end Go.T
namespace Go.T
variable {F : Nat → Prop} {A : Arg} {w0 w w' : World} {φ φ' : Fp} {st st' : TS} {tm G9 : Array Value}
attribute [local semireducible] au in
theorem BF (rows:List (List TC)) (l h:Int):au rows l h=(rows.take h.toNat).drop l.toNat:=rfl
theorem OP {rows:List (List TC)} {l h:Int} (h2:h≤rows.length):(au rows l h).length=h.toNat-l.toNat:=by
 rw[BF,lD,gz]
 have:h.toNat≤rows.length:=by omega
 omega
theorem UA {rows:List (List TC)} {l h:Int} {i f:Nat} {tc:TC} (ht:yC (au rows l h) i f=some tc):yC rows (i+l.toNat) f=some tc∧i+l.toNat<h.toNat:=by
 unfold yC at ht ⊢;rw[BF,qL,EC] at ht
 by_cases hi:l.toNat+i<h.toNat
 ·rw[aT hi] at ht
  rw[Nat.add_comm];exact⟨ht,hi⟩
 ·rw[aK hi] at ht;cases ht
theorem ER {a:Addr} (n:Nat) (h:a.spot=none):(a.add n).spot=none:=by unfold Addr.add;split<;>simp[h]
theorem wj {a:Addr} (n:Nat) (h:a.spot=none):a.add n=⟨a.block,a.off+n,none⟩:=by
 unfold Addr.add;split
 ·subst n;cases a;simp_all
 ·rfl
theorem aA.cut {R S:Nat→Prop} {m:Mode} {z:Nat} {rows:List (List TC)} {V v:Value} {l h:Int} (k:aA w R m S (.sub z rows) V) (hc:Cn z rows.length l h V v):
 aA w R m S (.sub z (au rows l h)) v:=by
 cases k with
 |sub _ _ _ _ A c u T k hn=>
  obtain⟨h0,h1,h2,A1,A',c1,e1,rfl,e2,e3,e4⟩:=hc
  cases e1
  have hlen:=OP (rows:=rows) (l:=l) h2
  have hle:h.toNat≤rows.length:=by omega
  rw[←hlen];have hcl:=k.len
  have hne: ∀i f tc,yC (au rows l h) i f=some tc→c≠l.toNat:=fun i f tc ht=>by
   have:=(UA ht).2;omega
  refine .sub _ _ _ _ A' (c-l.toNat) (fun i f=>u (i+l.toNat) f) (fun i f=>T (i+l.toNat) f) ?_ fun i f tc ht=>hn _ _ _ (UA ht).1
  have hb: ∀ad',A'=some ad'→ ∃ad,A=some ad∧ad'.block=ad.block∧(ad.spot=none→ad'.spot=none):=fun ad' ha=>by
   cases hA:A with
   |none=>rw[e3 hA] at ha;cases ha
   |some ad=>
    obtain⟨ad2,b1,b2,b3⟩:=e4 ad hA;rw[b1] at ha;cases ha;exact⟨ad,rfl,b2,b3⟩
  have hnm:rows=[]→au rows l h=[]:=fun e=>by rw[BF,e];simp
  refine⟨by omega,cU (Nat.sub_le _ _) k.cap,k.z0,fun r hr=>k.width r ?_,fun hr=> ?_,fun ad' ha i f tc ht=> ?_,fun hm ad' ha hr=> ?_,fun hm=>⟨fun ha=> ?_,fun ad' ha=> ?_⟩,fun hm h1z ad' ha i=> ?_,fun hm i f q hq=> ?_⟩
  ·rw[BF] at hr
   exact Aq (EE hr)
  ·obtain⟨ad,ha⟩:=k.addr fun e=>hr (hnm e)
   obtain⟨ad',b1,_⟩:=e4 ad ha;exact⟨ad',b1⟩
  ·obtain⟨ad,hA,_⟩:=hb ad' ha
   have:=e2 (hne i f tc ht);rw[hA] at this;simp only[nB] at this;rw[this] at ha
   cases ha
   rw[Addr.add_add];have:=k.cell ad hA _ _ _ (UA ht).1;rw[uQ] at this;rw[show l.toNat*z+(i*z+f)=i*z+l.toNat*z+f by omega];exact this
  ·obtain⟨ad,hA,b1,_⟩:=hb ad' ha
   rw[b1];exact k.read hm ad hA fun e=>hr (hnm e)
  ·cases hA:A with
   |none=>rw[(k.own hm).1 hA];omega
   |some ad=>obtain⟨ad2,b1,_⟩:=e4 ad hA;rw[b1] at ha;cases ha
  ·obtain⟨ad,hA,b1,b2⟩:=hb ad' ha
   obtain⟨a1,a2,a3⟩:=(k.own hm).2 ad hA;refine⟨by rw[b1];exact a1,b2 a2,fun j hj=> ?_⟩
   have ak9:c≠l.toNat:=fun e=>by rw[e] at hj;simp at hj
   have:=e2 ak9;rw[hA] at this;simp only[nB] at this;rw[this] at ha
   cases ha
   rw[wj _ a2];simp only;rw[yu];refine a3 _ ?_
   have:l.toNat*z+(c-l.toNat)*z≤c*z:=by
    rw[←uQ];exact sw _ az
   omega
  ·obtain⟨ad,hA,b1,b2⟩:=hb ad' ha
   rw[b1];exact k.soft hm h1z ad hA i
  ·obtain⟨a1,a2,a3⟩:=k.qV hm _ _ _ hq
   refine⟨a1,fun ad' ha=> ?_,fun i' f' Rj=> ?_⟩
   ·obtain⟨ad,hA,b1,_⟩:=hb ad' ha
    rw[b1];exact a2 ad hA
   ·obtain⟨c1,c2⟩:=a3 _ _ Rj
    exact⟨by omega,c2⟩
theorem oI.cut {o:Nat} {b:OB} (h:oI w φ o b) {cut:Option (Int×Int)} {v:Value} (hc:match(generalizing:=false) cut with|none=>v=φ.V o|some (l,h)=>Cn b.z b.rows.length l h (φ.V o) v):
 aA w φ.I b.m (φ.S o) (.sub b.z (Wl cut b.rows)) v:=by
 cases cut with
 |none=>simp only at hc;rw[hc];exact h
 |some q=>obtain⟨l,h1⟩:=q;exact aA.cut h hc
theorem aba {o:Nat} {l:Option (Nat×Int×Nat)} {p:Nat} {i:Int} {f:Nat} (h:aht o l=some (p,i,f)):l=some (p,i,f)∧p≠o:=by
 unfold aht at h
 cases l with
 |none=>cases h
 |some q=>
  obtain⟨a,b,c⟩:=q;simp only at h
  cases h1:Nat.beq a o with
  |true=>rw[h1] at h;cases h
  |false=>rw[h1] at h;cases h;exact⟨rfl,sU h1⟩
theorem YP {o:Nat} {ds:List Nat} {k:Nat} (h:rd φ ds k):rd (φ.more (φ.S o)) (Wk o ds) k:=by
 rcases h with h|⟨d,hd,h⟩
 ·exact .inl (.inl h)
 ·by_cases e:d=o
  ·subst e;exact .inl (.inr h)
  ·exact .inr ⟨d,Aw.2 ⟨hd,e⟩,h⟩
theorem ej.freeze {o:Nat} {b:OB} {ob:List (Nat×OB)} (hb:ak o ob=some b) (hO:oI w φ o b) {e:CE} {v:Value} (h:ej ob w φ e v):ej (qY o ob) w (φ.more (φ.S o)) (Ol o b e) v:=by
 cases e with
 |ref p cut=>
  obtain⟨b',h1,h2⟩:=h;simp only[Ol]
  cases hd:Nat.beq p o with
  |true=>
   have:=jj hd;subst this;rw[hb] at h1;cases h1;refine And.intro (fun d hm=>by cases hm) (And.intro ?_ (fun _ _ _ hl=>by cases hl));exact(hO.cut h2).freeze (fun k hk=> .inl (.inl hk)) fun _ k hk=> .inl (.inr hk)
  |false=>
   have:=sU hd;exact⟨b',by rw[xb this];exact h1,h2⟩
 |snap ds loc z rows=>
  obtain⟨h1,h2,h3⟩:=h;refine⟨fun d hm=> ?_,h2.pZ fun k hk=>YP hk,fun p i f hl=> ?_⟩
  ·obtain⟨a1,a2⟩:=Aw.1 hm
   exact(h1 d a1).imp id fun h=>oW.2 ⟨a2,h⟩
  ·obtain⟨a1,a2⟩:=aba hl
   obtain⟨a3,b',a4,a5⟩:=h3 p i f a1;exact⟨Aw.2 ⟨a3,a2⟩,b',by rw[xb a2];exact a4,a5⟩
 |_=>exact h
theorem dw.freeze {o:Nat} {ob:List (Nat×OB)} {e:TE} {v:Value} (hv: ∀t es,e≠ .v t es) (h:dw ob w φ e v):dw (qY o ob) w (φ.more (φ.S o)) (Uo o e) v:=by
 cases e with
 |v t es=>exact absurd rfl (hv t es)
 |ep ds cells=>
  obtain⟨h1,ad,h2,hr,h3⟩:=h;refine⟨fun d hm=> ?_,ad,h2,fun hc=>YP (hr hc),fun j tc hj=> ?_⟩
  ·obtain⟨a1,a2⟩:=Aw.1 hm
   exact(h1 d a1).imp id fun h=>oW.2 ⟨a2,h⟩
  ·obtain⟨u,h4,h5⟩:=h3 j tc hj
   exact⟨u,h4,h5.pZ fun k hk=>YP hk⟩
 |er p path i f=>
  simp only[Uo]
  cases hd:Nat.beq p o with
  |true=>trivial
  |false=>
   obtain⟨b,h1,h2⟩:=h;exact⟨b,by rw[xb (sU hd)];exact h1,h2⟩
 |_=>exact h
theorem bw.yx (h:bw F A w0 φ st tm w) (o:Nat): ∃φ',bw F A w0 φ' (yx st o) tm w∧φ'.β=φ.β∧φ'.V=φ.V∧φ'.S=φ.S∧ ∀k,φ'.I k↔φ.I k∨(aW st.ob o∧φ.S o k):=by
 unfold T.yx
 cases hb:ak o st.ob with
 |none=>exact⟨φ,h,rfl,rfl,rfl,fun k=>⟨.inl,fun hk=>hk.elim id fun⟨⟨b,hb'⟩,_⟩=>by rw[hb] at hb';cases hb'⟩⟩
 |some b=>
  refine⟨φ.more (φ.S o),h.Hj (φ':=φ.more (φ.S o)) (w':=w) rfl rfl (fun e v he=>he.freeze hb (h.obj o b hb)) (fun e v hv he=>he.freeze hv) (fun _ _ _ _ _=>rfl) (fun p b' hp=> ?_) ?_ h.frm,rfl,rfl,rfl,fun k=>⟨fun hk=>hk.imp id fun hk=>⟨⟨b,hb⟩,hk⟩,fun hk=>hk.imp id fun hk=>hk.2⟩⟩
  ·rw[jE] at hp
   split at hp
   ·cases hp
   ·exact(h.obj p b' hp).pZ fun k hk=> .inl hk
  ·have hs:=(h.sep.boxes (iQ (Ol o b))).sub (FW:=qY o st.ob) fun d hd=>(oW.1 hd).2
   have hin:aW st.ob o:=⟨b,hb⟩
   exact {
    arg:=hs.arg,nz:=hs.nz,apart:=hs.apart,fresh:=hs.fresh,oC:=hs.oC,spot:=hs.spot,soft:=hs.soft
    read:=fun p k hp hk hI=>by
     obtain⟨a1,a2⟩:=oW.1 hp;rcases hI with hI|hI
     ·exact h.sep.read p k a2 hk hI
     ·exact a1 (h.sep.apart p o k a2 hin hk hI)
    ro:=fun k hk=>hk.elim (h.sep.ro k) fun hk=>⟨(h.sep.fresh o k hin hk).1,(h.sep.fresh o k hin hk).2.imp id .inl⟩
    box:=fun b' cs hb' hw=>by
     obtain⟨a1,a2,a3,a4⟩:=hs.box b' cs hb' hw;obtain⟨cs0,c1,_⟩:=iQ _ b' cs hb'
     exact⟨fun hI=>hI.elim a1 ((h.sep.box b' cs0 c1 hw).2.1 o hin),a2,a3,a4⟩}
theorem bw.vm (h:bw F A w0 φ st tm w) {o:Nat} {b b':OB} {X:Nat→Prop} (hb:ak o st.ob=some b) (hz:b'.z=b.z) (hl:b'.rows.length=b.rows.length)
 (hc:aA w' φ.I b'.m X (.sub b'.z b'.rows) (φ.V o)) (hf:Frm F w0 w') (hsz:w.heap.size≤w'.heap.size) (hw: ∀k,k<w.heap.size→ ¬φ.S o k→w'.heap[k]?=w.heap[k]?)
 (hX: ∀k,X k→k<w'.heap.size∧(w0.heap.size≤k∨F k)) (hI: ∀k,X k→ ¬φ.I k) (hS: ∀k d,X k→d≠o→aW st.ob d→ ¬φ.S d k)
 (hB: ∀b cs,ak b st.bx=some cs→Am b=true→ ¬X (φ.β b).block):bw F A w0 (φ.add o X (φ.V o)) (vm o b' st) tm w':=by
 have hin:aW st.ob o:=⟨b,hb⟩;have h0:o≠0:=h.sep.nz o hin
 have hV:(φ.add o X (φ.V o)).V=φ.V:=by
  funext d
  show(if d=o then φ.V o else φ.V d)=φ.V d
  split
  ·subst_vars;rfl
  ·rfl
 have qJ: ∀d,aW (o7 o b' st.ob) d↔aW st.ob d:=fun d=>by
  rw[kj];exact⟨fun h=>h.elim (fun e=>e▸hin) id,.inr⟩
 have stI: ∀k,φ.I k→w'.heap[k]?=w.heap[k]?:=fun k hk=>hw k (h.sep.ro k hk).1 fun hs=>h.sep.read o k hin hs hk
 have stS: ∀d k,d≠o→d=0∨aW st.ob d→φ.S d k→w'.heap[k]?=w.heap[k]?:=fun d k hne hd hk=>hw k (h.sep.lt h.frm.size hd hk) fun hs=>by
  rcases hd with rfl|hd
  ·rw[h.sep.arg] at hk
   have:=h.sep.oC k hk;rcases (h.sep.fresh o k hin hs).2 with h3|h3
   ·omega
   ·exact this.2 h3
  ·exact hne (h.sep.apart d o k hd hin hk hs)
 have stR: ∀ds k,o∉ds→(∀d∈ds,d=0∨aW st.ob d)→rd φ ds k→rd (φ.add o X (φ.V o)) ds k∧w'.heap[k]?=w.heap[k]?:=fun ds k hn hd hk=>by
  refine⟨Uz hn hk,?_⟩;rcases hk with hk|⟨d,hm,hk⟩
  ·exact stI k hk
  ·exact stS d k (fun e=>by subst e;exact hn hm) (hd d hm) hk
 have stV: ∀p b1 ad n c i f tc u,p≠o→ak p st.ob=some b1→φ.V p= .slice (some ad) n c→yC b1.rows i f=some tc→w.cell? (ad.add (i*b1.z+f))=some u→w'.cell? (ad.add (i*b1.z+f))=some u:=by
  intro p b1 ad n c i f tc u hne hp hv ht hcell;have hO:=h.obj p b1 hp;unfold oI at hO;rw[hv] at hO
  have hS:φ.S p ad.block:=by
   cases hO with
   |sub _ _ _ _ _ _ u T k hn=>exact(k.own (by unfold OB.m;split<;>simp)).2 ad rfl|>.1
  rw[gH (w:=w)]
  ·exact hcell
  ·rw[cX];exact stS p _ hne (.inr ⟨b1,hp⟩) hS
 have cbox: ∀p cs,ak p st.bx=some cs→w'.heap[(φ.β p).block]?=w.heap[(φ.β p).block]?:=fun p cs hp=>by
  obtain⟨a1,a2,a3⟩:=h.sep.spot p cs hp;refine hw _ a2 fun hs=> ?_
  cases GC:Am p with
  |true=>exact(h.sep.box p cs hp GC).2.1 o hin hs
  |false=>
   have:=h.sep.oC _ (a3 GC);rcases (h.sep.fresh o _ hin hs).2 with h3|h3
   ·omega
   ·exact this.2 h3
 refine h.Hj (φ':=φ.add o X (φ.V o)) rfl rfl (fun e v he=> ?_) (fun e v hv he=> ?_) (fun p cs hp j hj=> ?_) (fun p b1 hp=> ?_) ?_ hf
 ·cases e with
  |ref p cut=>
   obtain⟨b1,h1,h2⟩:=he
   by_cases hp:p=o
   ·subst hp
    rw[hb] at h1;cases h1;refine⟨b',nq,?_⟩;rw[hV]
    cases cut with
    |none=>exact h2
    |some q=>obtain⟨l,r⟩:=q;simp only at h2 ⊢;rw[hz,hl];exact h2
   ·exact⟨b1,by rw[mU hp];exact h1,by rw[hV];exact h2⟩
  |snap ds loc z rows=>
   simp only[YF]
   cases hd:mR o ds with
   |true=>trivial
   |false=>
    have hd:=fA.1 hd;obtain⟨h1,h2,h3⟩:=he;refine⟨fun d hm=>(h1 d hm).imp id (qJ d).2,h2.move (fun k hk=>stR ds k hd h1 hk) (fun hm=>absurd rfl hm),fun p i f hl=> ?_⟩;obtain⟨a1,b1,a2,a3,a4,ad,n,c,a5,a6⟩:=h3 p i f hl
    have hp:p≠o:=fun e=>by subst e;exact hd a1
    refine⟨a1,b1,by rw[mU hp];exact a2,a3,a4,ad,n,c,by rw[hV];exact a5,stV p b1 ad n c _ _ _ _ hp a2 a5 a4 a6⟩
  |_=>exact he
 ·cases e with
  |v t es=>exact absurd rfl (hv t es)
  |ep ds cells=>
   simp only[Un]
   cases hd:mR o ds with
   |true=>trivial
   |false=>
    have hd:=fA.1 hd;obtain⟨h1,ad,h2,hr,h3⟩:=he;refine⟨fun d hm=>(h1 d hm).imp id (qJ d).2,ad,h2,fun hc=>(stR ds _ hd h1 (hr hc)).1,fun j tc hj=> ?_⟩;obtain⟨u,h4,h5⟩:=h3 j tc hj
    have hc:cells≠[]:=fun e=>by rw[e] at hj;simp at hj
    exact⟨u,by rw[gH (w:=w) (by rw[cX];exact(stR ds _ hd h1 (hr hc)).2)];exact h4,h5.move (fun k hk=>stR ds k hd h1 hk) (fun hm=>absurd rfl hm)⟩
  |er p path i f=>
   obtain⟨b1,h1,h2,ad,n,c,h3,h4⟩:=he
   cases path with
   |none=>
    simp only[Un]
    by_cases hp:p=o
    ·subst hp
     rw[hb] at h1;cases h1;exact⟨b',nq,h2,ad,n,c,by rw[hV];exact h3,by rw[hz];exact h4⟩
    ·exact⟨b1,by rw[mU hp];exact h1,h2,ad,n,c,by rw[hV];exact h3,h4⟩
   |some q=>
    obtain⟨i0,f0⟩:=q;simp only[Un]
    cases hd:Nat.beq p o with
    |true=>trivial
    |false=>
     have hp:=sU hd;obtain⟨a1,z1,rG,a2,ad1,n1,c1,a3,a4⟩:=h4;exact⟨b1,by rw[mU hp];exact h1,h2,ad,n,c,by rw[hV];exact h3,a1,z1,rG,a2,ad1,n1,c1,stV p b1 ad n c _ _ _ _ hp h1 h3 a2 a3,a4⟩
  |_=>exact he
 ·exact gH (by rw[cX];exact cbox p cs hp)
 ·unfold oI
  by_cases V4:p=o
  ·subst V4
   rw[nq] at hp;cases hp;rw[hV];show aA w' φ.I b'.m (fun k=>if p=p then X k else φ.S p k) (.sub b'.z b'.rows) (φ.V p);simp only[if_true];exact hc
  ·rw[mU V4] at hp
   rw[hV];show aA w' φ.I b1.m (fun k=>if p=o then X k else φ.S p k) (.sub b1.z b1.rows) (φ.V p);simp only[aK V4];exact(h.obj p b1 hp).move (fun k hk=>⟨hk,stI k hk⟩) fun _ k hk=>stS p k V4 (.inr ⟨b1,hp⟩) hk
 ·have hs:=h.sep.boxes (iQ (YF o))
  have self: ∀k,(φ.add o X (φ.V o)).S o k→X k:=fun k hk=>by
   have hk':(if o=o then X k else φ.S o k):=hk;simpa using hk'
  exact {
   arg:=by
    show(fun k=>if 0=o then X k else φ.S 0 k)=A.all;simp only[aK (Ne.symm h0)];exact h.sep.arg
   nz:=fun d hd=>h.sep.nz d ((qJ d).1 hd)
   apart:=fun d d' k h1 h2 h3 h4=>by
    have i1:=(qJ d).1 h1;have i2:=(qJ d').1 h2
    by_cases e1:d=o
    ·subst e1
     by_cases e2:d'=d
     ·exact e2.symm
     ·rw[vQ e2] at h4;exact absurd h4 (hS k d' (self k h3) e2 i2)
    ·rw[vQ e1] at h3
     by_cases e2:d'=o
     ·subst e2;exact absurd h3 (hS k d (self k h4) e1 i1)
     ·rw[vQ e2] at h4;exact h.sep.apart d d' k i1 i2 h3 h4
   read:=fun d k hd hk=>by
    have hd:=(qJ d).1 hd
    by_cases e1:d=o
    ·subst e1;exact hI k (self k hk)
    ·rw[vQ e1] at hk;exact h.sep.read d k hd hk
   fresh:=fun d k hd hk=>by
    have hd:=(qJ d).1 hd
    by_cases e1:d=o
    ·subst e1;exact hX k (self k hk)
    ·rw[vQ e1] at hk
     exact⟨kX (h.sep.fresh d k hd hk).1 hsz,(h.sep.fresh d k hd hk).2⟩
   ro:=fun k hk=>⟨kX (h.sep.ro k hk).1 hsz,(h.sep.ro k hk).2⟩
   oC:=h.sep.oC
   box:=fun p cs hp GC=>by
    obtain⟨cs0,c1,_⟩:=iQ _ p cs hp;obtain⟨a1,a2,a3,a4⟩:=hs.box p cs hp GC;refine⟨a1,fun d hd hk=> ?_,a3,a4⟩;have hd:=(qJ d).1 hd
    by_cases e1:d=o
    ·subst e1;exact hB p cs0 c1 GC (self _ hk)
    ·rw[vQ e1] at hk;exact a2 d hd hk
   spot:=fun p cs hp=>⟨(hs.spot p cs hp).1,kX (hs.spot p cs hp).2.1 hsz,(hs.spot p cs hp).2.2⟩
   soft:=fun p cs j hp GC hj=>by
    obtain⟨cs0,c1,c2⟩:=iQ _ p cs hp;rw[mT (w:=w) (by rw[cX];exact cbox p cs0 c1)]
    exact h.sep.soft p cs0 j c1 GC az}
end Go.T
namespace Go.T
variable {F : Nat → Prop} {A : Arg} {w0 w w' : World} {φ φ' : Fp} {st st' : TS} {tm G9 : Array Value}
theorem bw.less (h:bw F A w0 φ st tm w) (ht: ∀i,st'.get i= .dead∨st'.get i=st.get i) (hb: ∀b cs,ak b st'.bx=some cs→ak b st.bx=some cs) (ho:st'.ob=st.ob):bw F A w0 φ st' tm w where
 tmp i:=by
  rw[ho];rcases ht i with h1|h1
  ·rw[h1];trivial
  ·rw[h1];exact h.tmp i
 box b cs h1:=by rw[ho];exact h.box b cs (hb b cs h1)
 obj:=by rw[ho];exact h.obj
 sep:=by rw[ho];exact h.sep.boxes fun b cs h1=>⟨cs,hb b cs h1,rfl⟩
 frm:=h.frm
theorem Wv (st:TS) (l:List Nat) (bx:List (Nat×List CE)) (ob:List (Nat×OB)) (i:Nat):(⟨Cm l st.tm,bx,ob⟩:TS).get i= .dead∨(⟨Cm l st.tm,bx,ob⟩:TS).get i=st.get i:=by
 unfold TS.get;simp only[OO]
 by_cases h:i∈l
 ·right;rw[aT h]
 ·left;rw[aK h]
theorem bw.keep (h:bw F A w0 φ st tm w) (l:List Nat):bw F A w0 φ ⟨Cm l st.tm,st.bx,st.ob⟩ tm w:=
 h.less (Wv st l st.bx st.ob) (fun _ _ h=>h) rfl
theorem OQ (l:List Nat) (j:Nat): ∀(m:List (Nat×List CE)) (cs:List CE),ak j (yB l m)=some cs→ak j m=some cs
 |[],cs,h=>by simp[yB,ak] at h
 |(a,x)::r,cs,h=>by
  have ih:=OQ l j r cs
  have key:ak j ((a,x)::yB l r)=some cs→ak j ((a,x)::r)=some cs:=fun h=>by
   simp only[ak] at h ⊢
   cases h1:Nat.beq a j with
   |true=>rw[h1] at h;exact h
   |false=>rw[h1] at h;exact ih h
  have skip:(100000≤a→False)→a∉l→ak j (yB l r)=some cs→ak j ((a,x)::r)=some cs:=fun h1 h2 h=>by
   simp only[ak]
   cases h3:Nat.beq a j with
   |false=>exact ih h
   |true=>
    exfalso
    have h3:=jj h3;subst h3
    have: ∀(m:List (Nat×List CE)),ak a (yB l m)=none:=by
     intro m
     induction m with
     |nil=>rfl
     |cons p r ih=>
      obtain⟨c,y⟩:=p;simp only[yB]
      have hk: ∀(hc:c≠a),ak a ((c,y)::yB l r)=none:=fun hc=>by
       simp only[ak,beq_false hc];exact ih
      split
      ·rename_i h4
       exact hk fun e=>h1 (by subst e;exact sR h4)
      ·split
       ·rename_i h5
        exact hk fun e=>h2 (by subst e;exact lV.1 h5)
       ·exact ih
    rw[this] at h;cases h
  simp only[yB] at h
  split at h
  ·exact key h
  ·rename_i h4
   split at h
   ·exact key h
   ·rename_i h5
    exact skip (fun h6=>by rw[OC h6] at h4;cases h4) (fA.1 h5) h
theorem bw.ai9 (h:bw F A w0 φ st tm w) (l:List Nat):bw F A w0 φ ⟨Cm l st.tm,yB l st.bx,st.ob⟩ tm w:=
 h.less (Wv st l (yB l st.bx) st.ob) (fun b cs hb=>OQ l b st.bx cs hb) rfl
theorem abb {b:Nat} {ob:List (Nat×OB)} {β:Nat→Addr} (hβ: ∀c,c≠b→β c=φ.β c) {e:TE} {v:Value} (hn:OH b e=false) (h:dw ob w φ e v):dw ob w {φ with β:=β} e v:=by
 have ahb: ∀(c:qX) (u:Value),agU b c=false→nK ob w φ c u→nK ob w {φ with β:=β} c u:=by
  intro c u hc h
  cases c with
  |ptr c=>
   simp only[nK] at h ⊢;rw[hβ c (sU hc)];exact h
  |mk a cs=>cases a<;>exact h
 cases e with
 |v t es=>
  simp only[OH,List.any_eq_false] at hn
  cases t with
  |true=>
   obtain⟨vs,h1,h2,h3⟩:=h;refine⟨vs,h1,h2,fun k c hk=> ?_⟩;obtain⟨u,h4,h5⟩:=h3 k c hk;exact⟨u,h4,ahb c u (by simpa using hn c (ja hk)) h5⟩
  |false=>
   obtain⟨c,rfl,h3⟩:=h;exact⟨c,rfl,ahb c v (by simpa using hn c cE) h3⟩
 |bp c off=>
  simp only[dw] at h ⊢;rw[hβ c (sU hn)];exact h
 |fn f caps=>
  simp only[dw] at h ⊢;rw[h];have hn:=fA.1 hn
  congr 2
  refine List.map_congr_left fun c hc=> ?_;rw[hβ c fun e=>by subst e;exact hn hc]
 |_=>exact h
theorem To (b:Nat) (st:TS) (i:Nat):(Tk b st).get i=if OH b (st.get i)=true then .dead else st.get i:=by
 unfold TS.get Tk;simp only[uc]
 cases ak i st.tm with
 |none=>simp
 |some e=>
  simp only[nB]
  cases OH b e<;>simp
theorem bw.Tk (h:bw F A w0 φ st tm w) (b:Nat):bw F A w0 φ (Tk b st) tm w:=by
 refine h.less (fun i=> ?_) (fun c cs hc=> ?_) rfl
 ·rw[To];split<;>simp
 ·have:ak c (qY b st.bx)=some cs:=hc
  rw[jE] at this
  split at this
  ·cases this
  ·exact this
def Fp.box (φ:Fp) (b:Nat) (ad:Addr):Fp:={φ with β:=fun c=>if c=b then ad else φ.β c}
theorem xd {b:Nat} {ad:Addr}:(φ.box b ad).β b=ad:=aT rfl
theorem o9 {b c:Nat} {ad:Addr} (h:c≠b):(φ.box b ad).β c=φ.β c:=aK h
theorem bw.J1 (h:bw F A w0 φ st tm w) {b:Nat} {cs:List CE} {ad:Addr} (hw:Am b=true) (hs:ad.spot=none) (hlt:ad.block<w.heap.size) (hS: ∀o,aW st.ob o→ ¬φ.S o ad.block)
 (hI: ¬φ.I ad.block) (hF:w0.heap.size≤ad.block∨F ad.block) (hB: ∀b' cs',ak b' st.bx=some cs'→b'≠b→(φ.β b').block≠ad.block)
 (hc: ∀(j:Nat) (e:CE),cs[j]?=some e→ ∃v,w.cell? (ad.add j)=some v∧v.cells= #[v]∧ej st.ob w φ e v) (hf: ∀j,j<cs.length→w.frozen? (ad.add j)=false):bw F A w0 (φ.box b ad) (J1 b cs st) tm w:=by
 have yh: ∀c,ak c (T.J1 b cs st).bx=if c=b then some cs else ak c st.bx:=fun c=>by
  show ak c (o7 b cs (qY b st.bx))=_;rw[gn,jE]
  by_cases hc:c=b<;>simp[hc]
 refine⟨fun i=> ?_,fun c cs' yl j e he=> ?_,h.obj,?_,h.frm⟩
 ·show dw st.ob w (φ.box b ad) ((T.Tk b st).get i) (tm.getD i undef)
  rw[To]
  split
  ·trivial
  ·rename_i hn
   exact abb (fun c hc=>o9 hc) (by simpa using hn) (h.tmp i)
 ·rw[yh] at yl
  by_cases hcb:c=b
  ·subst hcb
   rw[aT rfl] at yl;cases yl;rw[xd];exact hc j e he
  ·rw[aK hcb] at yl
   rw[o9 hcb];exact h.box c cs' yl j e he
 ·exact {
   arg:=h.sep.arg,nz:=h.sep.nz,apart:=h.sep.apart,read:=h.sep.read,fresh:=h.sep.fresh,ro:=h.sep.ro,oC:=h.sep.oC
   box:=fun c cs' yl hwc=>by
    rw[yh] at yl
    by_cases hcb:c=b
    ·subst hcb
     rw[xd];refine⟨hI,hS,hF,fun b' V3 hb' hne=> ?_⟩;rw[yh,aK hne] at hb';rw[o9 hne];exact hB b' V3 hb' hne
    ·rw[aK hcb] at yl
     rw[o9 hcb];obtain⟨a1,a2,a3,a4⟩:=h.sep.box c cs' yl hwc;refine⟨a1,a2,a3,fun b' V3 hb' hne=> ?_⟩;rw[yh] at hb'
     by_cases hb2:b'=b
     ·subst hb2
      rw[xd];exact fun e=>hB c cs' yl hcb e.symm
     ·rw[aK hb2] at hb'
      rw[o9 hb2];exact a4 b' V3 hb' hne
   spot:=fun c cs' yl=>by
    rw[yh] at yl
    by_cases hcb:c=b
    ·subst hcb
     rw[xd];exact⟨fun _=>hs,hlt,fun e=>by rw[hw] at e;cases e⟩
    ·rw[aK hcb] at yl
     rw[o9 hcb];exact h.sep.spot c cs' yl
   soft:=fun c cs' j yl hwc hj=>by
    rw[yh] at yl
    by_cases hcb:c=b
    ·subst hcb
     rw[aT rfl] at yl;cases yl;rw[xd];exact hf j hj
    ·rw[aK hcb] at yl
     rw[o9 hcb];exact h.sep.soft c cs' j yl hwc hj}
theorem bw.J0 (h:bw F A w0 φ st tm w) {b:Nat} {cs old:List CE} (hb:ak b st.bx=some old) (GC:Am b=true) (hl:cs.length=old.length) (hf:Frm F w0 w') (hsz:w.heap.size≤w'.heap.size)
 (hw: ∀k,k<w.heap.size→k≠(φ.β b).block→w'.heap[k]?=w.heap[k]?) (hfz: ∀j,j<cs.length→w'.frozen? ((φ.β b).add j)=false)
 (hc: ∀(j:Nat) (e:CE),cs[j]?=some e→ ∃v,w'.cell? ((φ.β b).add j)=some v∧v.cells= #[v]∧ej st.ob w φ e v):bw F A w0 φ (st.J0 b cs) tm w':=by
 obtain⟨b1,b2,b3,b4⟩:=h.sep.box b old hb GC;have stI: ∀k,φ.I k→w'.heap[k]?=w.heap[k]?:=fun k hk=>hw k (h.sep.ro k hk).1 fun e=>b1 (e▸hk)
 have nA: ∀k,A.all k→k≠(φ.β b).block:=fun k hk e=>by
  subst e;have:=h.sep.oC _ hk;rcases b3 with b3|b3
  ·omega
  ·exact this.2 b3
 have stS: ∀d k,d=0∨aW st.ob d→φ.S d k→w'.heap[k]?=w.heap[k]?:=fun d k hd hk=>hw k (h.sep.lt h.frm.size hd hk) fun e=>by
  subst e;rcases hd with rfl|hd
  ·rw[h.sep.arg] at hk;exact nA _ hk rfl
  ·exact b2 d hd hk
 have own: ∀o ad n c,aW st.ob o→φ.V o= .slice (some ad) n c→φ.S o ad.block:=fun o ad n c ⟨bo,ho⟩ hv=>by
  have hO:=h.obj o bo ho;unfold oI at hO;rw[hv] at hO
  cases hO with
  |sub _ _ _ _ _ _ u T k hn=>exact(k.own (by unfold OB.m;split<;>simp)).2 ad rfl|>.1
 have hV: ∀o,aW st.ob o→ ∀ad n c,φ.V o= .slice (some ad) n c→ ∀i v,w.cell? (ad.add i)=some v→w'.cell? (ad.add i)=some v:=fun o ho ad n c hv i v hcell=>by
  rw[gH (w:=w)]
  ·exact hcell
  ·rw[cX];exact stS o _ (.inr ho) (own o ad n c ho hv)
 have hCE: ∀e v,ej st.ob w φ e v→ej st.ob w' φ e v:=fun e v he=>he.stay stI stS hV
 have hE: ∀ds cells v,dw st.ob w φ (.ep ds cells) v→dw st.ob w' φ (.ep ds cells) v:=by
  intro ds cells v ⟨h1,ad,h2,hr,h3⟩;refine⟨h1,ad,h2,hr,fun j tc hj=> ?_⟩;obtain⟨u,h4,h5⟩:=h3 j tc hj
  have hcn:cells≠[]:=fun e=>by rw[e] at hj;simp at hj
  have stR: ∀k,rd φ ds k→w'.heap[k]?=w.heap[k]?:=fun k hk=>by
   rcases hk with hk|⟨d,hm,hk⟩
   ·exact stI k hk
   ·exact stS d k (h1 d hm) hk
  exact⟨u,by rw[gH (w:=w) (by rw[cX];exact stR _ (hr hcn))];exact h4,h5.move (fun k hk=>⟨hk,stR k hk⟩) (fun hm=>absurd rfl hm)⟩
 have hT: ∀e v,dw st.ob w φ e v→dw st.ob w' φ e v:=fun e v he=>by
  have:=dw.Hj (f:=id) (g:=id) rfl hCE (fun e v hv he=>dw.stay stI stS hV (fun ad v hc hk=>by rw[gH (w:=w) (hk _ rfl)];exact hc) hE hv he) he
  have hid:zN id id e=e:=by
   have h1:=congrArg TS.tm (w9 ⟨[(0,e)],[],[]⟩);simpa [yw,mapA] using h1
  rw[hid] at this;exact this
 have yh: ∀c,ak c (st.J0 b cs).bx=if c=b then some cs else ak c st.bx:=fun c=>gn _ _ _ _
 have obox: ∀c cs',ak c st.bx=some cs'→c≠b→w'.heap[(φ.β c).block]?=w.heap[(φ.β c).block]?:=fun c cs' yl hne=>hw _ (h.sep.spot c cs' yl).2.1 (b4 c cs' yl hne);refine⟨fun i=>hT _ _ (h.tmp i),fun c cs' yl j e he=> ?_,fun o bo ho=> ?_,?_,hf⟩
 ·rw[yh] at yl
  by_cases hcb:c=b
  ·subst hcb
   rw[aT rfl] at yl;cases yl;obtain⟨v,h1,h3,h2⟩:=hc j e he;exact⟨v,h1,h3,hCE _ _ h2⟩
  ·rw[aK hcb] at yl
   obtain⟨v,h1,h3,h2⟩:=h.box c cs' yl j e he;exact⟨v,by rw[gH (w:=w) (by rw[cX];exact obox c cs' yl hcb)];exact h1,h3,hCE _ _ h2⟩
 ·exact(h.obj o bo ho).move (fun k hk=>⟨hk,stI k hk⟩) fun _ k hk=>stS o k (.inr ⟨bo,ho⟩) hk
 ·have len: ∀c cs',ak c (st.J0 b cs).bx=some cs'→ ∃cs0,ak c st.bx=some cs0∧cs'.length=cs0.length:=fun c cs' yl=>by
   rw[yh] at yl
   by_cases hcb:c=b
   ·subst hcb
    rw[aT rfl] at yl;cases yl;exact⟨old,hb,hl⟩
   ·rw[aK hcb] at yl;exact⟨cs',yl,rfl⟩
  have hs:=h.sep.boxes len
  exact {
   arg:=hs.arg,nz:=hs.nz,apart:=hs.apart,read:=hs.read,oC:=hs.oC,box:=hs.box
   fresh:=fun o k ho hk=>⟨kX (hs.fresh o k ho hk).1 hsz,(hs.fresh o k ho hk).2⟩
   ro:=fun k hk=>⟨kX (hs.ro k hk).1 hsz,(hs.ro k hk).2⟩
   spot:=fun c cs' yl=>⟨(hs.spot c cs' yl).1,kX (hs.spot c cs' yl).2.1 hsz,(hs.spot c cs' yl).2.2⟩
   soft:=fun c cs' j yl hwc hj=>by
    obtain⟨cs0,c1,c2⟩:=len c cs' yl
    by_cases hcb:c=b
    ·subst hcb
     rw[yh,aT rfl] at yl;cases yl;exact hfz j hj
    ·rw[mT (w:=w) (by rw[cX];exact obox c cs0 c1 hcb)]
     exact h.sep.soft c cs0 j c1 hwc az}
end Go.T
namespace Go.T
variable {F : Nat → Prop} {A : Arg} {w0 w w' : World} {φ φ' : Fp} {st st' : TS} {tm G9 : Array Value}
structure Ext (ob FW:List (Nat×OB)) (φ φ':Fp):Prop where
 look: ∀d b,ak d ob=some b→ak d FW=some b
 I:φ'.I=φ.I
 β:φ'.β=φ.β
 S: ∀d,d=0∨aW ob d→φ'.S d=φ.S d
 V: ∀d,aW ob d→φ'.V d=φ.V d
section
variable {ob FW : List (Nat × OB)}
theorem Ext.dom (x:Ext ob FW φ φ') {d:Nat} (h:aW ob d):aW FW d:=let ⟨b,h⟩:=h;⟨b,x.look d b h⟩
theorem Ext.rd (x:Ext ob FW φ φ') {ds:List Nat} (hd: ∀d∈ds,d=0∨aW ob d) {k:Nat} (h:T.rd φ ds k):T.rd φ' ds k:=by
 rcases h with h|⟨d,hm,h⟩
 ·exact .inl (by rw[x.I];exact h)
 ·exact .inr ⟨d,hm,by rw[x.S d (hd d hm)];exact h⟩
theorem ej.ext (x:Ext ob FW φ φ') {e:CE} {v:Value} (h:ej ob w φ e v):ej FW w φ' e v:=by
 cases e with
 |ref o cut=>
  obtain⟨b,h1,h2⟩:=h;exact⟨b,x.look o b h1,by rw[x.V o ⟨b,h1⟩];exact h2⟩
 |snap ds loc z rows=>
  obtain⟨h1,h2,h3⟩:=h;refine⟨fun d hm=>(h1 d hm).imp id x.dom,h2.pZ fun k hk=>x.rd h1 hk,fun o i f hl=> ?_⟩;obtain⟨a1,b,a2,a3,a4,ad,n,c,a5,a6⟩:=h3 o i f hl;exact⟨a1,b,x.look o b a2,a3,a4,ad,n,c,by rw[x.V o ⟨b,a2⟩];exact a5,a6⟩
 |_=>exact h
theorem nK.ext (x:Ext ob FW φ φ') {c:qX} {v:Value} (h:nK ob w φ c v):nK FW w φ' c v:=by
 cases c with
 |ptr b=>simp only[nK] at h ⊢;rw[x.β];exact h
 |mk a cs=>
  cases a with
  |true=>obtain⟨xs,h1,h2,h3⟩:=h;exact⟨xs,h1,h2,fun j e he=>let ⟨y,h4,h6,h5⟩:=h3 j e he;⟨y,h4,h6,h5.ext x⟩⟩
  |false=>obtain⟨e,h1,h2,h3⟩:=h;exact⟨e,h1,h2,h3.ext x⟩
theorem dw.ext (x:Ext ob FW φ φ') {e:TE} {v:Value} (h:dw ob w φ e v):dw FW w φ' e v:=by
 cases e with
 |v t es=>
  cases t with
  |true=>obtain⟨vs,h1,h2,h3⟩:=h;exact⟨vs,h1,h2,fun j e he=>let ⟨y,h4,h5⟩:=h3 j e he;⟨y,h4,h5.ext x⟩⟩
  |false=>obtain⟨c,h1,h2⟩:=h;exact⟨c,h1,h2.ext x⟩
 |ep ds cells=>
  obtain⟨h1,ad,h2,hr,h3⟩:=h;refine⟨fun d hm=>(h1 d hm).imp id x.dom,ad,h2,fun hc=>x.rd h1 (hr hc),fun j tc hj=> ?_⟩;obtain⟨u,h4,h5⟩:=h3 j tc hj;exact⟨u,h4,h5.pZ fun k hk=>x.rd h1 hk⟩
 |er o path i f=>
  obtain⟨b,h1,h2,ad,n,c,h3,h4⟩:=h;exact⟨b,x.look o b h1,h2,ad,n,c,by rw[x.V o ⟨b,h1⟩];exact h3,h4⟩
 |bp b off=>simp only[dw] at h ⊢;rw[x.β];exact h
 |fn f caps=>simp only[dw] at h ⊢;rw[x.β];exact h
 |_=>exact h
end
def We:Nat→Nat→List (Nat×OB)→Prop
 |n,m,[]=>n≤m
 |n,m,(i,b)::r=>n≤i∧(b.deep=true∧b.rows=[]∧0<b.z)∧We (i+1) m r
theorem We.le: ∀{n m:Nat} {l:List (Nat×OB)},We n m l→n≤m
 |_,_,[],h=>h
 |_,_,(i,b)::r,h=>by have:=We.le h.2.2;have:=h.1;omega
theorem We.down {n n' m:Nat} {l:List (Nat×OB)} (h:We n m l) (hn:n'≤n):We n' m l:=by
 cases l with
 |nil=>exact cU hn h
 |cons p r=>obtain⟨i,b⟩:=p;exact⟨cU hn h.1,h.2⟩
theorem We.app: ∀{n m k:Nat} {l l':List (Nat×OB)},We n m l→We m k l'→We n k (l++l')
 |_,_,_,[],_,h,h'=>h'.down h
 |_,_,_,(i,b)::r,_,h,h'=>⟨h.1,h.2.1,h.2.2.app h'⟩
theorem We.mem: ∀{n m:Nat} {l:List (Nat×OB)} {i:Nat} {b:OB},We n m l→(i,b)∈l→n≤i∧i<m∧b.deep=true∧b.rows=[]∧0<b.z
 |n,m,(j,b')::r,i,b,h,hm=>by
  rcases ef.1 hm with e|hm
  ·cases e
   have:=h.2.2.le;exact⟨h.1,by omega,h.2.1⟩
  ·obtain⟨h1,h2,h3⟩:=h.2.2.mem hm
   exact⟨by have:=h.1;omega,h2,h3⟩
theorem LO: ∀{n m:Nat} {l:List (Nat×OB)} {ob:List (Nat×OB)},We n m l→(∀i b,(i,b)∈l→ak i (lU l ob)=some b)∧ ∀d,d<n→ak d (lU l ob)=ak d ob
 |_,_,[],ob,_=>⟨fun _ _ h=>(by cases h),fun _ _=>rfl⟩
 |n,m,(j,b')::r,ob,h=>by
  obtain⟨h1,h2⟩:=LO (ob:=ob) h.2.2;refine⟨fun i b hm=> ?_,fun d hd=> ?_⟩
  ·simp only[lU,gn]
   rcases ef.1 hm with e|hm
   ·cases e;rw[aT rfl]
   ·have:=(h.2.2.mem hm).1
    rw[aK az];exact h1 i b hm
  ·have:=h.1
   simp only[lU,gn];rw[aK az];exact h2 d az
theorem Hl: ∀{l:List (Nat×OB)} {ob:List (Nat×OB)} {d:Nat} {b:OB},ak d (lU l ob)=some b→(d,b)∈l∨ak d ob=some b
 |[],_,_,_,h=> .inr h
 |(j,b')::r,ob,d,b,h=>by
  simp only[lU,gn] at h
  by_cases hd:d=j
  ·rw[aT hd] at h;cases h;subst hd;exact .inl (.head _)
  ·rw[aK hd] at h
   exact(Hl h).imp (.tail _) id
def ahG:Value:= .slice none 0 0
def opened (N:Nat) (φ:Fp):Fp:={φ with S:=fun d k=>d<N∧φ.S d k,V:=fun d=>if d<N then φ.V d else ahG}
section
variable {ob FW : List (Nat × OB)} {N : Nat} (x : Ext ob FW φ (opened N φ))
include x
theorem Ho: ∀(cs:List CE) (n:Nat),N≤n→We n (iW n cs).2.1 (iW n cs).2.2∧(iW n cs).1.length=cs.length∧
 ((∀i b,(i,b)∈(iW n cs).2.2→ak i FW=some b)→ ∀(j:Nat) (e':CE),(iW n cs).1[j]?=some e'→ ∃e,cs[j]?=some e∧ ∀v,ej ob w φ e v→ej FW w (opened N φ) e' v)
 |[],n,hn=>⟨dj _,rfl,fun _ j e' h=>by simp[iW] at h⟩
 |e::r,n,hn=>by
  have keep: ∀(e:CE),(∀z,Nat.ble 1 z=true→e≠ .nil z)→iW n (e::r)=(e::(iW n r).1,(iW n r).2.1,(iW n r).2.2):=by
   intro e he
   cases e with
   |nil z=>
    simp only[iW]
    cases h:Nat.ble 1 z with
    |true=>exact absurd rfl (he z h)
    |false=>rfl
   |_=>rfl
  by_cases hz: ∃z,Nat.ble 1 z=true∧e= .nil z
  ·obtain⟨z,hz,rfl⟩:=hz
   have heq:iW n (.nil z::r)=(.ref n none::(iW (n+1) r).1,(iW (n+1) r).2.1,(n,⟨true,z,[]⟩)::(iW (n+1) r).2.2):=by simp only[iW,hz]
   rw[heq];obtain⟨h1,h2,h3⟩:=Ho r (n+1) az;refine⟨⟨dj _,⟨rfl,rfl,sR hz⟩,h1⟩,by simp[h2],fun hl j e' he=> ?_⟩
   cases j with
   |zero=>
    simp only[fM,bq] at he;subst he;refine⟨_,rfl,fun v hv=>⟨_,hl n _ (.head _),?_⟩⟩
    show v=if n<N then φ.V n else ahG
    rw[aK az];exact hv.1
   |succ j=>
    simp only[sP] at he ⊢;exact h3 (fun i b hm=>hl i b (.tail _ hm)) j e' he
  ·rw[keep e fun z hz' he=>hz ⟨z,hz',he⟩]
   obtain⟨h1,h2,h3⟩:=Ho r n hn;refine⟨h1,by simp[h2],fun hl j e' he=> ?_⟩
   cases j with
   |zero=>
    simp only[fM,bq] at he;subst he;exact⟨_,rfl,fun v hv=>hv.ext x⟩
   |succ j=>
    simp only[sP] at he ⊢;exact h3 hl j e' he
theorem BG: ∀(cs:List qX) (n:Nat),N≤n→We n (iw n cs).2.1 (iw n cs).2.2∧(iw n cs).1.length=cs.length∧
 ((∀i b,(i,b)∈(iw n cs).2.2→ak i FW=some b)→ ∀(j:Nat) (e':qX),(iw n cs).1[j]?=some e'→ ∃e,cs[j]?=some e∧ ∀v,nK ob w φ e v→nK FW w (opened N φ) e' v)
 |[],n,hn=>⟨dj _,rfl,fun _ j e' h=>by simp[iw] at h⟩
 | .ptr b::r,n,hn=>by
   obtain⟨h1,h2,h3⟩:=BG r n hn;refine⟨h1,by simp[iw,h2],fun hl j e' he=> ?_⟩
   cases j with
   |zero=>
    simp only[iw,fM,bq] at he;subst he;exact⟨_,rfl,fun v hv=>hv.ext x⟩
   |succ j=>
    simp only[iw,sP] at he ⊢;exact h3 hl j e' he
 | .mk a cs::r,n,hn=>by
   obtain⟨g1,g2,g3⟩:=Ho (w:=w) x cs n hn;obtain⟨h1,h2,h3⟩:=BG r (iW n cs).2.1 (cU hn g1.le);refine⟨g1.app h1,by simp[iw,h2],fun hl j e' he=> ?_⟩
   cases j with
   |zero=>
    simp only[iw,fM,bq] at he;subst he;refine⟨_,rfl,fun v hv=> ?_⟩;have g4:=g3 fun i b hm=>hl i b (ki _ hm)
    cases a with
    |true=>
     obtain⟨xs,k1,k2,k3⟩:=hv;refine⟨xs,k1,by rw[g2];exact k2,fun j e' he=> ?_⟩;obtain⟨e,k4,k5⟩:=g4 j e' he;obtain⟨y,k6,k8,k7⟩:=k3 j e k4;exact⟨y,k6,k8,k5 y k7⟩
    |false=>
     obtain⟨e,rfl,k2,k3⟩:=hv;have hlen:(iW n [e]).1.length=1:=g2
     obtain⟨e',he'⟩: ∃e',(iW n [e]).1=[e']:=by
      cases hq:(iW n [e]).1 with
      |nil=>rw[hq] at hlen;cases hlen
      |cons y t=>cases t with
       |nil=>exact⟨y,rfl⟩
       |cons _ _=>rw[hq] at hlen;simp at hlen
     obtain⟨e0,k4,k5⟩:=g4 0 e' (by rw[he'];rfl);simp only[fM,bq] at k4;subst k4;exact⟨e',he',k2,k5 v k3⟩
   |succ j=>
    simp only[iw,sP] at he ⊢;exact h3 (fun i b hm=>hl i b (pG _ hm)) j e' he
theorem abc (e:TE) (n:Nat) (hn:N≤n):We n (Hi n e).2.1 (Hi n e).2.2∧
 ((∀i b,(i,b)∈(Hi n e).2.2→ak i FW=some b)→ ∀v,dw ob w φ e v→dw FW w (opened N φ) (Hi n e).1 v):=by
 cases e with
 |v t es=>
  obtain⟨h1,h2,h3⟩:=BG (w:=w) x es n hn;refine⟨h1,fun hl v hv=> ?_⟩;have h4:=h3 hl;simp only[Hi]
  cases t with
  |true=>
   obtain⟨vs,k1,k2,k3⟩:=hv;refine⟨vs,k1,by rw[h2];exact k2,fun j e' he=> ?_⟩;obtain⟨e,k4,k5⟩:=h4 j e' he;obtain⟨y,k6,k7⟩:=k3 j e k4;exact⟨y,k6,k5 y k7⟩
  |false=>
   obtain⟨c,rfl,k1⟩:=hv;have hlen:(iw n [c]).1.length=1:=h2
   obtain⟨e',he'⟩: ∃e',(iw n [c]).1=[e']:=by
    cases hq:(iw n [c]).1 with
    |nil=>rw[hq] at hlen;cases hlen
    |cons y t=>cases t with
     |nil=>exact⟨y,rfl⟩
     |cons _ _=>rw[hq] at hlen;simp at hlen
   obtain⟨e0,k4,k5⟩:=h4 0 e' (by rw[he'];rfl);simp only[fM,bq] at k4;subst k4;exact⟨e',he',k5 v k1⟩
 |kb b=>
  refine⟨dj _,fun _ v hv=> ?_⟩;simp only[dw] at hv;subst hv;exact⟨_,rfl,_,rfl,rfl,rfl,trivial⟩
 |_=>exact⟨dj _,fun _ v hv=>hv.ext x⟩
theorem OR: ∀(l:List (Nat×TE)) (n:Nat),N≤n→(∃m,We n m (Au n l).2)∧
 ((∀i b,(i,b)∈(Au n l).2→ak i FW=some b)→ ∀(i:Nat) (e':TE),ak i (Au n l).1=some e'→ ∃e,ak i l=some e∧ ∀v,dw ob w φ e v→dw FW w (opened N φ) e' v)
 |[],n,hn=>⟨⟨n,dj _⟩,fun _ i e' h=>by simp[Au,ak] at h⟩
 |(j,e)::r,n,hn=>by
  obtain⟨g1,g2⟩:=abc (w:=w) x e n hn;obtain⟨⟨m,h1⟩,h2⟩:=OR r (Hi n e).2.1 (cU hn g1.le);refine⟨⟨m,g1.app h1⟩,fun hl i e' he=> ?_⟩;simp only[Au,ak] at he ⊢
  cases hj:Nat.beq j i with
  |true=>
   rw[hj] at he;simp only[bq] at he;subst he;exact⟨e,rfl,g2 fun i b hm=>hl i b (ki _ hm)⟩
  |false=>
   rw[hj] at he;exact h2 (fun i b hm=>hl i b (pG _ hm)) i e' he
end
theorem Ww {n:Nat}: ∀{ob:List (Nat×OB)},Wq n ob=true→ ∀o,aW ob o→o<n
 |[],_,o,⟨b,h⟩=>by cases h
 |(i,x)::r,ha,o,⟨b,h⟩=>by
  simp only[Wq] at ha
  cases h1:Nat.ble n i with
  |true=>rw[h1] at ha;cases ha
  |false=>
   rw[h1] at ha;simp only[ak] at h
   cases h2:Nat.beq i o with
   |true=>
    have:=jj h2;subst this
    exact Nat.lt_of_not_le fun h3=>by rw[OC h3] at h1;cases h1
   |false=>rw[h2] at h;exact Ww ha o ⟨b,h⟩
theorem bw.Ws (h:bw F A w0 φ st tm w): ∃φ',bw F A w0 φ' (Ws st) tm w∧φ'.β=φ.β:=by
 unfold T.Ws
 cases ha:Wq 900000000 st.ob with
 |false=>exact⟨φ,h,rfl⟩
 |true=>
  have hlt:=Ww ha
  have x1: ∀FW,(∀d b,ak d st.ob=some b→ak d FW=some b)→Ext st.ob FW φ (opened 900000000 φ):=fun FW hl=>
   ⟨hl,rfl,rfl,fun d hd=>by
     have:d<900000000:=hd.elim (fun e=>by omega) (hlt d)
     funext k
     simp[opened,this],fun d hd=>aT (hlt d hd)⟩
  obtain⟨⟨m,aii⟩,_⟩:=OR (w:=w) (x1 st.ob fun _ _ h=>h) st.tm 900000000 (dj _);obtain⟨l1,l2⟩:=LO (ob:=st.ob) aii
  have x:Ext st.ob (lU (Au 900000000 st.tm).2 st.ob) φ (opened 900000000 φ):=x1 _ fun d b hd=>by rw[l2 d (hlt d ⟨b,hd⟩)];exact hd
  obtain⟨_,hT⟩:=OR (w:=w) x st.tm 900000000 (dj _);have hT:=hT l1
  have old: ∀d,aW (lU (Au 900000000 st.tm).2 st.ob) d→(d<900000000∧aW st.ob d)∨900000000≤d:=fun d ⟨b,hd⟩=>by
   rcases Hl hd with h1|h1
   ·exact .inr (aii.mem h1).1
   ·exact .inl ⟨hlt d ⟨b,h1⟩,b,h1⟩
  have oldS: ∀d k,aW (lU (Au 900000000 st.tm).2 st.ob) d→(opened 900000000 φ).S d k→aW st.ob d∧φ.S d k:=fun d k hd hk=>by
   rcases old d hd with h1|h1
   ·exact⟨h1.2,hk.2⟩
   ·exact absurd hk.1 az
  refine⟨opened 900000000 φ,⟨fun i=> ?_,fun b cs hb j e he=> ?_,fun o b ho=> ?_,?_,h.frm⟩,rfl⟩
  ·show dw (lU (Au 900000000 st.tm).2 st.ob) w (opened 900000000 φ) (match ak i (Au 900000000 st.tm).1 with|some e=>e|none=> .dead) (tm.getD i undef)
   cases hi:ak i (Au 900000000 st.tm).1 with
   |none=>trivial
   |some e'=>
    obtain⟨e,h1,h2⟩:=hT i e' hi;have:=h.tmp i;unfold TS.get at this;rw[h1] at this;exact h2 _ this
  ·obtain⟨v,h1,h3,h2⟩:=h.box b cs hb j e he
   exact⟨v,h1,h3,h2.ext x⟩
  ·unfold oI
   rcases Hl ho with h1|h1
   ·obtain⟨a1,a2,a3,a4,a5⟩:=aii.mem h1
    obtain⟨bd,bz,br⟩:=b;simp only at a3 a4 a5;subst a3 a4;have hv:(opened 900000000 φ).V o=ahG:=aK az;rw[hv]
    refine aA.sub _ _ bz [] none 0 (fun _ _=>default) (fun _ _ _=>False) ⟨dj _,dm _,a5,fun r hr=>(by cases hr),fun hr=>absurd rfl hr,fun _ ha=>(by cases ha),fun _ _ ha=>(by cases ha),
     fun _=>⟨fun _=>rfl,fun _ ha=>(by cases ha)⟩,fun _ _ _ ha=>(by cases ha),fun _ _ _ _ hk=>hk.elim⟩ fun i f tc ht=>absurd rfl (Ka ht)
   ·have hd:=hlt o ⟨b,h1⟩
    have:=h.obj o b h1;unfold oI at this;rw[x.V o ⟨b,h1⟩,x.S o (.inr ⟨b,h1⟩)];exact this
  ·exact {
    arg:=by rw[x.S 0 (.inl rfl)];exact h.sep.arg
    nz:=fun o ho e=>by
     rcases old o ho with h1|h1
     ·exact h.sep.nz o h1.2 e
     ·omega
    apart:=fun o o' k h1 h2 h3 h4=>h.sep.apart o o' k (oldS o k h1 h3).1 (oldS o' k h2 h4).1 (oldS o k h1 h3).2 (oldS o' k h2 h4).2
    read:=fun o k h1 h2=>h.sep.read o k (oldS o k h1 h2).1 (oldS o k h1 h2).2
    fresh:=fun o k h1 h2=>h.sep.fresh o k (oldS o k h1 h2).1 (oldS o k h1 h2).2
    ro:=h.sep.ro
    oC:=h.sep.oC
    box:=fun b cs hb hw=>by
     obtain⟨a1,a2,a3,a4⟩:=h.sep.box b cs hb hw;exact⟨a1,fun o ho hk=>a2 o (oldS o _ ho hk).1 (oldS o _ ho hk).2,a3,a4⟩
    spot:=h.sep.spot
    soft:=h.sep.soft}
end Go.T
namespace Go.T
variable {F : Nat → Prop} {A : Arg} {w0 w w' : World} {φ φ' : Fp} {st st' : TS} {tm G9 : Array Value}
structure OS (n:Nat) (ρ:List (Nat×Nat)):Prop where
 rng: ∀o m,(o,m)∈ρ→1≤m∧m<n∧o≠0
 apart:ρ.Pairwise fun a b=>a.1≠b.1∧a.2≠b.2
theorem jX {α:Type} {o:Nat} {m:α}: ∀{ρ:List (Nat×α)},ak o ρ=some m→(o,m)∈ρ
 |(a,x)::r,h=>by
  simp only[ak] at h
  cases h1:Nat.beq a o with
  |true=>
   rw[h1] at h
   cases h
   have:=jj h1;subst this;exact .head _
  |false=>rw[h1] at h;exact .tail _ (jX h)
theorem vo {α:Type} {o:Nat}: ∀{ρ:List (Nat×α)},ak o ρ=none→ ∀m,(o,m)∉ρ
 |[],_,_=>by simp
 |(a,x)::r,h,m=>by
  simp only[ak] at h
  cases h1:Nat.beq a o with
  |true=>rw[h1] at h;cases h
  |false=>
   rw[h1] at h;intro hm;rcases ef.1 hm with e|hm
   ·cases e;exact sU h1 rfl
   ·exact vo h m hm
theorem ES {n o m:Nat}: ∀{ρ:List (Nat×Nat)},(ρ.Pairwise fun a b=>a.1≠b.1∧a.2≠b.2)→(o,m)∈ρ→ak o ρ=some m
 |(a,x)::r,h,hm=>by
  simp only[ak];rw[List.pairwise_cons] at h;rcases ef.1 hm with e|hm
  ·cases e;rw[EP]
  ·have:=(h.1 _ hm).1
   rw[beq_false this];exact ES (n:=n) h.2 hm
theorem F6: ∀(l:List Nat) (n:Nat) (ρ:List (Nat×Nat)),1≤n→OS n ρ→ ∃n',OS n' (number l n ρ)∧(∀o m,ak o ρ=some m→ak o (number l n ρ)=some m)∧ ∀o∈l,o≠0→ ∃m,ak o (number l n ρ)=some m
 |[],n,ρ,_,h=>⟨n,h,fun _ _ h=>h,fun _ h=>by cases h⟩
 |o::r,n,ρ,hn,h=>by
  simp only[number]
  cases h0:Nat.beq o 0 with
  |true=>
   obtain⟨n',h1,h2,h3⟩:=F6 r n ρ hn h;refine⟨n',h1,h2,fun p hp hp0=> ?_⟩;rcases ef.1 hp with e|hp
   ·exact absurd (e.trans (jj h0)) hp0
   ·exact h3 p hp hp0
  |false=>
   have h0:=sU h0
   cases hl:ak o ρ with
   |some m=>
    obtain⟨n',h1,h2,h3⟩:=F6 r n ρ hn h;refine⟨n',h1,h2,fun p hp hp0=> ?_⟩;rcases ef.1 hp with e|hp
    ·subst e;exact⟨m,h2 _ _ hl⟩
    ·exact h3 p hp hp0
   |none=>
    have hk:OS (n+1) ((o,n)::ρ):=by
     refine⟨fun p m hm=> ?_,List.pairwise_cons.2 ⟨fun a ha=>⟨fun e=> ?_,fun e=> ?_⟩,h.apart⟩⟩
     ·rcases ef.1 hm with e|hm
      ·cases e;exact⟨hn,by omega,h0⟩
      ·have:=h.rng p m hm;exact⟨this.1,by omega,this.2.2⟩
     ·obtain⟨a1,a2⟩:=a
      simp only at e;subst e;exact vo hl a2 ha
     ·obtain⟨a1,a2⟩:=a
      simp only at e;have:=(h.rng a1 a2 ha).2.1;omega
    obtain⟨n',h1,h2,h3⟩:=F6 r (n+1) ((o,n)::ρ) az hk
    have hon:ak o ((o,n)::ρ)=some n:=by simp only[ak,EP]
    refine⟨n',h1,fun p m hp=>h2 p m ?_,fun p hp hp0=> ?_⟩
    ·simp only[ak]
     rw[beq_false fun e=>by subst e;rw[hl] at hp;cases hp];exact hp
    ·rcases ef.1 hp with e|hp
     ·subst e;exact⟨n,h2 _ _ hon⟩
     ·exact h3 p hp hp0
theorem agZ {o o' m:Nat}: ∀{ρ:List (Nat×Nat)},(ρ.Pairwise fun a b=>a.1≠b.1∧a.2≠b.2)→(o,m)∈ρ→(o',m)∈ρ→o=o'
 |p::r,h,h1,h2=>by
  rw[List.pairwise_cons] at h;rcases ef.1 h1 with e1|h1
  ·rcases ef.1 h2 with e2|h2
   ·rw[←e1] at e2;cases e2;rfl
   ·exact absurd (by rw[←e1]) (h.1 _ h2).2
  ·rcases ef.1 h2 with e2|h2
   ·exact absurd (by rw[←e2]) (h.1 _ h1).2
   ·exact agZ h.2 h1 h2
def inv (ρ:List (Nat×Nat)) (m:Nat):Nat:=match ρ.find? fun p=>Nat.beq p.2 m with|some p=>p.1|none=>0
theorem inv_eq {n o m:Nat} {ρ:List (Nat×Nat)} (h:OS n ρ) (hl:ak o ρ=some m):inv ρ m=o:=by
 unfold inv;have hm:=jX hl
 cases hf:ρ.find? fun p=>Nat.beq p.2 m with
 |none=>
  have:=List.find?_eq_none.1 hf _ hm;simp at this
 |some p=>
  have h1:=List.mem_of_find?_eq_some hf;have h2:=List.find?_some hf;have h2:=jj h2;simp only;obtain⟨p1,p2⟩:=p;simp only at h2;subst h2;exact agZ h.apart h1 hm
theorem inv_zero {n:Nat} {ρ:List (Nat×Nat)} (h:OS n ρ):inv ρ 0=0:=by
 unfold inv
 cases hf:ρ.find? fun p=>Nat.beq p.2 0 with
 |none=>rfl
 |some p=>
  have h1:=List.mem_of_find?_eq_some hf;have h2:=List.find?_some hf;have h2:=jj h2;obtain⟨p1,p2⟩:=p;have:=(h.rng p1 p2 h1).1;simp only at h2;omega
theorem Iy {o m:Nat} {ρ:List (Nat×Nat)} (hl:ak o ρ=some m):J5 ρ o=m:=by unfold J5;rw[hl]
theorem Tp {n:Nat} {ρ:List (Nat×Nat)} (h:OS n ρ):J5 ρ 0=0:=by
 unfold J5
 cases hl:ak 0 ρ with
 |none=>rfl
 |some m=>exact absurd rfl (h.rng 0 m (jX hl)).2.2
theorem Iz {ob:List (Nat×OB)} {m:Nat} {b:OB}: ∀{ρ:List (Nat×Nat)},ak m (vP ob ρ)=some b→ ∃o,(o,m)∈ρ∧ak o ob=some b
 |(o,n)::r,h=>by
  simp only[vP] at h
  cases ho:ak o ob with
  |none=>
   rw[ho] at h;obtain⟨o',h1,h2⟩:=Iz h;exact⟨o',.tail _ h1,h2⟩
  |some b'=>
   rw[ho] at h;simp only[gn] at h
   by_cases hm:m=n
   ·rw[aT hm] at h;cases h;subst hm;exact⟨o,.head _,ho⟩
   ·rw[aK hm] at h
    obtain⟨o',h1,h2⟩:=Iz h;exact⟨o',.tail _ h1,h2⟩
theorem Wx {ob:List (Nat×OB)} {o m:Nat} {b:OB} (ho:ak o ob=some b): ∀{ρ:List (Nat×Nat)},(ρ.Pairwise fun a b=>a.1≠b.1∧a.2≠b.2)→(o,m)∈ρ→ak m (vP ob ρ)=some b
 |(o',n)::r,h,hm=>by
  rw[List.pairwise_cons] at h;simp only[vP];rcases ef.1 hm with e|hm
  ·cases e
   rw[ho];simp only[gn,aT]
  ·have h1:=(h.1 _ hm).2
   have ih:=Wx ho h.2 hm
   cases ho':ak o' ob with
   |none=>exact ih
   |some b'=>
    simp only[gn];rw[aK (Ne.symm h1)];exact ih
def Fp.Wy (φ:Fp) (ρ:List (Nat×Nat)):Fp:={φ with S:=fun m=>φ.S (inv ρ m),V:=fun m=>φ.V (inv ρ m)}
section
variable {ob : List (Nat × OB)} {n : Nat} {ρ : List (Nat × Nat)} (hρ : OS n ρ)
include hρ
theorem IA {o m:Nat} {b:OB} (hm:ak o ρ=some m) (ho:ak o ob=some b):ak m (vP ob ρ)=some b:=Wx ho hρ.apart (jX hm)
theorem acK {o m:Nat} (hm:ak o ρ=some m):(φ.Wy ρ).S m=φ.S o:=by show φ.S (inv ρ m)=_;rw[inv_eq hρ hm]
theorem aak {o m:Nat} (hm:ak o ρ=some m):(φ.Wy ρ).V m=φ.V o:=by show φ.V (inv ρ m)=_;rw[inv_eq hρ hm]
theorem acL:(φ.Wy ρ).S 0=φ.S 0:=by show φ.S (inv ρ 0)=_;rw[inv_zero hρ]
theorem acM {ds:List Nat} (hz: ∀d,aW ob d→d≠0) (hd: ∀d∈ds,d=0∨aW ob d) (hc: ∀o∈ds,o≠0→ ∃m,ak o ρ=some m):
 (∀d∈ds.map (J5 ρ),d=0∨aW (vP ob ρ) d)∧ ∀k,rd φ ds k→rd (φ.Wy ρ) (ds.map (J5 ρ)) k:=by
 refine⟨fun d hm=> ?_,fun k hk=> ?_⟩
 ·obtain⟨o,h1,rfl⟩:=List.mem_map.1 hm
  rcases hd o h1 with rfl|h2
  ·exact .inl (Tp hρ)
  ·obtain⟨m,h3⟩:=hc o h1 (hz o h2)
   obtain⟨b,h4⟩:=h2;rw[Iy h3];exact .inr ⟨b,IA hρ h3 h4⟩
 ·rcases hk with hk|⟨d,hm,hk⟩
  ·exact .inl hk
  ·refine .inr ⟨J5 ρ d,List.mem_map_of_mem hm,?_⟩
   rcases hd d hm with rfl|h2
   ·rw[Tp hρ,acL hρ];exact hk
   ·obtain⟨m,h3⟩:=hc d hm (hz d h2)
    rw[Iy h3,acK hρ h3];exact hk
theorem ej.Wy (hz: ∀d,aW ob d→d≠0) {e:CE} {v:Value} (hc: ∀o∈g9 e,o≠0→ ∃m,ak o ρ=some m) (h:ej ob w φ e v):ej (vP ob ρ) w (φ.Wy ρ) (Ix ρ e) v:=by
 cases e with
 |ref o cut=>
  obtain⟨b,h1,h2⟩:=h;obtain⟨m,h3⟩:=hc o (by simp[g9]) (hz o ⟨b,h1⟩);simp only[Ix];rw[Iy h3];exact⟨b,IA hρ h3 h1,by rw[aak hρ h3];exact h2⟩
 |snap ds loc z rows=>
  obtain⟨h1,h2,h3⟩:=h;obtain⟨g1,g2⟩:=acM hρ (φ:=φ) hz h1 hc;refine⟨g1,h2.pZ g2,fun o i f hl=> ?_⟩
  cases loc with
  |none=>cases hl
  |some q=>
   obtain⟨o',i',f'⟩:=q;simp only[bq,Cl] at hl;obtain⟨rfl,rfl,rfl⟩:=hl;obtain⟨a1,b,a2,a3,a4,ad,n,c,a5,a6⟩:=h3 o' i' f' rfl;obtain⟨m,a7⟩:=hc o' a1 (hz o' ⟨b,a2⟩);refine⟨List.mem_map_of_mem a1,?_⟩;rw[Iy a7];exact⟨b,IA hρ a7 a2,a3,a4,ad,n,c,by rw[aak hρ a7];exact a5,a6⟩
 |_=>exact h
theorem dw.Wy (hz: ∀d,aW ob d→d≠0) {e:TE} {v:Value} (hc: ∀o∈zO e,o≠0→ ∃m,ak o ρ=some m) (h:dw ob w φ e v):dw (vP ob ρ) w (φ.Wy ρ) (zN (Ix ρ) (acA ρ) e) v:=by
 have comp: ∀(c:qX) (u:Value),(∀o∈jD [c],o≠0→ ∃m,ak o ρ=some m)→nK ob w φ c u→nK (vP ob ρ) w (φ.Wy ρ) (w8 (Ix ρ) c) u:=by
  intro c u hc h
  cases c with
  |ptr b=>exact h
  |mk a cs=>
   simp only[jD,nG] at hc;have hc1: ∀e∈cs,∀o∈g9 e,o≠0→ ∃m,ak o ρ=some m:=fun e he o ho=>hc o (List.mem_flatMap.2 ⟨e,he,ho⟩)
   cases a with
   |true=>
    obtain⟨xs,h1,h2,h3⟩:=h;refine⟨xs,h1,by simp[h2],fun j e he=> ?_⟩;rw[kg] at he
    cases h4:cs[j]? with
    |none=>rw[h4] at he;cases he
    |some e0=>
     rw[h4] at he;simp only[nB,bq] at he;subst he;obtain⟨x,hx,hx1,hok⟩:=h3 j e0 h4;exact⟨x,hx,hx1,hok.Wy hρ hz (hc1 e0 (ja h4))⟩
   |false=>
    obtain⟨e,rfl,h2,h3⟩:=h;exact⟨_,rfl,h2,h3.Wy hρ hz (hc1 e cE)⟩
 have dcomp: ∀(es:List qX) (c:qX),c∈es→ ∀o,o∈jD [c]→o∈jD es:=by
  intro es
  induction es with
  |nil=>intro c hc;cases hc
  |cons x r ih=>
   intro c hc o ho;rcases ef.1 hc with rfl|hc
   ·cases c with
    |ptr b=>simp[jD] at ho
    |mk a cs=>
     simp only[jD,nG] at ho;simp only[jD];exact ki _ ho
   ·have:=ih c hc o ho
    cases x with
    |ptr b=>exact this
    |mk a cs=>simp only[jD];exact pG _ this
 cases e with
 |v t es=>
  cases t with
  |true=>
   obtain⟨vs,h1,h2,h3⟩:=h;refine⟨vs,h1,by rw[rH];exact h2,fun k c hk=> ?_⟩;rw[wh] at hk
   cases h4:es[k]? with
   |none=>rw[h4] at hk;cases hk
   |some c0=>
    rw[h4] at hk;simp only[nB,bq] at hk;obtain⟨u,hu,hok⟩:=h3 k c0 h4;exact⟨u,hu,by rw[←hk];exact comp c0 u (fun o ho=>hc o (dcomp es c0 (ja h4) o ho)) hok⟩
  |false=>
   obtain⟨c,rfl,hok⟩:=h;refine⟨w8 (Ix ρ) c,?_,comp c v hc hok⟩
   cases c<;>rfl
 |ep ds cells=>
  obtain⟨h1,ad,h2,hr,h3⟩:=h;obtain⟨g1,g2⟩:=acM hρ (φ:=φ) hz h1 hc;refine⟨g1,ad,h2,fun hne=>g2 _ (hr hne),fun j tc hj=> ?_⟩;obtain⟨u,h4,h5⟩:=h3 j tc hj;exact⟨u,h4,h5.pZ g2⟩
 |er o path i f=>
  obtain⟨b,h1,h2,ad,n,c,h3,h4⟩:=h;obtain⟨m,h5⟩:=hc o (by simp[zO]) (hz o ⟨b,h1⟩);show dw (vP ob ρ) w (φ.Wy ρ) (.er (J5 ρ o) path i f) v;rw[Iy h5];exact⟨b,IA hρ h5 h1,h2,ad,n,c,by rw[aak hρ h5];exact h3,h4⟩
 |_=>exact h
end
theorem bw.canon (h:bw F A w0 φ st tm w): ∃φ',bw F A w0 φ' (canon st) tm w∧φ'.β=φ.β:=by
 obtain⟨n,hρ,_,hall⟩:=F6 (ahA st) 1 [] (dj _) ⟨fun _ _ h=>(by cases h),List.Pairwise.nil⟩;unfold T.canon ai7;generalize number (ahA st) 1 []=ρ at hρ hall;have hz:=h.sep.nz
 have dom: ∀m,aW (vP st.ob ρ) m→ ∃o,ak o ρ=some m∧aW st.ob o:=fun m ⟨b,hm⟩=>by
  obtain⟨o,h1,h2⟩:=Iz hm;exact⟨o,ES (n:=n) hρ.apart h1,b,h2⟩
 have domS: ∀m k,aW (vP st.ob ρ) m→(φ.Wy ρ).S m k→ ∃o,ak o ρ=some m∧aW st.ob o∧φ.S o k:=fun m k hm hk=>by
  obtain⟨o,h1,h2⟩:=dom m hm;rw[acK hρ h1] at hk;exact⟨o,h1,h2,hk⟩
 refine⟨φ.Wy ρ,⟨fun i=> ?_,fun b cs hb j e he=> ?_,fun m b hm=> ?_,?_,h.frm⟩,rfl⟩
 ·show dw (vP st.ob ρ) w (φ.Wy ρ) (match ak i (mapA (zN (Ix ρ) (acA ρ)) st.tm) with|some e=>e|none=> .dead) (tm.getD i undef)
  rw[uc]
  cases hi:ak i st.tm with
  |none=>trivial
  |some e=>
   have:=h.tmp i;unfold TS.get at this;rw[hi] at this;exact this.Wy hρ hz fun o ho ho0=>hall o (ki _ (List.mem_flatMap.2 ⟨_,jX hi,ho⟩)) ho0
 ·simp only[uc] at hb
  cases h1:ak b st.bx with
  |none=>rw[h1] at hb;cases hb
  |some cs0=>
   rw[h1] at hb;simp only[nB,bq] at hb;subst hb;rw[kg] at he
   cases h2:cs0[j]? with
   |none=>rw[h2] at he;cases he
   |some e0=>
    rw[h2] at he;simp only[nB,bq] at he;subst he;obtain⟨v,h3,h5,h4⟩:=h.box b cs0 h1 j e0 h2;exact⟨v,h3,h5,h4.Wy hρ hz fun o ho ho0=>hall o (pG _ (List.mem_flatMap.2 ⟨_,jX h1,List.mem_flatMap.2 ⟨e0,ja h2,ho⟩⟩)) ho0⟩
 ·obtain⟨o,h1,h2⟩:=Iz hm
  have h1:=ES (n:=n) hρ.apart h1;unfold oI;rw[acK hρ h1,aak hρ h1];exact h.obj o b h2
 ·have hs:=h.sep.boxes (iQ (Ix ρ))
  exact {
   arg:=by rw[acL hρ];exact h.sep.arg
   nz:=fun m hm e=>by
    obtain⟨o,h1,_⟩:=dom m hm;have:=(hρ.rng o m (jX h1)).1;omega
   apart:=fun m m' k h1 h2 h3 h4=>by
    obtain⟨o,a1,a2,a3⟩:=domS m k h1 h3;obtain⟨o',b1,b2,b3⟩:=domS m' k h2 h4;have:=h.sep.apart o o' k a2 b2 a3 b3;subst this;rw[a1] at b1;cases b1;rfl
   read:=fun m k h1 h2=>by obtain⟨o,a1,a2,a3⟩:=domS m k h1 h2;exact h.sep.read o k a2 a3
   fresh:=fun m k h1 h2=>by obtain⟨o,a1,a2,a3⟩:=domS m k h1 h2;exact h.sep.fresh o k a2 a3
   ro:=hs.ro
   oC:=hs.oC
   box:=fun b cs hb hw=>by
    obtain⟨a1,a2,a3,a4⟩:=hs.box b cs hb hw;refine⟨a1,fun m hm hk=> ?_,a3,a4⟩;obtain⟨o,c1,c2,c3⟩:=domS m _ hm hk;exact a2 o c2 c3
   spot:=hs.spot
   soft:=hs.soft}
theorem bw.head (h:bw F A w0 φ st tm w) (l:List Nat):Rel F A w0 (Wt l st) tm w:=by
 obtain⟨φ1,h1,_⟩:=(h.ai9 l).Ws;obtain⟨φ2,h2,_⟩:=h1.canon;exact⟨φ2,h2⟩
end Go.T
