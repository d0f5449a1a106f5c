import Derived.Below
import Derived.WalkKit
import Derived.Laws.AppendOwn
import Derived.DataElems
namespace Go.T
theorem jU {P Q:Prop} (h:P:=by rfl) (k:Q:=by trivial):P∧Q:=⟨h,k⟩
theorem W9 {P:Prop} (h:P:=by first|rfl|(simp;done)|(simp;omega)):P:=h
theorem az {P:Prop} (h:P:=by omega):P:=h
theorem RN {P:Prop} (h:P:=by assumption):P:=h
theorem nF {P:Prop} (h:P:=by simp;omega):P:=h
theorem jc {P:Prop} (h:P:=by simp<;>omega):P:=h
theorem dI {P:Prop} (h:P:=by simp):P:=h
theorem Xc {P:Prop} (h:P:=by trivial):P:=h
theorem VO {P:Prop} (h:P:=by rfl):P:=h
abbrev nR:= @Array.getD_eq_getD_getElem?
abbrev oI:= @Array.getElem?_eq_getElem
abbrev E7:= @Array.getElem?_setIfInBounds
abbrev Hr:= @Array.getElem?_toList
abbrev rF:= @Array.length_toList
abbrev dg:= @Bool.and_eq_true
abbrev pM:= @Bool.and_true
abbrev rG:= @Bool.false_eq_true
abbrev CM:= @Bool.false_or
abbrev pN:= @Bool.not_eq_true'
abbrev CN:= @Bool.not_true
abbrev fK:= @Bool.true_and
abbrev pO:= @Int.ofNat_eq_natCast
abbrev rH:= @Int.toNat_natCast
abbrev oJ:= @List.all_cons
abbrev tQ:= @List.all_nil
abbrev tT:= @List.append_assoc
abbrev nh:= @List.append_nil
abbrev w4:= @List.cons_append
abbrev ve:= @List.drop_eq_getElem_cons
abbrev kH:= @List.drop_length
abbrev yq:= @List.drop_of_length_le
abbrev w5:= @List.eq_nil_of_length_eq_zero
abbrev J9:= @List.flatten_append
abbrev vf:= @List.flatten_cons
abbrev jF:= @List.getD_eq_getElem?_getD
abbrev iE:= @List.getElem?_append_left
abbrev jo:= @List.getElem?_append_right
abbrev mE:= @List.getElem?_cons_succ
abbrev cP:= @List.getElem?_cons_zero
abbrev kJ:= @List.getElem?_drop
abbrev aX:= @List.getElem?_eq_getElem
abbrev Ka:= @List.getElem?_eq_none
abbrev gm:= @List.getElem?_map
abbrev Be:= @List.getElem?_take
abbrev oK:= @List.getElem_mem
abbrev cW:= @List.length_append
abbrev e7:= @List.length_cons
abbrev iF:= @List.length_drop
abbrev Kb:= @List.length_filter_le
abbrev cm:= @List.length_map
abbrev jG:= @List.length_singleton
abbrev eM:= @List.length_take
abbrev vg:= @List.map_append
abbrev CO:= @List.map_drop
abbrev Hs:= @List.map_take
abbrev fj:= @List.mem_append_left
abbrev jq:= @List.mem_append_right
abbrev cu:= @List.mem_cons
abbrev ee:= @List.mem_of_getElem?
abbrev vh:= @List.mem_of_mem_drop
abbrev rI:= @List.mem_of_mem_take
abbrev fk:= @List.mem_singleton
abbrev pP:= @List.nil_append
abbrev w6:= @List.take_append_drop
abbrev pQ:= @List.take_length
abbrev PM:= @List.take_of_length_le
abbrev pR:= @Nat.add_assoc
abbrev lT:= @Nat.add_eq
abbrev ni:= @Nat.add_mul
abbrev mF:= @Nat.add_zero
abbrev CP:= @Nat.ble_eq_true_of_le
abbrev yt:= @Nat.div_add_mod'
abbrev eB:= @Nat.eq_of_beq_eq_true
abbrev E8:= @Nat.le_max_left
abbrev lU:= @Nat.le_of_ble_eq_true
abbrev cq:= @Nat.le_refl
abbrev nS:= @Nat.le_trans
abbrev fG:= @Nat.lt_of_lt_of_le
abbrev rJ:= @Nat.min
abbrev lJ:= @Nat.mul_le_mul_right
abbrev lV:= @Nat.ne_of_beq_eq_false
abbrev pT:= @Nat.sub_self
abbrev CQ:= @Nat.succ_mul
abbrev ia:= @Nat.zero_add
abbrev Bf:= @Nat.zero_le
abbrev ic:= @Option.map_some
abbrev bg:= @Option.some.injEq
abbrev tU:= @Prod.mk.injEq
abbrev pU:= @decide_eq_false
abbrev yu:= @decide_eq_true
abbrev ie:= @exists_eq_left
abbrev g9:= @exists_eq_left'
abbrev aR:= @if_neg
abbrev aZ:= @if_pos
abbrev tV:= @of_decide_eq_true
inductive TC where
 |sc (v:Value)
 |sub (s:Nat) (rows:List (List TC))
 |any
 deriving Inhabited
inductive Mode where
 |snap|top|deep
 deriving DecidableEq,Inhabited
inductive CE where
 |sc (v:Value)
 |nil (z:Nat)
 |ref (o:Nat) (cut:Option (Int×Int))
 |snap (ds:List Nat) (loc:Option (Nat×Int×Nat)) (z:Nat) (rows:List (List TC))
 |gone
 deriving Inhabited
inductive kK where
 |mk (agg:Bool) (cs:List CE)
 |ptr (b:Nat)
inductive TE where
 |dead
 |v (tup:Bool) (es:List kK)
 |bp (b off:Nat)
 |ep (ds:List Nat) (cells:List TC)
 |er (o:Nat) (path:Option (Int×Nat)) (i:Int) (f:Nat)
 |fn (f:FuncId) (caps:List Nat)
 |kb (b:Bool)
 deriving Inhabited
structure OB where
 deep:Bool
 z:Nat
 rows:List (List TC)
structure TS where
 tm:List (Nat×TE)
 bx:List (Nat×List CE)
 ob:List (Nat×OB)
inductive TI where
 |int (k:IntKind)
 |bool
 |str
 |slice (e:TypeId)
 |ptr (e:TypeId)
 |struct (fs:List (Nat×TypeId))
 |other
 deriving Inhabited
structure gn where
 ti:TI
 size:Nat
 bytes:Nat
 flat:Bool
 zero:List TC
 eqs:List Nat:=[]
 deriving Inhabited
inductive TV where
 |c (c:TC)
 |ag (cs:List TC)
 |tu (vs:List (Nat×List TC))
 |bx (cs:List TC)
 |fn (f:FuncId) (caps:List (List TC))
inductive bC where
 |borrow|inout (ms:List Mode)|consume (ms:List Mode)
 deriving DecidableEq
def bC.mc:bC→Nat→Mode
 | .borrow,_=> .snap
 | .inout ms,j=>match ms[j]? with|some m=>m|none=> .deep
 | .consume ms,j=>match ms[j]? with|some m=>m|none=> .deep
structure Lc where
 ps:List bC
 shares:Bool
 res:List (List Mode)
 frz:Bool:=false
inductive wB where
 |nil
 |op (i:Nat) (fl:List Nat) (r:wB)
 |alt (a b:wB)
structure hD where
 P:Program
 tt:TypeId→gn
 sig:FuncId→Lc
 lr:FuncId→Nat→List Nat
 lb:FuncId→Nat→List Nat
 CL:FuncId→Nat→Option wB
 ext:FuncId→Option (List TV→Option (TV×List TV))
inductive TX where
 |norm|ex (id:Nat)|ret
 deriving DecidableEq
inductive Ev (R:Type) where
 |fail
 |ret (r:R)
 |test (b:Bool) (k:Bool→Ev R)
 |row (rows:List (List TC)) (i:Int) (k:List TC→Ev R)
 |byte (s:ByteArray) (i:Int) (k:Int→Ev R)
 |bytes (rows:List (List TC)) (k:List Int→Ev R)
 |call (f:FuncId) (vs:List TV) (k:TV→List TV→Ev R)
 |loop (f:FuncId) (i:Nat) (c:Code) (st:TS) (k:TX→TS→Ev R)
 |both (a b:Ev R)
@[irreducible] def dm (a b:Int):Bool:=decide (a<b)
@[irreducible] def pI (a b:Int):Bool:=decide (a≤b)
@[irreducible] def dH (a b:Int):Bool:=a==b
@[irreducible] def IZ (a b:Bool):Bool:=a==b
@[irreducible] def I2 (a b:ByteArray):Bool:=a.toList==b.toList
@[irreducible] def Ht (a b:ByteArray):Bool:=Op.bytesLess a.toList b.toList
@[irreducible] def fits (n b:Nat):Bool:=decide (n*b≤140737488355328∧n≤140737488355328)
@[irreducible] def cN (rows:List (List TC)):Bool:=rows.all fun r=>r.all fun c=>match c with| .sc _=>true|_=>false
@[irreducible] def eD (l h n:Int):Bool:=decide (0≤l∧l≤h∧h≤n)
@[irreducible] def rowAt (rows:List (List TC)) (i:Int):Option (List TC):=if 0≤i then rows[i.toNat]? else none
@[irreducible] def z5 (s:ByteArray) (i:Int):Option Int:=if 0≤i then(s[i.toNat]?).map fun b=>(b.toNat:Int) else none
@[irreducible] def au (rows:List (List TC)) (l h:Int):List (List TC):=(rows.take h.toNat).drop l.toNat
@[irreducible] def eO (z:Nat) (rows:List (List TC)) (l h:Int):List (List TC):=rows.take l.toNat++List.replicate (h.toNat-l.toNat) (List.replicate z .any)++rows.drop h.toNat
@[irreducible] def jH (rows aQ:List (List TC)):List (List TC):=aQ.take rows.length++rows.drop aQ.length
@[irreducible] def setRow (rows:List (List TC)) (i:Int) (f:Nat) (cs:List TC):List (List TC):=
  match rows[i.toNat]? with
  |some r=>rows.set i.toNat (r.take f++cs++r.drop (f+cs.length))
  |none=>rows
@[irreducible] def L9 (a b:Int):Int:=if b<a then b else a
@[irreducible] def yw (n:Int):Nat:=n.toNat
@[irreducible] def yx (a b:Int):Int:=a+b
@[irreducible] def I3 (k:IntKind) (a b:Int):Int:=k.wrap (a+b)
@[irreducible] def CR (k:IntKind) (a b:Int):Int:=k.wrap (a-b)
@[irreducible] def I5 (k:IntKind) (a b:Int):Int:=k.wrap (a*b)
@[irreducible] def dQ (k:IntKind) (a b:Int):Int:=k.wrap (a.tdiv b)
@[irreducible] def I6 (a b:Int):Int:=a.tmod b
@[irreducible] def Qx (k:IntKind) (a b:Int):Int:=k.wrap (a*2 ^ (min b.toNat k.bits))
@[irreducible] def Ld (k:IntKind) (a b:Int):Int:=a.fdiv (2 ^ (min b.toNat k.bits))
@[irreducible] def vi (op:BinOp) (k:IntKind) (a b:Int):Int:=Go.bits op k a b
@[irreducible] def Bg (k:IntKind) (n:Int):Int:=k.wrap n
@[irreducible] def Sb (a b:ByteArray):ByteArray:=a++b
@[irreducible] def Sc (s:ByteArray) (l h:Int):ByteArray:=s.extract l.toNat h.toNat
def oC:List (List TC)→Option (List Int)
 |[]=>some []
 |[.sc (.int .u8 n)]::r=>(oC r).map fun ns=>n::ns
 |_=>none
@[irreducible] def rK (rows:List (List TC)):Option (List Int):=oC rows
@[irreducible] def Hu (ns:List Int):ByteArray:=⟨(ns.map fun n:Int=>UInt8.ofNat n.toNat).toArray⟩
@[irreducible] def w7 (s:ByteArray):List (List TC):=s.data.toList.map fun b=>[TC.sc (.int .u8 b.toNat)]
abbrev one (c:CE):TE:= .v false [.mk false [c]]
abbrev S (v:Value):TE:=one (.sc v)
def gG (o:Nat):List Nat→Bool
 |[]=>false
 |a::r=>match Nat.beq a o with|true=>true|false=>gG o r
def Hv (o:Nat):List Nat→List Nat
 |[]=>[]
 |a::r=>match Nat.beq a o with|true=>Hv o r|false=>a::Hv o r
def nT:List Nat→List Nat→Bool
 |[],_=>false
 |a::r,l=>match gG a l with|true=>true|false=>nT r l
section
variable {α : Type}
def aa (i:Nat):List (Nat×α)→Option α
 |[]=>none
 |(j,e)::r=>match Nat.beq j i with|true=>some e|false=>aa i r
def jk (i:Nat) (e:α):List (Nat×α)→List (Nat×α)
 |[]=>[(i,e)]
 |(j,e')::r=>match Nat.beq j i with
  |true=>(i,e)::r
  |false=>match Nat.ble i j with
   |true=>(i,e)::(j,e')::r
   |false=>(j,e')::jk i e r
def kL (i:Nat):List (Nat×α)→List (Nat×α)
 |[]=>[]
 |(j,e)::r=>match Nat.beq j i with|true=>kL i r|false=>(j,e)::kL i r
def mapA (f:α→α):List (Nat×α)→List (Nat×α)
 |[]=>[]
 |(j,e)::r=>(j,f e)::mapA f r
end
def TS.get (st:TS) (i:Nat):TE:=match aa i st.tm with|some e=>e|none=> .dead
def TS.set (st:TS) (i:Nat) (e:TE):TS:=⟨jk i e st.tm,st.bx,st.ob⟩
def TS.z6 (st:TS) (i:Nat) (cs:List CE):TS:=⟨st.tm,jk i cs st.bx,st.ob⟩
def TS.Qy (st:TS) (i:Nat) (o:OB):TS:=⟨st.tm,st.bx,jk i o st.ob⟩
def gH (f:CE→CE):List kK→List kK
 |[]=>[]
 | .mk a cs::r=> .mk a (cs.map f)::gH f r
 | .ptr b::r=> .ptr b::gH f r
def qY (f:CE→CE) (g:TE→TE):TE→TE
 | .v tup es=> .v tup (gH f es)
 |e=>g e
def pV (f:CE→CE) (g:TE→TE) (h:List (Nat×OB)→List (Nat×OB)) (st:TS):TS:=
 ⟨mapA (qY f g) st.tm,mapA (List.map f) st.bx,h st.ob⟩
def dM:CE→List Nat
 | .ref o _=>[o]
 | .snap d _ _ _=>d
 |_=>[]
def eR:List kK→List Nat
 |[]=>[]
 | .mk _ cs::r=>cs.flatMap dM++eR r
 | .ptr _::r=>eR r
def qZ:TE→List Nat
 | .v _ es=>eR es
 | .ep d _=>d
 | .er o _ _ _=>[o]
 |_=>[]
def E9 (o:Nat) (e:CE):CE:=match gG o (dM e) with|true=> .gone|false=>e
def Kd (o:Nat):TE→TE
 | .ep d cells=>match gG o d with|true=> .dead|false=> .ep d cells
 | .er p path i f=>match Nat.beq p o with|true=> .dead|false=> .er p path i f
 |e=>e
def iT (o:Nat) (st:TS):TS:=pV (E9 o) (Kd o) (kL o) st
def I7 (o:Nat) (e:CE):CE:=match e with
 | .snap d l z rows=>match gG o d with|true=> .gone|false=> .snap d l z rows
 |e=>e
def F0 (o:Nat):TE→TE
 | .ep d cells=>match gG o d with|true=> .dead|false=> .ep d cells
 | .er p (some q) i f=>match Nat.beq p o with|true=> .dead|false=> .er p (some q) i f
 |e=>e
def nG (o:Nat) (b:OB) (st:TS):TS:=pV (I7 o) (F0 o) (jk o b) st
def Hw (cut:Option (Int×Int)) (rows:List (List TC)):List (List TC):=match cut with
 |none=>rows
 |some (l,h)=>au rows l h
def Qz (o:Nat) (l:Option (Nat×Int×Nat)):Option (Nat×Int×Nat):=match l with
 |some (p,i,f)=>match Nat.beq p o with|true=>none|false=>some (p,i,f)
 |none=>none
def Cy (o:Nat) (b:OB) (e:CE):CE:=match e with
 | .ref p cut=>match Nat.beq p o with|true=> .snap [] none b.z (Hw cut b.rows)|false=> .ref p cut
 | .snap d l z rows=> .snap (Hv o d) (Qz o l) z rows
 |e=>e
def F1 (o:Nat):TE→TE
 | .ep d cells=> .ep (Hv o d) cells
 | .er p path i f=>match Nat.beq p o with|true=> .dead|false=> .er p path i f
 |e=>e
def pW (st:TS) (o:Nat):TS:=match aa o st.ob with
 |some b=>pV (Cy o b) (F1 o) (kL o) st
 |none=>st
def vj (o:Nat) (b:OB) (st:TS):TS:=(iT o st).Qy o b
def fT:List (Nat×OB)→List (Nat×OB)→List (Nat×OB)
 |[],ob=>ob
 |(i,b)::r,ob=>jk i b (fT r ob)
def mG {α:Type}:List (Nat×α)→List Nat
 |[]=>[]
 |(o,_)::r=>o::mG r
def wC (l:List Nat) (e:CE):CE:=match e with
 | .snap d l' z rows=>match nT d l with|true=> .gone|false=> .snap d l' z rows
 |e=>e
def sF (l:List Nat):TE→TE
 | .ep d cells=>match nT d l with|true=> .dead|false=> .ep d cells
 | .er p (some q) i f=>match gG p l with|true=> .dead|false=> .er p (some q) i f
 |e=>e
def nH (W:List (Nat×OB)) (st:TS):TS:=match W with
 |[]=>st
 |W=>pV (wC (mG W)) (sF (mG W)) (fT W) st
section
variable {Z : Type}
def fL {α:Type} (f:α→(α→Z)→Z):List α→(List α→Z)→Z
 |[],K=>K []
 |a::r,K=>f a fun a'=>fL f r fun r'=>K (a'::r')
def fB (b:Bool) (K:Bool→Z):Z:=match b with|true=>K true|false=>K false
def fN (n:Nat) (K:Nat→Z):Z:=K n
def PN (p:Option (Int×Nat)) (K:Option (Int×Nat)→Z):Z:=match p with|none=>K none|some (a,b)=>K (some (a,b))
def Sd (p:Option (Int×Int)) (K:Option (Int×Int)→Z):Z:=match p with|none=>K none|some (a,b)=>K (some (a,b))
def Vi (p:Option (Nat×Int×Nat)) (K:Option (Nat×Int×Nat)→Z):Z:=match p with|none=>K none|some (a,b,c)=>K (some (a,b,c))
def fV (v:Value) (K:Value→Z):Z:=match v with
 | .int k n=>K (.int k n)
 | .bool b=>K (.bool b)
 | .string s=>K (.string s)
 |v=>K v
def Se (c:TC) (K:TC→Z):Z:=match c with| .sc v=>fV v fun v=>K (.sc v)| .sub z rows=>K (.sub z rows)| .any=>K .any
def Tq (e:CE) (K:CE→Z):Z:=match e with
 | .sc v=>fV v fun v=>K (.sc v)
 | .nil z=>K (.nil z)
 | .ref o cut=>Sd cut fun cut=>K (.ref o cut)
 | .snap d l z rows=>fL fN d fun d=>Vi l fun l=>K (.snap d l z rows)
 | .gone=>K .gone
def Ma (c:kK) (K:kK→Z):Z:=match c with
 | .mk a cs=>fB a fun a=>fL Tq cs fun cs=>K (.mk a cs)
 | .ptr b=>K (.ptr b)
def T8 (e:TE) (K:TE→Z):Z:=match e with
 | .dead=>K .dead
 | .v tup es=>fB tup fun tup=>fL Ma es fun es=>K (.v tup es)
 | .bp b off=>K (.bp b off)
 | .ep d cells=>fL fN d fun d=>fL Se cells fun cells=>K (.ep d cells)
 | .er r path i f=>PN path fun path=>K (.er r path i f)
 | .fn f caps=>K (.fn f caps)
 | .kb b=>fB b fun b=>K (.kb b)
def T9 (b:OB) (K:OB→Z):Z:=match b with|⟨d,z,rows⟩=>fB d fun d=>K ⟨d,z,rows⟩
def Mb (cs:List TC) (K:List TC→Z):Z:=fL Se cs K
def QA (v:TV) (K:TV→Z):Z:=match v with
 | .c c=>Se c fun c=>K (.c c)
 | .ag cs=>Mb cs fun cs=>K (.ag cs)
 | .tu vs=>fL (fun p K=>match p with|(i,cs)=>Mb cs fun cs=>K (i,cs)) vs fun vs=>K (.tu vs)
 | .bx cs=>Mb cs fun cs=>K (.bx cs)
 | .fn f caps=>K (.fn f caps)
def Le (st:TS) (K:TS→Z):Z:=
 fL (fun p K=>match p with|(i,e)=>T8 e fun e=>K (i,e)) st.tm fun tm=>
 fL (fun p K=>match p with|(i,cs)=>fL Tq cs fun cs=>K (i,cs)) st.bx fun bx=>
 fL (fun p K=>match p with|(i,b)=>T9 b fun b=>K (i,b)) st.ob fun ob=>K ⟨tm,bx,ob⟩
end
def jl (st:TS):CE→Option (Nat×List (List TC))
 | .nil z=>some (z,[])
 | .ref o cut=>match aa o st.ob with|some ⟨_,z,rows⟩=>some (z,Hw cut rows)|none=>none
 | .snap _ _ z rows=>some (z,rows)
 |_=>none
def sG (st:TS) (e:CE):Option TC:=match e with
 | .sc v=>some (.sc v)
 |e=>match jl st e with|some (z,rows)=>some (.sub z rows)|none=>none
def nZ (st:TS):List CE→Option (List TC)
 |[]=>some []
 |e::r=>match sG st e,nZ st r with
  |some c,some cs=>some (c::cs)
  |_,_=>none
def F2 (c:TC):CE:=match c with| .sc v=> .sc v| .sub z _=> .nil z| .any=> .gone
section
variable (C : hD)
def F3 (ty:TypeId):Value→TE
 | .slice none 0 0=>match(C.tt ty).ti with
   | .slice e=>one (.nil (C.tt e).size)
   |_=> .dead
 | .int k n=>S (.int k n)
 | .bool b=> .kb b
 | .string s=>S (.string s)
 |_=> .dead
def lW (st:TS) (ty:TypeId):Operand→TE
 | .tmp i=>st.get i
 | .const v=>F3 C ty v
 | .func f=> .fn f []
 | .global _=> .dead
def Mc:TE→Option Value
 | .v false [.mk false [.sc v]]=>some v
 | .kb b=>some (.bool b)
 |_=>none
def asInt:TE→Option Int
 | .v false [.mk false [.sc (.int _ n)]]=>some n
 |_=>none
def pJ:TE→Option CE
 | .v false [.mk false [e]]=>some e
 | .kb b=>some (.sc (.bool b))
 |_=>none
def wD:TE→Option (List CE)
 | .v false [.mk _ cs]=>some cs
 | .kb b=>some [.sc (.bool b)]
 |_=>none
def Md (op:BinOp):Value→Value→Option Value
 | .int k a,.int k' b=>
   match op with
   | .shl=>if 0≤b then some (.int k (Qx k a b)) else none
   | .shr=>if 0≤b then some (.int k (Ld k a b)) else none
   |_=>if k=k' then
    match op with
    | .add=>some (.int k (I3 k a b))
    | .sub=>some (.int k (CR k a b))
    | .mul=>some (.int k (I5 k a b))
    | .and=>some (.int k (vi .and k a b))
    | .or=>some (.int k (vi .or k a b))
    | .xor=>some (.int k (vi .xor k a b))
    | .eql=>some (.bool (dH a b))
    | .neq=>some (.bool (!dH a b))
    | .lss=>some (.bool (dm a b))
    | .leq=>some (.bool (pI a b))
    | .gtr=>some (.bool (dm b a))
    | .geq=>some (.bool (pI b a))
    |_=>none
    else none
 | .string a,.string b=>match op with
   | .eql=>some (.bool (I2 a b))
   | .neq=>some (.bool (!I2 a b))
   | .lss=>some (.bool (Ht a b))
   | .leq=>some (.bool (Ht a b||I2 a b))
   | .gtr=>some (.bool (!(Ht a b||I2 a b)))
   | .geq=>some (.bool (!Ht a b))
   |_=>none
 |_,_=>none
def pX:List Nat→List CE→List CE→Option Bool
 |[],[],[]=>some true
 |1::ks,.sc (.int k a)::r,.sc (.int k' b)::r'=>if k=k' then(match pX ks r r' with|some q=>some (dH a b&&q)|none=>none) else none
 |2::ks,.sc (.bool a)::r,.sc (.bool b)::r'=>match pX ks r r' with|some q=>some (IZ a b&&q)|none=>none
 |3::ks,.sc (.string a)::r,.sc (.string b)::r'=>match pX ks r r' with|some q=>some (I2 a b&&q)|none=>none
 |_,_,_=>none
def yy (t:TypeId):Bool:=match(C.tt t).ti with| .struct _=>true|_=>false
def kM (t:TypeId) (f:Nat):Option (Nat×TypeId):=match(C.tt t).ti with| .struct fs=>fs[f]?|_=>none
def Oq (t:TypeId) (f:Nat):TypeId:=match kM C t f with|some (_,ft)=>ft|none=>0
def q0 (t:TypeId):Option TypeId:=match(C.tt t).ti with| .slice e=>some e|_=>none
def QB (ds:List Nat) (loc:Option (Nat×Int×Nat)) (j:Nat) (c:TC):CE:=
 match c with
 | .sc v=> .sc v
 | .sub z rows=> .snap ds (match loc with|some (o,i,f)=>some (o,i,f+j)|none=>none) z rows
 | .any=> .gone
def sH (ds:List Nat) (loc:Option (Nat×Int×Nat)):Nat→List TC→List CE
 |_,[]=>[]
 |j,c::r=>QB ds loc j c::sH ds loc (j+1) r
def known (i:gn):Bool:=match i.ti with| .other=>false|_=>true
def q7 (i:gn):Bool:=match i.ti with| .other=>false| .ptr _=>false|_=>true
def Me (t:TypeId) (xs:List CE):TE:= .v false [.mk (yy C t) xs]
variable {R : Type}
def w8 (t:TypeId) (xs:List CE) (K:TE→Ev R):Ev R:=match known (C.tt t),Nat.beq xs.length (C.tt t).size with
 |true,true=>K (Me C t xs)
 |_,_=> .fail
def F4 (e:TypeId) (z:Nat):Bool:=match known (C.tt e) with|true=>Nat.beq z (C.tt e).size|false=>false
def Ke (st:TS) (o:Nat) (path:Option (Int×Nat)) (i:Int) (f:Nat) (K:List TC→Ev R):Ev R:=
 match aa o st.ob with
 |some ⟨_,_,rows⟩=>match path with
  |none=> .row rows i fun row=>K (row.drop f)
  |some (i0,f0)=> .row rows i0 fun row0=>match row0[f0]? with
   |some (.sub _ kV)=> .row kV i fun row=>K (row.drop f)
   |_=> .fail
 |none=> .fail
def w9 (st:TS) (t:TypeId) (e:TE) (K:TE→Ev R):Ev R:=
 match e with
 | .bp b off=>match aa b st.bx with
   |some cs=>w8 C t ((cs.drop off).take (C.tt t).size) K
   |none=> .fail
 | .ep ds cells=>w8 C t (sH ds none 0 (cells.take (C.tt t).size)) K
 | .er o path i f=>Ke st o path i f fun cells=>
     w8 C t (sH [o] (match path with|none=>some (o,i,f)|some _=>none) 0 (cells.take (C.tt t).size)) K
 |_=> .fail
def sJ (t:TypeId):List (Nat×TE)→List CE→Option (List CE)
 |[],cs=>some cs
 |(f,e)::r,cs=>match kM C t f,wD e with
  |some (off,ft),some c=>match Nat.beq c.length (C.tt ft).size with
   |true=>sJ t r (cs.take off++c++cs.drop (off+c.length))
   |false=>none
  |_,_=>none
def Cz (st:TS):List Operand→Option (List Nat)
 |[]=>some []
 |x::r=>match lW C st 0 x,Cz st r with
  | .bp b 0,some bs=>some (b::bs)
  |_,_=>none
def bound (st:TS) (d:Int):Option Operand→Option Int
 |none=>some d
 |some a=>asInt (lW C st 0 a)
def plain:TE→TE
 | .kb b=>S (.bool b)
 |e=>e
def Mf (e:CE) (l h:Int):CE:=match e with
 | .nil z=> .nil z
 | .ref o none=> .ref o (some (l,h))
 | .ref o (some (a,_))=> .ref o (some (yx a l,yx a h))
 | .snap ds _ z rows=> .snap ds none z (au rows l h)
 |e=>e
def Mg (e:CE) (n:Int) (cells:List TC):TE:=match e with
 | .ref o none=> .er o none n 0
 | .ref o (some _)=> .ep [o] cells
 | .snap _ (some (o,i,f)) _ _=> .er o (some (i,f)) n 0
 | .snap ds none _ _=> .ep ds cells
 |_=> .dead
def CA (t:TypeId):Bool:=match(C.tt t).ti with| .bool=>true|_=>false
def QC (bt:Bool) (op:BinOp) (a b:Value) (K:TE→Ev R):Ev R:=match op,a,b with
 | .eql,.bool p,.bool q=>match bt with|true=>K (S (.bool (IZ p q)))|false=> .fail
 | .neq,.bool p,.bool q=>match bt with|true=>K (S (.bool (!IZ p q)))|false=> .fail
 | .rem,.int k p,.int k' q=>if k=k' then .test (dH q 0) fun z=>match z with
     |false=>K (S (.int k (I6 p q)))
     |true=> .fail
   else .fail
 | .quo,.int k p,.int k' q=>if k=k' then .test (dH q 0) fun z=>match z with
     |false=>K (S (.int k (dQ k p q)))
     |true=> .fail
   else .fail
 | .add,.string p,.string q=> .test (fits (p.size+q.size) 1) fun z=>match z with
   |true=>K (S (.string (Sb p q)))
   |false=> .fail
 |_,_,_=>match Md op a b with
  |some v=>K (S v)
  |none=> .fail
def QD (st:TS) (t:TypeId) (e:CE) (K:Value→Ev R):Ev R:=match(C.tt t).ti,e with
 | .str,.sc (.string s)=>K (.int .i64 s.size)
 | .slice _,e=>match jl st e with
   |some (_,rows)=>K (.int .i64 rows.length)
   |none=> .fail
 |_,_=> .fail
def eE (st:TS) (o:Oper) (K:TE→Ev R):Ev R:=
 match o.op with
 | .move x=>K (lW C st o.type x)
 | .assign x=>K (lW C st o.type x)
 | .pick c a b=>match lW C st o.type c with
   | .kb p=>match p with
     |true=>K (lW C st o.type a)
     |false=>K (lW C st o.type b)
   |_=> .fail
 | .load t a=>w9 C st t (lW C st 0 a) K
 | .nilCheck x=>match lW C st 0 x with
   | .bp b off=>K (.bp b off)
   | .ep d c=>K (.ep d c)
   | .er r p i f=>K (.er r p i f)
   |_=> .fail
 | .binOp op t x y _=>match plain (lW C st t x),plain (lW C st t y) with
   | .v false [.mk false [.sc a]],.v false [.mk false [.sc b]]=>QC (CA C t) op a b K
   | .v false [.mk true xs],.v false [.mk true ys]=>match known (C.tt t),(C.tt t).eqs with
     |false,_=> .fail
     |true,[]=> .fail
     |true,k::ks=>match op,pX (k::ks) xs ys with
      | .eql,some b=>K (S (.bool b))
      | .neq,some b=>K (S (.bool (!b)))
      |_,_=> .fail
   |_,_=> .fail
 | .unOp op _ x=>match op,lW C st o.type x with
   | .not,.kb b=>match b with|true=>K (.kb false)|false=>K (.kb true)
   | .not,.v false [.mk false [.sc (.bool b)]]=>K (S (.bool (!b)))
   | .neg,.v false [.mk false [.sc (.int k n)]]=>K (S (.int k (CR k 0 n)))
   |_,_=> .fail
 | .convert src dst x=>match(C.tt dst).ti,(C.tt src).ti,lW C st src x with
   | .int k,.int _,.v false [.mk false [.sc (.int _ n)]]=>K (S (.int k (Bg k n)))
   | .str,.str,.v false [.mk false [.sc (.string s)]]=>K (S (.string s))
   | .str,.slice et,.v false [.mk false [e]]=>match(C.tt et).ti,jl st e with
     | .int .u8,some (_,rows)=> .bytes rows fun ns=>K (S (.string (Hu ns)))
     |_,_=> .fail
   |_,_,_=> .fail
 | .fieldAddr s x f=>match kM C s f,lW C st 0 x with
   |some (off,_),.bp b o=>K (.bp b (o+off))
   |some (off,_),.ep d cells=>K (.ep d (cells.drop off))
   |some (off,_),.er r p i g=>K (.er r p i (g+off))
   |_,_=> .fail
 | .field t x f=>match kM C t f,lW C st t x with
   |some (off,ft),.v false [.mk true cs]=>w8 C ft ((cs.drop off).take (C.tt ft).size) K
   |_,_=> .fail
 | .indexAddr t x i=>match q0 C t,pJ (lW C st t x),asInt (lW C st 0 i) with
   |some et,some e,some n=>match jl st e with
    |some (z,rows)=>match F4 C et z with
     |true=> .row rows n fun cells=>K (Mg e n cells)
     |false=> .fail
    |none=> .fail
   |_,_,_=> .fail
 | .index t x i=>match(C.tt t).ti,Mc (lW C st t x),asInt (lW C st 0 i) with
   | .str,some (.string s),some n=> .byte s n fun b=>K (S (.int .u8 b))
   |_,_,_=> .fail
 | .slice t x lo hi mx=>match mx,(C.tt t).ti,pJ (lW C st t x) with
   |none,.str,some (.sc (.string s))=>match bound C st 0 lo,bound C st s.size hi with
    |some l,some h=> .test (eD l h s.size) fun z=>match z with
     |true=>K (S (.string (Sc s l h)))
     |false=> .fail
    |_,_=> .fail
   |none,.slice et,some e=>match jl st e with
    |some (z,rows)=>match F4 C et z,bound C st 0 lo,bound C st rows.length hi with
     |true,some l,some h=> .test (eD l h rows.length) fun b=>match b with
      |true=>K (one (Mf e l h))
      |false=> .fail
     |_,_,_=> .fail
    |none=> .fail
   |_,_,_=> .fail
 | .extract x i=>match lW C st 0 x with
   | .v true es=>match es[i]? with
     |some (.mk a cs)=>K (.v false [.mk a cs])
     |some (.ptr b)=>K (.bp b 0)
     |none=> .fail
   |_=> .fail
 | .build t ps=>match yy C t,sJ C t (ps.toList.map fun p=>(p.1,lW C st (Oq C t p.1) p.2)) ((C.tt t).zero.map F2) with
   |true,some cs=>K (.v false [.mk true cs])
   |_,_=> .fail
 | .makeFunc fn first caps=>match fn,first.toList,Cz C st caps.toList with
   | .func f,[],some bs=>K (.fn f bs)
   |_,_,_=> .fail
 | .call {callee:= .builtin .len,args,argTypes}=>match args.toList,argTypes.toList with
   |[x],[t]=>match pJ (lW C st t x) with
    |some e=>QD C st t e fun v=>K (S v)
    |none=> .fail
   |_,_=> .fail
 | .call {callee:= .builtin .min,args,argTypes}=>match args.toList,argTypes.toList with
   |[x,y],t::_=>match Mc (lW C st t x),asInt (lW C st t y) with
    |some (.int k a),some b=>K (S (.int k (L9 a b)))
    |_,_=> .fail
   |_,_=> .fail
 |_=> .fail
def jI (e:CE) (st:TS):Option (TC×TS×Bool):=
 match e with
 | .sc v=>some (.sc v,st,true)
 | .nil z=>some (.sub z [],st,true)
 | .ref o cut=>match aa o st.ob with
   |some ⟨d,z,rows⟩=>some (.sub z (Hw cut rows),iT o st,d)
   |none=>none
 | .snap [] _ z rows=>some (.sub z rows,st,false)
 |_=>none
def CS:List CE→TS→Option (List TC×TS×Bool)
 |[],st=>some ([],st,true)
 |e::r,st=>match jI e st with
  |some (c,cF,d1)=>match CS r cF with
   |some (cs,jD,d2)=>some (c::cs,jD,d1&&d2)
   |none=>none
  |none=>none
def rowsOf (st:TS) (ty:TypeId):List (Nat×Operand)→Nat→Option (List (List TC)×TS×Bool)
 |[],_=>some ([],st,true)
 |(i,x)::r,n=>match Nat.beq i n,wD (lW C st ty x) with
  |true,some cs=>match Nat.beq cs.length (C.tt ty).size,CS cs st with
   |true,some (cs',cF,d1)=>match rowsOf cF ty r (n+1) with
    |some (rs,jD,d2)=>some (cs'::rs,jD,d1&&d2)
    |none=>none
   |_,_=>none
  |_,_=>none
def mC (d k j:Nat):Nat:=1000+400*d+20*k+j
def QE (b j:Nat):Nat:=1000000000+100*b+j
def rE (b:Nat):Bool:=match Nat.ble 200000 b with|true=>Nat.ble 300000 b|false=>true
def PO (b:Nat):kK→Bool
 | .ptr c=>Nat.beq c b
 | .mk _ _=>false
def CT (b:Nat):TE→Bool
 | .bp c _=>Nat.beq c b
 | .fn _ caps=>gG b caps
 | .v _ es=>es.any (PO b)
 |_=>false
def Fa (b:Nat) (st:TS):TS:=⟨mapA (fun e=>match CT b e with|true=> .dead|false=>e) st.tm,kL b st.bx,st.ob⟩
def z7 (b:Nat) (cs:List CE) (st:TS):TS:=(Fa b st).z6 b cs
def setCells (f:Nat) (cs:List TC) (rows:List (List TC)) (i:Int):List (List TC):=setRow rows i f cs
def CU (o:Nat) (e:CE):CE:=match e with
 | .snap d (some (p,i,f)) z rows=>match Nat.beq p o with|true=> .snap [] none z rows|false=> .snap d (some (p,i,f)) z rows
 |e=>e
def PR (o:Nat):TE→TE
 | .er p (some q) i f=>match Nat.beq p o with|true=> .dead|false=> .er p (some q) i f
 |e=>e
def Es (b:OB):OB:=⟨false,b.z,b.rows⟩
def rM (o:Nat) (st:TS):TS:=match aa o st.ob with
 |some b=>pV (CU o) (PR o) (jk o (Es b)) st
 |none=>st
def I8 (o:Nat):List CE→Bool
 |[]=>false
 | .snap _ (some (p,_,_)) _ _::r=>match Nat.beq p o with|true=>true|false=>I8 o r
 |_::r=>I8 o r
def yz (o:Nat) (path:Option (Int×Nat)) (i:Int) (f:Nat) (cs:List CE) (st:TS) (K:TS→Ev R):Ev R:=
 match CS cs st with
 |some (ts,cF,d1)=>match aa o cF.ob with
  |some ⟨d,z,rows⟩=>match path with
   |none=> .row rows i fun row=>match Nat.ble (f+ts.length) row.length with
    |true=>K (nH [(o,⟨d&&d1,z,setRow rows i f ts⟩)] cF)
    |false=> .fail
   |some (i0,f0)=>match d,d1 with
    |true,true=> .row rows i0 fun row0=>match row0[f0]? with
     |some (.sub z1 kV)=> .row kV i fun row=>match Nat.ble (f+ts.length) row.length with
      |true=>K (nH [(o,⟨true,z,setRow rows i0 f0 [.sub z1 (setRow kV i f ts)]⟩)] cF)
      |false=> .fail
     |_=> .fail
    |_,_=> .fail
  |none=> .fail
 |none=> .fail
def CB:List CE→Bool
 |[]=>false
 | .gone::_=>true
 |_::r=>CB r
def CV (b off:Nat) (cs:List CE) (st:TS):Option TS:=
 match aa b st.bx with
 |some old=>match rE b&& !CB cs,Nat.ble (off+cs.length) old.length with
  |true,true=>some (st.z6 b (old.take off++cs++old.drop (off+cs.length)))
  |_,_=>none
 |none=>none
def q8 (st:TS) (e:CE):Option (Option Nat×Nat×Bool×List (List TC)):=
 match e with
 | .nil z=>some (none,z,true,[])
 | .ref o cut=>match aa o st.ob with
   |some ⟨d,z,rows⟩=>some (some o,z,d,Hw cut rows)
   |none=>none
 |_=>none
def jr (o:Option Nat) (st:TS):TS:=match o with|some o=>iT o st|none=>st
def pK (d:Nat) (b:OB) (st:TS):TS:=(vj (mC d 0 0) b st).set d (one (.ref (mC d 0 0) none))
def z8 (e:TypeId) (z:Nat):Bool:=match q7 (C.tt e) with|true=>Nat.beq z (C.tt e).size|false=>false
def xD (g o':Nat) (b:OB) (l h:Int) (st:TS):TS:=vj g ⟨true,1,[]⟩ (nG o' ⟨b.deep,b.z,eO b.z b.rows l h⟩ st)
def I9 (d:Nat) (o:Option Nat) (dp:Bool) (cx:CE) (st:TS):Option (Nat×List (List TC)×TS):=match cx with
 | .ref o' (some (l,h))=>match dp,aa o' st.ob,(match o with|some o=>Nat.beq o o'||Nat.beq o (mC d 1 0)|none=>false)||Nat.beq o' (mC d 1 0) with
   |true,some ⟨true,z,rows⟩,false=>some (z,au rows l h,iT (mC d 1 0) (jr o (xD (mC d 1 0) o' ⟨true,z,rows⟩ l h st)))
   |_,_,_=>none
 |_=>none
def Mh (st:TS) (cx:CE):Option (Nat×List (List TC)):=match cx with
 | .ref o' cut=>match aa o' st.ob with
   |some ⟨false,z,rows⟩=>some (z,Hw cut rows)
   |_=>none
 |_=>none
def Kf (st:TS) (d:Nat) (t t':TypeId) (s:TE) (x:TE) (K:TS→Ev R):Ev R:=
 match q0 C t,pJ s,pJ x with
 |some e,some cs,some cx=>match q8 st cs,(C.tt t').ti with
  |some (o,z,dp,rows),.str=>match z8 C e z,Nat.beq z 1,cx with
   |true,true,.sc (.string b)=> .test (fits (rows.length+b.size) (C.tt e).bytes) fun q=>match q with
    |true=>K (pK d ⟨dp,z,rows++w7 b⟩ (jr o st))
    |false=> .fail
   |_,_,_=> .fail
  |some (o,z,dp,rows),.slice _=>match z8 C e z with
   |false=> .fail
   |true=>match(C.tt e).flat with
     |true=>match jl st cx with
      |some (z',aQ)=>match Nat.beq z z' with
       |true=> .test (cN aQ&&fits (rows.length+aQ.length) (C.tt e).bytes) fun q=>match q with
        |true=>K (pK d ⟨dp,z,rows++aQ⟩ (jr o st))
        |false=> .fail
       |false=> .fail
      |none=> .fail
     |false=>match I9 d o dp cx st with
      |some (z',aQ,cF)=>match Nat.beq z z' with
        |true=> .test (fits (rows.length+aQ.length) (C.tt e).bytes) fun q=>match q with
         |true=>K (pK d ⟨dp,z,rows++aQ⟩ cF)
         |false=> .fail
        |false=> .fail
      |none=>match Mh st cx with
       |some (z',aQ)=>match Nat.beq z z' with
        |true=> .test (fits (rows.length+aQ.length) (C.tt e).bytes) fun q=>match q with
         |true=>K (pK d ⟨false,z,rows++aQ⟩ (jr o st))
         |false=> .fail
        |false=> .fail
       |none=>match jI cx (jr o st) with
       |some (.sub z' aQ,cF,d1)=>match Nat.beq z z' with
        |true=> .test (fits (rows.length+aQ.length) (C.tt e).bytes) fun q=>match q with
         |true=>K (pK d ⟨dp&&d1,z,rows++aQ⟩ cF)
         |false=> .fail
        |false=> .fail
       |_=> .fail
  |_,_=> .fail
 |_,_,_=> .fail
def PS (st:TS) (d:Option Nat) (t:TypeId) (s:TE) (x:TE) (K:TS→Ev R):Ev R:=
 match q0 C t,pJ s,pJ x with
 |some e,some (.ref o none),some cx=>match aa o st.ob,jl st cx,q7 (C.tt e) with
  |some ⟨true,z,rows⟩,some (z',aQ),true=>match Nat.beq z z'&&Nat.beq z (C.tt e).size with
   |true=> .test (cN aQ) fun q=>match q with
    |true=>match d with
     |some d=>K ((nG o ⟨true,z,jH rows aQ⟩ st).set d (one (.sc (.int .i64 (Int.ofNat (rJ aQ.length rows.length))))))
     |none=>K (nG o ⟨true,z,jH rows aQ⟩ st)
    |false=> .fail
   |false=> .fail
  |_,_,_=> .fail
 |_,_,_=> .fail
def F5 (st:TS):List Nat→Option (List (List TC))
 |[]=>some []
 |b::r=>match aa b st.bx with
  |some cs=>match nZ st cs,F5 st r with
   |some c,some cs=>some (c::cs)
   |_,_=>none
  |none=>none
def Mi (st:TS) (e:TE) (K:TV→Ev R):Ev R:=
 match e with
 | .v false [.mk a cs]=>match nZ st cs with
   |some ts=>match a,ts with
    |true,ts=>K (.ag ts)
    |false,[c]=>K (.c c)
    |_,_=> .fail
   |none=> .fail
 | .kb b=>K (.c (.sc (.bool b)))
 | .bp b off=>match aa b st.bx with
   |some cs=>match nZ st (cs.drop off) with
    |some ts=>K (.bx ts)
    |none=> .fail
   |none=> .fail
 | .ep _ (c::cells)=>K (.bx (c::cells))
 | .er r p i f=>Ke st r p i f fun cells=>match cells with
   |[]=> .fail
   |c::cells=>K (.bx (c::cells))
 | .fn f caps=>match F5 st caps with
   |some xs=>K (.fn f xs)
   |none=> .fail
 |_=> .fail
def Hy (st:TS):List TE→(List TV→Ev R)→Ev R
 |[],K=>K []
 |e::r,K=>Mi st e fun v=>Hy st r fun vs=>K (v::vs)
def sK (st:TS) (b:Nat):List Nat:=match aa b st.bx with
 |some cs=>(2*b+1)::(cs.flatMap dM).map (2* ·)
 |none=>[2*b+1]
def lX (st:TS):TE→List Nat
 | .v _ es=>(eR es).map (2* ·)
 | .ep d _=>d.map (2* ·)
 | .er o _ _ _=>[2*o]
 | .bp b _=>sK st b
 | .fn _ caps=>caps.flatMap (sK st)
 |_=>[]
def pY (st:TS) (o:Nat):Bool:=match aa o st.ob with|some ⟨true,_,_⟩=>true|_=>false
def Aa (st:TS) (o:Nat):Bool:=match aa o st.ob with|some ⟨false,_,_⟩=>true|_=>false
def lY (st:TS) (c:Bool):List Mode→List CE→Option (List Nat)
 |_,[]=>some []
 |ms,e::r=>match lY st c (ms.drop 1) r with
  |some l=>match ms.headD .deep,e with
   |_,.sc _=>some l
   |_,.nil _=>some l
   | .snap,.snap [] none _ _=>some l
   | .snap,_=>none
   | .top,.ref o none=>match Aa st o with|true=>some ((2*o)::l)|false=>none
   | .top,_=>none
   |_,.ref o none=>match pY st o with|true=>some ((2*o)::l)|false=>none
   |_,.ref o (some _)=>match c,pY st o with|true,true=>some ((2*o)::l)|_,_=>none
   |_,.snap _ (some (o,_,_)) _ _=>match c,pY st o with|false,true=>some ((2*o)::l)|_,_=>none
   |_,_=>none
  |none=>none
def lD (st:TS) (c:Bool) (ms:List Mode) (e:TE):Option (List Nat):=match e with
 | .v false [.mk _ cs]=>match c,ms with|true,ms=>lY st true ms cs|false,[]=>lY st false [] cs|_,_=>none
 | .bp b 0=>match c,rE b,aa b st.bx with
   |false,true,some cs=>match lY st true ms cs with
    |some l=>some ((2*b+1)::l)
    |none=>none
   |_,_,_=>none
 |_=>none
def bC.ms:bC→List Mode
 | .inout ms=>ms
 | .consume ms=>ms
 |_=>[]
def xE:List Nat→Bool
 |[]=>true
 |a::r=>match gG a r with|true=>false|false=>xE r
def sL (st:TS):List bC→List TE→Option (List Nat×List Nat)
 |[],[]=>some ([],[])
 |p::ps,e::es=>match sL st ps es with
  |some (own,rd)=>match p with
   | .borrow=>some (own,lX st e++rd)
   | .inout ms=>match lD st false ms e with|some l=>some (l++own,rd)|none=>none
   | .consume ms=>match lD st true ms e with|some l=>some (l++own,rd)|none=>none
  |none=>none
 |_,_=>none
def oc:List CE→TS→TS
 |[],st=>st
 | .ref o _::r,st=>oc r (iT o st)
 |_::r,st=>oc r st
def mI (st:TS) (e:CE) (c:TC):Option (List (Nat×OB)):=
 match e,c with
 | .sc _,.sc _=>some []
 | .nil _,.sub _ []=>some []
 | .ref o none,.sub z rows=>match aa o st.ob with
   |some ⟨true,z0,_⟩=>match Nat.beq z z0 with|true=>some [(o,⟨true,z,rows⟩)]|false=>none
   |_=>none
 | .snap _ (some (o,i,f)) z0 _,.sub z' aQ=>match aa o st.ob,Nat.beq z' z0 with
   |some ⟨true,z,rows⟩,true=>some [(o,⟨true,z,setRow rows i f [.sub z' aQ]⟩)]
   |_,_=>none
 |_,_=>none
def CC (st:TS):List CE→List TC→Option (List (Nat×OB))
 |[],[]=>some []
 |e::r,c::cs=>match mI st e c,CC st r cs with
  |some a,some b=>some (a++b)
  |_,_=>none
 |_,_=>none
def bK (f:Nat→Nat):List Mode→Nat→List TC→TS→List CE×TS
 |_,_,[],st=>([],st)
 |ms,j,c::cs,st=>match c with
  | .sc v=>match bK f (ms.drop 1) (j+1) cs st with|(r,st')=>(.sc v::r,st')
  | .sub z rows=>match ms.headD .snap with
    | .snap=>match bK f (ms.drop 1) (j+1) cs st with|(r,st')=>(.snap [] none z rows::r,st')
    | .top=>match bK f (ms.drop 1) (j+1) cs (vj (f j) ⟨false,z,rows⟩ st) with|(r,st')=>(.ref (f j) none::r,st')
    | .deep=>match bK f (ms.drop 1) (j+1) cs (vj (f j) ⟨true,z,rows⟩ st) with|(r,st')=>(.ref (f j) none::r,st')
  | .any=>match bK f (ms.drop 1) (j+1) cs st with|(r,st')=>(.gone::r,st')
def nj (kG:TS):List bC→List TE→TS→TS
 |p::ps,e::es,st=>match p,e with
  | .consume _,.v false [.mk _ cs]=>nj kG ps es (oc cs st)
  | .inout _,.bp b _=>match aa b kG.bx with
    |some cs=>nj kG ps es ⟨(oc cs st).tm,kL b (oc cs st).bx,(oc cs st).ob⟩
    |none=>nj kG ps es st
  |_,_=>nj kG ps es st
 |_,_,st=>st
def oe (st:TS):List bC→List TE→List TV→Option (List (Nat×OB)×List (Nat×List Mode×List TC))
 |p::ps,e::es,fs=>match p with
  | .inout ms=>match e,fs with
    | .v false [.mk false [e]],.c c::fs=>match mI st e c,oe st ps es fs with
      |some a,some (b,bs)=>some (a++b,bs)
      |_,_=>none
    | .v false [.mk true cs],.ag ts::fs=>match CC st cs ts,oe st ps es fs with
      |some a,some (b,bs)=>some (a++b,bs)
      |_,_=>none
    | .bp b 0,.bx ts::fs=>match aa b st.bx,oe st ps es fs with
      |some cs,some (a,bs)=>match Nat.beq cs.length ts.length with|true=>some (a,(b,ms,ts)::bs)|false=>none
      |_,_=>none
    |_,_=>none
  |_=>oe st ps es fs
 |[],[],[]=>some ([],[])
 |_,_,_=>none
def Hz:List Mode→List TC→List Mode
 |_,[]=>[]
 |ms,_::r=>(match ms.headD .deep with| .snap=> .snap|_=> .deep)::Hz (ms.drop 1) r
def yA:List (Nat×List Mode×List TC)→TS→TS
 |[],st=>st
 |(b,ms,ts)::r,st=>match bK (QE b) (Hz ms ts) 0 ts st with
  |(cs,st')=>yA r (st'.z6 b cs)
def mJ (st:TS):List Nat→TS
 |[]=>st
 |o::r=>mJ (pW st o) r
def vk (st:TS):TE→List Nat
 | .bp b _=>match aa b st.bx with|some cs=>cs.flatMap dM|none=>[]
 | .fn _ caps=>caps.flatMap fun b=>match aa b st.bx with|some cs=>cs.flatMap dM|none=>[]
 |e=>qZ e
def borrowed (st:TS):List bC→List TE→List Nat
 | .borrow::ps,e::es=>vk st e++borrowed st ps es
 |_::ps,_::es=>borrowed st ps es
 |_,_=>[]
def og (d k:Nat):Nat:=400000+20*d+k
def ef (d:Nat):Nat→List (List Mode)→List (Nat×List TC)→TS→List kK×TS
 |_,_,[],st=>([],st)
 |k,ms,(a,cs)::r,st=>match bK (mC d k) (ms.headD []) 0 cs st with
  |(cs',st')=>match Nat.beq a 2 with
   |true=>match ef d (k+1) (ms.drop 1) r (z7 (og d k) cs' st') with
    |(es,Ba)=>(.ptr (og d k)::es,Ba)
   |false=>match ef d (k+1) (ms.drop 1) r st' with
    |(es,Ba)=>(.mk (Nat.beq a 1) cs'::es,Ba)
def wE:List (Nat×List TC)→Bool
 |[]=>true
 |(_,cs)::r=>match Nat.ble cs.length 20 with|true=>wE r|false=>false
def Mj (d:Nat) (ms:List (List Mode)) (v:TV) (st:TS):Option TS:=
 match v with
 | .c c=>match bK (mC d 0) (ms.headD []) 0 [c] st with|(cs,st')=>some (st'.set d (.v false [.mk false cs]))
 | .ag cs=>match bK (mC d 0) (ms.headD []) 0 cs st with|(cs,st')=>some (st'.set d (.v false [.mk true cs]))
 | .tu vs=>match wE vs with
   |true=>match ef d 0 ms vs st with|(es,st')=>some (st'.set d (.v true es))
   |false=>none
 | .bx cs=>match bK (mC d 0) (ms.headD []) 0 cs st with|(cs',st')=>some ((z7 (og d 0) cs' st').set d (.bp (og d 0) 0))
 |_=>none
def pZ:TV→Bool
 | .c _=>true
 | .ag cs=>Nat.ble cs.length 16
 | .bx cs=>Nat.ble cs.length 16
 | .fn _ caps=>Nat.ble caps.length 900
 | .tu _=>false
def kN:List TV→Bool
 |[]=>true
 |v::r=>match pZ v with|true=>kN r|false=>false
def oL (vs:List TV):Bool:=match Nat.ble vs.length 50 with|true=>kN vs|false=>false
def vl (sh:Bool) (st:TS) (ps:List bC) (es:List TE):TS:=match sh with
 |true=>mJ (nj st ps es st) (borrowed st ps es)
 |false=>nj st ps es st
def jV:List Mode→List TC→Bool
 |_,[]=>true
 |ms,.sc _::r=>jV (ms.drop 1) r
 |ms,.sub _ _::r=>match ms.headD .snap with| .deep=>jV (ms.drop 1) r|_=>false
 |ms,.any::r=>match ms.headD .snap with| .deep=>jV (ms.drop 1) r|_=>false
def CD:List (List Mode)→List (Nat×List TC)→Bool
 |_,[]=>true
 |ms,(_,cs)::r=>match jV (ms.headD []) cs with|true=>CD (ms.drop 1) r|false=>false
def Kg (ms:List (List Mode)):TV→Bool
 | .c c=>jV (ms.headD []) [c]
 | .ag cs=>jV (ms.headD []) cs
 | .bx cs=>jV (ms.headD []) cs
 | .tu vs=>CD ms vs
 | .fn _ _=>false
def F6:List bC→Bool
 |[]=>true
 | .inout (_::_)::_=>false
 |_::r=>F6 r
def Mk:List bC→Bool
 |[]=>true
 | .inout (_::_)::_=>false
 | .consume (_::_)::_=>false
 |_::r=>Mk r
def Ja (g:Lc) (r:TV):Bool:=match g.shares with
 |true=>true
 |false=>match F6 g.ps with|true=>Kg g.res r|false=>false
def yB (d:Option Tmp) (f:FuncId) (es:List TE) (st:TS) (K:TS→Ev R):Ev R:=
 match sL st (C.sig f).ps es with
 |some (own,rd)=>match xE own,nT own rd,(C.sig f).shares&&gG 0 rd with
  |true,false,false=>Hy st es fun vs=>match oL vs with
   |true=> .call f vs fun r fs=>match Ja (C.sig f) r with
    |false=> .fail
    |true=>match oe st (C.sig f).ps es fs with
     |some (W,B)=>Le (yA B (nH W (vl (C.sig f).shares st (C.sig f).ps es))) fun jD=>match d with
      |some d=>match Mj d (C.sig f).res r jD with
       |some st4=>K st4
       |none=> .fail
      |none=>K jD
     |none=> .fail
   |false=> .fail
  |_,_,_=> .fail
 |none=> .fail
def yC (st:TS):List Operand→List TypeId→List TE
 |x::xs,t::ts=>lW C st t x::yC st xs ts
 |_,_=>[]
def Fb (st:TS) (o:Oper) (K:TS→Ev R):Ev R:=match o.dst with
 |some d=>eE C st o fun e=>K (st.set d e)
 |none=> .fail
def jJ (st:TS) (o:Oper) (K:TS→Ev R):Ev R:=
 match o.op with
 | .alloc t=>match o.dst,q7 (C.tt t) with
   |some d,true=>match rE d with
    |true=>K ((z7 d ((C.tt t).zero.map F2) st).set d (.bp d 0))
    |false=> .fail
   |_,_=> .fail
 | .box t x=>match o.dst,wD (lW C st t x) with
   |some d,some cs=>match rE d with
    |true=>K ((z7 d cs st).set d (.bp d 0))
    |false=> .fail
   |_,_=> .fail
 | .store t a x=>match o.dst,known (C.tt t),wD (lW C st t x) with
   |none,true,some cs=>match Nat.beq cs.length (C.tt t).size,lW C st 0 a with
    |true,.bp b off=>match CV b off cs st with
     |some st'=>K st'
     |none=> .fail
    |true,.er r none i f=>match I8 r cs with
     |true=>yz r none i f (cs.map (CU r)) (rM r st) K
     |false=>yz r none i f cs st K
    |true,.er r p i f=>yz r p i f cs st K
    |_,_=> .fail
   |_,_,_=> .fail
 | .buildSlice t n ps=>match o.dst,q0 C t with
   |some d,some e=>match Nat.beq n ps.size&&Nat.ble (n*(C.tt e).size) 16777216&&q7 (C.tt e),rowsOf C st e ps.toList 0 with
    |true,some (rs,st',dp)=>K (pK d ⟨dp,(C.tt e).size,rs⟩ st')
    |_,_=> .fail
   |_,_=> .fail
 | .makeSlice t l c=>match o.dst,q0 C t,asInt (lW C st 3 l),asInt (lW C st 3 c) with
   |some d,some e,some n,some n'=> .test (q7 (C.tt e)&&dH n n'&&pI 0 n&&fits (yw n) (C.tt e).bytes) fun z=>match z with
    |true=>K (pK d ⟨true,(C.tt e).size,List.replicate (yw n) (C.tt e).zero⟩ st)
    |false=> .fail
   |_,_,_,_=> .fail
 | .convert src dst x=>match(C.tt dst).ti,(C.tt src).ti with
   | .slice et,.str=>match o.dst,(C.tt et).ti,Mc (lW C st src x) with
     |some d,.int .u8,some (.string s)=> .test (fits s.size 1) fun z=>match z with
      |true=>K (pK d ⟨true,1,w7 s⟩ st)
      |false=> .fail
     |_,_,_=> .fail
   |_,_=>Fb C st o K
 | .call {callee:= .builtin .append,args,argTypes}=>match o.dst,args.toList,argTypes.toList with
   |some d,[s,x],[t,t']=>Kf C st d t t' (lW C st t s) (lW C st t' x) K
   |_,_,_=> .fail
 | .call {callee:= .builtin .copy,args,argTypes}=>match args.toList,argTypes.toList with
   |[s,x],[t,t']=>PS C st o.dst t (lW C st t s) (lW C st t' x) K
   |_,_=> .fail
 | .call {callee:= .value (.func f),args,argTypes}=>match Nat.beq args.toList.length argTypes.toList.length with
   |true=>yB C o.dst f (yC C st args.toList argTypes.toList) st K
   |false=> .fail
 | .call {callee:= .value (.tmp i),args,argTypes}=>match Nat.beq args.toList.length argTypes.toList.length with
   |true=>match st.get i with
    | .fn f caps=>yB C o.dst f (yC C st args.toList argTypes.toList++caps.map fun b=> .bp b 0) st K
    |_=> .fail
   |false=> .fail
 |_=>Fb C st o K
def F7 (st:TS) (b:Nat):List Nat:=match aa b st.bx with
 |some cs=>(2*b+1)::(cs.flatMap dM).map (2* ·)
 |none=>[2*b+1]
def vm (st:TS):TE→List Nat
 | .v _ es=>(eR es).map (2* ·)
 | .bp b _=>F7 st b
 |_=>[]
def lE (st:TS):List bC→List TE→List Nat
 | .borrow::ps,_::es=>lE st ps es
 |_::ps,e::es=>vm st e++lE st ps es
 |_,_=>[]
def writes (st:TS) (o:Oper):List Nat:=match o.op with
 | .store _ a _=>match lW C st 0 a with
   | .bp b _=>[2*b+1]
   | .er o _ _ _=>[2*o]
   |_=>[]
 | .call {callee:= .builtin .append,args,argTypes}=>match args.toList,argTypes.toList with
   |s::_,t::_=>(qZ (lW C st t s)).map (2* ·)
   |_,_=>[]
 | .call {callee:= .builtin .copy,args,argTypes}=>match args.toList,argTypes.toList with
   |s::_,t::_=>(qZ (lW C st t s)).map (2* ·)
   |_,_=>[]
 | .call {callee:= .value (.func f),args,argTypes}=>lE st (C.sig f).ps (yC C st args.toList argTypes.toList)
 | .call {callee:= .value (.tmp i),args,argTypes}=>match st.get i with
   | .fn f caps=>lE st (C.sig f).ps (yC C st args.toList argTypes.toList++caps.map fun b=> .bp b 0)
   |_=>[]
 |_=>[]
def Ml (st:TS) (o:Oper):Option (List Nat):=match o.op with
 | .load _ a=>match lW C st 0 a with
   | .bp b _=>match aa b st.bx with
     |some _=>some [2*b+1]
     |none=>none
   | .ep d (_::_)=>some (d.map (2* ·))
   | .er o none _ _=>some [2*o]
   | .er o (some _) _ _=>match aa o st.ob with
     |some ⟨true,_,_⟩=>some [2*o]
     |_=>none
   |_=>none
 |_=>none
def PT (ops:Array Oper) (st:TS) (o:Oper):Bool:=match o.guard with
 |none=>false
 |some (j,want)=>match ops[j]? with
  |some oj=>match oj.dst with
   |some t=>match st.get t with
    | .kb b=>match b,want with
      |true,false=>true
      |false,true=>true
      |_,_=>false
    | .v true []=>true
    |_=>false
   |none=>false
  |none=>false
def vn (ops:Array Oper) (st:TS) (o:Oper):List Nat→Bool
 |[]=>true
 |l::r=>match ops[l]? with
  |some ol=>match PT ops st ol with
   |true=>vn ops st o r
   |false=>match Ml C st ol with
    |some rd=>match nT rd (writes C st o) with|true=>false|false=>vn ops st o r
    |none=>false
  |none=>false
def yD:List Mode→List CE→List Nat
 |_,[]=>[]
 |ms,e::r=>match ms.headD .deep,e with
  | .snap,.ref o none=>o::yD (ms.drop 1) r
  |_,_=>yD (ms.drop 1) r
def Fc (st:TS):List bC→List TE→List Nat
 |p::ps,e::es=>match p,e with
  | .inout (m::ms),.bp b _=>match aa b st.bx with
    |some cs=>yD (m::ms) cs++Fc st ps es
    |none=>Fc st ps es
  | .consume (m::ms),.v false [.mk _ cs]=>yD (m::ms) cs++Fc st ps es
  |_,_=>Fc st ps es
 |_,_=>[]
def CW:List CE→List Nat
 |[]=>[]
 | .ref o _::r=>o::CW r
 |_::r=>CW r
def Ab:List kK→List Nat
 |[]=>[]
 | .mk _ cs::r=>CW cs++Ab r
 |_::r=>Ab r
def Kh (st:TS) (e:TypeId):List (Nat×Operand)→List Nat
 |[]=>[]
 |(_,x)::r=>match lW C st e x with
  | .v _ es=>Ab es++Kh st e r
  |_=>Kh st e r
def QF (fx:List Nat) (st:TS) (o:Oper):TS:=match o.op with
 | .buildSlice t _ ps=>match gG 777777 fx,q0 C t with
   |true,some e=>mJ st (Kh C st e ps.toList)
   |_,_=>st
 | .call {callee:= .value (.func f),args,argTypes}=>match Mk (C.sig f).ps with
   |true=>st
   |false=>mJ st (Fc st (C.sig f).ps (yC C st args.toList argTypes.toList))
 |_=>st
def HA (fx fl:List Nat) (ops:Array Oper) (st:TS) (o:Oper) (K:TS→Ev R):Ev R:=Le (QF C fx st o) fun st=>match vn C ops st o fl with
 |true=>jJ C st o K
 |false=> .fail
def HB (st:TS) (o:Oper) (K:TS→Ev R):Ev R:=match o.dst with
 |some d=>K (st.set d (.v true []))
 |none=>K st
def Jb (fx fl:List Nat) (ops:Array Oper) (st:TS) (o:Oper) (b want:Bool) (K:TS→Ev R):Ev R:=
 match b,want with
 |true,true=>HA C fx fl ops st o K
 |false,false=>HA C fx fl ops st o K
 |_,_=>HB st o K
def Ki (fx:List Nat) (o:Oper):Bool:=match o.dst with|some d=> !gG d fx|none=>true
def guarded (fx fl:List Nat) (ops:Array Oper) (st:TS) (o:Oper) (K:TS→Ev R):Ev R:=
 match Ki fx o with
 |false=> .fail
 |true=>match o.guard with
  |none=>HA C fx fl ops st o K
  |some (j,want)=>match ops[j]? with
   |some oj=>match oj.dst with
    |some t=>match st.get t with
     | .kb b=>Jb C fx fl ops st o b want K
     | .v false [.mk false [.sc (.bool b)]]=> .test b fun b=>Jb C fx fl ops (st.set t (.kb b)) o b want K
     | .v true []=>HB st o K
     |_=> .fail
    |none=> .fail
   |none=> .fail
def tW {α:Type} (l:List Nat):List (Nat×α)→List (Nat×α)
 |[]=>[]
 |(i,e)::r=>match gG i l with|true=>(i,e)::tW l r|false=>tW l r
def F8 (fx:List Nat) (l:List Nat) (ops:Array Oper):List Oper→TS→(TS→Ev R)→Ev R
 |[],st,K=>Le ⟨tW l st.tm,st.bx,st.ob⟩ K
 |o::r,st,K=>guarded C fx [] ops st o fun st'=>Le st' fun st'=>F8 fx l ops r st' K
def lZ (fx:List Nat) (l:List Nat) (ops:Array Oper):wB→TS→(TS→Ev R)→Ev R
 | .nil,st,K=>Le ⟨tW l st.tm,st.bx,st.ob⟩ K
 | .op i fl r,st,K=>match ops[i]? with
   |some o=>guarded C fx fl ops st o fun st'=>Le st' fun st'=>lZ fx l ops r st' K
   |none=> .fail
 | .alt a b,st,K=> .both (lZ fx l ops a st K) (lZ fx l ops b st K)
def p0 (l:List Nat):List (Nat×List CE)→List (Nat×List CE)
 |[]=>[]
 |(i,cs)::r=>match Nat.ble 100000 i with
  |true=>(i,cs)::p0 l r
  |false=>match gG i l with|true=>(i,cs)::p0 l r|false=>p0 l r
def ek (n:Nat):List CE→List CE×Nat×List (Nat×OB)
 |[]=>([],n,[])
 | .nil z::r=>match Nat.ble 1 z with
   |true=>match ek (n+1) r with|(cs,m,obs)=>(.ref n none::cs,m,(n,⟨true,z,[]⟩)::obs)
   |false=>match ek n r with|(cs,m,obs)=>(.nil z::cs,m,obs)
 |e::r=>match ek n r with|(cs,m,obs)=>(e::cs,m,obs)
def dR (n:Nat):List kK→List kK×Nat×List (Nat×OB)
 |[]=>([],n,[])
 | .mk a cs::r=>match ek n cs with
   |(cs',m,o1)=>match dR m r with|(es,m',o2)=>(.mk a cs'::es,m',o1++o2)
 | .ptr b::r=>match dR n r with|(es,m,o2)=>(.ptr b::es,m,o2)
def xF (n:Nat) (e:TE):TE×Nat×List (Nat×OB):=match e with
 | .v tup es=>match dR n es with|(es',m,o)=>(.v tup es',m,o)
 | .kb b=>(S (.bool b),n,[])
 |e=>(e,n,[])
def rN (n:Nat):List (Nat×TE)→List (Nat×TE)×List (Nat×OB)
 |[]=>([],[])
 |(i,e)::r=>match xF n e with
  |(e',m,o1)=>match rN m r with|(r',o2)=>((i,e')::r',o1++o2)
def HC (n:Nat):List (Nat×OB)→Bool
 |[]=>true
 |(i,_)::r=>match Nat.ble n i with|true=>false|false=>HC n r
def HD (st:TS):TS:=match HC 900000000 st.ob with
 |true=>match rN 900000000 st.tm with|(tm,obs)=>⟨tm,st.bx,fT obs st.ob⟩
 |false=>st
def QG (st:TS):List Nat:=(st.tm.flatMap fun p=>qZ p.2)++st.bx.flatMap fun p=>p.2.flatMap dM
def number:List Nat→Nat→List (Nat×Nat)→List (Nat×Nat)
 |[],_,ρ=>ρ
 |o::r,n,ρ=>match Nat.beq o 0 with
  |true=>number r n ρ
  |false=>match aa o ρ with
   |some _=>number r n ρ
   |none=>number r (n+1) ((o,n)::ρ)
def Ac (ρ:List (Nat×Nat)) (o:Nat):Nat:=match aa o ρ with|some n=>n|none=>0
def yE (ρ:List (Nat×Nat)):CE→CE
 | .ref o cut=> .ref (Ac ρ o) cut
 | .snap d l z rows=> .snap (d.map (Ac ρ)) (match l with|some (o,i,f)=>some (Ac ρ o,i,f)|none=>none) z rows
 |e=>e
def Mm (ρ:List (Nat×Nat)):TE→TE
 | .ep d cells=> .ep (d.map (Ac ρ)) cells
 | .er o p i f=> .er (Ac ρ o) p i f
 |e=>e
def nU (ob:List (Nat×OB)):List (Nat×Nat)→List (Nat×OB)
 |[]=>[]
 |(o,n)::r=>match aa o ob with|some b=>jk n b (nU ob r)|none=>nU ob r
def Sf (ρ:List (Nat×Nat)) (st:TS):TS:=⟨mapA (qY (yE ρ) (Mm ρ)) st.tm,mapA (List.map (yE ρ)) st.bx,nU st.ob ρ⟩
def canon (st:TS):TS:=Sf (number (QG st) 1 []) st
def HE (l:List Nat) (st:TS):TS:=canon (HD ⟨tW l st.tm,p0 l st.bx,st.ob⟩)
def run (fx:List Nat) (f:FuncId):Nat→Code→TS→(TX→TS→Ev R)→Ev R
 |_,.skip,st,K=>K .norm st
 |_,.region id ops draw,st,K=>match draw with
  |false=>F8 C fx (C.lr f id) ops ops.toList st (K .norm)
  |true=>match C.CL f id with
   |some l=>lZ C fx (C.lr f id) ops l st (K .norm)
   |none=> .fail
 |i,.seq a b,st,K=>run fx f i a st fun x st'=>match x with
  | .norm=>run fx f i b st' K
  |x=>K x st'
 |i,.cond c a b,st,K=>match lW C st 0 c with
  | .kb p=>match p with
    |true=>run fx f i a st K
    |false=>run fx f i b st K
  | .v false [.mk false [.sc (.bool p)]]=> .test p fun p=>match p with
    |true=>run fx f i a st K
    |false=>run fx f i b st K
  |_=> .fail
 |_,.block id body,st,K=>run fx f id body st fun x st'=>match x with
  | .ex id'=>match Nat.beq id' id with|true=>K .norm st'|false=>K (.ex id') st'
  |x=>K x st'
 |i,.loop body,st,K=>Le (HE (C.lb f i) st) fun st=> .loop f i body st K
 |_,.exit id,st,K=>K (.ex id) st
 |_,.ret,st,K=>K .ret st
 |_,_,_,_=> .fail
def Mn:Mode→Bool
 | .deep=>true
 |_=>false
def cz (sh:Bool) (p:bC) (n:Nat):Nat→List TC→List CE×List (Nat×OB)
 |_,[]=>([],[])
 |j,c::r=>match cz sh p n (j+1) r with
  |(es,obs)=>match c with
   | .sc v=>(.sc v::es,obs)
   | .sub z rows=>match p.mc j with
     | .snap=>(.snap (match sh with|true=>[]|false=>[0]) none z rows::es,obs)
     |m=>(.ref (n+j) none::es,(n+j,⟨Mn m,z,rows⟩)::obs)
   | .any=>(.gone::es,obs)
def Ae (sh:Bool) (i:Nat):List (List TC)→List (Nat×List CE)
 |[]=>[]
 |c::r=>(i,(cz sh .borrow 0 0 c).1)::Ae sh (i+1) r
def rO (p:bC) (i:Nat):Nat:=match p with| .borrow=>200000+1000*i|_=>100000+1000*i
def init (sh:Bool) (ps:List bC) (i:Nat):List TV→TS
 |[]=>⟨[],[],[]⟩
 |v::r=>match init sh (ps.drop 1) (i+1) r with
  |⟨tm,bx,ob⟩=>match v with
   | .c c=>match cz sh (ps.headD .borrow) (500+16*i) 0 [c] with|(cs,o)=>⟨(i,.v false [.mk false cs])::tm,bx,o++ob⟩
   | .ag cs=>match cz sh (ps.headD .borrow) (500+16*i) 0 cs with|(cs,o)=>⟨(i,.v false [.mk true cs])::tm,bx,o++ob⟩
   | .bx cs=>match cz sh (ps.headD .borrow) (500+16*i) 0 cs with
     |(cs,o)=>⟨(i,.bp (rO (ps.headD .borrow) i) 0)::tm,(rO (ps.headD .borrow) i,cs)::bx,o++ob⟩
   | .fn f caps=>⟨(i,.fn f (List.range' (200000+1000*i+1) caps.length))::tm,Ae sh (200000+1000*i+1) caps++bx,ob⟩
   | .tu _=>⟨tm,bx,ob⟩
def Jc (m:Mode) (e:CE) (deep:Bool):Bool:=match m,e with
 |_,.sc _=>true
 | .snap,_=>true
 |_,.nil _=>true
 | .top,.ref _ _=>true
 | .deep,.ref _ _=>deep
 |_,_=>false
def vo:List Mode→List CE→TS→Option (List TC×TS)
 |_,[],st=>some ([],st)
 |ms,e::r,st=>match jI e st with
  |some (c,st',d)=>match Jc (ms.headD .snap) e d with
   |true=>match vo (ms.drop 1) r st' with
    |some (cs,Ba)=>some (c::cs,Ba)
    |none=>none
   |false=>none
  |none=>none
def ig:List Mode→List CE→TS→Option (List TC×TS)
 |_,[],st=>some ([],st)
 |ms,e::r,st=>match ms.headD .deep,e with
  | .snap,e=>match jI e st with
    |some (c,st',_)=>match ig (ms.drop 1) r st' with
     |some (cs,Ba)=>some (c::cs,Ba)
     |none=>none
    |none=>none
  |_,.sc v=>match ig (ms.drop 1) r st with
   |some (cs,st')=>some (.sc v::cs,st')
   |none=>none
  |_,.nil z=>match ig (ms.drop 1) r st with
   |some (cs,st')=>some (.sub z []::cs,st')
   |none=>none
  |_,.ref o none=>match aa o st.ob with
   |some ⟨true,z,rows⟩=>match ig (ms.drop 1) r (iT o st) with
    |some (cs,st')=>some (.sub z rows::cs,st')
    |none=>none
   |_=>none
  |_,_=>none
def QH (a:Bool):Nat:=match a with|true=>1|false=>0
def Kj (st:TS) (r:ResultVar) (K:TE→Ev R):Ev R:=match r with
 | .tmp t=>K (st.get t)
 | .cell a t=>w9 C st t (st.get a) K
def CX:List (List Mode)→List ResultVar→TS→(List (Nat×List TC)→TS→Ev R)→Ev R
 |_,[],st,K=>K [] st
 |ms,r::rs,st,K=>Kj C st r fun e=>match e with
  | .v false [.mk a cs]=>match vo (ms.headD []) cs st with
    |some (ts,st')=>CX (ms.drop 1) rs st' fun vs Ba=>K ((QH a,ts)::vs) Ba
    |none=> .fail
  | .kb b=>CX (ms.drop 1) rs st fun vs Ba=>K ((0,[.sc (.bool b)])::vs) Ba
  | .bp b 0=>match rE b,aa b st.bx with
    |true,some cs=>match vo (ms.headD []) cs ⟨st.tm,kL b st.bx,st.ob⟩ with
     |some (ts,st')=>CX (ms.drop 1) rs st' fun vs Ba=>K ((2,ts)::vs) Ba
     |none=> .fail
    |_,_=> .fail
  |_=> .fail
def HF:List bC→Nat→TS→Option (List TV)
 |[],_,_=>some []
 |p::ps,i,st=>match p with
  | .inout ms=>match ms,st.get i with
    |[],.v false [.mk false [e]]=>match ig [] [e] st with
     |some ([c],st')=>match HF ps (i+1) st' with
      |some vs=>some (.c c::vs)
      |none=>none
     |_=>none
    |[],.v false [.mk true cs]=>match ig [] cs st with
     |some (ts,st')=>match HF ps (i+1) st' with
      |some vs=>some (.ag ts::vs)
      |none=>none
     |none=>none
    |ms,.bp b 0=>match rE b,aa b st.bx with
     |true,some cs=>match ig ms cs st with
      |some (ts,st')=>match HF ps (i+1) st' with
       |some vs=>some (.bx ts::vs)
       |none=>none
      |none=>none
     |_,_=>none
    |_,_=>none
  |_=>HF ps (i+1) st
def Af:List (Nat×List TC)→TV
 |[(0,[c])]=> .c c
 |[(1,cs)]=> .ag cs
 |[(2,cs)]=> .bx cs
 |vs=> .tu vs
def Ag:List bC→Nat→List Nat
 |[],_=>[]
 | .inout _::r,i=>i::Ag r (i+1)
 |_::r,i=>Ag r (i+1)
def CY (g:Lc):List Nat:=match g.frz with|true=>777777::Ag g.ps 0|false=>Ag g.ps 0
def Mo (g:Lc) (rs:List ResultVar) (x:TX) (st:TS):Ev (TV×List TV):=match x with
 | .ex _=> .fail
 |_=>CX C g.res rs st fun rs st'=>match HF g.ps 0 st' with
  |some fs=>QA (Af rs) fun r=>fL QA fs fun fs=> .ret (r,fs)
  |none=> .fail
def vp (g:Lc) (vs:List TV):TS:=init true g.ps 0 vs
def body (f:FuncId) (vs:List TV):Ev (TV×List TV):=
 match C.P.funcs[f]? with
 |none=> .fail
 |some fn=>match fn.body with
  |none=> .fail
  |some c=>Le (vp (C.sig f) vs) fun st=>run C (CY (C.sig f)) f 0 c st (Mo C (C.sig f) fn.results.toList)
end
abbrev Cf:=FuncId→List TV→TV→List TV→Prop
abbrev Lp:=FuncId→Nat→Code→TS→(TX→TS→Prop)→Prop
def Ev.holds {R:Type} (cf:Cf) (lp:Lp) (Q:R→Prop):Ev R→Prop
 | .fail=>False
 | .ret r=>Q r
 | .test b k=>(k b).holds cf lp Q
 | .row rows i k=> ∃c,rowAt rows i=some c∧(k c).holds cf lp Q
 | .byte s i k=> ∃b,z5 s i=some b∧(k b).holds cf lp Q
 | .bytes rows k=> ∃ns,rK rows=some ns∧(k ns).holds cf lp Q
 | .call f vs k=> ∃r fs,cf f vs r fs∧(k r fs).holds cf lp Q
 | .loop f i c st k=>lp f i c st fun x st'=>(k x st').holds cf lp Q
 | .both a b=> ∃r,a.holds cf lp (fun r'=>r'=r)∧b.holds cf lp (fun r'=>r'=r)∧Q r
section
variable (C : hD)
def CZ (x:TX) (st:TS):Ev (TX×TS):= .ret (x,st)
def iter (cf:Cf) (lp:Lp) (fx:List Nat) (f i:Nat) (c:Code) (Q:TX→TS→Prop):Nat→TS→Prop
 |0,_=>False
 |n+1,st=>(run C fx f i c st CZ).holds cf lp fun p=>match p with
   |(.norm,st')=>Le (HE (C.lb f i) st') fun st'=>iter cf lp fx f i c Q n st'
   |(x,st')=>Q x st'
def Jd (cf:Cf) (k:Nat) (fx:List Nat):Nat→Lp
 |0=>fun _ _ _ _ _=>False
 |n+1=>fun f i c st Q=>iter C cf (Jd cf k fx n) fx f i c Q k st
def e8:Nat→Cf
 |0=>fun _ _ _ _=>False
 |k+1=>fun f vs r fs=>match C.ext f with
  |some p=>p vs=some (r,fs)
  |none=>(body C f vs).holds (e8 k) (Jd C (e8 k) k (CY (C.sig f)) 4) fun p=>p=(r,fs)
end
end Go.T
set_option linter.all false
namespace Go.T
inductive An where
 |b (x:Bool)
 |row (c:List TC)
 |n (i:Int)
 |ns (l:List Int)
 |call (r:TV) (fs:List TV)
 |loop (x:TX) (st:TS)
inductive Qr where
 |test (b x:Bool)
 |row (rows:List (List TC)) (i:Int) (c:List TC)
 |byte (s:ByteArray) (i b:Int)
 |bytes (rows:List (List TC)) (ns:List Int)
 |call (f:FuncId) (vs:List TV) (r:TV) (fs:List TV)
 |loop (f:FuncId) (i:Nat) (c:Code) (st:TS) (x:TX) (st':TS)
def Ev.trace {R:Type}:Ev R→List An→List Qr→Option (R×List Qr)
 | .fail,_,_=>none
 | .ret r,as,qs=>match as with|[]=>some (r,qs)|_=>none
 | .test b k,as,qs=>match as with| .b x::as=>(k x).trace as (.test b x::qs)|_=>none
 | .row rows i k,as,qs=>match as with| .row c::as=>(k c).trace as (.row rows i c::qs)|_=>none
 | .byte s i k,as,qs=>match as with| .n b::as=>(k b).trace as (.byte s i b::qs)|_=>none
 | .bytes rows k,as,qs=>match as with| .ns l::as=>(k l).trace as (.bytes rows l::qs)|_=>none
 | .call f vs k,as,qs=>match as with| .call r fs::as=>fL QA vs fun vs=>(k r fs).trace as (.call f vs r fs::qs)|_=>none
 | .loop f i c st k,as,qs=>match as with| .loop x st'::as=>(k x st').trace as (.loop f i c st x st'::qs)|_=>none
 | .both _ _,_,_=>none
def Qr.ok (cf:Cf) (lp:Lp):Qr→Prop
 | .test b x=>b=x
 | .row rows i c=>rowAt rows i=some c
 | .byte s i b=>z5 s i=some b
 | .bytes rows ns=>rK rows=some ns
 | .call f vs r fs=>cf f vs r fs
 | .loop f i c st x st'=>lp f i c st fun x1 cF=>x1=x∧cF=st'
section
variable {Z : Type}
theorem oM {α:Type} {f:α→(α→Z)→Z} (h: ∀a K,f a K=K a): ∀(l:List α) (K:List α→Z),fL f l K=K l
 |[],K=>rfl
 |a::r,K=>by simp only[fL,h,oM h r]
theorem Mq (b:Bool) (K:Bool→Z):fB b K=K b:=by cases b<;>rfl
theorem Mr (b:Nat) (K:Nat→Z):fN b K=K b:=rfl
theorem Ms (p:Option (Int×Nat)) (K:Option (Int×Nat)→Z):PN p K=K p:=by cases p<;>rfl
theorem Ot (p:Option (Int×Int)) (K:Option (Int×Int)→Z):Sd p K=K p:=by cases p<;>rfl
theorem QI (p:Option (Nat×Int×Nat)) (K:Option (Nat×Int×Nat)→Z):Vi p K=K p:=by cases p<;>rfl
theorem PU (v:Value) (K:Value→Z):fV v K=K v:=by cases v<;>rfl
theorem F9 (c:TC) (K:TC→Z):Se c K=K c:=by cases c<;>simp only[Se,PU]
theorem Mt (e:CE) (K:CE→Z):Tq e K=K e:=by
 cases e<;>simp only[Tq,PU,Ot,QI,oM Mr]
theorem Mu (c:kK) (K:kK→Z):Ma c K=K c:=by cases c<;>simp only[Ma,Mq,oM Mt]
theorem QJ (e:TE) (K:TE→Z):T8 e K=K e:=by
 cases e<;>simp only[T8,Mq,oM Mu,oM Mr,oM F9,Ms]
theorem QL (b:OB) (K:OB→Z):T9 b K=K b:=by cases b;simp only[T9,Mq]
theorem Mv (v:TV) (K:TV→Z):QA v K=K v:=by
 cases v<;>simp only[QA,Mb,F9,oM F9]
 rw[oM (fun a K=>by cases a;simp only[Mb,oM F9])]
theorem me (st:TS) (K:TS→Z):Le st K=K st:=by
 cases st;simp only[Le]
 rw[oM (fun a K=>by cases a;simp only[QJ]),oM (fun a K=>by cases a;simp only[oM Mt]),oM (fun a K=>by cases a;simp only[QL])]
end
theorem dn {R:Type} {cf cf':Cf} {lp lp':Lp} (hc: ∀f vs r fs,cf f vs r fs→cf' f vs r fs) (zU: ∀f i c st (Q Q':TX→TS→Prop),(∀x s,Q x s→Q' x s)→lp f i c st Q→lp' f i c st Q') {Q Q':R→Prop} (hQ: ∀r,Q r→Q' r):
 ∀(e:Ev R),e.holds cf lp Q→e.holds cf' lp' Q'
 | .fail,h=>h
 | .ret r,h=>hQ r h
 | .test b k,h=>dn hc zU hQ (k b) h
 | .row rows i k,⟨c,h1,h2⟩=>⟨c,h1,dn hc zU hQ (k c) h2⟩
 | .byte rows i k,⟨c,h1,h2⟩=>⟨c,h1,dn hc zU hQ (k c) h2⟩
 | .bytes rows k,⟨c,h1,h2⟩=>⟨c,h1,dn hc zU hQ (k c) h2⟩
 | .call f vs k,⟨r,fs,h1,h2⟩=>⟨r,fs,hc _ _ _ _ h1,dn hc zU hQ (k r fs) h2⟩
 | .loop f i c st k,h=>zU _ _ _ _ _ _ (fun x s hxs=>dn hc zU hQ (k x s) hxs) h
 | .both a b,⟨r,h1,h2,h3⟩=>⟨r,dn hc zU (fun _ h=>h) a h1,dn hc zU (fun _ h=>h) b h2,hQ r h3⟩
section
variable {C : hD}
theorem wF {cf cf':Cf} {lp lp':Lp} (hc: ∀f vs r fs,cf f vs r fs→cf' f vs r fs) (zU: ∀f i c st (Q Q':TX→TS→Prop),(∀x s,Q x s→Q' x s)→lp f i c st Q→lp' f i c st Q')
 {fx:List Nat} {f i:Nat} {c:Code} {Q Q':TX→TS→Prop} (hQ: ∀x s,Q x s→Q' x s): ∀(n n':Nat),n≤n'→ ∀(st:TS),iter C cf lp fx f i c Q n st→iter C cf' lp' fx f i c Q' n' st
 |0,_,_,_,h=>h.elim
 |n+1,0,hn,_,_=>absurd hn az
 |n+1,n'+1,hn,st,h=>by
  refine dn hc zU (fun p hp=> ?_) _ h;obtain⟨x,s⟩:=p
  cases x with
  |norm=>
   simp only at hp ⊢;rw[me] at hp ⊢;exact wF hc zU hQ n n' az _ hp
  |ex id=>exact hQ _ _ hp
  |ret=>exact hQ _ _ hp
theorem kO {cf cf':Cf} (hc: ∀f vs r fs,cf f vs r fs→cf' f vs r fs) {k k':Nat} (hk:k≤k') {fx:List Nat}: ∀(n:Nat) (f i:Nat) (c:Code) (st:TS) (Q Q':TX→TS→Prop),(∀x s,Q x s→Q' x s)→
 Jd C cf k fx n f i c st Q→Jd C cf' k' fx n f i c st Q'
 |0,_,_,_,_,_,_,_,h=>h.elim
 |n+1,f,i,c,st,Q,Q',hQ,h=>wF hc (kO hc hk n) hQ k k' hk st h
theorem vq: ∀(k:Nat) (f:FuncId) (vs:List TV) (r:TV) (fs:List TV),e8 C k f vs r fs→e8 C (k+1) f vs r fs
 |0,_,_,_,_,h=>h.elim
 |k+1,f,vs,r,fs,h=>by
  unfold e8 at h ⊢
  cases hx:C.ext f with
  |some p=>rw[hx] at h;exact h
  |none=>rw[hx] at h;exact dn (vq k) (kO (vq k) (Nat.le_succ k) 4) (fun _ h=>h) _ h
theorem Je {k:Nat} {f:FuncId} {vs:List TV} {r:TV} {fs:List TV} (hx:C.ext f=none) (h:(body C f vs).holds (e8 C k) (Jd C (e8 C k) k (CY (C.sig f)) 4) fun p=>p=(r,fs)):e8 C (k+1) f vs r fs:=by
 unfold e8;rw[hx];exact h
theorem Lf {k:Nat} {f:FuncId} {vs:List TV} {r:TV} {fs:List TV} {p:List TV→Option (TV×List TV)} (hx:C.ext f=some p) (h:p vs=some (r,fs)):e8 C (k+1) f vs r fs:=by
 unfold e8;rw[hx];exact h
theorem iM {k k':Nat} (hk:k≤k') {f:FuncId} {vs:List TV} {r:TV} {fs:List TV} (h:e8 C k f vs r fs):e8 C k' f vs r fs:=by
 induction hk with
 |refl=>exact h
 |step _ ih=>exact vq _ _ _ _ _ ih
def Ah (C:hD) (k:Nat) (fx:List Nat) (n:Nat) (f i:Nat) (c:Code) (m:Nat) (st:TS) (x:TX) (st':TS):Prop:=
 iter C (e8 C k) (Jd C (e8 C k) k fx n) fx f i c (fun x1 cF=>x1=x∧cF=st') m st
theorem Ah.ok {k:Nat} {fx:List Nat} {n f i:Nat} {c:Code} {m:Nat} {st:TS} {x:TX} {st':TS} (h:Ah C k fx n f i c m st x st') (hm:m≤k):(Qr.loop f i c st x st').ok (e8 C k) (Jd C (e8 C k) k fx (n+1)):=
 wF (fun _ _ _ _ h=>h) (kO (fun _ _ _ _ h=>h) (cq _) n) (fun _ _ h=>h) m k hm st h
end
end Go.T
namespace Go.T
def p6 (rows:List (List TC)) (i f:Nat):Option TC:=(rows[i]?).bind fun r=>r[f]?
def BE:Value→Prop
 | .int _ _=>True
 | .bool _=>True
 | .string _=>True
 | .slice _ _ _=>True
 |_=>False
def Mode.nx:Mode→Mode
 | .deep=> .deep
 |_=> .snap
structure Sg (w:World) (R:Nat→Prop) (m:Mode) (S:Nat→Prop) (z:Nat) (rows:List (List TC)) (A:Option Addr) (c:Nat) (u:Nat→Nat→Value) (T:Nat→Nat→Nat→Prop):Prop where
 len:rows.length≤c
 cap:c≤maxLen
 z0:0<z
 width: ∀r∈rows,r.length=z
 addr:rows≠[]→ ∃ad,A=some ad
 cell: ∀ad,A=some ad→ ∀i f tc,p6 rows i f=some tc→w.cell? (ad.add (i*z+f))=some (u i f)
 read:m= .snap→ ∀ad,A=some ad→rows≠[]→R ad.block
 own:m≠ .snap→(A=none→c=0)∧ ∀ad,A=some ad→S ad.block∧ad.spot=none∧
  ∀j,j<c*z→(∃x,w.cell? ⟨ad.block,ad.off+j,none⟩=some x)∧w.frozen? ⟨ad.block,ad.off+j,none⟩=false
 soft:m≠ .snap→1<z→ ∀ad,A=some ad→ ∀i,w.frozen? ⟨ad.block,i,none⟩=false
 kE:m= .deep→ ∀i f k,T i f k→S k∧(∀ad,A=some ad→k≠ad.block)∧ ∀i' f',T i' f' k→i'=i∧f'=f
inductive aj (w:World) (R:Nat→Prop):Mode→(Nat→Prop)→TC→Value→Prop
 |sc (m:Mode) (S:Nat→Prop) (v:Value) (h:BE v):aj w R m S (.sc v) v
 |sub (m:Mode) (S:Nat→Prop) (z:Nat) (rows:List (List TC)) (A:Option Addr) (c:Nat) (u:Nat→Nat→Value) (T:Nat→Nat→Nat→Prop)
   (h:Sg w R m S z rows A c u T) (hn: ∀i f tc,p6 rows i f=some tc→aj w R m.nx (T i f) tc (u i f)):
   aj w R m S (.sub z rows) (.slice A rows.length c)
 |any (m:Mode) (S:Nat→Prop) (v:Value) (h:v.oneCell'=true∧v.cells= #[v]):aj w R m S .any v
variable {w w' : World} {R R' S S' : Nat → Prop} {m : Mode} {c : TC} {v : Value}
theorem Ai {rows:List (List TC)} {i f:Nat} {tc:TC} (h:p6 rows i f=some tc):rows≠[]:=by
 rintro rfl;simp[p6] at h
theorem dr {w w':World} {a:Addr} (h:w'.heap[a.block]?=w.heap[a.block]?):w'.cell? a=w.cell? a:=by
 unfold World.cell?;rw[h]
theorem gJ {w w':World} {a:Addr} (h:w'.heap[a.block]?=w.heap[a.block]?):w'.frozen? a=w.frozen? a:=by
 unfold World.frozen?;rw[h]
theorem bO (a:Addr) (n:Nat):(a.add n).block=a.block:=by unfold Addr.add;split<;>rfl
theorem aj.mono (h:aj w R m S c v) (hS: ∀k,S k→S' k):aj w R m S' c v:=by
 cases h with
 |any _ _ _ h=>exact .any _ _ _ h
 |sc _ _ _ h=>exact .sc _ _ _ h
 |sub _ _ z rows A c u T h hn=>
  refine .sub _ _ z rows A c u T {h with own:=fun hm=>⟨(h.own hm).1,fun ad ha=>⟨hS _ ((h.own hm).2 ad ha).1,((h.own hm).2 ad ha).2⟩⟩,kE:=fun hm i f k hk=>⟨hS _ (h.kE hm i f k hk).1,(h.kE hm i f k hk).2⟩} hn
theorem oh {m:Mode} (h:m.nx≠ .snap):m= .deep:=by cases m<;>simp_all [Mode.nx]
theorem aj.move (h:aj w R m S c v):(∀k,R k→R' k∧w'.heap[k]?=w.heap[k]?)→(m≠ .snap→ ∀k,S k→w'.heap[k]?=w.heap[k]?)→aj w' R' m S c v:=by
 induction h with
 |any _ _ _ h=>exact fun _ _=> .any _ _ _ h
 |sc _ _ _ h=>exact fun _ _=> .sc _ _ _ h
 |sub m S z rows A c u T h hn ih=>
  intro hR hS;refine .sub _ _ z rows A c u T {h with cell:= ?_,read:= ?_,own:= ?_,soft:=fun hm h1 ad ha i=>by rw[gJ (w:=w) (a:=⟨ad.block,i,none⟩) (hS hm _ ((h.own hm).2 ad ha).1)];exact h.soft hm h1 ad ha i} fun i f tc ht=>ih i f tc ht hR fun hm k hk=> ?_
  ·intro ad ha i f tc ht
   rw[dr (w:=w)]
   ·exact h.cell ad ha i f tc ht
   ·rw[bO]
    by_cases hm:m= .snap
    ·exact(hR _ (h.read hm ad ha (Ai ht))).2
    ·exact hS hm _ ((h.own hm).2 ad ha).1
  ·exact fun hm ad ha hne=>(hR _ (h.read hm ad ha hne)).1
  ·intro hm
   refine⟨(h.own hm).1,fun ad ha=>⟨((h.own hm).2 ad ha).1,((h.own hm).2 ad ha).2.1,fun j hj=> ?_⟩⟩;have hb:=hS hm _ ((h.own hm).2 ad ha).1;obtain⟨⟨x,hx⟩,hf⟩:=((h.own hm).2 ad ha).2.2 j hj;exact⟨⟨x,by rw[dr (w:=w) (by exact hb)];exact hx⟩,by rw[gJ (w:=w) (by exact hb)];exact hf⟩
  ·have:=oh hm
   subst this;exact hS dI k (h.kE rfl i f k hk).1
theorem aj.freeze (h:aj w R m S c v):(∀k,R k→R' k)→(m≠ .snap→ ∀k,S k→R' k)→aj w R' .snap S' c v:=by
 induction h generalizing S' with
 |any _ _ _ h=>exact fun _ _=> .any _ _ _ h
 |sc _ _ _ h=>exact fun _ _=> .sc _ _ _ h
 |sub m S z rows A c u T h hn ih=>
  intro hR hS;refine .sub _ _ z rows A c u (fun _ _ _=>False) {h with read:= ?_,own:=fun hm=>absurd rfl hm,soft:=fun hm=>absurd rfl hm,kE:=fun hm=>by cases hm} fun i f tc ht=>ih i f tc ht hR fun hm k hk=> ?_
  ·intro _ ad ha hne
   by_cases hm:m= .snap
   ·exact hR _ (h.read hm ad ha hne)
   ·exact hS hm _ ((h.own hm).2 ad ha).1
  ·have:=oh hm
   subst this;exact hS dI k (h.kE rfl i f k hk).1
theorem aj.ko (h:aj w R .snap S c v) (hR: ∀k,R k→R' k):aj w R' .snap S' c v:=h.freeze hR fun h=>absurd rfl h
end Go.T
namespace Go.T
theorem fU {o:Nat}: ∀{l:List Nat},gG o l=true↔o∈l
 |[]=>by simp[gG]
 |a::r=>by
  simp only[gG,cu]
  cases h:Nat.beq a o with
  |true=>simp[eB h]
  |false=>simp only[fU (l:=r)];have:=lV h;simp[Ne.symm this]
theorem cL {o:Nat} {l:List Nat}:gG o l=false↔o∉l:=by
 rw[←fU];simp
theorem rP {o d:Nat}: ∀{l:List Nat},d∈Hv o l↔d∈l∧d≠o
 |[]=>by simp[Hv]
 |a::r=>by
  simp only[Hv]
  cases h:Nat.beq a o with
  |true=>
   have h1:=eB h;subst h1;simp only[rP (l:=r),cu];exact⟨fun⟨x,y⟩=>⟨.inr x,y⟩,fun⟨x,y⟩=>⟨x.resolve_left y,y⟩⟩
  |false=>
   have h1:=lV h;simp only[cu,rP (l:=r)]
   constructor
   ·rintro(rfl|⟨x,y⟩)
    ·exact⟨.inl rfl,h1⟩
    ·exact⟨.inr x,y⟩
   ·rintro⟨rfl|x,y⟩
    ·exact .inl rfl
    ·exact .inr ⟨x,y⟩
theorem lK {a:List Nat} {l:List Nat} (h:nT a l=false) {x:Nat} (hx:x∈a):x∉l:=by
 induction a with
 |nil=>cases hx
 |cons y r ih=>
  simp only[nT] at h
  cases h1:gG y l with
  |true=>rw[h1] at h;cases h
  |false=>
   rw[h1] at h;rcases cu.1 hx with rfl|hx
   ·exact cL.1 h1
   ·exact ih h hx
theorem beq_false {a b:Nat} (h:a≠b):Nat.beq a b=false:=by
 cases h1:Nat.beq a b with
 |true=>exact absurd (eB h1) h
 |false=>rfl
theorem vr (a:Nat):Nat.beq a a=true:=by simp
section
variable {α β : Type}
theorem c6 (i j:Nat) (e:α): ∀(l:List (Nat×α)),aa j (jk i e l)=if j=i then some e else aa j l
 |[]=>by
  simp only[jk,aa]
  by_cases h:j=i
  ·subst h;simp
  ·rw[beq_false (Ne.symm h),aR h]
 |(a,x)::r=>by
  have ih:=c6 i j e r;simp only[jk]
  cases h1:Nat.beq a i with
  |true=>
   have h1:=eB h1;subst h1;simp only[aa]
   by_cases h:j=a
   ·subst h;simp
   ·rw[beq_false (Ne.symm h),aR h]
  |false=>
   have h1:=lV h1
   cases h2:Nat.ble i a with
   |true=>
    simp only[aa]
    by_cases h:j=i
    ·subst h;simp
    ·rw[beq_false (Ne.symm h),aR h]
   |false=>
    simp only[aa]
    by_cases h3:a=j
    ·subst h3;rw[vr,aR h1]
    ·rw[beq_false h3];exact ih
theorem eT (i j:Nat): ∀(l:List (Nat×α)),aa j (kL i l)=if j=i then none else aa j l
 |[]=>by simp[kL,aa]
 |(a,x)::r=>by
  have ih:=eT i j r;simp only[kL]
  cases h1:Nat.beq a i with
  |true=>
   have h1:=eB h1;subst h1;simp only[aa,ih]
   by_cases h:j=a
   ·simp[h]
   ·rw[beq_false (Ne.symm h)]
  |false=>
   have h1:=lV h1;simp only[aa]
   by_cases h3:a=j
   ·subst h3;rw[vr,aR h1]
   ·rw[beq_false h3];exact ih
theorem mK (f:α→α) (j:Nat): ∀(l:List (Nat×α)),aa j (mapA f l)=(aa j l).map f
 |[]=>rfl
 |(a,x)::r=>by
  simp only[mapA,aa]
  cases Nat.beq a j with
  |true=>rfl
  |false=>exact mK f j r
theorem C0 (l:List Nat) (j:Nat): ∀(m:List (Nat×α)),aa j (tW l m)=if j∈l then aa j m else none
 |[]=>by simp[tW,aa]
 |(a,x)::r=>by
  have ih:=C0 l j r;simp only[tW]
  cases h1:gG a l with
  |true=>
   have h1:=fU.1 h1;simp only[aa]
   by_cases h:a=j
   ·subst h;rw[vr,aZ h1]
   ·rw[beq_false h];exact ih
  |false=>
   have h1:=cL.1 h1;simp only[aa,ih]
   by_cases h:a=j
   ·subst h;rw[aR h1,aR h1]
   ·rw[beq_false h]
end
structure Fp where
 I:Nat→Prop
 S:Nat→Nat→Prop
 V:Nat→Value
 β:Nat→Addr
def rd (φ:Fp) (ds:List Nat) (k:Nat):Prop:=φ.I k∨ ∃d,d∈ds∧φ.S d k
abbrev zW:Nat→Prop:=fun _=>False
def OB.m (b:OB):Mode:=if b.deep then .deep else .top
def iU (w:World) (φ:Fp) (o:Nat) (b:OB):Prop:=aj w φ.I b.m (φ.S o) (.sub b.z b.rows) (φ.V o)
def tX (z n:Nat) (l h:Int) (V v:Value):Prop:=
 0≤l∧l≤h∧h≤n∧ ∃A A' c,V= .slice A n c∧v= .slice A' (h.toNat-l.toNat) (c-l.toNat)∧(c≠l.toNat→A'=A.map fun a=>a.add (l.toNat*z))∧(A=none→A'=none)∧
  ∀ad,A=some ad→ ∃ad',A'=some ad'∧ad'.block=ad.block∧(ad.spot=none→ad'.spot=none)
def aA (ob:List (Nat×OB)) (d:Nat):Prop:= ∃b,aa d ob=some b
def Kk (ob:List (Nat×OB)) (w:World) (φ:Fp) (z:Nat) (rows:List (List TC)) (v:Value) (o:Nat) (i:Int) (f:Nat):Prop:=
 ∃b,aa o ob=some b∧0≤i∧p6 b.rows i.toNat f=some (.sub z rows)∧ ∃ad n c,φ.V o= .slice (some ad) n c∧w.cell? (ad.add (i.toNat*b.z+f))=some v
def cg (ob:List (Nat×OB)) (w:World) (φ:Fp) (e:CE) (v:Value):Prop:=
 match e with
 | .sc x=>v=x∧BE x
 | .nil z=>v= .slice none 0 0∧0<z
 | .ref o cut=> ∃b,aa o ob=some b∧match cut with
   |none=>v=φ.V o
   |some (l,h)=>tX b.z b.rows.length l h (φ.V o) v
 | .snap ds loc z rows=>(∀d∈ds,d=0∨aA ob d)∧aj w (rd φ ds) .snap zW (.sub z rows) v∧ ∀o i f,loc=some (o,i,f)→o∈ds∧Kk ob w φ z rows v o i f
 | .gone=>True
def ij (ob:List (Nat×OB)) (w:World) (φ:Fp) (c:kK) (u:Value):Prop:=
 match c with
 | .mk true cs=> ∃xs:Array Value,u= .agg xs∧xs.size=cs.length∧ ∀(j:Nat) (e:CE),cs[j]?=some e→ ∃x,xs[j]?=some x∧x.cells= #[x]∧cg ob w φ e x
 | .mk false cs=> ∃e,cs=[e]∧u.cells= #[u]∧cg ob w φ e u
 | .ptr b=>u= .pointer (some (φ.β b))
def bR (ob:List (Nat×OB)) (w:World) (φ:Fp) (e:TE) (v:Value):Prop:=
 match e with
 | .dead=>True
 | .v true es=> ∃vs:Array Value,v= .tuple vs∧vs.size=es.length∧ ∀(k:Nat) (c:kK),es[k]?=some c→ ∃u,vs[k]?=some u∧ij ob w φ c u
 | .v false es=> ∃c,es=[c]∧ij ob w φ c v
 | .bp b off=>v= .pointer (some ((φ.β b).add off))
 | .ep ds cells=>(∀d∈ds,d=0∨aA ob d)∧ ∃ad,v= .pointer (some ad)∧(cells≠[]→rd φ ds ad.block)∧ ∀(j:Nat) (tc:TC),cells[j]?=some tc→ ∃u,w.cell? (ad.add j)=some u∧aj w (rd φ ds) .snap zW tc u
 | .er o path i f=> ∃b,aa o ob=some b∧0≤i∧ ∃ad n c,φ.V o= .slice (some ad) n c∧match path with
   |none=>v= .pointer (some (ad.add (i.toNat*b.z+f)))
   |some (i0,f0)=>0≤i0∧ ∃z1 kV,p6 b.rows i0.toNat f0=some (.sub z1 kV)∧ ∃ad1 n1 c1,w.cell? (ad.add (i0.toNat*b.z+f0))=some (.slice (some ad1) n1 c1)∧
    v= .pointer (some (ad1.add (i.toNat*z1+f)))
 | .fn f caps=>v= .func (.func f) #[] (caps.map fun b=>Value.pointer (some (φ.β b))).toArray
 | .kb b=>v= .bool b
structure Kl (F:Nat→Prop) (w0 w:World):Prop where
 os:w.os=w0.os
 tape:w.tape=w0.tape
 output:w.output=w0.output
 size:w0.heap.size≤w.heap.size
 block: ∀k,k<w0.heap.size→ ¬F k→w.heap[k]?=w0.heap[k]?
structure Arg where
 all:Nat→Prop
 sh:Nat→Prop
structure Sep (F:Nat→Prop) (A:Arg) (w0 w:World) (φ:Fp) (bx:List (Nat×List CE)) (ob:List (Nat×OB)):Prop where
 arg:φ.S 0=A.all
 nz: ∀o,aA ob o→o≠0
 apart: ∀o o' k,aA ob o→aA ob o'→φ.S o k→φ.S o' k→o=o'
 read: ∀o k,aA ob o→φ.S o k→ ¬φ.I k
 fresh: ∀o k,aA ob o→φ.S o k→k<w.heap.size∧(w0.heap.size≤k∨F k)
 ro: ∀k,φ.I k→k<w.heap.size∧(w0.heap.size≤k∨F k∨A.sh k)
 iR: ∀k,A.all k→k<w0.heap.size∧ ¬F k
 box: ∀b cs,aa b bx=some cs→rE b=true→ ¬φ.I (φ.β b).block∧(∀o,aA ob o→ ¬φ.S o (φ.β b).block)∧(w0.heap.size≤(φ.β b).block∨F (φ.β b).block)∧
  ∀b' cs',aa b' bx=some cs'→b'≠b→(φ.β b').block≠(φ.β b).block
 spot: ∀b cs,aa b bx=some cs→(rE b=true→(φ.β b).spot=none)∧(φ.β b).block<w.heap.size∧(rE b=false→A.all (φ.β b).block)
 soft: ∀b cs j,aa b bx=some cs→rE b=true→j<cs.length→w.frozen? ((φ.β b).add j)=false
structure aH (F:Nat→Prop) (A:Arg) (w0:World) (φ:Fp) (st:TS) (tm:Array Value) (w:World):Prop where
 tmp: ∀i,bR st.ob w φ (st.get i) (tm.getD i undef)
 box: ∀b cs,aa b st.bx=some cs→ ∀(j:Nat) (e:CE),cs[j]?=some e→ ∃v,w.cell? ((φ.β b).add j)=some v∧v.cells= #[v]∧cg st.ob w φ e v
 obj: ∀o b,aa o st.ob=some b→iU w φ o b
 sep:Sep F A w0 w φ st.bx st.ob
 frm:Kl F w0 w
def Rel (F:Nat→Prop) (A:Arg) (w0:World) (st:TS) (tm:Array Value) (w:World):Prop:= ∃φ,aH F A w0 φ st tm w
section
variable {ob wu : List (Nat × OB)} {w w' : World} {φ φ' : Fp} {f : CE → CE} {g : TE → TE}
def oN (f:CE→CE):kK→kK
 | .mk a cs=> .mk a (cs.map f)
 | .ptr b=> .ptr b
theorem om (f:CE→CE): ∀(es:List kK) (k:Nat),(gH f es)[k]?=(es[k]?).map (oN f)
 |[],_=>by simp[gH]
 | .mk a cs::r,0=>by simp[gH,oN]
 | .ptr b::r,0=>by simp[gH,oN]
 | .mk a cs::r,k+1=>by simp[gH,om f r k]
 | .ptr b::r,k+1=>by simp[gH,om f r k]
theorem kX (f:CE→CE): ∀(es:List kK),(gH f es).length=es.length
 |[]=>rfl
 | .mk a cs::r=>by simp[gH,kX f r]
 | .ptr b::r=>by simp[gH,kX f r]
theorem ij.xG (hβ:φ'.β=φ.β) (hc: ∀e v,cg ob w φ e v→cg wu w' φ' (f e) v) {c:kK} {u:Value} (h:ij ob w φ c u):
 ij wu w' φ' (oN f c) u:=by
 cases c with
 |ptr b=>simp only[ij,oN] at h ⊢;rw[hβ];exact h
 |mk a cs=>
  cases a with
  |true=>
   obtain⟨xs,h1,h2,h3⟩:=h;refine⟨xs,h1,by simp[h2],fun j e he=> ?_⟩;rw[gm] at he
   cases h4:cs[j]? with
   |none=>rw[h4] at he;cases he
   |some e0=>
    rw[h4] at he;simp only[ic,bg] at he;subst he;obtain⟨x,hx,hx1,hok⟩:=h3 j e0 h4;exact⟨x,hx,hx1,hc _ _ hok⟩
  |false=>
   obtain⟨e,rfl,h2,h3⟩:=h;exact⟨f e,rfl,h2,hc _ _ h3⟩
theorem bR.xG (hβ:φ'.β=φ.β) (hc: ∀e v,cg ob w φ e v→cg wu w' φ' (f e) v) (ht: ∀e v,(∀t es,e≠ .v t es)→bR ob w φ e v→bR wu w' φ' (g e) v) {e:TE} {v:Value} (h:bR ob w φ e v):
 bR wu w' φ' (qY f g e) v:=by
 by_cases hv: ∃t es,e= .v t es
 ·obtain⟨tup,es,rfl⟩:=hv
  cases tup with
  |true=>
   obtain⟨vs,h1,h2,h3⟩:=h;refine⟨vs,h1,by rw[kX];exact h2,fun k c hk=> ?_⟩;rw[om] at hk
   cases h4:es[k]? with
   |none=>rw[h4] at hk;cases hk
   |some c0=>
    rw[h4] at hk;simp only[ic,bg] at hk;obtain⟨u,hu,hok⟩:=h3 k c0 h4;exact⟨u,hu,by rw[←hk];exact hok.xG hβ hc⟩
  |false=>
   obtain⟨c,rfl,hok⟩:=h;refine⟨_,?_,hok.xG hβ hc⟩
   cases c<;>rfl
 ·have h1:qY f g e=g e:=by cases e<;>first|rfl|exact absurd ⟨_,_,rfl⟩ hv
  rw[h1];exact ht e v (fun t es he=>hv ⟨t,es,he⟩) h
end
theorem get_map (f:CE→CE) (g:TE→TE) (h:List (Nat×OB)→List (Nat×OB)) (hd:g .dead= .dead) (st:TS) (i:Nat):(pV f g h st).get i=qY f g (st.get i):=by
 unfold TS.get pV;simp only[mK]
 cases aa i st.tm with
 |none=>exact hd.symm
 |some e=>rfl
variable {F : Nat → Prop} {A : Arg} {w0 w w' : World} {φ φ' : Fp} {st st' : TS} {tm xB : Array Value}
theorem aH.xG (h:aH F A w0 φ st tm w) {f:CE→CE} {g:TE→TE} {k:List (Nat×OB)→List (Nat×OB)} (hd:g .dead= .dead) (hβ:φ'.β=φ.β)
 (hc: ∀e v,cg st.ob w φ e v→cg (k st.ob) w' φ' (f e) v) (ht: ∀e v,(∀t es,e≠ .v t es)→bR st.ob w φ e v→bR (k st.ob) w' φ' (g e) v)
 (hw: ∀b cs,aa b st.bx=some cs→ ∀j,j<cs.length→w'.cell? ((φ.β b).add j)=w.cell? ((φ.β b).add j))
 (ho: ∀o b,aa o (k st.ob)=some b→iU w' φ' o b) (hs:Sep F A w0 w' φ' (mapA (List.map f) st.bx) (k st.ob)) (hf:Kl F w0 w'):aH F A w0 φ' (pV f g k st) tm w' where
 tmp i:=by rw[get_map f g k hd];exact(h.tmp i).xG hβ hc ht
 box b cs hb j e he:=by
  simp only[pV,mK] at hb
  cases h1:aa b st.bx with
  |none=>rw[h1] at hb;cases hb
  |some cs0=>
   rw[h1] at hb;simp only[ic,bg] at hb;subst hb;rw[gm] at he
   cases h2:cs0[j]? with
   |none=>rw[h2] at he;cases he
   |some e0=>
    rw[h2] at he;simp only[ic,bg] at he;subst he;obtain⟨v,hv,h1c,hok⟩:=h.box b cs0 h1 j e0 h2;refine⟨v,?_,h1c,hc _ _ hok⟩;rw[hβ,hw b cs0 h1 j (List.getElem?_eq_some_iff.1 h2).1];exact hv
 obj:=ho
 sep:=hs
 frm:=hf
theorem Sep.boxes {bx bx':List (Nat×List CE)} {ob:List (Nat×OB)} (h:Sep F A w0 w φ bx ob) (hb: ∀b cs',aa b bx'=some cs'→ ∃cs,aa b bx=some cs∧cs'.length=cs.length):Sep F A w0 w φ bx' ob where
 arg:=h.arg
 nz:=h.nz
 apart:=h.apart
 read:=h.read
 fresh:=h.fresh
 ro:=h.ro
 iR:=h.iR
 box b cs' hl hw:=by
  obtain⟨cs,h1,_⟩:=hb b cs' hl;obtain⟨a1,a2,a3,a4⟩:=h.box b cs h1 hw;refine⟨a1,a2,a3,fun b' G6 hl' hne=> ?_⟩;obtain⟨cs2,h2,_⟩:=hb b' G6 hl';exact a4 b' cs2 h2 hne
 spot b cs' hl:=by obtain⟨cs,h1,_⟩:=hb b cs' hl;exact h.spot b cs h1
 soft b cs' j hl hw hj:=by obtain⟨cs,h1,h2⟩:=hb b cs' hl;exact h.soft b cs j h1 hw az
theorem eg (f:CE→CE) {bx:List (Nat×List CE)}: ∀b cs',aa b (mapA (List.map f) bx)=some cs'→ ∃cs,aa b bx=some cs∧cs'.length=cs.length:=by
 intro b cs' h;rw[mK] at h
 cases h1:aa b bx with
 |none=>rw[h1] at h;cases h
 |some cs=>
  rw[h1] at h;simp only[ic,bg] at h;exact⟨cs,rfl,by rw[←h];simp⟩
theorem Sep.lt {bx:List (Nat×List CE)} {ob:List (Nat×OB)} (h:Sep F A w0 w φ bx ob) (hs:w0.heap.size≤w.heap.size) {d:Nat} (hd:d=0∨aA ob d) {k:Nat} (hk:φ.S d k):k<w.heap.size:=by
 rcases hd with rfl|hd
 ·rw[h.arg] at hk;exact fG (h.iR k hk).1 hs
 ·exact(h.fresh d k hd hk).1
theorem Sep.QM {bx:List (Nat×List CE)} {ob:List (Nat×OB)} (h:Sep F A w0 w φ bx ob) (hs:w0.heap.size≤w.heap.size) {ds:List Nat} (hd: ∀d∈ds,d=0∨aA ob d) {k:Nat} (hk:rd φ ds k):k<w.heap.size:=by
 rcases hk with hk|⟨d,hm,hk⟩
 ·exact(h.ro k hk).1
 ·exact h.lt hs (hd d hm) hk
structure jK (w w':World):Prop where
 os:w'.os=w.os
 tape:w'.tape=w.tape
 output:w'.output=w.output
 size:w.heap.size≤w'.heap.size
 block: ∀k,k<w.heap.size→w'.heap[k]?=w.heap[k]?
theorem jK.refl (w:World):jK w w:=⟨rfl,rfl,rfl,cq _,fun _ _=>rfl⟩
theorem jK.alloc (w:World) (o:Obj):jK w (w.alloc o):=⟨rfl,rfl,rfl,by simp,fun k hk=>heap_alloc_old w o hk⟩
theorem jK.drew (w:World):jK w w.drew:=⟨rfl,rfl,rfl,cq _,fun _ _=>rfl⟩
theorem jK.trans {a b c:World} (h:jK a b) (k:jK b c):jK a c:=
 ⟨k.os.trans h.os,k.tape.trans h.tape,k.output.trans h.output,nS h.size k.size,fun i hi=>(k.block i (fG hi h.size)).trans (h.block i hi)⟩
theorem Kl.Jf (h:Kl F w0 w) (g:jK w w'):Kl F w0 w':=
 ⟨g.os.trans h.os,g.tape.trans h.tape,g.output.trans h.output,nS h.size g.size,fun k hk hf=>(g.block k (fG hk h.size)).trans (h.block k hk hf)⟩
theorem jK.cell (g:jK w w') {a:Addr} {v:Value} (h:w.cell? a=some v):w'.cell? a=some v:=by
 rw[dr (w:=w) (g.block _ (World.block_lt_of_cell? w a h))];exact h
theorem jK.Km (g:jK w w') {a:Addr} (h:a.block<w.heap.size):w'.cell? a=w.cell? a:=dr (g.block _ h)
theorem cg.stay {ob:List (Nat×OB)} (hI: ∀k,φ.I k→w'.heap[k]?=w.heap[k]?) (hS: ∀d k,d=0∨aA ob d→φ.S d k→w'.heap[k]?=w.heap[k]?)
 (hV: ∀o,aA ob o→ ∀ad n c,φ.V o= .slice (some ad) n c→ ∀i v,w.cell? (ad.add i)=some v→w'.cell? (ad.add i)=some v) {e:CE} {v:Value} (h:cg ob w φ e v):cg ob w' φ e v:=by
 cases e with
 |snap ds loc z rows=>
  obtain⟨h1,h2,h3⟩:=h;refine⟨h1,h2.move (fun k hk=>⟨hk,?_⟩) (fun hm=>absurd rfl hm),fun o i f hl=>⟨(h3 o i f hl).1,?_⟩⟩
  ·rcases hk with hk|⟨d,hd,hk⟩
   ·exact hI k hk
   ·exact hS d k (h1 d hd) hk
  ·obtain⟨b,a1,a2,a3,ad,n,c,a4,a5⟩:=(h3 o i f hl).2
   exact⟨b,a1,a2,a3,ad,n,c,a4,hV o ⟨b,a1⟩ ad n c a4 _ _ a5⟩
 |_=>exact h
theorem bR.stay {ob:List (Nat×OB)} (hI: ∀k,φ.I k→w'.heap[k]?=w.heap[k]?) (hS: ∀d k,d=0∨aA ob d→φ.S d k→w'.heap[k]?=w.heap[k]?)
 (hV: ∀o,aA ob o→ ∀ad n c,φ.V o= .slice (some ad) n c→ ∀i v,w.cell? (ad.add i)=some v→w'.cell? (ad.add i)=some v)
 (hA: ∀ad v,w.cell? ad=some v→(∀k,ad.block=k→w'.heap[k]?=w.heap[k]?)→w'.cell? ad=some v) (hE: ∀ds cells v,bR ob w φ (.ep ds cells) v→bR ob w' φ (.ep ds cells) v) {e:TE} {v:Value} (hv: ∀t es,e≠ .v t es)
 (h:bR ob w φ e v):bR ob w' φ e v:=by
 cases e with
 |v t es=>exact absurd rfl (hv t es)
 |ep ds cells=>exact hE ds cells v h
 |er o path i f=>
  obtain⟨b,h1,h2,ad,n,c,h3,h4⟩:=h;refine⟨b,h1,h2,ad,n,c,h3,?_⟩
  cases path with
  |none=>exact h4
  |some q=>
   obtain⟨i0,f0⟩:=q;obtain⟨a1,z1,kV,a2,ad1,n1,c1,a3,a4⟩:=h4;exact⟨a1,z1,kV,a2,ad1,n1,c1,hV o ⟨b,h1⟩ ad n c h3 _ _ a3,a4⟩
 |_=>exact h
theorem oO (st:TS):pV id id id st=st:=by
 have h1: ∀(es:List kK),gH id es=es:=by
  intro es
  induction es with
  |nil=>rfl
  |cons c r ih=>cases c<;>simp[gH,ih]
 have h2: ∀e:TE,qY id id e=e:=by
  intro e;cases e<;>first|rfl|(simp only[qY,h1])
 have h3: ∀{α:Type} (f:α→α) (hf: ∀a,f a=a) (l:List (Nat×α)),mapA f l=l:=by
  intro α f hf l
  induction l with
  |nil=>rfl
  |cons a r ih=>obtain⟨j,x⟩:=a;simp only[mapA,hf,ih]
 unfold pV;rw[h3 _ h2,h3 _ (fun l=>List.map_id l)]
 rfl
theorem Sep.Jf {bx:List (Nat×List CE)} {ob:List (Nat×OB)} (h:Sep F A w0 w φ bx ob) (g:jK w w'):Sep F A w0 w' φ bx ob where
 arg:=h.arg
 nz:=h.nz
 apart:=h.apart
 read:=h.read
 fresh o k ho hk:=⟨fG (h.fresh o k ho hk).1 g.size,(h.fresh o k ho hk).2⟩
 ro k hk:=⟨fG (h.ro k hk).1 g.size,(h.ro k hk).2⟩
 iR:=h.iR
 box:=h.box
 spot b cs hb:=⟨(h.spot b cs hb).1,fG (h.spot b cs hb).2.1 g.size,(h.spot b cs hb).2.2⟩
 soft b cs j hb hw hj:=by
  rw[gJ (w:=w) (g.block _ (by rw[bO];exact(h.spot b cs hb).2.1))];exact h.soft b cs j hb hw hj
theorem aH.Jf (h:aH F A w0 φ st tm w) (g:jK w w'):aH F A w0 φ st tm w':=by
 have hI: ∀k,φ.I k→w'.heap[k]?=w.heap[k]?:=fun k hk=>g.block k (h.sep.ro k hk).1;have hS: ∀d k,d=0∨aA st.ob d→φ.S d k→w'.heap[k]?=w.heap[k]?:=fun d k hd hk=>g.block k (h.sep.lt h.frm.size hd hk)
 have hE: ∀ds cells v,bR st.ob w φ (.ep ds cells) v→bR st.ob w' φ (.ep ds cells) v:=by
  intro ds cells v ⟨h1,ad,h2,hr,h3⟩;refine⟨h1,ad,h2,hr,fun j tc hj=> ?_⟩;obtain⟨u,h4,h5⟩:=h3 j tc hj;exact⟨u,g.cell h4,h5.move (fun k hk=>⟨hk,g.block k (h.sep.QM h.frm.size h1 hk)⟩) (fun hm=>absurd rfl hm)⟩
 have:=h.xG (f:=id) (g:=id) (k:=id) (φ':=φ) (w':=w') rfl rfl (fun e v he=>he.stay hI hS (fun o ho ad n c hv i v hc=>g.cell hc))
  (fun e v hv he=>bR.stay hI hS (fun o ho ad n c hv i v hc=>g.cell hc) (fun ad v hc _=>g.cell hc) hE hv he)
  (fun b cs hb j hj=>g.Km (by rw[bO];exact(h.sep.spot b cs hb).2.1))
  (fun o b hb=>(h.obj o b hb).move (fun k hk=>⟨hk,hI k hk⟩) (fun _ k hk=>hS o k (.inr ⟨b,hb⟩) hk))
  (by
    have h3:mapA (List.map (id:CE→CE)) st.bx=st.bx:=by
     have:=congrArg TS.bx (oO st);exact this
    rw[h3]
    exact h.sep.Jf g) (h.frm.Jf g)
 rw[oO] at this;exact this
end Go.T
namespace Go.T
variable {F : Nat → Prop} {A : Arg} {w0 w w' : World} {φ φ' : Fp} {st st' : TS} {tm xB : Array Value}
theorem getD_set_ne (tm:Array Value) (d i:Nat) (v x:Value) (h:i≠d):(tm.setIfInBounds d v).getD i x=tm.getD i x:=by
 simp only[nR,E7];rw[aR fun h'=>h h'.symm]
theorem Et (tm:Array Value) (d:Nat) (v x:Value) (h:d<tm.size):(tm.setIfInBounds d v).getD d x=v:=by
 simp only[nR,E7];simp[h]
theorem Ga (st:TS) (d i:Nat) (e:TE):(st.set d e).get i=if i=d then e else st.get i:=by
 unfold TS.get TS.set;simp only[c6]
 by_cases h:i=d
 ·simp[h]
 ·simp[h]
theorem aH.Eu (h:aH F A w0 φ st tm w) {d:Nat} {e:TE} {v:Value} (hd:d<tm.size) (ht:bR st.ob w φ e v):aH F A w0 φ (st.set d e) (tm.setIfInBounds d v) w where
 tmp i:=by
  rw[Ga]
  by_cases hi:i=d
  ·subst hi;rw[aZ rfl,Et _ _ _ _ hd];exact ht
  ·rw[aR hi,getD_set_ne _ _ _ _ _ hi];exact h.tmp i
 box:=h.box
 obj:=h.obj
 sep:=h.sep
 frm:=h.frm
theorem aH.Ou (h:aH F A w0 φ st tm w) {d:Nat} {e:TE} (ht:bR st.ob w φ e (tm.getD d undef)):aH F A w0 φ (st.set d e) tm w where
 tmp i:=by
  rw[Ga]
  by_cases hi:i=d
  ·subst hi;rw[aZ rfl];exact ht
  ·rw[aR hi];exact h.tmp i
 box:=h.box
 obj:=h.obj
 sep:=h.sep
 frm:=h.frm
theorem Sep.sub {bx:List (Nat×List CE)} {ob wu:List (Nat×OB)} (h:Sep F A w0 w φ bx ob) (hd: ∀o,aA wu o→aA ob o):Sep F A w0 w φ bx wu where
 arg:=h.arg
 nz o ho:=h.nz o (hd o ho)
 apart o o' k h1 h2:=h.apart o o' k (hd o h1) (hd o' h2)
 read o k ho:=h.read o k (hd o ho)
 fresh o k ho:=h.fresh o k (hd o ho)
 ro:=h.ro
 iR:=h.iR
 box b cs hb hw:=by
  obtain⟨a1,a2,a3,a4⟩:=h.box b cs hb hw;exact⟨a1,fun o ho=>a2 o (hd o ho),a3,a4⟩
 spot:=h.spot
 soft:=h.soft
theorem jd {o d:Nat} {ob:List (Nat×OB)}:aA (kL o ob) d↔d≠o∧aA ob d:=by
 unfold aA;rw[eT]
 by_cases h:d=o
 ·simp[h]
 ·simp[h]
theorem oP {o d:Nat} {ob:List (Nat×OB)} (h:d≠o):aa d (kL o ob)=aa d ob:=by rw[eT,aR h]
theorem cg.kill {o:Nat} {ob:List (Nat×OB)} {e:CE} {v:Value} (h:cg ob w φ e v):cg (kL o ob) w φ (E9 o e) v:=by
 unfold E9
 cases hd:gG o (dM e) with
 |true=>trivial
 |false=>
  have hd:=cL.1 hd
  cases e with
  |ref p cut=>
   simp only[dM,fk] at hd;obtain⟨b,h1,h2⟩:=h;exact⟨b,by rw[oP (Ne.symm hd)];exact h1,h2⟩
  |snap ds loc z rows=>
   simp only[dM] at hd;obtain⟨h1,h2,h3⟩:=h;refine⟨fun d hm=> ?_,h2,fun p i f hl=> ?_⟩
   ·rcases h1 d hm with h|h
    ·exact .inl h
    ·exact .inr (jd.2 ⟨fun e=>hd (e▸hm),h⟩)
   ·obtain⟨a1,b,a2,a3⟩:=h3 p i f hl
    have hp:p≠o:=fun e=>by subst e;exact hd a1
    exact⟨a1,b,by rw[oP hp];exact a2,a3⟩
  |_=>exact h
theorem bR.kill {o:Nat} {ob:List (Nat×OB)} {e:TE} {v:Value} (hv: ∀t es,e≠ .v t es) (h:bR ob w φ e v):bR (kL o ob) w φ (Kd o e) v:=by
 cases e with
 |v t es=>exact absurd rfl (hv t es)
 |ep ds cells=>
  simp only[Kd]
  cases hd:gG o ds with
  |true=>trivial
  |false=>
   have hd:=cL.1 hd;obtain⟨h1,h2⟩:=h;refine⟨fun d hm=> ?_,h2⟩;rcases h1 d hm with h|h
   ·exact .inl h
   ·exact .inr (jd.2 ⟨fun e=>hd (e▸hm),h⟩)
 |er p path i f=>
  simp only[Kd]
  cases hd:Nat.beq p o with
  |true=>trivial
  |false=>
   have hd:=lV hd;obtain⟨b,h1,h2⟩:=h;exact⟨b,by rw[oP hd];exact h1,h2⟩
 |_=>exact h
theorem aH.iT (h:aH F A w0 φ st tm w) (o:Nat):aH F A w0 φ (iT o st) tm w:=by
 refine h.xG (φ':=φ) rfl rfl (fun e v he=>he.kill) (fun e v hv he=>he.kill hv) (fun _ _ _ _ _=>rfl) (fun p b hb=> ?_) ?_ h.frm
 ·rw[eT] at hb
  split at hb
  ·cases hb
  ·exact h.obj p b hb
 ·exact(h.sep.boxes (eg _)).sub fun d hd=>(jd.1 hd).2
theorem fP {o d:Nat}:aA (T.iT o st).ob d↔d≠o∧aA st.ob d:=jd
theorem Fe {o d:Nat} (h:d≠o):aa d (T.iT o st).ob=aa d st.ob:=oP h
def Fp.more (φ:Fp) (X:Nat→Prop):Fp:={φ with I:=fun k=>φ.I k∨X k}
theorem Gb {X:Nat→Prop} {ds:List Nat} {k:Nat} (h:rd φ ds k):rd (φ.more X) ds k:=h.imp .inl id
theorem aj.jL {R R' S:Nat→Prop} {m:Mode} {c:TC} {v:Value} (h:aj w R m S c v) (hR: ∀k,R k→R' k):aj w R' m S c v:=
 h.move (fun k hk=>⟨hR k hk,rfl⟩) fun _ _ _=>rfl
theorem cg.more {X:Nat→Prop} {ob:List (Nat×OB)} {e:CE} {v:Value} (h:cg ob w φ e v):cg ob w (φ.more X) e v:=by
 cases e with
 |snap ds loc z rows=>
  obtain⟨h1,h2,h3⟩:=h;exact⟨h1,h2.jL fun k hk=>Gb hk,h3⟩
 |_=>exact h
theorem bR.more {X:Nat→Prop} {ob:List (Nat×OB)} {e:TE} {v:Value} (hv: ∀t es,e≠ .v t es) (h:bR ob w φ e v):bR ob w (φ.more X) e v:=by
 cases e with
 |v t es=>exact absurd rfl (hv t es)
 |ep ds cells=>
  obtain⟨h1,ad,h2,hr,h3⟩:=h;refine⟨h1,ad,h2,fun hc=>Gb (hr hc),fun j tc hj=> ?_⟩;obtain⟨u,h4,h5⟩:=h3 j tc hj;exact⟨u,h4,h5.jL fun k hk=>Gb hk⟩
 |_=>exact h
theorem Aj (st:TS):mapA (List.map (id:CE→CE)) st.bx=st.bx:=congrArg TS.bx (oO st)
theorem aH.more (h:aH F A w0 φ st tm w) {X:Nat→Prop} (hX: ∀k,X k→k<w.heap.size∧(w0.heap.size≤k∨F k∨A.sh k)) (hS: ∀k o,X k→aA st.ob o→ ¬φ.S o k)
 (hB: ∀b cs,aa b st.bx=some cs→rE b=true→ ¬X (φ.β b).block):aH F A w0 (φ.more X) st tm w:=by
 have:=h.xG (f:=id) (g:=id) (k:=id) (φ':=φ.more X) (w':=w) rfl rfl (fun e v he=>he.more) (fun e v hv he=>he.more hv) (fun _ _ _ _ _=>rfl)
  (fun o b hb=>(h.obj o b hb).jL fun k hk=> .inl hk)
  (by
    rw[Aj]
    exact {
     arg:=h.sep.arg,nz:=h.sep.nz,apart:=h.sep.apart,fresh:=h.sep.fresh,iR:=h.sep.iR,spot:=h.sep.spot,soft:=h.sep.soft
     read:=fun o k ho hk hI=>hI.elim (h.sep.read o k ho hk) fun hx=>hS k o hx ho hk
     ro:=fun k hk=>hk.elim (h.sep.ro k) (hX k)
     box:=fun b cs hb hw=>by
      obtain⟨a1,a2,a3,a4⟩:=h.sep.box b cs hb hw
      exact⟨fun hI=>hI.elim a1 (hB b cs hb hw),a2,a3,a4⟩}) h.frm
 rw[oO] at this;exact this
def Fp.add (φ:Fp) (o:Nat) (X:Nat→Prop) (v:Value):Fp:={φ with S:=fun d k=>if d=o then X k else φ.S d k,V:=fun d=>if d=o then v else φ.V d}
theorem Gc {o:Nat} {X:Nat→Prop} {v:Value} {ds:List Nat} (hd:o∉ds) {k:Nat} (h:rd φ ds k):rd (φ.add o X v) ds k:=by
 rcases h with h|⟨d,hm,h⟩
 ·exact .inl h
 ·refine .inr ⟨d,hm,?_⟩
  show(if d=o then X k else φ.S d k)
  have hp:d≠o:=fun e=>by subst e;exact hd hm
  rw[aR hp];exact h
theorem nV {o d:Nat} {X:Nat→Prop} {v:Value} (h:d≠o) {k:Nat}:(φ.add o X v).S d k=φ.S d k:=aR h
theorem Mw {o d:Nat} {X:Nat→Prop} {v:Value} (h:d≠o):(φ.add o X v).V d=φ.V d:=aR h
theorem fm {o d:Nat} {b:OB} {ob:List (Nat×OB)}:aA (jk o b ob) d↔d=o∨aA ob d:=by
 unfold aA;rw[c6]
 by_cases h:d=o
 ·simp[h]
 ·simp[h]
theorem gK {o d:Nat} {b:OB} {ob:List (Nat×OB)} (h:d≠o):aa d (jk o b ob)=aa d ob:=by rw[c6,aR h]
theorem gX {o:Nat} {b:OB} {ob:List (Nat×OB)}:aa o (jk o b ob)=some b:=by rw[c6,aZ rfl]
theorem cg.add {o:Nat} {b:OB} {X:Nat→Prop} {V:Value} {ob:List (Nat×OB)} (h0:o≠0) (hn: ¬aA ob o) {e:CE} {v:Value} (h:cg ob w φ e v):cg (jk o b ob) w (φ.add o X V) e v:=by
 cases e with
 |ref p cut=>
  obtain⟨b',h1,h2⟩:=h;have hp:p≠o:=fun e=>hn ⟨b',e▸h1⟩;refine⟨b',by rw[gK hp];exact h1,?_⟩;rw[Mw hp];exact h2
 |snap ds loc z rows=>
  obtain⟨h1,h2,h3⟩:=h;have hd:o∉ds:=fun hm=>(h1 o hm).elim h0 hn;refine⟨fun d hm=>(h1 d hm).imp id fun h=>fm.2 (.inr h),h2.jL fun k hk=>Gc hd hk,fun p i f hl=>⟨(h3 p i f hl).1,?_⟩⟩;obtain⟨a1,b',a2,a3,a4,ad,n,c,a5,a6⟩:=h3 p i f hl;have hp:p≠o:=fun e=>hn ⟨b',e▸a2⟩;exact⟨b',by rw[gK hp];exact a2,a3,a4,ad,n,c,by rw[Mw hp];exact a5,a6⟩
 |_=>exact h
theorem bR.add {o:Nat} {b:OB} {X:Nat→Prop} {V:Value} {ob:List (Nat×OB)} (h0:o≠0) (hn: ¬aA ob o) {e:TE} {v:Value} (hv: ∀t es,e≠ .v t es) (h:bR ob w φ e v):
 bR (jk o b ob) w (φ.add o X V) e v:=by
 cases e with
 |v t es=>exact absurd rfl (hv t es)
 |ep ds cells=>
  obtain⟨h1,ad,h2,hr,h3⟩:=h;have hd:o∉ds:=fun hm=>(h1 o hm).elim h0 hn;refine⟨fun d hm=>(h1 d hm).imp id fun h=>fm.2 (.inr h),ad,h2,fun hc=>Gc hd (hr hc),fun j tc hj=> ?_⟩;obtain⟨u,h4,h5⟩:=h3 j tc hj;exact⟨u,h4,h5.jL fun k hk=>Gc hd hk⟩
 |er p path i f=>
  obtain⟨b',h1,h2,ad,n,c,h3,h4⟩:=h;have hp:p≠o:=fun e=>hn ⟨b',e▸h1⟩;exact⟨b',by rw[gK hp];exact h1,h2,ad,n,c,by rw[Mw hp];exact h3,h4⟩
 |_=>exact h
theorem Ov (st:TS) (o:Nat) (b:OB):st.Qy o b=pV id id (jk o b) st:=by
 have h:=oO st;unfold pV at h ⊢;have h1:=congrArg TS.tm h;have h2:=congrArg TS.bx h;simp only at h1 h2;rw[h1,h2];rfl
theorem aH.add (h:aH F A w0 φ st tm w) {o:Nat} {b:OB} {X:Nat→Prop} {v:Value} (h0:o≠0) (hn: ¬aA st.ob o) (hc:aj w φ.I b.m X (.sub b.z b.rows) v)
 (hX: ∀k,X k→k<w.heap.size∧(w0.heap.size≤k∨F k)) (hI: ∀k,X k→ ¬φ.I k) (hS: ∀k d,X k→aA st.ob d→ ¬φ.S d k)
 (hB: ∀b cs,aa b st.bx=some cs→rE b=true→ ¬X (φ.β b).block):aH F A w0 (φ.add o X v) (st.Qy o b) tm w:=by
 rw[Ov];refine h.xG (φ':=φ.add o X v) (w':=w) rfl rfl (fun e u he=>he.add h0 hn) (fun e u hv he=>he.add h0 hn hv) (fun _ _ _ _ _=>rfl) (fun p b' hb=> ?_) ?_ h.frm
 ·unfold iU
  by_cases hp:p=o
  ·subst hp
   rw[gX] at hb
   cases hb
   show aj w φ.I b.m (fun k=>if p=p then X k else φ.S p k) (.sub b.z b.rows) (if p=p then v else φ.V p);simp only[if_true];exact hc
  ·rw[gK hp] at hb
   have:=h.obj p b' hb;unfold iU at this;show aj w φ.I b'.m (fun k=>if p=o then X k else φ.S p k) (.sub b'.z b'.rows) (if p=o then v else φ.V p);simp only[aR hp];exact this
 ·rw[Aj]
  exact {
   arg:=by
    show(fun k=>if 0=o then X k else φ.S 0 k)=A.all;simp only[aR (Ne.symm h0)];exact h.sep.arg
   nz:=fun d hd=>(fm.1 hd).elim (fun e=>e▸h0) (h.sep.nz d)
   apart:=fun d d' k h1 h2 h3 h4=>by
    by_cases e1:d=o
    ·by_cases e2:d'=o
     ·rw[e1,e2]
     ·subst e1
      rw[nV e2] at h4
      have h3:X k:=by have Oh:(if d=d then X k else φ.S d k):=h3;simpa using Oh
      exact absurd h4 (hS k d' h3 ((fm.1 h2).resolve_left e2))
    ·rw[nV e1] at h3
     by_cases e2:d'=o
     ·subst e2
      have h4:X k:=by have VY:(if d'=d' then X k else φ.S d' k):=h4;simpa using VY
      exact absurd h3 (hS k d h4 ((fm.1 h1).resolve_left e1))
     ·rw[nV e2] at h4
      exact h.sep.apart d d' k ((fm.1 h1).resolve_left e1) ((fm.1 h2).resolve_left e2) h3 h4
   read:=fun d k hd hk=>by
    by_cases e1:d=o
    ·subst e1
     have hk:X k:=by have hk':(if d=d then X k else φ.S d k):=hk;simpa using hk'
     exact hI k hk
    ·rw[nV e1] at hk
     exact h.sep.read d k ((fm.1 hd).resolve_left e1) hk
   fresh:=fun d k hd hk=>by
    by_cases e1:d=o
    ·subst e1
     have hk:X k:=by have hk':(if d=d then X k else φ.S d k):=hk;simpa using hk'
     exact hX k hk
    ·rw[nV e1] at hk
     exact h.sep.fresh d k ((fm.1 hd).resolve_left e1) hk
   ro:=h.sep.ro
   iR:=h.sep.iR
   box:=fun b' cs hb hw=>by
    obtain⟨a1,a2,a3,a4⟩:=h.sep.box b' cs hb hw;refine⟨a1,fun d hd hk=> ?_,a3,a4⟩
    by_cases e1:d=o
    ·subst e1
     have hk:X (φ.β b').block:=by have hk':(if d=d then X (φ.β b').block else φ.S d (φ.β b').block):=hk;simpa using hk'
     exact hB b' cs hb hw hk
    ·rw[nV e1] at hk
     exact a2 d ((fm.1 hd).resolve_left e1) hk
   spot:=h.sep.spot
   soft:=h.sep.soft}
theorem aH.vj (h:aH F A w0 φ st tm w) {o:Nat} {b:OB} {X:Nat→Prop} {v:Value} (h0:o≠0) (hc:aj w φ.I b.m X (.sub b.z b.rows) v)
 (hX: ∀k,X k→k<w.heap.size∧(w0.heap.size≤k∨F k)) (hI: ∀k,X k→ ¬φ.I k) (hS: ∀k d,X k→d≠o→aA st.ob d→ ¬φ.S d k)
 (hB: ∀b cs,aa b st.bx=some cs→rE b=true→ ¬X (φ.β b).block):aH F A w0 (φ.add o X v) (T.vj o b st) tm w:=
 (h.iT o).add h0 (fun hd=>(fP.1 hd).1 rfl) hc hX hI (fun k d hx hd=>hS k d hx (fP.1 hd).1 (fP.1 hd).2)
   fun b cs hb hw=>by
    obtain⟨cs0,h1,_⟩:=eg _ b cs hb;exact hB b cs0 h1 hw
end Go.T
namespace Go.T
variable {F : Nat → Prop} {A : Arg} {w0 w w' : World} {φ φ' : Fp} {st st' : TS} {tm xB : Array Value}
attribute [local semireducible] au in
theorem sM (rows:List (List TC)) (l h:Int):au rows l h=(rows.take h.toNat).drop l.toNat:=rfl
theorem C1 {rows:List (List TC)} {l h:Int} (h2:h≤rows.length):(au rows l h).length=h.toNat-l.toNat:=by
 rw[sM,iF,eM]
 have:h.toNat≤rows.length:=by omega
 omega
theorem Gd {rows:List (List TC)} {l h:Int} {i f:Nat} {tc:TC} (ht:p6 (au rows l h) i f=some tc):p6 rows (i+l.toNat) f=some tc∧i+l.toNat<h.toNat:=by
 unfold p6 at ht ⊢;rw[sM,kJ,Be] at ht
 by_cases hi:l.toNat+i<h.toNat
 ·rw[aZ hi] at ht
  rw[Nat.add_comm];exact⟨ht,hi⟩
 ·rw[aR hi] at ht;cases ht
theorem vt {a:Addr} (n:Nat) (h:a.spot=none):(a.add n).spot=none:=by unfold Addr.add;split<;>simp[h]
theorem oq {a:Addr} (n:Nat) (h:a.spot=none):a.add n=⟨a.block,a.off+n,none⟩:=by
 unfold Addr.add;split
 ·subst n;cases a;simp_all
 ·rfl
theorem aj.cut {R S:Nat→Prop} {m:Mode} {z:Nat} {rows:List (List TC)} {V v:Value} {l h:Int} (k:aj w R m S (.sub z rows) V) (hc:tX z rows.length l h V v):
 aj w R m S (.sub z (au rows l h)) v:=by
 cases k with
 |sub _ _ _ _ A c u T k hn=>
  obtain⟨h0,h1,h2,A1,A',c1,e1,rfl,e2,e3,e4⟩:=hc
  cases e1
  have hlen:=C1 (rows:=rows) (l:=l) h2
  have hle:h.toNat≤rows.length:=by omega
  rw[←hlen];have hcl:=k.len
  have hne: ∀i f tc,p6 (au rows l h) i f=some tc→c≠l.toNat:=fun i f tc ht=>by
   have:=(Gd ht).2;omega
  refine .sub _ _ _ _ A' (c-l.toNat) (fun i f=>u (i+l.toNat) f) (fun i f=>T (i+l.toNat) f) ?_ fun i f tc ht=>hn _ _ _ (Gd ht).1
  have hb: ∀ad',A'=some ad'→ ∃ad,A=some ad∧ad'.block=ad.block∧(ad.spot=none→ad'.spot=none):=fun ad' ha=>by
   cases hA:A with
   |none=>rw[e3 hA] at ha;cases ha
   |some ad=>
    obtain⟨ad2,b1,b2,b3⟩:=e4 ad hA;rw[b1] at ha;cases ha;exact⟨ad,rfl,b2,b3⟩
  have hnm:rows=[]→au rows l h=[]:=fun e=>by rw[sM,e];simp
  refine⟨by omega,nS (Nat.sub_le _ _) k.cap,k.z0,fun r hr=>k.width r ?_,fun hr=> ?_,fun ad' ha i f tc ht=> ?_,fun hm ad' ha hr=> ?_,fun hm=>⟨fun ha=> ?_,fun ad' ha=> ?_⟩,fun hm LX ad' ha i=> ?_,fun hm i f q hq=> ?_⟩
  ·rw[sM] at hr
   exact rI (vh hr)
  ·obtain⟨ad,ha⟩:=k.addr fun e=>hr (hnm e)
   obtain⟨ad',b1,_⟩:=e4 ad ha;exact⟨ad',b1⟩
  ·obtain⟨ad,hA,_⟩:=hb ad' ha
   have:=e2 (hne i f tc ht);rw[hA] at this;simp only[ic] at this;rw[this] at ha
   cases ha
   rw[Addr.add_add];have:=k.cell ad hA _ _ _ (Gd ht).1;rw[ni] at this;rw[show l.toNat*z+(i*z+f)=i*z+l.toNat*z+f by omega];exact this
  ·obtain⟨ad,hA,b1,_⟩:=hb ad' ha
   rw[b1];exact k.read hm ad hA fun e=>hr (hnm e)
  ·cases hA:A with
   |none=>rw[(k.own hm).1 hA];omega
   |some ad=>obtain⟨ad2,b1,_⟩:=e4 ad hA;rw[b1] at ha;cases ha
  ·obtain⟨ad,hA,b1,b2⟩:=hb ad' ha
   obtain⟨a1,a2,a3⟩:=(k.own hm).2 ad hA;refine⟨by rw[b1];exact a1,b2 a2,fun j hj=> ?_⟩
   have UF:c≠l.toNat:=fun e=>by rw[e] at hj;simp at hj
   have:=e2 UF;rw[hA] at this;simp only[ic] at this;rw[this] at ha
   cases ha
   rw[oq _ a2];simp only;rw[pR];refine a3 _ ?_
   have:l.toNat*z+(c-l.toNat)*z≤c*z:=by
    rw[←ni];exact lJ _ az
   omega
  ·obtain⟨ad,hA,b1,b2⟩:=hb ad' ha
   rw[b1];exact k.soft hm LX ad hA i
  ·obtain⟨a1,a2,a3⟩:=k.kE hm _ _ _ hq
   refine⟨a1,fun ad' ha=> ?_,fun i' f' Ek=> ?_⟩
   ·obtain⟨ad,hA,b1,_⟩:=hb ad' ha
    rw[b1];exact a2 ad hA
   ·obtain⟨c1,c2⟩:=a3 _ _ Ek
    exact⟨by omega,c2⟩
theorem iU.cut {o:Nat} {b:OB} (h:iU w φ o b) {cut:Option (Int×Int)} {v:Value} (hc:match(generalizing:=false) cut with|none=>v=φ.V o|some (l,h)=>tX b.z b.rows.length l h (φ.V o) v):
 aj w φ.I b.m (φ.S o) (.sub b.z (Hw cut b.rows)) v:=by
 cases cut with
 |none=>simp only at hc;rw[hc];exact h
 |some q=>obtain⟨l,h1⟩:=q;exact aj.cut h hc
theorem Lg {o:Nat} {l:Option (Nat×Int×Nat)} {p:Nat} {i:Int} {f:Nat} (h:Qz o l=some (p,i,f)):l=some (p,i,f)∧p≠o:=by
 unfold Qz at h
 cases l with
 |none=>cases h
 |some q=>
  obtain⟨a,b,c⟩:=q;simp only at h
  cases h1:Nat.beq a o with
  |true=>rw[h1] at h;cases h
  |false=>rw[h1] at h;cases h;exact⟨rfl,lV h1⟩
theorem Jg {o:Nat} {ds:List Nat} {k:Nat} (h:rd φ ds k):rd (φ.more (φ.S o)) (Hv o ds) k:=by
 rcases h with h|⟨d,hd,h⟩
 ·exact .inl (.inl h)
 ·by_cases e:d=o
  ·subst e;exact .inl (.inr h)
  ·exact .inr ⟨d,rP.2 ⟨hd,e⟩,h⟩
theorem cg.freeze {o:Nat} {b:OB} {ob:List (Nat×OB)} (hb:aa o ob=some b) (hO:iU w φ o b) {e:CE} {v:Value} (h:cg ob w φ e v):cg (kL o ob) w (φ.more (φ.S o)) (Cy o b e) v:=by
 cases e with
 |ref p cut=>
  obtain⟨b',h1,h2⟩:=h;simp only[Cy]
  cases hd:Nat.beq p o with
  |true=>
   have:=eB hd;subst this;rw[hb] at h1;cases h1;refine And.intro (fun d hm=>by cases hm) (And.intro ?_ (fun _ _ _ hl=>by cases hl));exact(hO.cut h2).freeze (fun k hk=> .inl (.inl hk)) fun _ k hk=> .inl (.inr hk)
  |false=>
   have:=lV hd;exact⟨b',by rw[oP this];exact h1,h2⟩
 |snap ds loc z rows=>
  obtain⟨h1,h2,h3⟩:=h;refine⟨fun d hm=> ?_,h2.jL fun k hk=>Jg hk,fun p i f hl=> ?_⟩
  ·obtain⟨a1,a2⟩:=rP.1 hm
   exact(h1 d a1).imp id fun h=>jd.2 ⟨a2,h⟩
  ·obtain⟨a1,a2⟩:=Lg hl
   obtain⟨a3,b',a4,a5⟩:=h3 p i f a1;exact⟨rP.2 ⟨a3,a2⟩,b',by rw[oP a2];exact a4,a5⟩
 |_=>exact h
theorem bR.freeze {o:Nat} {ob:List (Nat×OB)} {e:TE} {v:Value} (hv: ∀t es,e≠ .v t es) (h:bR ob w φ e v):bR (kL o ob) w (φ.more (φ.S o)) (F1 o e) v:=by
 cases e with
 |v t es=>exact absurd rfl (hv t es)
 |ep ds cells=>
  obtain⟨h1,ad,h2,hr,h3⟩:=h;refine⟨fun d hm=> ?_,ad,h2,fun hc=>Jg (hr hc),fun j tc hj=> ?_⟩
  ·obtain⟨a1,a2⟩:=rP.1 hm
   exact(h1 d a1).imp id fun h=>jd.2 ⟨a2,h⟩
  ·obtain⟨u,h4,h5⟩:=h3 j tc hj
   exact⟨u,h4,h5.jL fun k hk=>Jg hk⟩
 |er p path i f=>
  simp only[F1]
  cases hd:Nat.beq p o with
  |true=>trivial
  |false=>
   obtain⟨b,h1,h2⟩:=h;exact⟨b,by rw[oP (lV hd)];exact h1,h2⟩
 |_=>exact h
theorem aH.pW (h:aH F A w0 φ st tm w) (o:Nat): ∃φ',aH F A w0 φ' (pW st o) tm w∧φ'.β=φ.β∧φ'.V=φ.V∧φ'.S=φ.S∧ ∀k,φ'.I k↔φ.I k∨(aA st.ob o∧φ.S o k):=by
 unfold T.pW
 cases hb:aa o st.ob with
 |none=>exact⟨φ,h,rfl,rfl,rfl,fun k=>⟨.inl,fun hk=>hk.elim id fun⟨⟨b,hb'⟩,_⟩=>by rw[hb] at hb';cases hb'⟩⟩
 |some b=>
  refine⟨φ.more (φ.S o),h.xG (φ':=φ.more (φ.S o)) (w':=w) rfl rfl (fun e v he=>he.freeze hb (h.obj o b hb)) (fun e v hv he=>he.freeze hv) (fun _ _ _ _ _=>rfl) (fun p b' hp=> ?_) ?_ h.frm,rfl,rfl,rfl,fun k=>⟨fun hk=>hk.imp id fun hk=>⟨⟨b,hb⟩,hk⟩,fun hk=>hk.imp id fun hk=>hk.2⟩⟩
  ·rw[eT] at hp
   split at hp
   ·cases hp
   ·exact(h.obj p b' hp).jL fun k hk=> .inl hk
  ·have hs:=(h.sep.boxes (eg (Cy o b))).sub (wu:=kL o st.ob) fun d hd=>(jd.1 hd).2
   have hin:aA st.ob o:=⟨b,hb⟩
   exact {
    arg:=hs.arg,nz:=hs.nz,apart:=hs.apart,fresh:=hs.fresh,iR:=hs.iR,spot:=hs.spot,soft:=hs.soft
    read:=fun p k hp hk hI=>by
     obtain⟨a1,a2⟩:=jd.1 hp;rcases hI with hI|hI
     ·exact h.sep.read p k a2 hk hI
     ·exact a1 (h.sep.apart p o k a2 hin hk hI)
    ro:=fun k hk=>hk.elim (h.sep.ro k) fun hk=>⟨(h.sep.fresh o k hin hk).1,(h.sep.fresh o k hin hk).2.imp id .inl⟩
    box:=fun b' cs hb' hw=>by
     obtain⟨a1,a2,a3,a4⟩:=hs.box b' cs hb' hw;obtain⟨cs0,c1,_⟩:=eg _ b' cs hb'
     exact⟨fun hI=>hI.elim a1 ((h.sep.box b' cs0 c1 hw).2.1 o hin),a2,a3,a4⟩}
theorem aH.nG (h:aH F A w0 φ st tm w) {o:Nat} {b b':OB} {X:Nat→Prop} (hb:aa o st.ob=some b) (hz:b'.z=b.z) (hl:b'.rows.length=b.rows.length)
 (hc:aj w' φ.I b'.m X (.sub b'.z b'.rows) (φ.V o)) (hf:Kl F w0 w') (hsz:w.heap.size≤w'.heap.size) (hw: ∀k,k<w.heap.size→ ¬φ.S o k→w'.heap[k]?=w.heap[k]?)
 (hX: ∀k,X k→k<w'.heap.size∧(w0.heap.size≤k∨F k)) (hI: ∀k,X k→ ¬φ.I k) (hS: ∀k d,X k→d≠o→aA st.ob d→ ¬φ.S d k)
 (hB: ∀b cs,aa b st.bx=some cs→rE b=true→ ¬X (φ.β b).block):aH F A w0 (φ.add o X (φ.V o)) (nG o b' st) tm w':=by
 have hin:aA st.ob o:=⟨b,hb⟩;have h0:o≠0:=h.sep.nz o hin
 have hV:(φ.add o X (φ.V o)).V=φ.V:=by
  funext d
  show(if d=o then φ.V o else φ.V d)=φ.V d
  split
  ·subst_vars;rfl
  ·rfl
 have kk: ∀d,aA (jk o b' st.ob) d↔aA st.ob d:=fun d=>by
  rw[fm];exact⟨fun h=>h.elim (fun e=>e▸hin) id,.inr⟩
 have stI: ∀k,φ.I k→w'.heap[k]?=w.heap[k]?:=fun k hk=>hw k (h.sep.ro k hk).1 fun hs=>h.sep.read o k hin hs hk
 have stS: ∀d k,d≠o→d=0∨aA st.ob d→φ.S d k→w'.heap[k]?=w.heap[k]?:=fun d k hne hd hk=>hw k (h.sep.lt h.frm.size hd hk) fun hs=>by
  rcases hd with rfl|hd
  ·rw[h.sep.arg] at hk
   have:=h.sep.iR k hk;rcases (h.sep.fresh o k hin hs).2 with h3|h3
   ·omega
   ·exact this.2 h3
  ·exact hne (h.sep.apart d o k hd hin hk hs)
 have stR: ∀ds k,o∉ds→(∀d∈ds,d=0∨aA st.ob d)→rd φ ds k→rd (φ.add o X (φ.V o)) ds k∧w'.heap[k]?=w.heap[k]?:=fun ds k hn hd hk=>by
  refine⟨Gc hn hk,?_⟩;rcases hk with hk|⟨d,hm,hk⟩
  ·exact stI k hk
  ·exact stS d k (fun e=>by subst e;exact hn hm) (hd d hm) hk
 have stV: ∀p b1 ad n c i f tc u,p≠o→aa p st.ob=some b1→φ.V p= .slice (some ad) n c→p6 b1.rows i f=some tc→w.cell? (ad.add (i*b1.z+f))=some u→w'.cell? (ad.add (i*b1.z+f))=some u:=by
  intro p b1 ad n c i f tc u hne hp hv ht hcell;have hO:=h.obj p b1 hp;unfold iU at hO;rw[hv] at hO
  have hS:φ.S p ad.block:=by
   cases hO with
   |sub _ _ _ _ _ _ u T k hn=>exact(k.own (by unfold OB.m;split<;>simp)).2 ad rfl|>.1
  rw[dr (w:=w)]
  ·exact hcell
  ·rw[bO];exact stS p _ hne (.inr ⟨b1,hp⟩) hS
 have cbox: ∀p cs,aa p st.bx=some cs→w'.heap[(φ.β p).block]?=w.heap[(φ.β p).block]?:=fun p cs hp=>by
  obtain⟨a1,a2,a3⟩:=h.sep.spot p cs hp;refine hw _ a2 fun hs=> ?_
  cases wY:rE p with
  |true=>exact(h.sep.box p cs hp wY).2.1 o hin hs
  |false=>
   have:=h.sep.iR _ (a3 wY);rcases (h.sep.fresh o _ hin hs).2 with h3|h3
   ·omega
   ·exact this.2 h3
 refine h.xG (φ':=φ.add o X (φ.V o)) rfl rfl (fun e v he=> ?_) (fun e v hv he=> ?_) (fun p cs hp j hj=> ?_) (fun p b1 hp=> ?_) ?_ hf
 ·cases e with
  |ref p cut=>
   obtain⟨b1,h1,h2⟩:=he
   by_cases hp:p=o
   ·subst hp
    rw[hb] at h1;cases h1;refine⟨b',gX,?_⟩;rw[hV]
    cases cut with
    |none=>exact h2
    |some q=>obtain⟨l,r⟩:=q;simp only at h2 ⊢;rw[hz,hl];exact h2
   ·exact⟨b1,by rw[gK hp];exact h1,by rw[hV];exact h2⟩
  |snap ds loc z rows=>
   simp only[I7]
   cases hd:gG o ds with
   |true=>trivial
   |false=>
    have hd:=cL.1 hd;obtain⟨h1,h2,h3⟩:=he;refine⟨fun d hm=>(h1 d hm).imp id (kk d).2,h2.move (fun k hk=>stR ds k hd h1 hk) (fun hm=>absurd rfl hm),fun p i f hl=> ?_⟩;obtain⟨a1,b1,a2,a3,a4,ad,n,c,a5,a6⟩:=h3 p i f hl
    have hp:p≠o:=fun e=>by subst e;exact hd a1
    refine⟨a1,b1,by rw[gK hp];exact a2,a3,a4,ad,n,c,by rw[hV];exact a5,stV p b1 ad n c _ _ _ _ hp a2 a5 a4 a6⟩
  |_=>exact he
 ·cases e with
  |v t es=>exact absurd rfl (hv t es)
  |ep ds cells=>
   simp only[F0]
   cases hd:gG o ds with
   |true=>trivial
   |false=>
    have hd:=cL.1 hd;obtain⟨h1,ad,h2,hr,h3⟩:=he;refine⟨fun d hm=>(h1 d hm).imp id (kk d).2,ad,h2,fun hc=>(stR ds _ hd h1 (hr hc)).1,fun j tc hj=> ?_⟩;obtain⟨u,h4,h5⟩:=h3 j tc hj
    have hc:cells≠[]:=fun e=>by rw[e] at hj;simp at hj
    exact⟨u,by rw[dr (w:=w) (by rw[bO];exact(stR ds _ hd h1 (hr hc)).2)];exact h4,h5.move (fun k hk=>stR ds k hd h1 hk) (fun hm=>absurd rfl hm)⟩
  |er p path i f=>
   obtain⟨b1,h1,h2,ad,n,c,h3,h4⟩:=he
   cases path with
   |none=>
    simp only[F0]
    by_cases hp:p=o
    ·subst hp
     rw[hb] at h1;cases h1;exact⟨b',gX,h2,ad,n,c,by rw[hV];exact h3,by rw[hz];exact h4⟩
    ·exact⟨b1,by rw[gK hp];exact h1,h2,ad,n,c,by rw[hV];exact h3,h4⟩
   |some q=>
    obtain⟨i0,f0⟩:=q;simp only[F0]
    cases hd:Nat.beq p o with
    |true=>trivial
    |false=>
     have hp:=lV hd;obtain⟨a1,z1,kV,a2,ad1,n1,c1,a3,a4⟩:=h4;exact⟨b1,by rw[gK hp];exact h1,h2,ad,n,c,by rw[hV];exact h3,a1,z1,kV,a2,ad1,n1,c1,stV p b1 ad n c _ _ _ _ hp h1 h3 a2 a3,a4⟩
  |_=>exact he
 ·exact dr (by rw[bO];exact cbox p cs hp)
 ·unfold iU
  by_cases G7:p=o
  ·subst G7
   rw[gX] at hp;cases hp;rw[hV];show aj w' φ.I b'.m (fun k=>if p=p then X k else φ.S p k) (.sub b'.z b'.rows) (φ.V p);simp only[if_true];exact hc
  ·rw[gK G7] at hp
   rw[hV];show aj w' φ.I b1.m (fun k=>if p=o then X k else φ.S p k) (.sub b1.z b1.rows) (φ.V p);simp only[aR G7];exact(h.obj p b1 hp).move (fun k hk=>⟨hk,stI k hk⟩) fun _ k hk=>stS p k G7 (.inr ⟨b1,hp⟩) hk
 ·have hs:=h.sep.boxes (eg (I7 o))
  have self: ∀k,(φ.add o X (φ.V o)).S o k→X k:=fun k hk=>by
   have hk':(if o=o then X k else φ.S o k):=hk;simpa using hk'
  exact {
   arg:=by
    show(fun k=>if 0=o then X k else φ.S 0 k)=A.all;simp only[aR (Ne.symm h0)];exact h.sep.arg
   nz:=fun d hd=>h.sep.nz d ((kk d).1 hd)
   apart:=fun d d' k h1 h2 h3 h4=>by
    have i1:=(kk d).1 h1;have i2:=(kk d').1 h2
    by_cases e1:d=o
    ·subst e1
     by_cases e2:d'=d
     ·exact e2.symm
     ·rw[nV e2] at h4;exact absurd h4 (hS k d' (self k h3) e2 i2)
    ·rw[nV e1] at h3
     by_cases e2:d'=o
     ·subst e2;exact absurd h3 (hS k d (self k h4) e1 i1)
     ·rw[nV e2] at h4;exact h.sep.apart d d' k i1 i2 h3 h4
   read:=fun d k hd hk=>by
    have hd:=(kk d).1 hd
    by_cases e1:d=o
    ·subst e1;exact hI k (self k hk)
    ·rw[nV e1] at hk;exact h.sep.read d k hd hk
   fresh:=fun d k hd hk=>by
    have hd:=(kk d).1 hd
    by_cases e1:d=o
    ·subst e1;exact hX k (self k hk)
    ·rw[nV e1] at hk
     exact⟨fG (h.sep.fresh d k hd hk).1 hsz,(h.sep.fresh d k hd hk).2⟩
   ro:=fun k hk=>⟨fG (h.sep.ro k hk).1 hsz,(h.sep.ro k hk).2⟩
   iR:=h.sep.iR
   box:=fun p cs hp wY=>by
    obtain⟨cs0,c1,_⟩:=eg _ p cs hp;obtain⟨a1,a2,a3,a4⟩:=hs.box p cs hp wY;refine⟨a1,fun d hd hk=> ?_,a3,a4⟩;have hd:=(kk d).1 hd
    by_cases e1:d=o
    ·subst e1;exact hB p cs0 c1 wY (self _ hk)
    ·rw[nV e1] at hk;exact a2 d hd hk
   spot:=fun p cs hp=>⟨(hs.spot p cs hp).1,fG (hs.spot p cs hp).2.1 hsz,(hs.spot p cs hp).2.2⟩
   soft:=fun p cs j hp wY hj=>by
    obtain⟨cs0,c1,c2⟩:=eg _ p cs hp;rw[gJ (w:=w) (by rw[bO];exact cbox p cs0 c1)]
    exact h.sep.soft p cs0 j c1 wY az}
end Go.T
namespace Go.T
variable {F : Nat → Prop} {A : Arg} {w0 w w' : World} {φ φ' : Fp} {st st' : TS} {tm xB : Array Value}
theorem aH.less (h:aH F A w0 φ st tm w) (ht: ∀i,st'.get i= .dead∨st'.get i=st.get i) (hb: ∀b cs,aa b st'.bx=some cs→aa b st.bx=some cs) (ho:st'.ob=st.ob):aH F A w0 φ st' tm w where
 tmp i:=by
  rw[ho];rcases ht i with h1|h1
  ·rw[h1];trivial
  ·rw[h1];exact h.tmp i
 box b cs h1:=by rw[ho];exact h.box b cs (hb b cs h1)
 obj:=by rw[ho];exact h.obj
 sep:=by rw[ho];exact h.sep.boxes fun b cs h1=>⟨cs,hb b cs h1,rfl⟩
 frm:=h.frm
theorem HG (st:TS) (l:List Nat) (bx:List (Nat×List CE)) (ob:List (Nat×OB)) (i:Nat):(⟨tW l st.tm,bx,ob⟩:TS).get i= .dead∨(⟨tW l st.tm,bx,ob⟩:TS).get i=st.get i:=by
 unfold TS.get;simp only[C0]
 by_cases h:i∈l
 ·right;rw[aZ h]
 ·left;rw[aR h]
theorem aH.keep (h:aH F A w0 φ st tm w) (l:List Nat):aH F A w0 φ ⟨tW l st.tm,st.bx,st.ob⟩ tm w:=
 h.less (HG st l st.bx st.ob) (fun _ _ h=>h) rfl
theorem C2 (l:List Nat) (j:Nat): ∀(m:List (Nat×List CE)) (cs:List CE),aa j (p0 l m)=some cs→aa j m=some cs
 |[],cs,h=>by simp[p0,aa] at h
 |(a,x)::r,cs,h=>by
  have ih:=C2 l j r cs
  have key:aa j ((a,x)::p0 l r)=some cs→aa j ((a,x)::r)=some cs:=fun h=>by
   simp only[aa] at h ⊢
   cases h1:Nat.beq a j with
   |true=>rw[h1] at h;exact h
   |false=>rw[h1] at h;exact ih h
  have skip:(100000≤a→False)→a∉l→aa j (p0 l r)=some cs→aa j ((a,x)::r)=some cs:=fun h1 h2 h=>by
   simp only[aa]
   cases h3:Nat.beq a j with
   |false=>exact ih h
   |true=>
    exfalso
    have h3:=eB h3;subst h3
    have: ∀(m:List (Nat×List CE)),aa a (p0 l m)=none:=by
     intro m
     induction m with
     |nil=>rfl
     |cons p r ih=>
      obtain⟨c,y⟩:=p;simp only[p0]
      have hk: ∀(hc:c≠a),aa a ((c,y)::p0 l r)=none:=fun hc=>by
       simp only[aa,beq_false hc];exact ih
      split
      ·rename_i h4
       exact hk fun e=>h1 (by subst e;exact lU h4)
      ·split
       ·rename_i h5
        exact hk fun e=>h2 (by subst e;exact fU.1 h5)
       ·exact ih
    rw[this] at h;cases h
  simp only[p0] at h
  split at h
  ·exact key h
  ·rename_i h4
   split at h
   ·exact key h
   ·rename_i h5
    exact skip (fun h6=>by rw[CP h6] at h4;cases h4) (cL.1 h5) h
theorem aH.Si (h:aH F A w0 φ st tm w) (l:List Nat):aH F A w0 φ ⟨tW l st.tm,p0 l st.bx,st.ob⟩ tm w:=
 h.less (HG st l (p0 l st.bx) st.ob) (fun b cs hb=>C2 l b st.bx cs hb) rfl
theorem Lh {b:Nat} {ob:List (Nat×OB)} {β:Nat→Addr} (hβ: ∀c,c≠b→β c=φ.β c) {e:TE} {v:Value} (hn:CT b e=false) (h:bR ob w φ e v):bR ob w {φ with β:=β} e v:=by
 have Qb: ∀(c:kK) (u:Value),PO b c=false→ij ob w φ c u→ij ob w {φ with β:=β} c u:=by
  intro c u hc h
  cases c with
  |ptr c=>
   simp only[ij] at h ⊢;rw[hβ c (lV hc)];exact h
  |mk a cs=>cases a<;>exact h
 cases e with
 |v t es=>
  simp only[CT,List.any_eq_false] at hn
  cases t with
  |true=>
   obtain⟨vs,h1,h2,h3⟩:=h;refine⟨vs,h1,h2,fun k c hk=> ?_⟩;obtain⟨u,h4,h5⟩:=h3 k c hk;exact⟨u,h4,Qb c u (by simpa using hn c (ee hk)) h5⟩
  |false=>
   obtain⟨c,rfl,h3⟩:=h;exact⟨c,rfl,Qb c v (by simpa using hn c dI) h3⟩
 |bp c off=>
  simp only[bR] at h ⊢;rw[hβ c (lV hn)];exact h
 |fn f caps=>
  simp only[bR] at h ⊢;rw[h];have hn:=cL.1 hn
  congr 2
  refine List.map_congr_left fun c hc=> ?_;rw[hβ c fun e=>by subst e;exact hn hc]
 |_=>exact h
theorem Ff (b:Nat) (st:TS) (i:Nat):(Fa b st).get i=if CT b (st.get i)=true then .dead else st.get i:=by
 unfold TS.get Fa;simp only[mK]
 cases aa i st.tm with
 |none=>simp
 |some e=>
  simp only[ic]
  cases CT b e<;>simp
theorem aH.Fa (h:aH F A w0 φ st tm w) (b:Nat):aH F A w0 φ (Fa b st) tm w:=by
 refine h.less (fun i=> ?_) (fun c cs hc=> ?_) rfl
 ·rw[Ff];split<;>simp
 ·have:aa c (kL b st.bx)=some cs:=hc
  rw[eT] at this
  split at this
  ·cases this
  ·exact this
def Fp.box (φ:Fp) (b:Nat) (ad:Addr):Fp:={φ with β:=fun c=>if c=b then ad else φ.β c}
theorem oQ {b:Nat} {ad:Addr}:(φ.box b ad).β b=ad:=aZ rfl
theorem jm {b c:Nat} {ad:Addr} (h:c≠b):(φ.box b ad).β c=φ.β c:=aR h
theorem aH.z7 (h:aH F A w0 φ st tm w) {b:Nat} {cs:List CE} {ad:Addr} (hw:rE b=true) (hs:ad.spot=none) (hlt:ad.block<w.heap.size) (hS: ∀o,aA st.ob o→ ¬φ.S o ad.block)
 (hI: ¬φ.I ad.block) (hF:w0.heap.size≤ad.block∨F ad.block) (hB: ∀b' cs',aa b' st.bx=some cs'→b'≠b→(φ.β b').block≠ad.block)
 (hc: ∀(j:Nat) (e:CE),cs[j]?=some e→ ∃v,w.cell? (ad.add j)=some v∧v.cells= #[v]∧cg st.ob w φ e v) (hf: ∀j,j<cs.length→w.frozen? (ad.add j)=false):aH F A w0 (φ.box b ad) (z7 b cs st) tm w:=by
 have pF: ∀c,aa c (T.z7 b cs st).bx=if c=b then some cs else aa c st.bx:=fun c=>by
  show aa c (jk b cs (kL b st.bx))=_;rw[c6,eT]
  by_cases hc:c=b<;>simp[hc]
 refine⟨fun i=> ?_,fun c cs' pH j e he=> ?_,h.obj,?_,h.frm⟩
 ·show bR st.ob w (φ.box b ad) ((T.Fa b st).get i) (tm.getD i undef)
  rw[Ff]
  split
  ·trivial
  ·rename_i hn
   exact Lh (fun c hc=>jm hc) (by simpa using hn) (h.tmp i)
 ·rw[pF] at pH
  by_cases hcb:c=b
  ·subst hcb
   rw[aZ rfl] at pH;cases pH;rw[oQ];exact hc j e he
  ·rw[aR hcb] at pH
   rw[jm hcb];exact h.box c cs' pH j e he
 ·exact {
   arg:=h.sep.arg,nz:=h.sep.nz,apart:=h.sep.apart,read:=h.sep.read,fresh:=h.sep.fresh,ro:=h.sep.ro,iR:=h.sep.iR
   box:=fun c cs' pH Py=>by
    rw[pF] at pH
    by_cases hcb:c=b
    ·subst hcb
     rw[oQ];refine⟨hI,hS,hF,fun b' G6 hb' hne=> ?_⟩;rw[pF,aR hne] at hb';rw[jm hne];exact hB b' G6 hb' hne
    ·rw[aR hcb] at pH
     rw[jm hcb];obtain⟨a1,a2,a3,a4⟩:=h.sep.box c cs' pH Py;refine⟨a1,a2,a3,fun b' G6 hb' hne=> ?_⟩;rw[pF] at hb'
     by_cases hb2:b'=b
     ·subst hb2
      rw[oQ];exact fun e=>hB c cs' pH hcb e.symm
     ·rw[aR hb2] at hb'
      rw[jm hb2];exact a4 b' G6 hb' hne
   spot:=fun c cs' pH=>by
    rw[pF] at pH
    by_cases hcb:c=b
    ·subst hcb
     rw[oQ];exact⟨fun _=>hs,hlt,fun e=>by rw[hw] at e;cases e⟩
    ·rw[aR hcb] at pH
     rw[jm hcb];exact h.sep.spot c cs' pH
   soft:=fun c cs' j pH Py hj=>by
    rw[pF] at pH
    by_cases hcb:c=b
    ·subst hcb
     rw[aZ rfl] at pH;cases pH;rw[oQ];exact hf j hj
    ·rw[aR hcb] at pH
     rw[jm hcb];exact h.sep.soft c cs' j pH Py hj}
theorem aH.z6 (h:aH F A w0 φ st tm w) {b:Nat} {cs old:List CE} (hb:aa b st.bx=some old) (wY:rE b=true) (hl:cs.length=old.length) (hf:Kl F w0 w') (hsz:w.heap.size≤w'.heap.size)
 (hw: ∀k,k<w.heap.size→k≠(φ.β b).block→w'.heap[k]?=w.heap[k]?) (hfz: ∀j,j<cs.length→w'.frozen? ((φ.β b).add j)=false)
 (hc: ∀(j:Nat) (e:CE),cs[j]?=some e→ ∃v,w'.cell? ((φ.β b).add j)=some v∧v.cells= #[v]∧cg st.ob w φ e v):aH F A w0 φ (st.z6 b cs) tm w':=by
 obtain⟨b1,b2,b3,b4⟩:=h.sep.box b old hb wY;have stI: ∀k,φ.I k→w'.heap[k]?=w.heap[k]?:=fun k hk=>hw k (h.sep.ro k hk).1 fun e=>b1 (e▸hk)
 have nA: ∀k,A.all k→k≠(φ.β b).block:=fun k hk e=>by
  subst e;have:=h.sep.iR _ hk;rcases b3 with b3|b3
  ·omega
  ·exact this.2 b3
 have stS: ∀d k,d=0∨aA st.ob d→φ.S d k→w'.heap[k]?=w.heap[k]?:=fun d k hd hk=>hw k (h.sep.lt h.frm.size hd hk) fun e=>by
  subst e;rcases hd with rfl|hd
  ·rw[h.sep.arg] at hk;exact nA _ hk rfl
  ·exact b2 d hd hk
 have own: ∀o ad n c,aA st.ob o→φ.V o= .slice (some ad) n c→φ.S o ad.block:=fun o ad n c ⟨bo,ho⟩ hv=>by
  have hO:=h.obj o bo ho;unfold iU at hO;rw[hv] at hO
  cases hO with
  |sub _ _ _ _ _ _ u T k hn=>exact(k.own (by unfold OB.m;split<;>simp)).2 ad rfl|>.1
 have hV: ∀o,aA st.ob o→ ∀ad n c,φ.V o= .slice (some ad) n c→ ∀i v,w.cell? (ad.add i)=some v→w'.cell? (ad.add i)=some v:=fun o ho ad n c hv i v hcell=>by
  rw[dr (w:=w)]
  ·exact hcell
  ·rw[bO];exact stS o _ (.inr ho) (own o ad n c ho hv)
 have UG: ∀e v,cg st.ob w φ e v→cg st.ob w' φ e v:=fun e v he=>he.stay stI stS hV
 have hE: ∀ds cells v,bR st.ob w φ (.ep ds cells) v→bR st.ob w' φ (.ep ds cells) v:=by
  intro ds cells v ⟨h1,ad,h2,hr,h3⟩;refine⟨h1,ad,h2,hr,fun j tc hj=> ?_⟩;obtain⟨u,h4,h5⟩:=h3 j tc hj
  have VZ:cells≠[]:=fun e=>by rw[e] at hj;simp at hj
  have stR: ∀k,rd φ ds k→w'.heap[k]?=w.heap[k]?:=fun k hk=>by
   rcases hk with hk|⟨d,hm,hk⟩
   ·exact stI k hk
   ·exact stS d k (h1 d hm) hk
  exact⟨u,by rw[dr (w:=w) (by rw[bO];exact stR _ (hr VZ))];exact h4,h5.move (fun k hk=>⟨hk,stR k hk⟩) (fun hm=>absurd rfl hm)⟩
 have hT: ∀e v,bR st.ob w φ e v→bR st.ob w' φ e v:=fun e v he=>by
  have:=bR.xG (f:=id) (g:=id) rfl UG (fun e v hv he=>bR.stay stI stS hV (fun ad v hc hk=>by rw[dr (w:=w) (hk _ rfl)];exact hc) hE hv he) he
  have hid:qY id id e=e:=by
   have h1:=congrArg TS.tm (oO ⟨[(0,e)],[],[]⟩);simpa [pV,mapA] using h1
  rw[hid] at this;exact this
 have pF: ∀c,aa c (st.z6 b cs).bx=if c=b then some cs else aa c st.bx:=fun c=>c6 _ _ _ _
 have obox: ∀c cs',aa c st.bx=some cs'→c≠b→w'.heap[(φ.β c).block]?=w.heap[(φ.β c).block]?:=fun c cs' pH hne=>hw _ (h.sep.spot c cs' pH).2.1 (b4 c cs' pH hne);refine⟨fun i=>hT _ _ (h.tmp i),fun c cs' pH j e he=> ?_,fun o bo ho=> ?_,?_,hf⟩
 ·rw[pF] at pH
  by_cases hcb:c=b
  ·subst hcb
   rw[aZ rfl] at pH;cases pH;obtain⟨v,h1,h3,h2⟩:=hc j e he;exact⟨v,h1,h3,UG _ _ h2⟩
  ·rw[aR hcb] at pH
   obtain⟨v,h1,h3,h2⟩:=h.box c cs' pH j e he;exact⟨v,by rw[dr (w:=w) (by rw[bO];exact obox c cs' pH hcb)];exact h1,h3,UG _ _ h2⟩
 ·exact(h.obj o bo ho).move (fun k hk=>⟨hk,stI k hk⟩) fun _ k hk=>stS o k (.inr ⟨bo,ho⟩) hk
 ·have len: ∀c cs',aa c (st.z6 b cs).bx=some cs'→ ∃cs0,aa c st.bx=some cs0∧cs'.length=cs0.length:=fun c cs' pH=>by
   rw[pF] at pH
   by_cases hcb:c=b
   ·subst hcb
    rw[aZ rfl] at pH;cases pH;exact⟨old,hb,hl⟩
   ·rw[aR hcb] at pH;exact⟨cs',pH,rfl⟩
  have hs:=h.sep.boxes len
  exact {
   arg:=hs.arg,nz:=hs.nz,apart:=hs.apart,read:=hs.read,iR:=hs.iR,box:=hs.box
   fresh:=fun o k ho hk=>⟨fG (hs.fresh o k ho hk).1 hsz,(hs.fresh o k ho hk).2⟩
   ro:=fun k hk=>⟨fG (hs.ro k hk).1 hsz,(hs.ro k hk).2⟩
   spot:=fun c cs' pH=>⟨(hs.spot c cs' pH).1,fG (hs.spot c cs' pH).2.1 hsz,(hs.spot c cs' pH).2.2⟩
   soft:=fun c cs' j pH Py hj=>by
    obtain⟨cs0,c1,c2⟩:=len c cs' pH
    by_cases hcb:c=b
    ·subst hcb
     rw[pF,aZ rfl] at pH;cases pH;exact hfz j hj
    ·rw[gJ (w:=w) (by rw[bO];exact obox c cs0 c1 hcb)]
     exact h.sep.soft c cs0 j c1 Py az}
end Go.T
namespace Go.T
variable {F : Nat → Prop} {A : Arg} {w0 w w' : World} {φ φ' : Fp} {st st' : TS} {tm xB : Array Value}
structure Ext (ob wu:List (Nat×OB)) (φ φ':Fp):Prop where
 look: ∀d b,aa d ob=some b→aa d wu=some b
 I:φ'.I=φ.I
 β:φ'.β=φ.β
 S: ∀d,d=0∨aA ob d→φ'.S d=φ.S d
 V: ∀d,aA ob d→φ'.V d=φ.V d
section
variable {ob wu : List (Nat × OB)}
theorem Ext.dom (x:Ext ob wu φ φ') {d:Nat} (h:aA ob d):aA wu d:=let ⟨b,h⟩:=h;⟨b,x.look d b h⟩
theorem Ext.rd (x:Ext ob wu φ φ') {ds:List Nat} (hd: ∀d∈ds,d=0∨aA ob d) {k:Nat} (h:T.rd φ ds k):T.rd φ' ds k:=by
 rcases h with h|⟨d,hm,h⟩
 ·exact .inl (by rw[x.I];exact h)
 ·exact .inr ⟨d,hm,by rw[x.S d (hd d hm)];exact h⟩
theorem cg.ext (x:Ext ob wu φ φ') {e:CE} {v:Value} (h:cg ob w φ e v):cg wu w φ' e v:=by
 cases e with
 |ref o cut=>
  obtain⟨b,h1,h2⟩:=h;exact⟨b,x.look o b h1,by rw[x.V o ⟨b,h1⟩];exact h2⟩
 |snap ds loc z rows=>
  obtain⟨h1,h2,h3⟩:=h;refine⟨fun d hm=>(h1 d hm).imp id x.dom,h2.jL fun k hk=>x.rd h1 hk,fun o i f hl=> ?_⟩;obtain⟨a1,b,a2,a3,a4,ad,n,c,a5,a6⟩:=h3 o i f hl;exact⟨a1,b,x.look o b a2,a3,a4,ad,n,c,by rw[x.V o ⟨b,a2⟩];exact a5,a6⟩
 |_=>exact h
theorem ij.ext (x:Ext ob wu φ φ') {c:kK} {v:Value} (h:ij ob w φ c v):ij wu w φ' c v:=by
 cases c with
 |ptr b=>simp only[ij] at h ⊢;rw[x.β];exact h
 |mk a cs=>
  cases a with
  |true=>obtain⟨xs,h1,h2,h3⟩:=h;exact⟨xs,h1,h2,fun j e he=>let ⟨y,h4,h6,h5⟩:=h3 j e he;⟨y,h4,h6,h5.ext x⟩⟩
  |false=>obtain⟨e,h1,h2,h3⟩:=h;exact⟨e,h1,h2,h3.ext x⟩
theorem bR.ext (x:Ext ob wu φ φ') {e:TE} {v:Value} (h:bR ob w φ e v):bR wu w φ' e v:=by
 cases e with
 |v t es=>
  cases t with
  |true=>obtain⟨vs,h1,h2,h3⟩:=h;exact⟨vs,h1,h2,fun j e he=>let ⟨y,h4,h5⟩:=h3 j e he;⟨y,h4,h5.ext x⟩⟩
  |false=>obtain⟨c,h1,h2⟩:=h;exact⟨c,h1,h2.ext x⟩
 |ep ds cells=>
  obtain⟨h1,ad,h2,hr,h3⟩:=h;refine⟨fun d hm=>(h1 d hm).imp id x.dom,ad,h2,fun hc=>x.rd h1 (hr hc),fun j tc hj=> ?_⟩;obtain⟨u,h4,h5⟩:=h3 j tc hj;exact⟨u,h4,h5.jL fun k hk=>x.rd h1 hk⟩
 |er o path i f=>
  obtain⟨b,h1,h2,ad,n,c,h3,h4⟩:=h;exact⟨b,x.look o b h1,h2,ad,n,c,by rw[x.V o ⟨b,h1⟩];exact h3,h4⟩
 |bp b off=>simp only[bR] at h ⊢;rw[x.β];exact h
 |fn f caps=>simp only[bR] at h ⊢;rw[x.β];exact h
 |_=>exact h
end
def Hl:Nat→Nat→List (Nat×OB)→Prop
 |n,m,[]=>n≤m
 |n,m,(i,b)::r=>n≤i∧(b.deep=true∧b.rows=[]∧0<b.z)∧Hl (i+1) m r
theorem Hl.le: ∀{n m:Nat} {l:List (Nat×OB)},Hl n m l→n≤m
 |_,_,[],h=>h
 |_,_,(i,b)::r,h=>by have:=Hl.le h.2.2;have:=h.1;omega
theorem Hl.down {n n' m:Nat} {l:List (Nat×OB)} (h:Hl n m l) (hn:n'≤n):Hl n' m l:=by
 cases l with
 |nil=>exact nS hn h
 |cons p r=>obtain⟨i,b⟩:=p;exact⟨nS hn h.1,h.2⟩
theorem Hl.app: ∀{n m k:Nat} {l l':List (Nat×OB)},Hl n m l→Hl m k l'→Hl n k (l++l')
 |_,_,_,[],_,h,h'=>h'.down h
 |_,_,_,(i,b)::r,_,h,h'=>⟨h.1,h.2.1,h.2.2.app h'⟩
theorem Hl.mem: ∀{n m:Nat} {l:List (Nat×OB)} {i:Nat} {b:OB},Hl n m l→(i,b)∈l→n≤i∧i<m∧b.deep=true∧b.rows=[]∧0<b.z
 |n,m,(j,b')::r,i,b,h,hm=>by
  rcases cu.1 hm with e|hm
  ·cases e
   have:=h.2.2.le;exact⟨h.1,by omega,h.2.1⟩
  ·obtain⟨h1,h2,h3⟩:=h.2.2.mem hm
   exact⟨by have:=h.1;omega,h2,h3⟩
theorem Bh: ∀{n m:Nat} {l:List (Nat×OB)} {ob:List (Nat×OB)},Hl n m l→(∀i b,(i,b)∈l→aa i (fT l ob)=some b)∧ ∀d,d<n→aa d (fT l ob)=aa d ob
 |_,_,[],ob,_=>⟨fun _ _ h=>(by cases h),fun _ _=>rfl⟩
 |n,m,(j,b')::r,ob,h=>by
  obtain⟨h1,h2⟩:=Bh (ob:=ob) h.2.2;refine⟨fun i b hm=> ?_,fun d hd=> ?_⟩
  ·simp only[fT,c6]
   rcases cu.1 hm with e|hm
   ·cases e;rw[aZ rfl]
   ·have:=(h.2.2.mem hm).1
    rw[aR az];exact h1 i b hm
  ·have:=h.1
   simp only[fT,c6];rw[aR az];exact h2 d az
theorem xH: ∀{l:List (Nat×OB)} {ob:List (Nat×OB)} {d:Nat} {b:OB},aa d (fT l ob)=some b→(d,b)∈l∨aa d ob=some b
 |[],_,_,_,h=> .inr h
 |(j,b')::r,ob,d,b,h=>by
  simp only[fT,c6] at h
  by_cases hd:d=j
  ·rw[aZ hd] at h;cases h;subst hd;exact .inl (.head _)
  ·rw[aR hd] at h
   exact(xH h).imp (.tail _) id
def QN:Value:= .slice none 0 0
def opened (N:Nat) (φ:Fp):Fp:={φ with S:=fun d k=>d<N∧φ.S d k,V:=fun d=>if d<N then φ.V d else QN}
section
variable {ob wu : List (Nat × OB)} {N : Nat} (x : Ext ob wu φ (opened N φ))
include x
theorem xI: ∀(cs:List CE) (n:Nat),N≤n→Hl n (ek n cs).2.1 (ek n cs).2.2∧(ek n cs).1.length=cs.length∧
 ((∀i b,(i,b)∈(ek n cs).2.2→aa i wu=some b)→ ∀(j:Nat) (e':CE),(ek n cs).1[j]?=some e'→ ∃e,cs[j]?=some e∧ ∀v,cg ob w φ e v→cg wu w (opened N φ) e' v)
 |[],n,hn=>⟨cq _,rfl,fun _ j e' h=>by simp[ek] at h⟩
 |e::r,n,hn=>by
  have keep: ∀(e:CE),(∀z,Nat.ble 1 z=true→e≠ .nil z)→ek n (e::r)=(e::(ek n r).1,(ek n r).2.1,(ek n r).2.2):=by
   intro e he
   cases e with
   |nil z=>
    simp only[ek]
    cases h:Nat.ble 1 z with
    |true=>exact absurd rfl (he z h)
    |false=>rfl
   |_=>rfl
  by_cases hz: ∃z,Nat.ble 1 z=true∧e= .nil z
  ·obtain⟨z,hz,rfl⟩:=hz
   have heq:ek n (.nil z::r)=(.ref n none::(ek (n+1) r).1,(ek (n+1) r).2.1,(n,⟨true,z,[]⟩)::(ek (n+1) r).2.2):=by simp only[ek,hz]
   rw[heq];obtain⟨h1,h2,h3⟩:=xI r (n+1) az;refine⟨⟨cq _,⟨rfl,rfl,lU hz⟩,h1⟩,by simp[h2],fun hl j e' he=> ?_⟩
   cases j with
   |zero=>
    simp only[cP,bg] at he;subst he;refine⟨_,rfl,fun v hv=>⟨_,hl n _ (.head _),?_⟩⟩
    show v=if n<N then φ.V n else QN
    rw[aR az];exact hv.1
   |succ j=>
    simp only[mE] at he ⊢;exact h3 (fun i b hm=>hl i b (.tail _ hm)) j e' he
  ·rw[keep e fun z Qd he=>hz ⟨z,Qd,he⟩]
   obtain⟨h1,h2,h3⟩:=xI r n hn;refine⟨h1,by simp[h2],fun hl j e' he=> ?_⟩
   cases j with
   |zero=>
    simp only[cP,bg] at he;subst he;exact⟨_,rfl,fun v hv=>hv.ext x⟩
   |succ j=>
    simp only[mE] at he ⊢;exact h3 hl j e' he
theorem sN: ∀(cs:List kK) (n:Nat),N≤n→Hl n (dR n cs).2.1 (dR n cs).2.2∧(dR n cs).1.length=cs.length∧
 ((∀i b,(i,b)∈(dR n cs).2.2→aa i wu=some b)→ ∀(j:Nat) (e':kK),(dR n cs).1[j]?=some e'→ ∃e,cs[j]?=some e∧ ∀v,ij ob w φ e v→ij wu w (opened N φ) e' v)
 |[],n,hn=>⟨cq _,rfl,fun _ j e' h=>by simp[dR] at h⟩
 | .ptr b::r,n,hn=>by
   obtain⟨h1,h2,h3⟩:=sN r n hn;refine⟨h1,by simp[dR,h2],fun hl j e' he=> ?_⟩
   cases j with
   |zero=>
    simp only[dR,cP,bg] at he;subst he;exact⟨_,rfl,fun v hv=>hv.ext x⟩
   |succ j=>
    simp only[dR,mE] at he ⊢;exact h3 hl j e' he
 | .mk a cs::r,n,hn=>by
   obtain⟨g1,g2,g3⟩:=xI (w:=w) x cs n hn;obtain⟨h1,h2,h3⟩:=sN r (ek n cs).2.1 (nS hn g1.le);refine⟨g1.app h1,by simp[dR,h2],fun hl j e' he=> ?_⟩
   cases j with
   |zero=>
    simp only[dR,cP,bg] at he;subst he;refine⟨_,rfl,fun v hv=> ?_⟩;have g4:=g3 fun i b hm=>hl i b (fj _ hm)
    cases a with
    |true=>
     obtain⟨xs,k1,k2,k3⟩:=hv;refine⟨xs,k1,by rw[g2];exact k2,fun j e' he=> ?_⟩;obtain⟨e,k4,k5⟩:=g4 j e' he;obtain⟨y,k6,k8,k7⟩:=k3 j e k4;exact⟨y,k6,k8,k5 y k7⟩
    |false=>
     obtain⟨e,rfl,k2,k3⟩:=hv;have hlen:(ek n [e]).1.length=1:=g2
     obtain⟨e',he'⟩: ∃e',(ek n [e]).1=[e']:=by
      cases hq:(ek n [e]).1 with
      |nil=>rw[hq] at hlen;cases hlen
      |cons y t=>cases t with
       |nil=>exact⟨y,rfl⟩
       |cons _ _=>rw[hq] at hlen;simp at hlen
     obtain⟨e0,k4,k5⟩:=g4 0 e' (by rw[he'];rfl);simp only[cP,bg] at k4;subst k4;exact⟨e',he',k2,k5 v k3⟩
   |succ j=>
    simp only[dR,mE] at he ⊢;exact h3 (fun i b hm=>hl i b (jq _ hm)) j e' he
theorem Li (e:TE) (n:Nat) (hn:N≤n):Hl n (xF n e).2.1 (xF n e).2.2∧
 ((∀i b,(i,b)∈(xF n e).2.2→aa i wu=some b)→ ∀v,bR ob w φ e v→bR wu w (opened N φ) (xF n e).1 v):=by
 cases e with
 |v t es=>
  obtain⟨h1,h2,h3⟩:=sN (w:=w) x es n hn;refine⟨h1,fun hl v hv=> ?_⟩;have h4:=h3 hl;simp only[xF]
  cases t with
  |true=>
   obtain⟨vs,k1,k2,k3⟩:=hv;refine⟨vs,k1,by rw[h2];exact k2,fun j e' he=> ?_⟩;obtain⟨e,k4,k5⟩:=h4 j e' he;obtain⟨y,k6,k7⟩:=k3 j e k4;exact⟨y,k6,k5 y k7⟩
  |false=>
   obtain⟨c,rfl,k1⟩:=hv;have hlen:(dR n [c]).1.length=1:=h2
   obtain⟨e',he'⟩: ∃e',(dR n [c]).1=[e']:=by
    cases hq:(dR n [c]).1 with
    |nil=>rw[hq] at hlen;cases hlen
    |cons y t=>cases t with
     |nil=>exact⟨y,rfl⟩
     |cons _ _=>rw[hq] at hlen;simp at hlen
   obtain⟨e0,k4,k5⟩:=h4 0 e' (by rw[he'];rfl);simp only[cP,bg] at k4;subst k4;exact⟨e',he',k5 v k1⟩
 |kb b=>
  refine⟨cq _,fun _ v hv=> ?_⟩;simp only[bR] at hv;subst hv;exact⟨_,rfl,_,rfl,rfl,rfl,trivial⟩
 |_=>exact⟨cq _,fun _ v hv=>hv.ext x⟩
theorem C3: ∀(l:List (Nat×TE)) (n:Nat),N≤n→(∃m,Hl n m (rN n l).2)∧
 ((∀i b,(i,b)∈(rN n l).2→aa i wu=some b)→ ∀(i:Nat) (e':TE),aa i (rN n l).1=some e'→ ∃e,aa i l=some e∧ ∀v,bR ob w φ e v→bR wu w (opened N φ) e' v)
 |[],n,hn=>⟨⟨n,cq _⟩,fun _ i e' h=>by simp[rN,aa] at h⟩
 |(j,e)::r,n,hn=>by
  obtain⟨g1,g2⟩:=Li (w:=w) x e n hn;obtain⟨⟨m,h1⟩,h2⟩:=C3 r (xF n e).2.1 (nS hn g1.le);refine⟨⟨m,g1.app h1⟩,fun hl i e' he=> ?_⟩;simp only[rN,aa] at he ⊢
  cases hj:Nat.beq j i with
  |true=>
   rw[hj] at he;simp only[bg] at he;subst he;exact⟨e,rfl,g2 fun i b hm=>hl i b (fj _ hm)⟩
  |false=>
   rw[hj] at he;exact h2 (fun i b hm=>hl i b (jq _ hm)) i e' he
end
theorem HH {n:Nat}: ∀{ob:List (Nat×OB)},HC n ob=true→ ∀o,aA ob o→o<n
 |[],_,o,⟨b,h⟩=>by cases h
 |(i,x)::r,ha,o,⟨b,h⟩=>by
  simp only[HC] at ha
  cases h1:Nat.ble n i with
  |true=>rw[h1] at ha;cases ha
  |false=>
   rw[h1] at ha;simp only[aa] at h
   cases h2:Nat.beq i o with
   |true=>
    have:=eB h2;subst this
    exact Nat.lt_of_not_le fun h3=>by rw[CP h3] at h1;cases h1
   |false=>rw[h2] at h;exact HH ha o ⟨b,h⟩
theorem aH.HD (h:aH F A w0 φ st tm w): ∃φ',aH F A w0 φ' (HD st) tm w∧φ'.β=φ.β:=by
 unfold T.HD
 cases ha:HC 900000000 st.ob with
 |false=>exact⟨φ,h,rfl⟩
 |true=>
  have hlt:=HH ha
  have x1: ∀wu,(∀d b,aa d st.ob=some b→aa d wu=some b)→Ext st.ob wu φ (opened 900000000 φ):=fun wu hl=>
   ⟨hl,rfl,rfl,fun d hd=>by
     have:d<900000000:=hd.elim (fun e=>by omega) (hlt d)
     funext k
     simp[opened,this],fun d hd=>aZ (hlt d hd)⟩
  obtain⟨⟨m,Rt⟩,_⟩:=C3 (w:=w) (x1 st.ob fun _ _ h=>h) st.tm 900000000 (cq _);obtain⟨l1,l2⟩:=Bh (ob:=st.ob) Rt
  have x:Ext st.ob (fT (rN 900000000 st.tm).2 st.ob) φ (opened 900000000 φ):=x1 _ fun d b hd=>by rw[l2 d (hlt d ⟨b,hd⟩)];exact hd
  obtain⟨_,hT⟩:=C3 (w:=w) x st.tm 900000000 (cq _);have hT:=hT l1
  have old: ∀d,aA (fT (rN 900000000 st.tm).2 st.ob) d→(d<900000000∧aA st.ob d)∨900000000≤d:=fun d ⟨b,hd⟩=>by
   rcases xH hd with h1|h1
   ·exact .inr (Rt.mem h1).1
   ·exact .inl ⟨hlt d ⟨b,h1⟩,b,h1⟩
  have oldS: ∀d k,aA (fT (rN 900000000 st.tm).2 st.ob) d→(opened 900000000 φ).S d k→aA st.ob d∧φ.S d k:=fun d k hd hk=>by
   rcases old d hd with h1|h1
   ·exact⟨h1.2,hk.2⟩
   ·exact absurd hk.1 az
  refine⟨opened 900000000 φ,⟨fun i=> ?_,fun b cs hb j e he=> ?_,fun o b ho=> ?_,?_,h.frm⟩,rfl⟩
  ·show bR (fT (rN 900000000 st.tm).2 st.ob) w (opened 900000000 φ) (match aa i (rN 900000000 st.tm).1 with|some e=>e|none=> .dead) (tm.getD i undef)
   cases hi:aa i (rN 900000000 st.tm).1 with
   |none=>trivial
   |some e'=>
    obtain⟨e,h1,h2⟩:=hT i e' hi;have:=h.tmp i;unfold TS.get at this;rw[h1] at this;exact h2 _ this
  ·obtain⟨v,h1,h3,h2⟩:=h.box b cs hb j e he
   exact⟨v,h1,h3,h2.ext x⟩
  ·unfold iU
   rcases xH ho with h1|h1
   ·obtain⟨a1,a2,a3,a4,a5⟩:=Rt.mem h1
    obtain⟨bd,bz,br⟩:=b;simp only at a3 a4 a5;subst a3 a4;have hv:(opened 900000000 φ).V o=QN:=aR az;rw[hv]
    refine aj.sub _ _ bz [] none 0 (fun _ _=>default) (fun _ _ _=>False) ⟨cq _,Bf _,a5,fun r hr=>(by cases hr),fun hr=>absurd rfl hr,fun _ ha=>(by cases ha),fun _ _ ha=>(by cases ha),
     fun _=>⟨fun _=>rfl,fun _ ha=>(by cases ha)⟩,fun _ _ _ ha=>(by cases ha),fun _ _ _ _ hk=>hk.elim⟩ fun i f tc ht=>absurd rfl (Ai ht)
   ·have hd:=hlt o ⟨b,h1⟩
    have:=h.obj o b h1;unfold iU at this;rw[x.V o ⟨b,h1⟩,x.S o (.inr ⟨b,h1⟩)];exact this
  ·exact {
    arg:=by rw[x.S 0 (.inl rfl)];exact h.sep.arg
    nz:=fun o ho e=>by
     rcases old o ho with h1|h1
     ·exact h.sep.nz o h1.2 e
     ·omega
    apart:=fun o o' k h1 h2 h3 h4=>h.sep.apart o o' k (oldS o k h1 h3).1 (oldS o' k h2 h4).1 (oldS o k h1 h3).2 (oldS o' k h2 h4).2
    read:=fun o k h1 h2=>h.sep.read o k (oldS o k h1 h2).1 (oldS o k h1 h2).2
    fresh:=fun o k h1 h2=>h.sep.fresh o k (oldS o k h1 h2).1 (oldS o k h1 h2).2
    ro:=h.sep.ro
    iR:=h.sep.iR
    box:=fun b cs hb hw=>by
     obtain⟨a1,a2,a3,a4⟩:=h.sep.box b cs hb hw;exact⟨a1,fun o ho hk=>a2 o (oldS o _ ho hk).1 (oldS o _ ho hk).2,a3,a4⟩
    spot:=h.sep.spot
    soft:=h.sep.soft}
end Go.T
namespace Go.T
variable {F : Nat → Prop} {A : Arg} {w0 w w' : World} {φ φ' : Fp} {st st' : TS} {tm xB : Array Value}
structure C4 (n:Nat) (ρ:List (Nat×Nat)):Prop where
 rng: ∀o m,(o,m)∈ρ→1≤m∧m<n∧o≠0
 apart:ρ.Pairwise fun a b=>a.1≠b.1∧a.2≠b.2
theorem e9 {α:Type} {o:Nat} {m:α}: ∀{ρ:List (Nat×α)},aa o ρ=some m→(o,m)∈ρ
 |(a,x)::r,h=>by
  simp only[aa] at h
  cases h1:Nat.beq a o with
  |true=>
   rw[h1] at h
   cases h
   have:=eB h1;subst this;exact .head _
  |false=>rw[h1] at h;exact .tail _ (e9 h)
theorem nI {α:Type} {o:Nat}: ∀{ρ:List (Nat×α)},aa o ρ=none→ ∀m,(o,m)∉ρ
 |[],_,_=>by simp
 |(a,x)::r,h,m=>by
  simp only[aa] at h
  cases h1:Nat.beq a o with
  |true=>rw[h1] at h;cases h
  |false=>
   rw[h1] at h;intro hm;rcases cu.1 hm with e|hm
   ·cases e;exact lV h1 rfl
   ·exact nI h m hm
theorem vu {n o m:Nat}: ∀{ρ:List (Nat×Nat)},(ρ.Pairwise fun a b=>a.1≠b.1∧a.2≠b.2)→(o,m)∈ρ→aa o ρ=some m
 |(a,x)::r,h,hm=>by
  simp only[aa];rw[List.pairwise_cons] at h;rcases cu.1 hm with e|hm
  ·cases e;rw[vr]
  ·have:=(h.1 _ hm).1
   rw[beq_false this];exact vu (n:=n) h.2 hm
theorem wG: ∀(l:List Nat) (n:Nat) (ρ:List (Nat×Nat)),1≤n→C4 n ρ→ ∃n',C4 n' (number l n ρ)∧(∀o m,aa o ρ=some m→aa o (number l n ρ)=some m)∧ ∀o∈l,o≠0→ ∃m,aa o (number l n ρ)=some m
 |[],n,ρ,_,h=>⟨n,h,fun _ _ h=>h,fun _ h=>by cases h⟩
 |o::r,n,ρ,hn,h=>by
  simp only[number]
  cases h0:Nat.beq o 0 with
  |true=>
   obtain⟨n',h1,h2,h3⟩:=wG r n ρ hn h;refine⟨n',h1,h2,fun p hp RY=> ?_⟩;rcases cu.1 hp with e|hp
   ·exact absurd (e.trans (eB h0)) RY
   ·exact h3 p hp RY
  |false=>
   have h0:=lV h0
   cases hl:aa o ρ with
   |some m=>
    obtain⟨n',h1,h2,h3⟩:=wG r n ρ hn h;refine⟨n',h1,h2,fun p hp RY=> ?_⟩;rcases cu.1 hp with e|hp
    ·subst e;exact⟨m,h2 _ _ hl⟩
    ·exact h3 p hp RY
   |none=>
    have hk:C4 (n+1) ((o,n)::ρ):=by
     refine⟨fun p m hm=> ?_,List.pairwise_cons.2 ⟨fun a ha=>⟨fun e=> ?_,fun e=> ?_⟩,h.apart⟩⟩
     ·rcases cu.1 hm with e|hm
      ·cases e;exact⟨hn,by omega,h0⟩
      ·have:=h.rng p m hm;exact⟨this.1,by omega,this.2.2⟩
     ·obtain⟨a1,a2⟩:=a
      simp only at e;subst e;exact nI hl a2 ha
     ·obtain⟨a1,a2⟩:=a
      simp only at e;have:=(h.rng a1 a2 ha).2.1;omega
    obtain⟨n',h1,h2,h3⟩:=wG r (n+1) ((o,n)::ρ) az hk
    have V0:aa o ((o,n)::ρ)=some n:=by simp only[aa,vr]
    refine⟨n',h1,fun p m hp=>h2 p m ?_,fun p hp RY=> ?_⟩
    ·simp only[aa]
     rw[beq_false fun e=>by subst e;rw[hl] at hp;cases hp];exact hp
    ·rcases cu.1 hp with e|hp
     ·subst e;exact⟨n,h2 _ _ V0⟩
     ·exact h3 p hp RY
theorem PV {o o' m:Nat}: ∀{ρ:List (Nat×Nat)},(ρ.Pairwise fun a b=>a.1≠b.1∧a.2≠b.2)→(o,m)∈ρ→(o',m)∈ρ→o=o'
 |p::r,h,h1,h2=>by
  rw[List.pairwise_cons] at h;rcases cu.1 h1 with e1|h1
  ·rcases cu.1 h2 with e2|h2
   ·rw[←e1] at e2;cases e2;rfl
   ·exact absurd (by rw[←e1]) (h.1 _ h2).2
  ·rcases cu.1 h2 with e2|h2
   ·exact absurd (by rw[←e2]) (h.1 _ h1).2
   ·exact PV h.2 h1 h2
def inv (ρ:List (Nat×Nat)) (m:Nat):Nat:=match ρ.find? fun p=>Nat.beq p.2 m with|some p=>p.1|none=>0
theorem inv_eq {n o m:Nat} {ρ:List (Nat×Nat)} (h:C4 n ρ) (hl:aa o ρ=some m):inv ρ m=o:=by
 unfold inv;have hm:=e9 hl
 cases hf:ρ.find? fun p=>Nat.beq p.2 m with
 |none=>
  have:=List.find?_eq_none.1 hf _ hm;simp at this
 |some p=>
  have h1:=List.mem_of_find?_eq_some hf;have h2:=List.find?_some hf;have h2:=eB h2;simp only;obtain⟨p1,p2⟩:=p;simp only at h2;subst h2;exact PV h.apart h1 hm
theorem inv_zero {n:Nat} {ρ:List (Nat×Nat)} (h:C4 n ρ):inv ρ 0=0:=by
 unfold inv
 cases hf:ρ.find? fun p=>Nat.beq p.2 0 with
 |none=>rfl
 |some p=>
  have h1:=List.mem_of_find?_eq_some hf;have h2:=List.find?_some hf;have h2:=eB h2;obtain⟨p1,p2⟩:=p;have:=(h.rng p1 p2 h1).1;simp only at h2;omega
theorem yF {o m:Nat} {ρ:List (Nat×Nat)} (hl:aa o ρ=some m):Ac ρ o=m:=by unfold Ac;rw[hl]
theorem Fg {n:Nat} {ρ:List (Nat×Nat)} (h:C4 n ρ):Ac ρ 0=0:=by
 unfold Ac
 cases hl:aa 0 ρ with
 |none=>rfl
 |some m=>exact absurd rfl (h.rng 0 m (e9 hl)).2.2
theorem yG {ob:List (Nat×OB)} {m:Nat} {b:OB}: ∀{ρ:List (Nat×Nat)},aa m (nU ob ρ)=some b→ ∃o,(o,m)∈ρ∧aa o ob=some b
 |(o,n)::r,h=>by
  simp only[nU] at h
  cases ho:aa o ob with
  |none=>
   rw[ho] at h;obtain⟨o',h1,h2⟩:=yG h;exact⟨o',.tail _ h1,h2⟩
  |some b'=>
   rw[ho] at h;simp only[c6] at h
   by_cases hm:m=n
   ·rw[aZ hm] at h;cases h;subst hm;exact⟨o,.head _,ho⟩
   ·rw[aR hm] at h
    obtain⟨o',h1,h2⟩:=yG h;exact⟨o',.tail _ h1,h2⟩
theorem HI {ob:List (Nat×OB)} {o m:Nat} {b:OB} (ho:aa o ob=some b): ∀{ρ:List (Nat×Nat)},(ρ.Pairwise fun a b=>a.1≠b.1∧a.2≠b.2)→(o,m)∈ρ→aa m (nU ob ρ)=some b
 |(o',n)::r,h,hm=>by
  rw[List.pairwise_cons] at h;simp only[nU];rcases cu.1 hm with e|hm
  ·cases e
   rw[ho];simp only[c6,aZ]
  ·have h1:=(h.1 _ hm).2
   have ih:=HI ho h.2 hm
   cases ho':aa o' ob with
   |none=>exact ih
   |some b'=>
    simp only[c6];rw[aR (Ne.symm h1)];exact ih
def Fp.HJ (φ:Fp) (ρ:List (Nat×Nat)):Fp:={φ with S:=fun m=>φ.S (inv ρ m),V:=fun m=>φ.V (inv ρ m)}
section
variable {ob : List (Nat × OB)} {n : Nat} {ρ : List (Nat × Nat)} (hρ : C4 n ρ)
include hρ
theorem yH {o m:Nat} {b:OB} (hm:aa o ρ=some m) (ho:aa o ob=some b):aa m (nU ob ρ)=some b:=HI ho hρ.apart (e9 hm)
theorem Mx {o m:Nat} (hm:aa o ρ=some m):(φ.HJ ρ).S m=φ.S o:=by show φ.S (inv ρ m)=_;rw[inv_eq hρ hm]
theorem Kn {o m:Nat} (hm:aa o ρ=some m):(φ.HJ ρ).V m=φ.V o:=by show φ.V (inv ρ m)=_;rw[inv_eq hρ hm]
theorem My:(φ.HJ ρ).S 0=φ.S 0:=by show φ.S (inv ρ 0)=_;rw[inv_zero hρ]
theorem Mz {ds:List Nat} (hz: ∀d,aA ob d→d≠0) (hd: ∀d∈ds,d=0∨aA ob d) (hc: ∀o∈ds,o≠0→ ∃m,aa o ρ=some m):
 (∀d∈ds.map (Ac ρ),d=0∨aA (nU ob ρ) d)∧ ∀k,rd φ ds k→rd (φ.HJ ρ) (ds.map (Ac ρ)) k:=by
 refine⟨fun d hm=> ?_,fun k hk=> ?_⟩
 ·obtain⟨o,h1,rfl⟩:=List.mem_map.1 hm
  rcases hd o h1 with rfl|h2
  ·exact .inl (Fg hρ)
  ·obtain⟨m,h3⟩:=hc o h1 (hz o h2)
   obtain⟨b,h4⟩:=h2;rw[yF h3];exact .inr ⟨b,yH hρ h3 h4⟩
 ·rcases hk with hk|⟨d,hm,hk⟩
  ·exact .inl hk
  ·refine .inr ⟨Ac ρ d,List.mem_map_of_mem hm,?_⟩
   rcases hd d hm with rfl|h2
   ·rw[Fg hρ,My hρ];exact hk
   ·obtain⟨m,h3⟩:=hc d hm (hz d h2)
    rw[yF h3,Mx hρ h3];exact hk
theorem cg.HJ (hz: ∀d,aA ob d→d≠0) {e:CE} {v:Value} (hc: ∀o∈dM e,o≠0→ ∃m,aa o ρ=some m) (h:cg ob w φ e v):cg (nU ob ρ) w (φ.HJ ρ) (yE ρ e) v:=by
 cases e with
 |ref o cut=>
  obtain⟨b,h1,h2⟩:=h;obtain⟨m,h3⟩:=hc o (by simp[dM]) (hz o ⟨b,h1⟩);simp only[yE];rw[yF h3];exact⟨b,yH hρ h3 h1,by rw[Kn hρ h3];exact h2⟩
 |snap ds loc z rows=>
  obtain⟨h1,h2,h3⟩:=h;obtain⟨g1,g2⟩:=Mz hρ (φ:=φ) hz h1 hc;refine⟨g1,h2.jL g2,fun o i f hl=> ?_⟩
  cases loc with
  |none=>cases hl
  |some q=>
   obtain⟨o',i',f'⟩:=q;simp only[bg,tU] at hl;obtain⟨rfl,rfl,rfl⟩:=hl;obtain⟨a1,b,a2,a3,a4,ad,n,c,a5,a6⟩:=h3 o' i' f' rfl;obtain⟨m,a7⟩:=hc o' a1 (hz o' ⟨b,a2⟩);refine⟨List.mem_map_of_mem a1,?_⟩;rw[yF a7];exact⟨b,yH hρ a7 a2,a3,a4,ad,n,c,by rw[Kn hρ a7];exact a5,a6⟩
 |_=>exact h
theorem bR.HJ (hz: ∀d,aA ob d→d≠0) {e:TE} {v:Value} (hc: ∀o∈qZ e,o≠0→ ∃m,aa o ρ=some m) (h:bR ob w φ e v):bR (nU ob ρ) w (φ.HJ ρ) (qY (yE ρ) (Mm ρ) e) v:=by
 have comp: ∀(c:kK) (u:Value),(∀o∈eR [c],o≠0→ ∃m,aa o ρ=some m)→ij ob w φ c u→ij (nU ob ρ) w (φ.HJ ρ) (oN (yE ρ) c) u:=by
  intro c u hc h
  cases c with
  |ptr b=>exact h
  |mk a cs=>
   simp only[eR,nh] at hc;have Oi: ∀e∈cs,∀o∈dM e,o≠0→ ∃m,aa o ρ=some m:=fun e he o ho=>hc o (List.mem_flatMap.2 ⟨e,he,ho⟩)
   cases a with
   |true=>
    obtain⟨xs,h1,h2,h3⟩:=h;refine⟨xs,h1,by simp[h2],fun j e he=> ?_⟩;rw[gm] at he
    cases h4:cs[j]? with
    |none=>rw[h4] at he;cases he
    |some e0=>
     rw[h4] at he;simp only[ic,bg] at he;subst he;obtain⟨x,hx,hx1,hok⟩:=h3 j e0 h4;exact⟨x,hx,hx1,hok.HJ hρ hz (Oi e0 (ee h4))⟩
   |false=>
    obtain⟨e,rfl,h2,h3⟩:=h;exact⟨_,rfl,h2,h3.HJ hρ hz (Oi e dI)⟩
 have dcomp: ∀(es:List kK) (c:kK),c∈es→ ∀o,o∈eR [c]→o∈eR es:=by
  intro es
  induction es with
  |nil=>intro c hc;cases hc
  |cons x r ih=>
   intro c hc o ho;rcases cu.1 hc with rfl|hc
   ·cases c with
    |ptr b=>simp[eR] at ho
    |mk a cs=>
     simp only[eR,nh] at ho;simp only[eR];exact fj _ ho
   ·have:=ih c hc o ho
    cases x with
    |ptr b=>exact this
    |mk a cs=>simp only[eR];exact jq _ this
 cases e with
 |v t es=>
  cases t with
  |true=>
   obtain⟨vs,h1,h2,h3⟩:=h;refine⟨vs,h1,by rw[kX];exact h2,fun k c hk=> ?_⟩;rw[om] at hk
   cases h4:es[k]? with
   |none=>rw[h4] at hk;cases hk
   |some c0=>
    rw[h4] at hk;simp only[ic,bg] at hk;obtain⟨u,hu,hok⟩:=h3 k c0 h4;exact⟨u,hu,by rw[←hk];exact comp c0 u (fun o ho=>hc o (dcomp es c0 (ee h4) o ho)) hok⟩
  |false=>
   obtain⟨c,rfl,hok⟩:=h;refine⟨oN (yE ρ) c,?_,comp c v hc hok⟩
   cases c<;>rfl
 |ep ds cells=>
  obtain⟨h1,ad,h2,hr,h3⟩:=h;obtain⟨g1,g2⟩:=Mz hρ (φ:=φ) hz h1 hc;refine⟨g1,ad,h2,fun hne=>g2 _ (hr hne),fun j tc hj=> ?_⟩;obtain⟨u,h4,h5⟩:=h3 j tc hj;exact⟨u,h4,h5.jL g2⟩
 |er o path i f=>
  obtain⟨b,h1,h2,ad,n,c,h3,h4⟩:=h;obtain⟨m,h5⟩:=hc o (by simp[qZ]) (hz o ⟨b,h1⟩);show bR (nU ob ρ) w (φ.HJ ρ) (.er (Ac ρ o) path i f) v;rw[yF h5];exact⟨b,yH hρ h5 h1,h2,ad,n,c,by rw[Kn hρ h5];exact h3,h4⟩
 |_=>exact h
end
theorem aH.canon (h:aH F A w0 φ st tm w): ∃φ',aH F A w0 φ' (canon st) tm w∧φ'.β=φ.β:=by
 obtain⟨n,hρ,_,hall⟩:=wG (QG st) 1 [] (cq _) ⟨fun _ _ h=>(by cases h),List.Pairwise.nil⟩;unfold T.canon Sf;generalize number (QG st) 1 []=ρ at hρ hall;have hz:=h.sep.nz
 have dom: ∀m,aA (nU st.ob ρ) m→ ∃o,aa o ρ=some m∧aA st.ob o:=fun m ⟨b,hm⟩=>by
  obtain⟨o,h1,h2⟩:=yG hm;exact⟨o,vu (n:=n) hρ.apart h1,b,h2⟩
 have domS: ∀m k,aA (nU st.ob ρ) m→(φ.HJ ρ).S m k→ ∃o,aa o ρ=some m∧aA st.ob o∧φ.S o k:=fun m k hm hk=>by
  obtain⟨o,h1,h2⟩:=dom m hm;rw[Mx hρ h1] at hk;exact⟨o,h1,h2,hk⟩
 refine⟨φ.HJ ρ,⟨fun i=> ?_,fun b cs hb j e he=> ?_,fun m b hm=> ?_,?_,h.frm⟩,rfl⟩
 ·show bR (nU st.ob ρ) w (φ.HJ ρ) (match aa i (mapA (qY (yE ρ) (Mm ρ)) st.tm) with|some e=>e|none=> .dead) (tm.getD i undef)
  rw[mK]
  cases hi:aa i st.tm with
  |none=>trivial
  |some e=>
   have:=h.tmp i;unfold TS.get at this;rw[hi] at this;exact this.HJ hρ hz fun o ho SP=>hall o (fj _ (List.mem_flatMap.2 ⟨_,e9 hi,ho⟩)) SP
 ·simp only[mK] at hb
  cases h1:aa b st.bx with
  |none=>rw[h1] at hb;cases hb
  |some cs0=>
   rw[h1] at hb;simp only[ic,bg] at hb;subst hb;rw[gm] at he
   cases h2:cs0[j]? with
   |none=>rw[h2] at he;cases he
   |some e0=>
    rw[h2] at he;simp only[ic,bg] at he;subst he;obtain⟨v,h3,h5,h4⟩:=h.box b cs0 h1 j e0 h2;exact⟨v,h3,h5,h4.HJ hρ hz fun o ho SP=>hall o (jq _ (List.mem_flatMap.2 ⟨_,e9 h1,List.mem_flatMap.2 ⟨e0,ee h2,ho⟩⟩)) SP⟩
 ·obtain⟨o,h1,h2⟩:=yG hm
  have h1:=vu (n:=n) hρ.apart h1;unfold iU;rw[Mx hρ h1,Kn hρ h1];exact h.obj o b h2
 ·have hs:=h.sep.boxes (eg (yE ρ))
  exact {
   arg:=by rw[My hρ];exact h.sep.arg
   nz:=fun m hm e=>by
    obtain⟨o,h1,_⟩:=dom m hm;have:=(hρ.rng o m (e9 h1)).1;omega
   apart:=fun m m' k h1 h2 h3 h4=>by
    obtain⟨o,a1,a2,a3⟩:=domS m k h1 h3;obtain⟨o',b1,b2,b3⟩:=domS m' k h2 h4;have:=h.sep.apart o o' k a2 b2 a3 b3;subst this;rw[a1] at b1;cases b1;rfl
   read:=fun m k h1 h2=>by obtain⟨o,a1,a2,a3⟩:=domS m k h1 h2;exact h.sep.read o k a2 a3
   fresh:=fun m k h1 h2=>by obtain⟨o,a1,a2,a3⟩:=domS m k h1 h2;exact h.sep.fresh o k a2 a3
   ro:=hs.ro
   iR:=hs.iR
   box:=fun b cs hb hw=>by
    obtain⟨a1,a2,a3,a4⟩:=hs.box b cs hb hw;refine⟨a1,fun m hm hk=> ?_,a3,a4⟩;obtain⟨o,c1,c2,c3⟩:=domS m _ hm hk;exact a2 o c2 c3
   spot:=hs.spot
   soft:=hs.soft}
theorem aH.head (h:aH F A w0 φ st tm w) (l:List Nat):Rel F A w0 (HE l st) tm w:=by
 obtain⟨φ1,h1,_⟩:=(h.Si l).HD;obtain⟨φ2,h2,_⟩:=h1.canon;exact⟨φ2,h2⟩
end Go.T
