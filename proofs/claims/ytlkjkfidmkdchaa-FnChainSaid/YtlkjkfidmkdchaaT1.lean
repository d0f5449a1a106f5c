import Derived.Below
import Derived.WalkKit
import Derived.Laws.AppendOwn
import Derived.DataElems
namespace Go.T
theorem gX {P Q:Prop} (h:P:=by rfl) (k:Q:=by trivial):P∧Q:=⟨h,k⟩
theorem zYa {P:Prop} (h:P:=by first|rfl|(simp;done)|(simp;omega)):P:=h
theorem ax {P:Prop} (h:P:=by omega):P:=h
theorem ZP {P:Prop} (h:P:=by assumption):P:=h
theorem j8 {P:Prop} (h:P:=by simp;omega):P:=h
theorem zx {P:Prop} (h:P:=by simp<;>omega):P:=h
theorem eO {P:Prop} (h:P:=by simp):P:=h
theorem zYt {P:Prop} (h:P:=by trivial):P:=h
theorem zYr {P:Prop} (h:P:=by rfl):P:=h
abbrev qv:= @Array.getD_eq_getD_getElem?
abbrev qw:= @Array.getElem?_eq_getElem
abbrev Jp:= @Array.getElem?_setIfInBounds
abbrev Gl:= @Array.getElem?_toList
abbrev rj:= @Array.length_toList
abbrev c8:= @Bool.and_eq_true
abbrev oq:= @Bool.and_true
abbrev yp:= @Bool.false_eq_true
abbrev Gm:= @Bool.false_or
abbrev u5:= @Bool.not_eq_true'
abbrev Gn:= @Bool.not_true
abbrev e9:= @Bool.true_and
abbrev wT:= @Int.ofNat_eq_natCast
abbrev sJ:= @Int.toNat_natCast
abbrev pX:= @List.all_cons
abbrev wU:= @List.all_nil
abbrev oU:= @List.append_assoc
abbrev lX:= @List.append_nil
abbrev wV:= @List.cons_append
abbrev El:= @List.drop_eq_getElem_cons
abbrev iu:= @List.drop_length
abbrev Al:= @List.drop_of_length_le
abbrev yq:= @List.eq_nil_of_length_eq_zero
abbrev Jq:= @List.flatten_append
abbrev rm:= @List.flatten_cons
abbrev u6:= @List.getD_eq_getElem?_getD
abbrev iR:= @List.getElem?_append_left
abbrev kr:= @List.getElem?_append_right
abbrev oV:= @List.getElem?_cons_succ
abbrev cZ:= @List.getElem?_cons_zero
abbrev lY:= @List.getElem?_drop
abbrev aZ:= @List.getElem?_eq_getElem
abbrev Jr:= @List.getElem?_eq_none
abbrev gY:= @List.getElem?_map
abbrev Bz:= @List.getElem?_take
abbrev u7:= @List.getElem_mem
abbrev bX:= @List.length_append
abbrev ez:= @List.length_cons
abbrev gf:= @List.length_drop
abbrev L4:= @List.length_filter_le
abbrev dB:= @List.length_map
abbrev RF:= @List.length_modify
abbrev lF:= @List.length_singleton
abbrev dj:= @List.length_take
abbrev ot:= @List.map_append
abbrev u9:= @List.map_drop
abbrev yt:= @List.map_take
abbrev gr:= @List.mem_append_left
abbrev lG:= @List.mem_append_right
abbrev cw:= @List.mem_cons
abbrev fC:= @List.mem_of_getElem?
abbrev qx:= @List.mem_of_mem_drop
abbrev sK:= @List.mem_of_mem_take
abbrev jz:= @List.mem_singleton
abbrev oW:= @List.nil_append
abbrev BA:= @List.take_append_drop
abbrev Em:= @List.take_append_of_le_length
abbrev BC:= @List.take_length
abbrev Gp:= @List.take_of_length_le
abbrev jA:= @Nat.add_assoc
abbrev L5:= @Nat.add_eq
abbrev nc:= @Nat.add_mul
abbrev oX:= @Nat.add_zero
abbrev Gq:= @Nat.ble_eq_true_of_le
abbrev BD:= @Nat.div_add_mod'
abbrev fk:= @Nat.eq_of_beq_eq_true
abbrev BE:= @Nat.le_max_left
abbrev ou:= @Nat.le_of_ble_eq_true
abbrev bI:= @Nat.le_refl
abbrev pY:= @Nat.le_trans
abbrev gu:= @Nat.lt_of_lt_of_le
abbrev me:= @Nat.min
abbrev jZ:= @Nat.mul_le_mul_right
abbrev ov:= @Nat.ne_of_beq_eq_false
abbrev oY:= @Nat.sub_self
abbrev sL:= @Nat.succ_mul
abbrev ic:= @Nat.zero_add
abbrev BF:= @Nat.zero_le
abbrev jB:= @Option.map_some
abbrev aU:= @Option.some.injEq
abbrev sM:= @Prod.mk.injEq
abbrev ng:= @decide_eq_false
abbrev mT:= @decide_eq_true
abbrev iw:= @exists_eq_left
abbrev fQ:= @exists_eq_left'
abbrev aF:= @if_neg
abbrev aP:= @if_pos
abbrev ry:= @of_decide_eq_true
inductive TC where
 |sc (v:Value)
 |sub (s:Nat) (rows:List (List TC))
 |any
 deriving Inhabited
inductive Mode where
 |snap|top|deep
 deriving DecidableEq,Inhabited
inductive CE where
 |sc (v:Value)
 |nil (z:Nat)
 |ref (o:Nat) (cut:Option (Int×Int))
 |snap (ds:List Nat) (loc:Option (Nat×Int×Nat)) (z:Nat) (rows:List (List TC))
 |gone
 deriving Inhabited
inductive nh where
 |mk (agg:Bool) (cs:List CE)
 |ptr (b:Nat)
inductive TE where
 |dead
 |v (tup:Bool) (es:List nh)
 |bp (b off:Nat)
 |ep (ds:List Nat) (cells:List TC)
 |er (o:Nat) (path:Option (Int×Nat)) (i:Int) (f:Nat)
 |fn (f:FuncId) (caps:List Nat)
 |kb (b:Bool)
 deriving Inhabited
structure OB where
 deep:Bool
 z:Nat
 rows:List (List TC)
structure TS where
 tm:List (Nat×TE)
 bx:List (Nat×List CE)
 ob:List (Nat×OB)
inductive TI where
 |int (k:IntKind)
 |bool
 |str
 |slice (e:TypeId)
 |ptr (e:TypeId)
 |struct (fs:List (Nat×TypeId))
 |other
 deriving Inhabited
structure iT where
 ti:TI
 size:Nat
 bytes:Nat
 flat:Bool
 zero:List TC
 eqs:List Nat:=[]
 deriving Inhabited
inductive TV where
 |c (c:TC)
 |ag (cs:List TC)
 |tu (vs:List (Nat×List TC))
 |bx (cs:List TC)
 |fn (f:FuncId) (caps:List (List TC))
inductive bu where
 |borrow|inout (ms:List Mode)|consume (ms:List Mode)
 deriving DecidableEq
def bu.mc:bu→Nat→Mode
 | .borrow,_=> .snap
 | .inout ms,j=>match ms[j]? with|some m=>m|none=> .deep
 | .consume ms,j=>match ms[j]? with|some m=>m|none=> .deep
structure Qu where
 ps:List bu
 shares:Bool
 res:List (List Mode)
 frz:Bool:=false
inductive zy where
 |nil
 |op (i:Nat) (fl:List Nat) (r:zy)
 |alt (a b:zy)
structure jC where
 P:Program
 tt:TypeId→iT
 sig:FuncId→Qu
 lr:FuncId→Nat→List Nat
 lb:FuncId→Nat→List Nat
 Gj:FuncId→Nat→Option zy
 ext:FuncId→Option (List TV→Option (TV×List TV))
inductive TX where
 |norm|ex (id:Nat)|ret
 deriving DecidableEq
inductive Ev (R:Type) where
 |fail
 |ret (r:R)
 |test (b:Bool) (k:Bool→Ev R)
 |row (rows:List (List TC)) (i:Int) (k:List TC→Ev R)
 |byte (s:ByteArray) (i:Int) (k:Int→Ev R)
 |bytes (rows:List (List TC)) (k:List Int→Ev R)
 |call (f:FuncId) (vs:List TV) (k:TV→List TV→Ev R)
 |loop (f:FuncId) (i:Nat) (c:Code) (st:TS) (k:TX→TS→Ev R)
 |both (a b:Ev R)
@[irreducible] def cT (a b:Int):Bool:=decide (a<b)
@[irreducible] def sN (a b:Int):Bool:=decide (a≤b)
@[irreducible] def bR (a b:Int):Bool:=a==b
@[irreducible] def Wx (a b:Bool):Bool:=a==b
@[irreducible] def L6 (a b:ByteArray):Bool:=a.toList==b.toList
@[irreducible] def Iv (a b:ByteArray):Bool:=Op.bytesLess a.toList b.toList
@[irreducible] def fits (n b:Nat):Bool:=decide (n*b≤140737488355328∧n≤140737488355328)
@[irreducible] def dw (rows:List (List TC)):Bool:=rows.all fun r=>r.all fun c=>match c with| .sc _=>true|_=>false
@[irreducible] def mg (l h n:Int):Bool:=decide (0≤l∧l≤h∧h≤n)
@[irreducible] def rowAt (rows:List (List TC)) (i:Int):Option (List TC):=if 0≤i then rows[i.toNat]? else none
@[irreducible] def rz (s:ByteArray) (i:Int):Option Int:=if 0≤i then(s[i.toNat]?).map fun b=>(b.toNat:Int) else none
@[irreducible] def bg (rows:List (List TC)) (l h:Int):List (List TC):=(rows.take h.toNat).drop l.toNat
@[irreducible] def fD (z:Nat) (rows:List (List TC)) (l h:Int):List (List TC):=rows.take l.toNat++List.replicate (h.toNat-l.toNat) (List.replicate z .any)++rows.drop h.toNat
@[irreducible] def mh (rows aO:List (List TC)):List (List TC):=aO.take rows.length++rows.drop aO.length
@[irreducible] def setRow (rows:List (List TC)) (i:Int) (f:Nat) (cs:List TC):List (List TC):=
  match rows[i.toNat]? with
  |some r=>rows.set i.toNat (r.take f++cs++r.drop (f+cs.length))
  |none=>rows
@[irreducible] def NS (a b:Int):Int:=if b<a then b else a
@[irreducible] def uD (n:Int):Nat:=n.toNat
@[irreducible] def BG (a b:Int):Int:=a+b
@[irreducible] def NT (k:IntKind) (a b:Int):Int:=k.wrap (a+b)
@[irreducible] def Gr (k:IntKind) (a b:Int):Int:=k.wrap (a-b)
@[irreducible] def NU (k:IntKind) (a b:Int):Int:=k.wrap (a*b)
@[irreducible] def yu (k:IntKind) (a b:Int):Int:=k.wrap (a.tdiv b)
@[irreducible] def lT (a b:Int):Int:=a.tmod b
@[irreducible] def Wy (k:IntKind) (a b:Int):Int:=k.wrap (a*2 ^ (min b.toNat k.bits))
@[irreducible] def Yj (k:IntKind) (a b:Int):Int:=a.fdiv (2 ^ (min b.toNat k.bits))
@[irreducible] def NV (op:BinOp) (k:IntKind) (a b:Int):Int:=Go.bits op k a b
@[irreducible] def va (k:IntKind) (n:Int):Int:=k.wrap n
@[irreducible] def Yk (a b:ByteArray):ByteArray:=a++b
@[irreducible] def Yl (s:ByteArray) (l h:Int):ByteArray:=s.extract l.toNat h.toNat
def qZ:List (List TC)→Option (List Int)
 |[]=>some []
 |[.sc (.int .u8 n)]::r=>(qZ r).map fun ns=>n::ns
 |_=>none
@[irreducible] def ve (rows:List (List TC)):Option (List Int):=qZ rows
@[irreducible] def L7 (ns:List Int):ByteArray:=⟨(ns.map fun n:Int=>UInt8.ofNat n.toNat).toArray⟩
@[irreducible] def Am (s:ByteArray):List (List TC):=s.data.toList.map fun b=>[TC.sc (.int .u8 b.toNat)]
abbrev one (c:CE):TE:= .v false [.mk false [c]]
abbrev S (v:Value):TE:=one (.sc v)
def jc (o:Nat):List Nat→Bool
 |[]=>false
 |a::r=>match Nat.beq a o with|true=>true|false=>jc o r
def L8 (o:Nat):List Nat→List Nat
 |[]=>[]
 |a::r=>match Nat.beq a o with|true=>L8 o r|false=>a::L8 o r
def qy:List Nat→List Nat→Bool
 |[],_=>false
 |a::r,l=>match jc a l with|true=>true|false=>qy r l
section
variable {α : Type}
def aa (i:Nat):List (Nat×α)→Option α
 |[]=>none
 |(j,e)::r=>match Nat.beq j i with|true=>some e|false=>aa i r
def kX (i:Nat) (e:α):List (Nat×α)→List (Nat×α)
 |[]=>[(i,e)]
 |(j,e')::r=>match Nat.beq j i with
  |true=>(i,e)::r
  |false=>match Nat.ble i j with
   |true=>(i,e)::(j,e')::r
   |false=>(j,e')::kX i e r
def ni (i:Nat):List (Nat×α)→List (Nat×α)
 |[]=>[]
 |(j,e)::r=>match Nat.beq j i with|true=>ni i r|false=>(j,e)::ni i r
def mapA (f:α→α):List (Nat×α)→List (Nat×α)
 |[]=>[]
 |(j,e)::r=>(j,f e)::mapA f r
end
def TS.get (st:TS) (i:Nat):TE:=match aa i st.tm with|some e=>e|none=> .dead
def TS.set (st:TS) (i:Nat) (e:TE):TS:=⟨kX i e st.tm,st.bx,st.ob⟩
def TS.C5 (st:TS) (i:Nat) (cs:List CE):TS:=⟨st.tm,kX i cs st.bx,st.ob⟩
def TS.Wz (st:TS) (i:Nat) (o:OB):TS:=⟨st.tm,st.bx,kX i o st.ob⟩
def jd (f:CE→CE):List nh→List nh
 |[]=>[]
 | .mk a cs::r=> .mk a (cs.map f)::jd f r
 | .ptr b::r=> .ptr b::jd f r
def uE (f:CE→CE) (g:TE→TE):TE→TE
 | .v tup es=> .v tup (jd f es)
 |e=>g e
def sO (f:CE→CE) (g:TE→TE) (h:List (Nat×OB)→List (Nat×OB)) (st:TS):TS:=
 ⟨mapA (uE f g) st.tm,mapA (List.map f) st.bx,h st.ob⟩
def ee:CE→List Nat
 | .ref o _=>[o]
 | .snap d _ _ _=>d
 |_=>[]
def fH:List nh→List Nat
 |[]=>[]
 | .mk _ cs::r=>cs.flatMap ee++fH r
 | .ptr _::r=>fH r
def uF:TE→List Nat
 | .v _ es=>fH es
 | .ep d _=>d
 | .er o _ _ _=>[o]
 |_=>[]
def Js (o:Nat) (e:CE):CE:=match jc o (ee e) with|true=> .gone|false=>e
def Pp (o:Nat):TE→TE
 | .ep d cells=>match jc o d with|true=> .dead|false=> .ep d cells
 | .er p path i f=>match Nat.beq p o with|true=> .dead|false=> .er p path i f
 |e=>e
def ku (o:Nat) (st:TS):TS:=sO (Js o) (Pp o) (ni o) st
def NW (o:Nat) (e:CE):CE:=match e with
 | .snap d l z rows=>match jc o d with|true=> .gone|false=> .snap d l z rows
 |e=>e
def Ko (o:Nat):TE→TE
 | .ep d cells=>match jc o d with|true=> .dead|false=> .ep d cells
 | .er p (some q) i f=>match Nat.beq p o with|true=> .dead|false=> .er p (some q) i f
 |e=>e
def qi (o:Nat) (b:OB) (st:TS):TS:=sO (NW o) (Ko o) (kX o b) st
def L9 (cut:Option (Int×Int)) (rows:List (List TC)):List (List TC):=match cut with
 |none=>rows
 |some (l,h)=>bg rows l h
def WA (o:Nat) (l:Option (Nat×Int×Nat)):Option (Nat×Int×Nat):=match l with
 |some (p,i,f)=>match Nat.beq p o with|true=>none|false=>some (p,i,f)
 |none=>none
def F6 (o:Nat) (b:OB) (e:CE):CE:=match e with
 | .ref p cut=>match Nat.beq p o with|true=> .snap [] none b.z (L9 cut b.rows)|false=> .ref p cut
 | .snap d l z rows=> .snap (L8 o d) (WA o l) z rows
 |e=>e
def Kq (o:Nat):TE→TE
 | .ep d cells=> .ep (L8 o d) cells
 | .er p path i f=>match Nat.beq p o with|true=> .dead|false=> .er p path i f
 |e=>e
def sP (st:TS) (o:Nat):TS:=match aa o st.ob with
 |some b=>sO (F6 o b) (Kq o) (ni o) st
 |none=>st
def yw (o:Nat) (b:OB) (st:TS):TS:=(ku o st).Wz o b
def iy:List (Nat×OB)→List (Nat×OB)→List (Nat×OB)
 |[],ob=>ob
 |(i,b)::r,ob=>kX i b (iy r ob)
def oZ {α:Type}:List (Nat×α)→List Nat
 |[]=>[]
 |(o,_)::r=>o::oZ r
def zz (l:List Nat) (e:CE):CE:=match e with
 | .snap d l' z rows=>match qy d l with|true=> .gone|false=> .snap d l' z rows
 |e=>e
def vU (l:List Nat):TE→TE
 | .ep d cells=>match qy d l with|true=> .dead|false=> .ep d cells
 | .er p (some q) i f=>match jc p l with|true=> .dead|false=> .er p (some q) i f
 |e=>e
def qj (W:List (Nat×OB)) (st:TS):TS:=match W with
 |[]=>st
 |W=>sO (zz (oZ W)) (vU (oZ W)) (iy W) st
section
variable {Z : Type}
def fL {α:Type} (f:α→(α→Z)→Z):List α→(List α→Z)→Z
 |[],K=>K []
 |a::r,K=>f a fun a'=>fL f r fun r'=>K (a'::r')
def fB (b:Bool) (K:Bool→Z):Z:=match b with|true=>K true|false=>K false
def fN (n:Nat) (K:Nat→Z):Z:=K n
def VQ (p:Option (Int×Nat)) (K:Option (Int×Nat)→Z):Z:=match p with|none=>K none|some (a,b)=>K (some (a,b))
def Ym (p:Option (Int×Int)) (K:Option (Int×Int)→Z):Z:=match p with|none=>K none|some (a,b)=>K (some (a,b))
def fAt (p:Option (Nat×Int×Nat)) (K:Option (Nat×Int×Nat)→Z):Z:=match p with|none=>K none|some (a,b,c)=>K (some (a,b,c))
def fV (v:Value) (K:Value→Z):Z:=match v with
 | .int k n=>K (.int k n)
 | .bool b=>K (.bool b)
 | .string s=>K (.string s)
 |v=>K v
def Yn (c:TC) (K:TC→Z):Z:=match c with| .sc v=>fV v fun v=>K (.sc v)| .sub z rows=>K (.sub z rows)| .any=>K .any
def ZQ (e:CE) (K:CE→Z):Z:=match e with
 | .sc v=>fV v fun v=>K (.sc v)
 | .nil z=>K (.nil z)
 | .ref o cut=>Ym cut fun cut=>K (.ref o cut)
 | .snap d l z rows=>fL fN d fun d=>fAt l fun l=>K (.snap d l z rows)
 | .gone=>K .gone
def RG (c:nh) (K:nh→Z):Z:=match c with
 | .mk a cs=>fB a fun a=>fL ZQ cs fun cs=>K (.mk a cs)
 | .ptr b=>K (.ptr b)
def fTE (e:TE) (K:TE→Z):Z:=match e with
 | .dead=>K .dead
 | .v tup es=>fB tup fun tup=>fL RG es fun es=>K (.v tup es)
 | .bp b off=>K (.bp b off)
 | .ep d cells=>fL fN d fun d=>fL Yn cells fun cells=>K (.ep d cells)
 | .er r path i f=>VQ path fun path=>K (.er r path i f)
 | .fn f caps=>K (.fn f caps)
 | .kb b=>fB b fun b=>K (.kb b)
def fOB (b:OB) (K:OB→Z):Z:=match b with|⟨d,z,rows⟩=>fB d fun d=>K ⟨d,z,rows⟩
def RH (cs:List TC) (K:List TC→Z):Z:=fL Yn cs K
def WB (v:TV) (K:TV→Z):Z:=match v with
 | .c c=>Yn c fun c=>K (.c c)
 | .ag cs=>RH cs fun cs=>K (.ag cs)
 | .tu vs=>fL (fun p K=>match p with|(i,cs)=>RH cs fun cs=>K (i,cs)) vs fun vs=>K (.tu vs)
 | .bx cs=>RH cs fun cs=>K (.bx cs)
 | .fn f caps=>K (.fn f caps)
def Qv (st:TS) (K:TS→Z):Z:=
 fL (fun p K=>match p with|(i,e)=>fTE e fun e=>K (i,e)) st.tm fun tm=>
 fL (fun p K=>match p with|(i,cs)=>fL ZQ cs fun cs=>K (i,cs)) st.bx fun bx=>
 fL (fun p K=>match p with|(i,b)=>fOB b fun b=>K (i,b)) st.ob fun ob=>K ⟨tm,bx,ob⟩
end
def kY (st:TS):CE→Option (Nat×List (List TC))
 | .nil z=>some (z,[])
 | .ref o cut=>match aa o st.ob with|some ⟨_,z,rows⟩=>some (z,L9 cut rows)|none=>none
 | .snap _ _ z rows=>some (z,rows)
 |_=>none
def vV (st:TS) (e:CE):Option TC:=match e with
 | .sc v=>some (.sc v)
 |e=>match kY st e with|some (z,rows)=>some (.sub z rows)|none=>none
def qF (st:TS):List CE→Option (List TC)
 |[]=>some []
 |e::r=>match vV st e,qF st r with
  |some c,some cs=>some (c::cs)
  |_,_=>none
def Kr (c:TC):CE:=match c with| .sc v=> .sc v| .sub z _=> .nil z| .any=> .gone
section
variable (C : jC)
def Ks (ty:TypeId):Value→TE
 | .slice none 0 0=>match(C.tt ty).ti with
   | .slice e=>one (.nil (C.tt e).size)
   |_=> .dead
 | .int k n=>S (.int k n)
 | .bool b=> .kb b
 | .string s=>S (.string s)
 |_=> .dead
def oy (st:TS) (ty:TypeId):Operand→TE
 | .tmp i=>st.get i
 | .const v=>Ks C ty v
 | .func f=> .fn f []
 | .global _=> .dead
def RI:TE→Option Value
 | .v false [.mk false [.sc v]]=>some v
 | .kb b=>some (.bool b)
 |_=>none
def asInt:TE→Option Int
 | .v false [.mk false [.sc (.int _ n)]]=>some n
 |_=>none
def sD:TE→Option CE
 | .v false [.mk false [e]]=>some e
 | .kb b=>some (.sc (.bool b))
 |_=>none
def zA:TE→Option (List CE)
 | .v false [.mk _ cs]=>some cs
 | .kb b=>some [.sc (.bool b)]
 |_=>none
def RJ (op:BinOp):Value→Value→Option Value
 | .int k a,.int k' b=>
   match op with
   | .shl=>if 0≤b then some (.int k (Wy k a b)) else none
   | .shr=>if 0≤b then some (.int k (Yj k a b)) else none
   |_=>if k=k' then
    match op with
    | .add=>some (.int k (NT k a b))
    | .sub=>some (.int k (Gr k a b))
    | .mul=>some (.int k (NU k a b))
    | .and=>some (.int k (NV .and k a b))
    | .or=>some (.int k (NV .or k a b))
    | .xor=>some (.int k (NV .xor k a b))
    | .eql=>some (.bool (bR a b))
    | .neq=>some (.bool (!bR a b))
    | .lss=>some (.bool (cT a b))
    | .leq=>some (.bool (sN a b))
    | .gtr=>some (.bool (cT b a))
    | .geq=>some (.bool (sN b a))
    |_=>none
    else none
 | .string a,.string b=>match op with
   | .eql=>some (.bool (L6 a b))
   | .neq=>some (.bool (!L6 a b))
   | .lss=>some (.bool (Iv a b))
   | .leq=>some (.bool (Iv a b||L6 a b))
   | .gtr=>some (.bool (!(Iv a b||L6 a b)))
   | .geq=>some (.bool (!Iv a b))
   |_=>none
 |_,_=>none
def sQ:List Nat→List CE→List CE→Option Bool
 |[],[],[]=>some true
 |1::ks,.sc (.int k a)::r,.sc (.int k' b)::r'=>if k=k' then(match sQ ks r r' with|some q=>some (bR a b&&q)|none=>none) else none
 |2::ks,.sc (.bool a)::r,.sc (.bool b)::r'=>match sQ ks r r' with|some q=>some (Wx a b&&q)|none=>none
 |3::ks,.sc (.string a)::r,.sc (.string b)::r'=>match sQ ks r r' with|some q=>some (L6 a b&&q)|none=>none
 |_,_,_=>none
def BH (t:TypeId):Bool:=match(C.tt t).ti with| .struct _=>true|_=>false
def nj (t:TypeId) (f:Nat):Option (Nat×TypeId):=match(C.tt t).ti with| .struct fs=>fs[f]?|_=>none
def Ul (t:TypeId) (f:Nat):TypeId:=match nj C t f with|some (_,ft)=>ft|none=>0
def uG (t:TypeId):Option TypeId:=match(C.tt t).ti with| .slice e=>some e|_=>none
def WC (ds:List Nat) (loc:Option (Nat×Int×Nat)) (j:Nat) (c:TC):CE:=
 match c with
 | .sc v=> .sc v
 | .sub z rows=> .snap ds (match loc with|some (o,i,f)=>some (o,i,f+j)|none=>none) z rows
 | .any=> .gone
def vW (ds:List Nat) (loc:Option (Nat×Int×Nat)):Nat→List TC→List CE
 |_,[]=>[]
 |j,c::r=>WC ds loc j c::vW ds loc (j+1) r
def known (i:iT):Bool:=match i.ti with| .other=>false|_=>true
def uH (i:iT):Bool:=match i.ti with| .other=>false| .ptr _=>false|_=>true
def RK (t:TypeId) (xs:List CE):TE:= .v false [.mk (BH C t) xs]
variable {R : Type}
def Ao (t:TypeId) (xs:List CE) (K:TE→Ev R):Ev R:=match known (C.tt t),Nat.beq xs.length (C.tt t).size with
 |true,true=>K (RK C t xs)
 |_,_=> .fail
def Kt (e:TypeId) (z:Nat):Bool:=match known (C.tt e) with|true=>Nat.beq z (C.tt e).size|false=>false
def Pq (st:TS) (o:Nat) (path:Option (Int×Nat)) (i:Int) (f:Nat) (K:List TC→Ev R):Ev R:=
 match aa o st.ob with
 |some ⟨_,_,rows⟩=>match path with
  |none=> .row rows i fun row=>K (row.drop f)
  |some (i0,f0)=> .row rows i0 fun row0=>match row0[f0]? with
   |some (.sub _ nE)=> .row nE i fun row=>K (row.drop f)
   |_=> .fail
 |none=> .fail
def Ap (st:TS) (t:TypeId) (e:TE) (K:TE→Ev R):Ev R:=
 match e with
 | .bp b off=>match aa b st.bx with
   |some cs=>Ao C t ((cs.drop off).take (C.tt t).size) K
   |none=> .fail
 | .ep ds cells=>Ao C t (vW ds none 0 (cells.take (C.tt t).size)) K
 | .er o path i f=>Pq st o path i f fun cells=>
     Ao C t (vW [o] (match path with|none=>some (o,i,f)|some _=>none) 0 (cells.take (C.tt t).size)) K
 |_=> .fail
def vY (t:TypeId):List (Nat×TE)→List CE→Option (List CE)
 |[],cs=>some cs
 |(f,e)::r,cs=>match nj C t f,zA e with
  |some (off,ft),some c=>match Nat.beq c.length (C.tt ft).size with
   |true=>vY t r (cs.take off++c++cs.drop (off+c.length))
   |false=>none
  |_,_=>none
def F7 (st:TS):List Operand→Option (List Nat)
 |[]=>some []
 |x::r=>match oy C st 0 x,F7 st r with
  | .bp b 0,some bs=>some (b::bs)
  |_,_=>none
def bound (st:TS) (d:Int):Option Operand→Option Int
 |none=>some d
 |some a=>asInt (oy C st 0 a)
def plain:TE→TE
 | .kb b=>S (.bool b)
 |e=>e
def RL (e:CE) (l h:Int):CE:=match e with
 | .nil z=> .nil z
 | .ref o none=> .ref o (some (l,h))
 | .ref o (some (a,_))=> .ref o (some (BG a l,BG a h))
 | .snap ds _ z rows=> .snap ds none z (bg rows l h)
 |e=>e
def RM (e:CE) (n:Int) (cells:List TC):TE:=match e with
 | .ref o none=> .er o none n 0
 | .ref o (some _)=> .ep [o] cells
 | .snap _ (some (o,i,f)) _ _=> .er o (some (i,f)) n 0
 | .snap ds none _ _=> .ep ds cells
 |_=> .dead
def F8 (t:TypeId):Bool:=match(C.tt t).ti with| .bool=>true|_=>false
def WD (bt:Bool) (op:BinOp) (a b:Value) (K:TE→Ev R):Ev R:=match op,a,b with
 | .eql,.bool p,.bool q=>match bt with|true=>K (S (.bool (Wx p q)))|false=> .fail
 | .neq,.bool p,.bool q=>match bt with|true=>K (S (.bool (!Wx p q)))|false=> .fail
 | .rem,.int k p,.int k' q=>if k=k' then .test (bR q 0) fun z=>match z with
     |false=>K (S (.int k (lT p q)))
     |true=> .fail
   else .fail
 | .quo,.int k p,.int k' q=>if k=k' then .test (bR q 0) fun z=>match z with
     |false=>K (S (.int k (yu k p q)))
     |true=> .fail
   else .fail
 | .add,.string p,.string q=> .test (fits (p.size+q.size) 1) fun z=>match z with
   |true=>K (S (.string (Yk p q)))
   |false=> .fail
 |_,_,_=>match RJ op a b with
  |some v=>K (S v)
  |none=> .fail
def WE (st:TS) (t:TypeId) (e:CE) (K:Value→Ev R):Ev R:=match(C.tt t).ti,e with
 | .str,.sc (.string s)=>K (.int .i64 s.size)
 | .slice _,e=>match kY st e with
   |some (_,rows)=>K (.int .i64 rows.length)
   |none=> .fail
 |_,_=> .fail
def fm (st:TS) (o:Oper) (K:TE→Ev R):Ev R:=
 match o.op with
 | .move x=>K (oy C st o.type x)
 | .assign x=>K (oy C st o.type x)
 | .pick c a b=>match oy C st o.type c with
   | .kb p=>match p with
     |true=>K (oy C st o.type a)
     |false=>K (oy C st o.type b)
   |_=> .fail
 | .load t a=>Ap C st t (oy C st 0 a) K
 | .nilCheck x=>match oy C st 0 x with
   | .bp b off=>K (.bp b off)
   | .ep d c=>K (.ep d c)
   | .er r p i f=>K (.er r p i f)
   |_=> .fail
 | .binOp op t x y _=>match plain (oy C st t x),plain (oy C st t y) with
   | .v false [.mk false [.sc a]],.v false [.mk false [.sc b]]=>WD (F8 C t) op a b K
   | .v false [.mk true xs],.v false [.mk true ys]=>match known (C.tt t),(C.tt t).eqs with
     |false,_=> .fail
     |true,[]=> .fail
     |true,k::ks=>match op,sQ (k::ks) xs ys with
      | .eql,some b=>K (S (.bool b))
      | .neq,some b=>K (S (.bool (!b)))
      |_,_=> .fail
   |_,_=> .fail
 | .unOp op _ x=>match op,oy C st o.type x with
   | .not,.kb b=>match b with|true=>K (.kb false)|false=>K (.kb true)
   | .not,.v false [.mk false [.sc (.bool b)]]=>K (S (.bool (!b)))
   | .neg,.v false [.mk false [.sc (.int k n)]]=>K (S (.int k (Gr k 0 n)))
   |_,_=> .fail
 | .convert src dst x=>match(C.tt dst).ti,(C.tt src).ti,oy C st src x with
   | .int k,.int _,.v false [.mk false [.sc (.int _ n)]]=>K (S (.int k (va k n)))
   | .str,.str,.v false [.mk false [.sc (.string s)]]=>K (S (.string s))
   | .str,.slice et,.v false [.mk false [e]]=>match(C.tt et).ti,kY st e with
     | .int .u8,some (_,rows)=> .bytes rows fun ns=>K (S (.string (L7 ns)))
     |_,_=> .fail
   |_,_,_=> .fail
 | .fieldAddr s x f=>match nj C s f,oy C st 0 x with
   |some (off,_),.bp b o=>K (.bp b (o+off))
   |some (off,_),.ep d cells=>K (.ep d (cells.drop off))
   |some (off,_),.er r p i g=>K (.er r p i (g+off))
   |_,_=> .fail
 | .field t x f=>match nj C t f,oy C st t x with
   |some (off,ft),.v false [.mk true cs]=>Ao C ft ((cs.drop off).take (C.tt ft).size) K
   |_,_=> .fail
 | .indexAddr t x i=>match uG C t,sD (oy C st t x),asInt (oy C st 0 i) with
   |some et,some e,some n=>match kY st e with
    |some (z,rows)=>match Kt C et z with
     |true=> .row rows n fun cells=>K (RM e n cells)
     |false=> .fail
    |none=> .fail
   |_,_,_=> .fail
 | .index t x i=>match(C.tt t).ti,RI (oy C st t x),asInt (oy C st 0 i) with
   | .str,some (.string s),some n=> .byte s n fun b=>K (S (.int .u8 b))
   |_,_,_=> .fail
 | .slice t x lo hi mx=>match mx,(C.tt t).ti,sD (oy C st t x) with
   |none,.str,some (.sc (.string s))=>match bound C st 0 lo,bound C st s.size hi with
    |some l,some h=> .test (mg l h s.size) fun z=>match z with
     |true=>K (S (.string (Yl s l h)))
     |false=> .fail
    |_,_=> .fail
   |none,.slice et,some e=>match kY st e with
    |some (z,rows)=>match Kt C et z,bound C st 0 lo,bound C st rows.length hi with
     |true,some l,some h=> .test (mg l h rows.length) fun b=>match b with
      |true=>K (one (RL e l h))
      |false=> .fail
     |_,_,_=> .fail
    |none=> .fail
   |_,_,_=> .fail
 | .extract x i=>match oy C st 0 x with
   | .v true es=>match es[i]? with
     |some (.mk a cs)=>K (.v false [.mk a cs])
     |some (.ptr b)=>K (.bp b 0)
     |none=> .fail
   |_=> .fail
 | .build t ps=>match BH C t,vY C t (ps.toList.map fun p=>(p.1,oy C st (Ul C t p.1) p.2)) ((C.tt t).zero.map Kr) with
   |true,some cs=>K (.v false [.mk true cs])
   |_,_=> .fail
 | .makeFunc fn first caps=>match fn,first.toList,F7 C st caps.toList with
   | .func f,[],some bs=>K (.fn f bs)
   |_,_,_=> .fail
 | .call {callee:= .builtin .len,args,argTypes}=>match args.toList,argTypes.toList with
   |[x],[t]=>match sD (oy C st t x) with
    |some e=>WE C st t e fun v=>K (S v)
    |none=> .fail
   |_,_=> .fail
 | .call {callee:= .builtin .min,args,argTypes}=>match args.toList,argTypes.toList with
   |[x,y],t::_=>match RI (oy C st t x),asInt (oy C st t y) with
    |some (.int k a),some b=>K (S (.int k (NS a b)))
    |_,_=> .fail
   |_,_=> .fail
 |_=> .fail
def mj (e:CE) (st:TS):Option (TC×TS×Bool):=
 match e with
 | .sc v=>some (.sc v,st,true)
 | .nil z=>some (.sub z [],st,true)
 | .ref o cut=>match aa o st.ob with
   |some ⟨d,z,rows⟩=>some (.sub z (L9 cut rows),ku o st,d)
   |none=>none
 | .snap [] _ z rows=>some (.sub z rows,st,false)
 |_=>none
def Gs:List CE→TS→Option (List TC×TS×Bool)
 |[],st=>some ([],st,true)
 |e::r,st=>match mj e st with
  |some (c,cG,d1)=>match Gs r cG with
   |some (cs,lR,d2)=>some (c::cs,lR,d1&&d2)
   |none=>none
  |none=>none
def rowsOf (st:TS) (ty:TypeId):List (Nat×Operand)→Nat→Option (List (List TC)×TS×Bool)
 |[],_=>some ([],st,true)
 |(i,x)::r,n=>match Nat.beq i n,zA (oy C st ty x) with
  |true,some cs=>match Nat.beq cs.length (C.tt ty).size,Gs cs st with
   |true,some (cs',cG,d1)=>match rowsOf cG ty r (n+1) with
    |some (rs,lR,d2)=>some (cs'::rs,lR,d1&&d2)
    |none=>none
   |_,_=>none
  |_,_=>none
def oR (d k j:Nat):Nat:=1000+400*d+20*k+j
def WG (b j:Nat):Nat:=1000000000+100*b+j
def u0 (b:Nat):Bool:=match Nat.ble 200000 b with|true=>Nat.ble 300000 b|false=>true
def VR (b:Nat):nh→Bool
 | .ptr c=>Nat.beq c b
 | .mk _ _=>false
def Gt (b:Nat):TE→Bool
 | .bp c _=>Nat.beq c b
 | .fn _ caps=>jc b caps
 | .v _ es=>es.any (VR b)
 |_=>false
def Jt (b:Nat) (st:TS):TS:=⟨mapA (fun e=>match Gt b e with|true=> .dead|false=>e) st.tm,ni b st.bx,st.ob⟩
def C6 (b:Nat) (cs:List CE) (st:TS):TS:=(Jt b st).C5 b cs
def setCells (f:Nat) (cs:List TC) (rows:List (List TC)) (i:Int):List (List TC):=setRow rows i f cs
def Gu (o:Nat) (e:CE):CE:=match e with
 | .snap d (some (p,i,f)) z rows=>match Nat.beq p o with|true=> .snap [] none z rows|false=> .snap d (some (p,i,f)) z rows
 |e=>e
def VS (o:Nat):TE→TE
 | .er p (some q) i f=>match Nat.beq p o with|true=> .dead|false=> .er p (some q) i f
 |e=>e
def Iz (b:OB):OB:=⟨false,b.z,b.rows⟩
def vf (o:Nat) (st:TS):TS:=match aa o st.ob with
 |some b=>sO (Gu o) (VS o) (kX o (Iz b)) st
 |none=>st
def NX (o:Nat):List CE→Bool
 |[]=>false
 | .snap _ (some (p,_,_)) _ _::r=>match Nat.beq p o with|true=>true|false=>NX o r
 |_::r=>NX o r
def BI (o:Nat) (path:Option (Int×Nat)) (i:Int) (f:Nat) (cs:List CE) (st:TS) (K:TS→Ev R):Ev R:=
 match Gs cs st with
 |some (ts,cG,d1)=>match aa o cG.ob with
  |some ⟨d,z,rows⟩=>match path with
   |none=> .row rows i fun row=>match Nat.ble (f+ts.length) row.length with
    |true=>K (qj [(o,⟨d&&d1,z,setRow rows i f ts⟩)] cG)
    |false=> .fail
   |some (i0,f0)=>match d,d1 with
    |true,true=> .row rows i0 fun row0=>match row0[f0]? with
     |some (.sub z1 nE)=> .row nE i fun row=>match Nat.ble (f+ts.length) row.length with
      |true=>K (qj [(o,⟨true,z,setRow rows i0 f0 [.sub z1 (setRow nE i f ts)]⟩)] cG)
      |false=> .fail
     |_=> .fail
    |_,_=> .fail
  |none=> .fail
 |none=> .fail
def F9:List CE→Bool
 |[]=>false
 | .gone::_=>true
 |_::r=>F9 r
def Gv (b off:Nat) (cs:List CE) (st:TS):Option TS:=
 match aa b st.bx with
 |some old=>match u0 b&& !F9 cs,Nat.ble (off+cs.length) old.length with
  |true,true=>some (st.C5 b (old.take off++cs++old.drop (off+cs.length)))
  |_,_=>none
 |none=>none
def uI (st:TS) (e:CE):Option (Option Nat×Nat×Bool×List (List TC)):=
 match e with
 | .nil z=>some (none,z,true,[])
 | .ref o cut=>match aa o st.ob with
   |some ⟨d,z,rows⟩=>some (some o,z,d,L9 cut rows)
   |none=>none
 |_=>none
def lH (o:Option Nat) (st:TS):TS:=match o with|some o=>ku o st|none=>st
def sE (d:Nat) (b:OB) (st:TS):TS:=(yw (oR d 0 0) b st).set d (one (.ref (oR d 0 0) none))
def C7 (e:TypeId) (z:Nat):Bool:=match uH (C.tt e) with|true=>Nat.beq z (C.tt e).size|false=>false
def AO (g o':Nat) (b:OB) (l h:Int) (st:TS):TS:=yw g ⟨true,1,[]⟩ (qi o' ⟨b.deep,b.z,fD b.z b.rows l h⟩ st)
def NY (d:Nat) (o:Option Nat) (dp:Bool) (cx:CE) (st:TS):Option (Nat×List (List TC)×TS):=match cx with
 | .ref o' (some (l,h))=>match dp,aa o' st.ob,(match o with|some o=>Nat.beq o o'||Nat.beq o (oR d 1 0)|none=>false)||Nat.beq o' (oR d 1 0) with
   |true,some ⟨true,z,rows⟩,false=>some (z,bg rows l h,ku (oR d 1 0) (lH o (AO (oR d 1 0) o' ⟨true,z,rows⟩ l h st)))
   |_,_,_=>none
 |_=>none
def RN (st:TS) (cx:CE):Option (Nat×List (List TC)):=match cx with
 | .ref o' cut=>match aa o' st.ob with
   |some ⟨false,z,rows⟩=>some (z,L9 cut rows)
   |_=>none
 |_=>none
def Pt (st:TS) (d:Nat) (t t':TypeId) (s:TE) (x:TE) (K:TS→Ev R):Ev R:=
 match uG C t,sD s,sD x with
 |some e,some cs,some cx=>match uI st cs,(C.tt t').ti with
  |some (o,z,dp,rows),.str=>match C7 C e z,Nat.beq z 1,cx with
   |true,true,.sc (.string b)=> .test (fits (rows.length+b.size) (C.tt e).bytes) fun q=>match q with
    |true=>K (sE d ⟨dp,z,rows++Am b⟩ (lH o st))
    |false=> .fail
   |_,_,_=> .fail
  |some (o,z,dp,rows),.slice _=>match C7 C e z with
   |false=> .fail
   |true=>match(C.tt e).flat with
     |true=>match kY st cx with
      |some (z',aO)=>match Nat.beq z z' with
       |true=> .test (dw aO&&fits (rows.length+aO.length) (C.tt e).bytes) fun q=>match q with
        |true=>K (sE d ⟨dp,z,rows++aO⟩ (lH o st))
        |false=> .fail
       |false=> .fail
      |none=> .fail
     |false=>match NY d o dp cx st with
      |some (z',aO,cG)=>match Nat.beq z z' with
        |true=> .test (fits (rows.length+aO.length) (C.tt e).bytes) fun q=>match q with
         |true=>K (sE d ⟨dp,z,rows++aO⟩ cG)
         |false=> .fail
        |false=> .fail
      |none=>match RN st cx with
       |some (z',aO)=>match Nat.beq z z' with
        |true=> .test (fits (rows.length+aO.length) (C.tt e).bytes) fun q=>match q with
         |true=>K (sE d ⟨false,z,rows++aO⟩ (lH o st))
         |false=> .fail
        |false=> .fail
       |none=>match mj cx (lH o st) with
       |some (.sub z' aO,cG,d1)=>match Nat.beq z z' with
        |true=> .test (fits (rows.length+aO.length) (C.tt e).bytes) fun q=>match q with
         |true=>K (sE d ⟨dp&&d1,z,rows++aO⟩ cG)
         |false=> .fail
        |false=> .fail
       |_=> .fail
  |_,_=> .fail
 |_,_,_=> .fail
def VT (st:TS) (d:Option Nat) (t:TypeId) (s:TE) (x:TE) (K:TS→Ev R):Ev R:=
 match uG C t,sD s,sD x with
 |some e,some (.ref o none),some cx=>match aa o st.ob,kY st cx,uH (C.tt e) with
  |some ⟨true,z,rows⟩,some (z',aO),true=>match Nat.beq z z'&&Nat.beq z (C.tt e).size with
   |true=> .test (dw aO) fun q=>match q with
    |true=>match d with
     |some d=>K ((qi o ⟨true,z,mh rows aO⟩ st).set d (one (.sc (.int .i64 (Int.ofNat (me aO.length rows.length))))))
     |none=>K (qi o ⟨true,z,mh rows aO⟩ st)
    |false=> .fail
   |false=> .fail
  |_,_,_=> .fail
 |_,_,_=> .fail
def Ku (st:TS):List Nat→Option (List (List TC))
 |[]=>some []
 |b::r=>match aa b st.bx with
  |some cs=>match qF st cs,Ku st r with
   |some c,some cs=>some (c::cs)
   |_,_=>none
  |none=>none
def RO (st:TS) (e:TE) (K:TV→Ev R):Ev R:=
 match e with
 | .v false [.mk a cs]=>match qF st cs with
   |some ts=>match a,ts with
    |true,ts=>K (.ag ts)
    |false,[c]=>K (.c c)
    |_,_=> .fail
   |none=> .fail
 | .kb b=>K (.c (.sc (.bool b)))
 | .bp b off=>match aa b st.bx with
   |some cs=>match qF st (cs.drop off) with
    |some ts=>K (.bx ts)
    |none=> .fail
   |none=> .fail
 | .ep _ (c::cells)=>K (.bx (c::cells))
 | .er r p i f=>Pq st r p i f fun cells=>match cells with
   |[]=> .fail
   |c::cells=>K (.bx (c::cells))
 | .fn f caps=>match Ku st caps with
   |some xs=>K (.fn f xs)
   |none=> .fail
 |_=> .fail
def Ma (st:TS):List TE→(List TV→Ev R)→Ev R
 |[],K=>K []
 |e::r,K=>RO st e fun v=>Ma st r fun vs=>K (v::vs)
def vZ (st:TS) (b:Nat):List Nat:=match aa b st.bx with
 |some cs=>(2*b+1)::(cs.flatMap ee).map (2* ·)
 |none=>[2*b+1]
def oz (st:TS):TE→List Nat
 | .v _ es=>(fH es).map (2* ·)
 | .ep d _=>d.map (2* ·)
 | .er o _ _ _=>[2*o]
 | .bp b _=>vZ st b
 | .fn _ caps=>caps.flatMap (vZ st)
 |_=>[]
def sR (st:TS) (o:Nat):Bool:=match aa o st.ob with|some ⟨true,_,_⟩=>true|_=>false
def C8 (st:TS) (o:Nat):Bool:=match aa o st.ob with|some ⟨false,_,_⟩=>true|_=>false
def oA (st:TS) (c:Bool):List Mode→List CE→Option (List Nat)
 |_,[]=>some []
 |ms,e::r=>match oA st c (ms.drop 1) r with
  |some l=>match ms.headD .deep,e with
   |_,.sc _=>some l
   |_,.nil _=>some l
   | .snap,.snap [] none _ _=>some l
   | .snap,_=>none
   | .top,.ref o none=>match C8 st o with|true=>some ((2*o)::l)|false=>none
   | .top,_=>none
   |_,.ref o none=>match sR st o with|true=>some ((2*o)::l)|false=>none
   |_,.ref o (some _)=>match c,sR st o with|true,true=>some ((2*o)::l)|_,_=>none
   |_,.snap _ (some (o,_,_)) _ _=>match c,sR st o with|false,true=>some ((2*o)::l)|_,_=>none
   |_,_=>none
  |none=>none
def nQ (st:TS) (c:Bool) (ms:List Mode) (e:TE):Option (List Nat):=match e with
 | .v false [.mk _ cs]=>match c,ms with|true,ms=>oA st true ms cs|false,[]=>oA st false [] cs|_,_=>none
 | .bp b 0=>match c,u0 b,aa b st.bx with
   |false,true,some cs=>match oA st true ms cs with
    |some l=>some ((2*b+1)::l)
    |none=>none
   |_,_,_=>none
 |_=>none
def bu.ms:bu→List Mode
 | .inout ms=>ms
 | .consume ms=>ms
 |_=>[]
def AP:List Nat→Bool
 |[]=>true
 |a::r=>match jc a r with|true=>false|false=>AP r
def v7 (st:TS):List bu→List TE→Option (List Nat×List Nat)
 |[],[]=>some ([],[])
 |p::ps,e::es=>match v7 st ps es with
  |some (own,rd)=>match p with
   | .borrow=>some (own,oz st e++rd)
   | .inout ms=>match nQ st false ms e with|some l=>some (l++own,rd)|none=>none
   | .consume ms=>match nQ st true ms e with|some l=>some (l++own,rd)|none=>none
  |none=>none
 |_,_=>none
def qG:List CE→TS→TS
 |[],st=>st
 | .ref o _::r,st=>qG r (ku o st)
 |_::r,st=>qG r st
def o7 (st:TS) (e:CE) (c:TC):Option (List (Nat×OB)):=
 match e,c with
 | .sc _,.sc _=>some []
 | .nil _,.sub _ []=>some []
 | .ref o none,.sub z rows=>match aa o st.ob with
   |some ⟨true,z0,_⟩=>match Nat.beq z z0 with|true=>some [(o,⟨true,z,rows⟩)]|false=>none
   |_=>none
 | .snap _ (some (o,i,f)) z0 _,.sub z' aO=>match aa o st.ob,Nat.beq z' z0 with
   |some ⟨true,z,rows⟩,true=>some [(o,⟨true,z,setRow rows i f [.sub z' aO]⟩)]
   |_,_=>none
 |_,_=>none
def Ga (st:TS):List CE→List TC→Option (List (Nat×OB))
 |[],[]=>some []
 |e::r,c::cs=>match o7 st e c,Ga st r cs with
  |some a,some b=>some (a++b)
  |_,_=>none
 |_,_=>none
def bC (f:Nat→Nat):List Mode→Nat→List TC→TS→List CE×TS
 |_,_,[],st=>([],st)
 |ms,j,c::cs,st=>match c with
  | .sc v=>match bC f (ms.drop 1) (j+1) cs st with|(r,st')=>(.sc v::r,st')
  | .sub z rows=>match ms.headD .snap with
    | .snap=>match bC f (ms.drop 1) (j+1) cs st with|(r,st')=>(.snap [] none z rows::r,st')
    | .top=>match bC f (ms.drop 1) (j+1) cs (yw (f j) ⟨false,z,rows⟩ st) with|(r,st')=>(.ref (f j) none::r,st')
    | .deep=>match bC f (ms.drop 1) (j+1) cs (yw (f j) ⟨true,z,rows⟩ st) with|(r,st')=>(.ref (f j) none::r,st')
  | .any=>match bC f (ms.drop 1) (j+1) cs st with|(r,st')=>(.gone::r,st')
def pZ (m9:TS):List bu→List TE→TS→TS
 |p::ps,e::es,st=>match p,e with
  | .consume _,.v false [.mk _ cs]=>pZ m9 ps es (qG cs st)
  | .inout _,.bp b _=>match aa b m9.bx with
    |some cs=>pZ m9 ps es ⟨(qG cs st).tm,ni b (qG cs st).bx,(qG cs st).ob⟩
    |none=>pZ m9 ps es st
  |_,_=>pZ m9 ps es st
 |_,_,st=>st
def qH (st:TS):List bu→List TE→List TV→Option (List (Nat×OB)×List (Nat×List Mode×List TC))
 |p::ps,e::es,fs=>match p with
  | .inout ms=>match e,fs with
    | .v false [.mk false [e]],.c c::fs=>match o7 st e c,qH st ps es fs with
      |some a,some (b,bs)=>some (a++b,bs)
      |_,_=>none
    | .v false [.mk true cs],.ag ts::fs=>match Ga st cs ts,qH st ps es fs with
      |some a,some (b,bs)=>some (a++b,bs)
      |_,_=>none
    | .bp b 0,.bx ts::fs=>match aa b st.bx,qH st ps es fs with
      |some cs,some (a,bs)=>match Nat.beq cs.length ts.length with|true=>some (a,(b,ms,ts)::bs)|false=>none
      |_,_=>none
    |_,_=>none
  |_=>qH st ps es fs
 |[],[],[]=>some ([],[])
 |_,_,_=>none
def Mb:List Mode→List TC→List Mode
 |_,[]=>[]
 |ms,_::r=>(match ms.headD .deep with| .snap=> .snap|_=> .deep)::Mb (ms.drop 1) r
def BJ:List (Nat×List Mode×List TC)→TS→TS
 |[],st=>st
 |(b,ms,ts)::r,st=>match bC (WG b) (Mb ms ts) 0 ts st with
  |(cs,st')=>BJ r (st'.C5 b cs)
def o8 (st:TS):List Nat→TS
 |[]=>st
 |o::r=>o8 (sP st o) r
def yx (st:TS):TE→List Nat
 | .bp b _=>match aa b st.bx with|some cs=>cs.flatMap ee|none=>[]
 | .fn _ caps=>caps.flatMap fun b=>match aa b st.bx with|some cs=>cs.flatMap ee|none=>[]
 |e=>uF e
def borrowed (st:TS):List bu→List TE→List Nat
 | .borrow::ps,e::es=>yx st e++borrowed st ps es
 |_::ps,_::es=>borrowed st ps es
 |_,_=>[]
def qI (d k:Nat):Nat:=400000+20*d+k
def eP (d:Nat):Nat→List (List Mode)→List (Nat×List TC)→TS→List nh×TS
 |_,_,[],st=>([],st)
 |k,ms,(a,cs)::r,st=>match bC (oR d k) (ms.headD []) 0 cs st with
  |(cs',st')=>match Nat.beq a 2 with
   |true=>match eP d (k+1) (ms.drop 1) r (C6 (qI d k) cs' st') with
    |(es,Eg)=>(.ptr (qI d k)::es,Eg)
   |false=>match eP d (k+1) (ms.drop 1) r st' with
    |(es,Eg)=>(.mk (Nat.beq a 1) cs'::es,Eg)
def zC:List (Nat×List TC)→Bool
 |[]=>true
 |(_,cs)::r=>match Nat.ble cs.length 20 with|true=>zC r|false=>false
def RP (d:Nat) (ms:List (List Mode)) (v:TV) (st:TS):Option TS:=
 match v with
 | .c c=>match bC (oR d 0) (ms.headD []) 0 [c] st with|(cs,st')=>some (st'.set d (.v false [.mk false cs]))
 | .ag cs=>match bC (oR d 0) (ms.headD []) 0 cs st with|(cs,st')=>some (st'.set d (.v false [.mk true cs]))
 | .tu vs=>match zC vs with
   |true=>match eP d 0 ms vs st with|(es,st')=>some (st'.set d (.v true es))
   |false=>none
 | .bx cs=>match bC (oR d 0) (ms.headD []) 0 cs st with|(cs',st')=>some ((C6 (qI d 0) cs' st').set d (.bp (qI d 0) 0))
 |_=>none
def sU:TV→Bool
 | .c _=>true
 | .ag cs=>Nat.ble cs.length 16
 | .bx cs=>Nat.ble cs.length 16
 | .fn _ caps=>Nat.ble caps.length 900
 | .tu _=>false
def nq:List TV→Bool
 |[]=>true
 |v::r=>match sU v with|true=>nq r|false=>false
def rA (vs:List TV):Bool:=match Nat.ble vs.length 50 with|true=>nq vs|false=>false
def yy (sh:Bool) (st:TS) (ps:List bu) (es:List TE):TS:=match sh with
 |true=>o8 (pZ st ps es st) (borrowed st ps es)
 |false=>pZ st ps es st
def mF:List Mode→List TC→Bool
 |_,[]=>true
 |ms,.sc _::r=>mF (ms.drop 1) r
 |ms,.sub _ _::r=>match ms.headD .snap with| .deep=>mF (ms.drop 1) r|_=>false
 |ms,.any::r=>match ms.headD .snap with| .deep=>mF (ms.drop 1) r|_=>false
def Gb:List (List Mode)→List (Nat×List TC)→Bool
 |_,[]=>true
 |ms,(_,cs)::r=>match mF (ms.headD []) cs with|true=>Gb (ms.drop 1) r|false=>false
def Pu (ms:List (List Mode)):TV→Bool
 | .c c=>mF (ms.headD []) [c]
 | .ag cs=>mF (ms.headD []) cs
 | .bx cs=>mF (ms.headD []) cs
 | .tu vs=>Gb ms vs
 | .fn _ _=>false
def Kv:List bu→Bool
 |[]=>true
 | .inout (_::_)::_=>false
 |_::r=>Kv r
def RQ:List bu→Bool
 |[]=>true
 | .inout (_::_)::_=>false
 | .consume (_::_)::_=>false
 |_::r=>RQ r
def NZ (g:Qu) (r:TV):Bool:=match g.shares with
 |true=>true
 |false=>match Kv g.ps with|true=>Pu g.res r|false=>false
def BK (d:Option Tmp) (f:FuncId) (es:List TE) (st:TS) (K:TS→Ev R):Ev R:=
 match v7 st (C.sig f).ps es with
 |some (own,rd)=>match AP own,qy own rd,(C.sig f).shares&&jc 0 rd with
  |true,false,false=>Ma st es fun vs=>match rA vs with
   |true=> .call f vs fun r fs=>match NZ (C.sig f) r with
    |false=> .fail
    |true=>match qH st (C.sig f).ps es fs with
     |some (W,B)=>Qv (BJ B (qj W (yy (C.sig f).shares st (C.sig f).ps es))) fun lR=>match d with
      |some d=>match RP d (C.sig f).res r lR with
       |some st4=>K st4
       |none=> .fail
      |none=>K lR
     |none=> .fail
   |false=> .fail
  |_,_,_=> .fail
 |none=> .fail
def BL (st:TS):List Operand→List TypeId→List TE
 |x::xs,t::ts=>oy C st t x::BL st xs ts
 |_,_=>[]
def Ju (st:TS) (o:Oper) (K:TS→Ev R):Ev R:=match o.dst with
 |some d=>fm C st o fun e=>K (st.set d e)
 |none=> .fail
def mm (st:TS) (o:Oper) (K:TS→Ev R):Ev R:=
 match o.op with
 | .alloc t=>match o.dst,uH (C.tt t) with
   |some d,true=>match u0 d with
    |true=>K ((C6 d ((C.tt t).zero.map Kr) st).set d (.bp d 0))
    |false=> .fail
   |_,_=> .fail
 | .box t x=>match o.dst,zA (oy C st t x) with
   |some d,some cs=>match u0 d with
    |true=>K ((C6 d cs st).set d (.bp d 0))
    |false=> .fail
   |_,_=> .fail
 | .store t a x=>match o.dst,known (C.tt t),zA (oy C st t x) with
   |none,true,some cs=>match Nat.beq cs.length (C.tt t).size,oy C st 0 a with
    |true,.bp b off=>match Gv b off cs st with
     |some st'=>K st'
     |none=> .fail
    |true,.er r none i f=>match NX r cs with
     |true=>BI r none i f (cs.map (Gu r)) (vf r st) K
     |false=>BI r none i f cs st K
    |true,.er r p i f=>BI r p i f cs st K
    |_,_=> .fail
   |_,_,_=> .fail
 | .buildSlice t n ps=>match o.dst,uG C t with
   |some d,some e=>match Nat.beq n ps.size&&Nat.ble (n*(C.tt e).size) 16777216&&uH (C.tt e),rowsOf C st e ps.toList 0 with
    |true,some (rs,st',dp)=>K (sE d ⟨dp,(C.tt e).size,rs⟩ st')
    |_,_=> .fail
   |_,_=> .fail
 | .makeSlice t l c=>match o.dst,uG C t,asInt (oy C st 3 l),asInt (oy C st 3 c) with
   |some d,some e,some n,some n'=> .test (uH (C.tt e)&&bR n n'&&sN 0 n&&fits (uD n) (C.tt e).bytes) fun z=>match z with
    |true=>K (sE d ⟨true,(C.tt e).size,List.replicate (uD n) (C.tt e).zero⟩ st)
    |false=> .fail
   |_,_,_,_=> .fail
 | .convert src dst x=>match(C.tt dst).ti,(C.tt src).ti with
   | .slice et,.str=>match o.dst,(C.tt et).ti,RI (oy C st src x) with
     |some d,.int .u8,some (.string s)=> .test (fits s.size 1) fun z=>match z with
      |true=>K (sE d ⟨true,1,Am s⟩ st)
      |false=> .fail
     |_,_,_=> .fail
   |_,_=>Ju C st o K
 | .call {callee:= .builtin .append,args,argTypes}=>match o.dst,args.toList,argTypes.toList with
   |some d,[s,x],[t,t']=>Pt C st d t t' (oy C st t s) (oy C st t' x) K
   |_,_,_=> .fail
 | .call {callee:= .builtin .copy,args,argTypes}=>match args.toList,argTypes.toList with
   |[s,x],[t,t']=>VT C st o.dst t (oy C st t s) (oy C st t' x) K
   |_,_=> .fail
 | .call {callee:= .value (.func f),args,argTypes}=>match Nat.beq args.toList.length argTypes.toList.length with
   |true=>BK C o.dst f (BL C st args.toList argTypes.toList) st K
   |false=> .fail
 | .call {callee:= .value (.tmp i),args,argTypes}=>match Nat.beq args.toList.length argTypes.toList.length with
   |true=>match st.get i with
    | .fn f caps=>BK C o.dst f (BL C st args.toList argTypes.toList++caps.map fun b=> .bp b 0) st K
    |_=> .fail
   |false=> .fail
 |_=>Ju C st o K
def Kw (st:TS) (b:Nat):List Nat:=match aa b st.bx with
 |some cs=>(2*b+1)::(cs.flatMap ee).map (2* ·)
 |none=>[2*b+1]
def yz (st:TS):TE→List Nat
 | .v _ es=>(fH es).map (2* ·)
 | .bp b _=>Kw st b
 |_=>[]
def nR (st:TS):List bu→List TE→List Nat
 | .borrow::ps,_::es=>nR st ps es
 |_::ps,e::es=>yz st e++nR st ps es
 |_,_=>[]
def writes (st:TS) (o:Oper):List Nat:=match o.op with
 | .store _ a _=>match oy C st 0 a with
   | .bp b _=>[2*b+1]
   | .er o _ _ _=>[2*o]
   |_=>[]
 | .call {callee:= .builtin .append,args,argTypes}=>match args.toList,argTypes.toList with
   |s::_,t::_=>(uF (oy C st t s)).map (2* ·)
   |_,_=>[]
 | .call {callee:= .builtin .copy,args,argTypes}=>match args.toList,argTypes.toList with
   |s::_,t::_=>(uF (oy C st t s)).map (2* ·)
   |_,_=>[]
 | .call {callee:= .value (.func f),args,argTypes}=>nR st (C.sig f).ps (BL C st args.toList argTypes.toList)
 | .call {callee:= .value (.tmp i),args,argTypes}=>match st.get i with
   | .fn f caps=>nR st (C.sig f).ps (BL C st args.toList argTypes.toList++caps.map fun b=> .bp b 0)
   |_=>[]
 |_=>[]
def RS (st:TS) (o:Oper):Option (List Nat):=match o.op with
 | .load _ a=>match oy C st 0 a with
   | .bp b _=>match aa b st.bx with
     |some _=>some [2*b+1]
     |none=>none
   | .ep d (_::_)=>some (d.map (2* ·))
   | .er o none _ _=>some [2*o]
   | .er o (some _) _ _=>match aa o st.ob with
     |some ⟨true,_,_⟩=>some [2*o]
     |_=>none
   |_=>none
 |_=>none
def VU (ops:Array Oper) (st:TS) (o:Oper):Bool:=match o.guard with
 |none=>false
 |some (j,want)=>match ops[j]? with
  |some oj=>match oj.dst with
   |some t=>match st.get t with
    | .kb b=>match b,want with
      |true,false=>true
      |false,true=>true
      |_,_=>false
    | .v true []=>true
    |_=>false
   |none=>false
  |none=>false
def yA (ops:Array Oper) (st:TS) (o:Oper):List Nat→Bool
 |[]=>true
 |l::r=>match ops[l]? with
  |some ol=>match VU ops st ol with
   |true=>yA ops st o r
   |false=>match RS C st ol with
    |some rd=>match qy rd (writes C st o) with|true=>false|false=>yA ops st o r
    |none=>false
  |none=>false
def BM:List Mode→List CE→List Nat
 |_,[]=>[]
 |ms,e::r=>match ms.headD .deep,e with
  | .snap,.ref o none=>o::BM (ms.drop 1) r
  |_,_=>BM (ms.drop 1) r
def Jv (st:TS):List bu→List TE→List Nat
 |p::ps,e::es=>match p,e with
  | .inout (m::ms),.bp b _=>match aa b st.bx with
    |some cs=>BM (m::ms) cs++Jv st ps es
    |none=>Jv st ps es
  | .consume (m::ms),.v false [.mk _ cs]=>BM (m::ms) cs++Jv st ps es
  |_,_=>Jv st ps es
 |_,_=>[]
def Gw:List CE→List Nat
 |[]=>[]
 | .ref o _::r=>o::Gw r
 |_::r=>Gw r
def C9:List nh→List Nat
 |[]=>[]
 | .mk _ cs::r=>Gw cs++C9 r
 |_::r=>C9 r
def Pv (st:TS) (e:TypeId):List (Nat×Operand)→List Nat
 |[]=>[]
 |(_,x)::r=>match oy C st e x with
  | .v _ es=>C9 es++Pv st e r
  |_=>Pv st e r
def WH (fx:List Nat) (st:TS) (o:Oper):TS:=match o.op with
 | .buildSlice t _ ps=>match jc 777777 fx,uG C t with
   |true,some e=>o8 st (Pv C st e ps.toList)
   |_,_=>st
 | .call {callee:= .value (.func f),args,argTypes}=>match RQ (C.sig f).ps with
   |true=>st
   |false=>o8 st (Jv st (C.sig f).ps (BL C st args.toList argTypes.toList))
 |_=>st
def Mc (fx fl:List Nat) (ops:Array Oper) (st:TS) (o:Oper) (K:TS→Ev R):Ev R:=Qv (WH C fx st o) fun st=>match yA C ops st o fl with
 |true=>mm C st o K
 |false=> .fail
def Md (st:TS) (o:Oper) (K:TS→Ev R):Ev R:=match o.dst with
 |some d=>K (st.set d (.v true []))
 |none=>K st
def N0 (fx fl:List Nat) (ops:Array Oper) (st:TS) (o:Oper) (b want:Bool) (K:TS→Ev R):Ev R:=
 match b,want with
 |true,true=>Mc C fx fl ops st o K
 |false,false=>Mc C fx fl ops st o K
 |_,_=>Md st o K
def Pw (fx:List Nat) (o:Oper):Bool:=match o.dst with|some d=> !jc d fx|none=>true
def guarded (fx fl:List Nat) (ops:Array Oper) (st:TS) (o:Oper) (K:TS→Ev R):Ev R:=
 match Pw fx o with
 |false=> .fail
 |true=>match o.guard with
  |none=>Mc C fx fl ops st o K
  |some (j,want)=>match ops[j]? with
   |some oj=>match oj.dst with
    |some t=>match st.get t with
     | .kb b=>N0 C fx fl ops st o b want K
     | .v false [.mk false [.sc (.bool b)]]=> .test b fun b=>N0 C fx fl ops (st.set t (.kb b)) o b want K
     | .v true []=>Md st o K
     |_=> .fail
    |none=> .fail
   |none=> .fail
def wW {α:Type} (l:List Nat):List (Nat×α)→List (Nat×α)
 |[]=>[]
 |(i,e)::r=>match jc i l with|true=>(i,e)::wW l r|false=>wW l r
def Kx (fx:List Nat) (l:List Nat) (ops:Array Oper):List Oper→TS→(TS→Ev R)→Ev R
 |[],st,K=>Qv ⟨wW l st.tm,st.bx,st.ob⟩ K
 |o::r,st,K=>guarded C fx [] ops st o fun st'=>Qv st' fun st'=>Kx fx l ops r st' K
def oB (fx:List Nat) (l:List Nat) (ops:Array Oper):zy→TS→(TS→Ev R)→Ev R
 | .nil,st,K=>Qv ⟨wW l st.tm,st.bx,st.ob⟩ K
 | .op i fl r,st,K=>match ops[i]? with
   |some o=>guarded C fx fl ops st o fun st'=>Qv st' fun st'=>oB fx l ops r st' K
   |none=> .fail
 | .alt a b,st,K=> .both (oB fx l ops a st K) (oB fx l ops b st K)
def sV (l:List Nat):List (Nat×List CE)→List (Nat×List CE)
 |[]=>[]
 |(i,cs)::r=>match Nat.ble 100000 i with
  |true=>(i,cs)::sV l r
  |false=>match jc i l with|true=>(i,cs)::sV l r|false=>sV l r
def e8 (n:Nat):List CE→List CE×Nat×List (Nat×OB)
 |[]=>([],n,[])
 | .nil z::r=>match Nat.ble 1 z with
   |true=>match e8 (n+1) r with|(cs,m,obs)=>(.ref n none::cs,m,(n,⟨true,z,[]⟩)::obs)
   |false=>match e8 n r with|(cs,m,obs)=>(.nil z::cs,m,obs)
 |e::r=>match e8 n r with|(cs,m,obs)=>(e::cs,m,obs)
def ey (n:Nat):List nh→List nh×Nat×List (Nat×OB)
 |[]=>([],n,[])
 | .mk a cs::r=>match e8 n cs with
   |(cs',m,o1)=>match ey m r with|(es,m',o2)=>(.mk a cs'::es,m',o1++o2)
 | .ptr b::r=>match ey n r with|(es,m,o2)=>(.ptr b::es,m,o2)
def AQ (n:Nat) (e:TE):TE×Nat×List (Nat×OB):=match e with
 | .v tup es=>match ey n es with|(es',m,o)=>(.v tup es',m,o)
 | .kb b=>(S (.bool b),n,[])
 |e=>(e,n,[])
def vg (n:Nat):List (Nat×TE)→List (Nat×TE)×List (Nat×OB)
 |[]=>([],[])
 |(i,e)::r=>match AQ n e with
  |(e',m,o1)=>match vg m r with|(r',o2)=>((i,e')::r',o1++o2)
def Me (n:Nat):List (Nat×OB)→Bool
 |[]=>true
 |(i,_)::r=>match Nat.ble n i with|true=>false|false=>Me n r
def Mf (st:TS):TS:=match Me 900000000 st.ob with
 |true=>match vg 900000000 st.tm with|(tm,obs)=>⟨tm,st.bx,iy obs st.ob⟩
 |false=>st
def WI (st:TS):List Nat:=(st.tm.flatMap fun p=>uF p.2)++st.bx.flatMap fun p=>p.2.flatMap ee
def number:List Nat→Nat→List (Nat×Nat)→List (Nat×Nat)
 |[],_,ρ=>ρ
 |o::r,n,ρ=>match Nat.beq o 0 with
  |true=>number r n ρ
  |false=>match aa o ρ with
   |some _=>number r n ρ
   |none=>number r (n+1) ((o,n)::ρ)
def Da (ρ:List (Nat×Nat)) (o:Nat):Nat:=match aa o ρ with|some n=>n|none=>0
def BN (ρ:List (Nat×Nat)):CE→CE
 | .ref o cut=> .ref (Da ρ o) cut
 | .snap d l z rows=> .snap (d.map (Da ρ)) (match l with|some (o,i,f)=>some (Da ρ o,i,f)|none=>none) z rows
 |e=>e
def RT (ρ:List (Nat×Nat)):TE→TE
 | .ep d cells=> .ep (d.map (Da ρ)) cells
 | .er o p i f=> .er (Da ρ o) p i f
 |e=>e
def qz (ob:List (Nat×OB)):List (Nat×Nat)→List (Nat×OB)
 |[]=>[]
 |(o,n)::r=>match aa o ob with|some b=>kX n b (qz ob r)|none=>qz ob r
def Yo (ρ:List (Nat×Nat)) (st:TS):TS:=⟨mapA (uE (BN ρ) (RT ρ)) st.tm,mapA (List.map (BN ρ)) st.bx,qz st.ob ρ⟩
def canon (st:TS):TS:=Yo (number (WI st) 1 []) st
def Mg (l:List Nat) (st:TS):TS:=canon (Mf ⟨wW l st.tm,sV l st.bx,st.ob⟩)
def run (fx:List Nat) (f:FuncId):Nat→Code→TS→(TX→TS→Ev R)→Ev R
 |_,.skip,st,K=>K .norm st
 |_,.region id ops draw,st,K=>match draw with
  |false=>Kx C fx (C.lr f id) ops ops.toList st (K .norm)
  |true=>match C.Gj f id with
   |some l=>oB C fx (C.lr f id) ops l st (K .norm)
   |none=> .fail
 |i,.seq a b,st,K=>run fx f i a st fun x st'=>match x with
  | .norm=>run fx f i b st' K
  |x=>K x st'
 |i,.cond c a b,st,K=>match oy C st 0 c with
  | .kb p=>match p with
    |true=>run fx f i a st K
    |false=>run fx f i b st K
  | .v false [.mk false [.sc (.bool p)]]=> .test p fun p=>match p with
    |true=>run fx f i a st K
    |false=>run fx f i b st K
  |_=> .fail
 |_,.block id body,st,K=>run fx f id body st fun x st'=>match x with
  | .ex id'=>match Nat.beq id' id with|true=>K .norm st'|false=>K (.ex id') st'
  |x=>K x st'
 |i,.loop body,st,K=>Qv (Mg (C.lb f i) st) fun st=> .loop f i body st K
 |_,.exit id,st,K=>K (.ex id) st
 |_,.ret,st,K=>K .ret st
 |_,_,_,_=> .fail
def RU:Mode→Bool
 | .deep=>true
 |_=>false
def cA (sh:Bool) (p:bu) (n:Nat):Nat→List TC→List CE×List (Nat×OB)
 |_,[]=>([],[])
 |j,c::r=>match cA sh p n (j+1) r with
  |(es,obs)=>match c with
   | .sc v=>(.sc v::es,obs)
   | .sub z rows=>match p.mc j with
     | .snap=>(.snap (match sh with|true=>[]|false=>[0]) none z rows::es,obs)
     |m=>(.ref (n+j) none::es,(n+j,⟨RU m,z,rows⟩)::obs)
   | .any=>(.gone::es,obs)
def Db (sh:Bool) (i:Nat):List (List TC)→List (Nat×List CE)
 |[]=>[]
 |c::r=>(i,(cA sh .borrow 0 0 c).1)::Db sh (i+1) r
def vh (p:bu) (i:Nat):Nat:=match p with| .borrow=>200000+1000*i|_=>100000+1000*i
def init (sh:Bool) (ps:List bu) (i:Nat):List TV→TS
 |[]=>⟨[],[],[]⟩
 |v::r=>match init sh (ps.drop 1) (i+1) r with
  |⟨tm,bx,ob⟩=>match v with
   | .c c=>match cA sh (ps.headD .borrow) (500+16*i) 0 [c] with|(cs,o)=>⟨(i,.v false [.mk false cs])::tm,bx,o++ob⟩
   | .ag cs=>match cA sh (ps.headD .borrow) (500+16*i) 0 cs with|(cs,o)=>⟨(i,.v false [.mk true cs])::tm,bx,o++ob⟩
   | .bx cs=>match cA sh (ps.headD .borrow) (500+16*i) 0 cs with
     |(cs,o)=>⟨(i,.bp (vh (ps.headD .borrow) i) 0)::tm,(vh (ps.headD .borrow) i,cs)::bx,o++ob⟩
   | .fn f caps=>⟨(i,.fn f (List.range' (200000+1000*i+1) caps.length))::tm,Db sh (200000+1000*i+1) caps++bx,ob⟩
   | .tu _=>⟨tm,bx,ob⟩
def N3 (m:Mode) (e:CE) (deep:Bool):Bool:=match m,e with
 |_,.sc _=>true
 | .snap,_=>true
 |_,.nil _=>true
 | .top,.ref _ _=>true
 | .deep,.ref _ _=>deep
 |_,_=>false
def yB:List Mode→List CE→TS→Option (List TC×TS)
 |_,[],st=>some ([],st)
 |ms,e::r,st=>match mj e st with
  |some (c,st',d)=>match N3 (ms.headD .snap) e d with
   |true=>match yB (ms.drop 1) r st' with
    |some (cs,Eg)=>some (c::cs,Eg)
    |none=>none
   |false=>none
  |none=>none
def jI:List Mode→List CE→TS→Option (List TC×TS)
 |_,[],st=>some ([],st)
 |ms,e::r,st=>match ms.headD .deep,e with
  | .snap,e=>match mj e st with
    |some (c,st',_)=>match jI (ms.drop 1) r st' with
     |some (cs,Eg)=>some (c::cs,Eg)
     |none=>none
    |none=>none
  |_,.sc v=>match jI (ms.drop 1) r st with
   |some (cs,st')=>some (.sc v::cs,st')
   |none=>none
  |_,.nil z=>match jI (ms.drop 1) r st with
   |some (cs,st')=>some (.sub z []::cs,st')
   |none=>none
  |_,.ref o none=>match aa o st.ob with
   |some ⟨true,z,rows⟩=>match jI (ms.drop 1) r (ku o st) with
    |some (cs,st')=>some (.sub z rows::cs,st')
    |none=>none
   |_=>none
  |_,_=>none
def WJ (a:Bool):Nat:=match a with|true=>1|false=>0
def Px (st:TS) (r:ResultVar) (K:TE→Ev R):Ev R:=match r with
 | .tmp t=>K (st.get t)
 | .cell a t=>Ap C st t (st.get a) K
def Gx:List (List Mode)→List ResultVar→TS→(List (Nat×List TC)→TS→Ev R)→Ev R
 |_,[],st,K=>K [] st
 |ms,r::rs,st,K=>Px C st r fun e=>match e with
  | .v false [.mk a cs]=>match yB (ms.headD []) cs st with
    |some (ts,st')=>Gx (ms.drop 1) rs st' fun vs Eg=>K ((WJ a,ts)::vs) Eg
    |none=> .fail
  | .kb b=>Gx (ms.drop 1) rs st fun vs Eg=>K ((0,[.sc (.bool b)])::vs) Eg
  | .bp b 0=>match u0 b,aa b st.bx with
    |true,some cs=>match yB (ms.headD []) cs ⟨st.tm,ni b st.bx,st.ob⟩ with
     |some (ts,st')=>Gx (ms.drop 1) rs st' fun vs Eg=>K ((2,ts)::vs) Eg
     |none=> .fail
    |_,_=> .fail
  |_=> .fail
def Mh:List bu→Nat→TS→Option (List TV)
 |[],_,_=>some []
 |p::ps,i,st=>match p with
  | .inout ms=>match ms,st.get i with
    |[],.v false [.mk false [e]]=>match jI [] [e] st with
     |some ([c],st')=>match Mh ps (i+1) st' with
      |some vs=>some (.c c::vs)
      |none=>none
     |_=>none
    |[],.v false [.mk true cs]=>match jI [] cs st with
     |some (ts,st')=>match Mh ps (i+1) st' with
      |some vs=>some (.ag ts::vs)
      |none=>none
     |none=>none
    |ms,.bp b 0=>match u0 b,aa b st.bx with
     |true,some cs=>match jI ms cs st with
      |some (ts,st')=>match Mh ps (i+1) st' with
       |some vs=>some (.bx ts::vs)
       |none=>none
      |none=>none
     |_,_=>none
    |_,_=>none
  |_=>Mh ps (i+1) st
def Dc:List (Nat×List TC)→TV
 |[(0,[c])]=> .c c
 |[(1,cs)]=> .ag cs
 |[(2,cs)]=> .bx cs
 |vs=> .tu vs
def Dd:List bu→Nat→List Nat
 |[],_=>[]
 | .inout _::r,i=>i::Dd r (i+1)
 |_::r,i=>Dd r (i+1)
def Gy (g:Qu):List Nat:=match g.frz with|true=>777777::Dd g.ps 0|false=>Dd g.ps 0
def RV (g:Qu) (rs:List ResultVar) (x:TX) (st:TS):Ev (TV×List TV):=match x with
 | .ex _=> .fail
 |_=>Gx C g.res rs st fun rs st'=>match Mh g.ps 0 st' with
  |some fs=>WB (Dc rs) fun r=>fL WB fs fun fs=> .ret (r,fs)
  |none=> .fail
def yC (g:Qu) (vs:List TV):TS:=init true g.ps 0 vs
def body (f:FuncId) (vs:List TV):Ev (TV×List TV):=
 match C.P.funcs[f]? with
 |none=> .fail
 |some fn=>match fn.body with
  |none=> .fail
  |some c=>Qv (yC (C.sig f) vs) fun st=>run C (Gy (C.sig f)) f 0 c st (RV C (C.sig f) fn.results.toList)
end
abbrev Cf:=FuncId→List TV→TV→List TV→Prop
abbrev Lp:=FuncId→Nat→Code→TS→(TX→TS→Prop)→Prop
def Ev.holds {R:Type} (cf:Cf) (lp:Lp) (Q:R→Prop):Ev R→Prop
 | .fail=>False
 | .ret r=>Q r
 | .test b k=>(k b).holds cf lp Q
 | .row rows i k=> ∃c,rowAt rows i=some c∧(k c).holds cf lp Q
 | .byte s i k=> ∃b,rz s i=some b∧(k b).holds cf lp Q
 | .bytes rows k=> ∃ns,ve rows=some ns∧(k ns).holds cf lp Q
 | .call f vs k=> ∃r fs,cf f vs r fs∧(k r fs).holds cf lp Q
 | .loop f i c st k=>lp f i c st fun x st'=>(k x st').holds cf lp Q
 | .both a b=> ∃r,a.holds cf lp (fun r'=>r'=r)∧b.holds cf lp (fun r'=>r'=r)∧Q r
section
variable (C : jC)
def Gz (x:TX) (st:TS):Ev (TX×TS):= .ret (x,st)
def iter (cf:Cf) (lp:Lp) (fx:List Nat) (f i:Nat) (c:Code) (Q:TX→TS→Prop):Nat→TS→Prop
 |0,_=>False
 |n+1,st=>(run C fx f i c st Gz).holds cf lp fun p=>match p with
   |(.norm,st')=>Qv (Mg (C.lb f i) st') fun st'=>iter cf lp fx f i c Q n st'
   |(x,st')=>Q x st'
def N4 (cf:Cf) (k:Nat) (fx:List Nat):Nat→Lp
 |0=>fun _ _ _ _ _=>False
 |n+1=>fun f i c st Q=>iter C cf (N4 cf k fx n) fx f i c Q k st
def gh:Nat→Cf
 |0=>fun _ _ _ _=>False
 |k+1=>fun f vs r fs=>match C.ext f with
  |some p=>p vs=some (r,fs)
  |none=>(body C f vs).holds (gh k) (N4 C (gh k) k (Gy (C.sig f)) 4) fun p=>p=(r,fs)
end
end Go.T
set_option linter.all false
namespace Go.T
inductive An where
 |b (x:Bool)
 |row (c:List TC)
 |n (i:Int)
 |ns (l:List Int)
 |call (r:TV) (fs:List TV)
 |loop (x:TX) (st:TS)
inductive Qr where
 |test (b x:Bool)
 |row (rows:List (List TC)) (i:Int) (c:List TC)
 |byte (s:ByteArray) (i b:Int)
 |bytes (rows:List (List TC)) (ns:List Int)
 |call (f:FuncId) (vs:List TV) (r:TV) (fs:List TV)
 |loop (f:FuncId) (i:Nat) (c:Code) (st:TS) (x:TX) (st':TS)
def Ev.trace {R:Type}:Ev R→List An→List Qr→Option (R×List Qr)
 | .fail,_,_=>none
 | .ret r,as,qs=>match as with|[]=>some (r,qs)|_=>none
 | .test b k,as,qs=>match as with| .b x::as=>(k x).trace as (.test b x::qs)|_=>none
 | .row rows i k,as,qs=>match as with| .row c::as=>(k c).trace as (.row rows i c::qs)|_=>none
 | .byte s i k,as,qs=>match as with| .n b::as=>(k b).trace as (.byte s i b::qs)|_=>none
 | .bytes rows k,as,qs=>match as with| .ns l::as=>(k l).trace as (.bytes rows l::qs)|_=>none
 | .call f vs k,as,qs=>match as with| .call r fs::as=>fL WB vs fun vs=>(k r fs).trace as (.call f vs r fs::qs)|_=>none
 | .loop f i c st k,as,qs=>match as with| .loop x st'::as=>(k x st').trace as (.loop f i c st x st'::qs)|_=>none
 | .both _ _,_,_=>none
def Qr.ok (cf:Cf) (lp:Lp):Qr→Prop
 | .test b x=>b=x
 | .row rows i c=>rowAt rows i=some c
 | .byte s i b=>rz s i=some b
 | .bytes rows ns=>ve rows=some ns
 | .call f vs r fs=>cf f vs r fs
 | .loop f i c st x st'=>lp f i c st fun x1 cG=>x1=x∧cG=st'
section
variable {Z : Type}
theorem rB {α:Type} {f:α→(α→Z)→Z} (h: ∀a K,f a K=K a): ∀(l:List α) (K:List α→Z),fL f l K=K l
 |[],K=>rfl
 |a::r,K=>by simp only[fL,h,rB h r]
theorem RW (b:Bool) (K:Bool→Z):fB b K=K b:=by cases b<;>rfl
theorem RX (b:Nat) (K:Nat→Z):fN b K=K b:=rfl
theorem RY (p:Option (Int×Nat)) (K:Option (Int×Nat)→Z):VQ p K=K p:=by cases p<;>rfl
theorem Um (p:Option (Int×Int)) (K:Option (Int×Int)→Z):Ym p K=K p:=by cases p<;>rfl
theorem WK (p:Option (Nat×Int×Nat)) (K:Option (Nat×Int×Nat)→Z):fAt p K=K p:=by cases p<;>rfl
theorem VV (v:Value) (K:Value→Z):fV v K=K v:=by cases v<;>rfl
theorem Ky (c:TC) (K:TC→Z):Yn c K=K c:=by cases c<;>simp only[Yn,VV]
theorem RZ (e:CE) (K:CE→Z):ZQ e K=K e:=by
 cases e<;>simp only[ZQ,VV,Um,WK,rB RX]
theorem R0 (c:nh) (K:nh→Z):RG c K=K c:=by cases c<;>simp only[RG,RW,rB RZ]
theorem WL (e:TE) (K:TE→Z):fTE e K=K e:=by
 cases e<;>simp only[fTE,RW,rB R0,rB RX,rB Ky,RY]
theorem WM (b:OB) (K:OB→Z):fOB b K=K b:=by cases b;simp only[fOB,RW]
theorem R1 (v:TV) (K:TV→Z):WB v K=K v:=by
 cases v<;>simp only[WB,RH,Ky,rB Ky]
 rw[rB (fun a K=>by cases a;simp only[RH,rB Ky])]
theorem oC (st:TS) (K:TS→Z):Qv st K=K st:=by
 cases st;simp only[Qv]
 rw[rB (fun a K=>by cases a;simp only[WL]),rB (fun a K=>by cases a;simp only[rB RZ]),rB (fun a K=>by cases a;simp only[WM])]
end
theorem dR {R:Type} {cf cf':Cf} {lp lp':Lp} (hc: ∀f vs r fs,cf f vs r fs→cf' f vs r fs) (C0: ∀f i c st (Q Q':TX→TS→Prop),(∀x s,Q x s→Q' x s)→lp f i c st Q→lp' f i c st Q') {Q Q':R→Prop} (hQ: ∀r,Q r→Q' r):
 ∀(e:Ev R),e.holds cf lp Q→e.holds cf' lp' Q'
 | .fail,h=>h
 | .ret r,h=>hQ r h
 | .test b k,h=>dR hc C0 hQ (k b) h
 | .row rows i k,⟨c,h1,h2⟩=>⟨c,h1,dR hc C0 hQ (k c) h2⟩
 | .byte rows i k,⟨c,h1,h2⟩=>⟨c,h1,dR hc C0 hQ (k c) h2⟩
 | .bytes rows k,⟨c,h1,h2⟩=>⟨c,h1,dR hc C0 hQ (k c) h2⟩
 | .call f vs k,⟨r,fs,h1,h2⟩=>⟨r,fs,hc _ _ _ _ h1,dR hc C0 hQ (k r fs) h2⟩
 | .loop f i c st k,h=>C0 _ _ _ _ _ _ (fun x s hxs=>dR hc C0 hQ (k x s) hxs) h
 | .both a b,⟨r,h1,h2,h3⟩=>⟨r,dR hc C0 (fun _ h=>h) a h1,dR hc C0 (fun _ h=>h) b h2,hQ r h3⟩
section
variable {C : jC}
theorem zE {cf cf':Cf} {lp lp':Lp} (hc: ∀f vs r fs,cf f vs r fs→cf' f vs r fs) (C0: ∀f i c st (Q Q':TX→TS→Prop),(∀x s,Q x s→Q' x s)→lp f i c st Q→lp' f i c st Q')
 {fx:List Nat} {f i:Nat} {c:Code} {Q Q':TX→TS→Prop} (hQ: ∀x s,Q x s→Q' x s): ∀(n n':Nat),n≤n'→ ∀(st:TS),iter C cf lp fx f i c Q n st→iter C cf' lp' fx f i c Q' n' st
 |0,_,_,_,h=>h.elim
 |n+1,0,hn,_,_=>absurd hn ax
 |n+1,n'+1,hn,st,h=>by
  refine dR hc C0 (fun p hp=> ?_) _ h;obtain⟨x,s⟩:=p
  cases x with
  |norm=>
   simp only at hp ⊢;rw[oC] at hp ⊢;exact zE hc C0 hQ n n' ax _ hp
  |ex id=>exact hQ _ _ hp
  |ret=>exact hQ _ _ hp
theorem nr {cf cf':Cf} (hc: ∀f vs r fs,cf f vs r fs→cf' f vs r fs) {k k':Nat} (hk:k≤k') {fx:List Nat}: ∀(n:Nat) (f i:Nat) (c:Code) (st:TS) (Q Q':TX→TS→Prop),(∀x s,Q x s→Q' x s)→
 N4 C cf k fx n f i c st Q→N4 C cf' k' fx n f i c st Q'
 |0,_,_,_,_,_,_,_,h=>h.elim
 |n+1,f,i,c,st,Q,Q',hQ,h=>zE hc (nr hc hk n) hQ k k' hk st h
theorem yD: ∀(k:Nat) (f:FuncId) (vs:List TV) (r:TV) (fs:List TV),gh C k f vs r fs→gh C (k+1) f vs r fs
 |0,_,_,_,_,h=>h.elim
 |k+1,f,vs,r,fs,h=>by
  unfold gh at h ⊢
  cases hx:C.ext f with
  |some p=>rw[hx] at h;exact h
  |none=>rw[hx] at h;exact dR (yD k) (nr (yD k) (Nat.le_succ k) 4) (fun _ h=>h) _ h
theorem N5 {k:Nat} {f:FuncId} {vs:List TV} {r:TV} {fs:List TV} (hx:C.ext f=none) (h:(body C f vs).holds (gh C k) (N4 C (gh C k) k (Gy (C.sig f)) 4) fun p=>p=(r,fs)):gh C (k+1) f vs r fs:=by
 unfold gh;rw[hx];exact h
theorem Qw {k:Nat} {f:FuncId} {vs:List TV} {r:TV} {fs:List TV} {p:List TV→Option (TV×List TV)} (hx:C.ext f=some p) (h:p vs=some (r,fs)):gh C (k+1) f vs r fs:=by
 unfold gh;rw[hx];exact h
theorem j9 {k k':Nat} (hk:k≤k') {f:FuncId} {vs:List TV} {r:TV} {fs:List TV} (h:gh C k f vs r fs):gh C k' f vs r fs:=by
 induction hk with
 |refl=>exact h
 |step _ ih=>exact yD _ _ _ _ _ ih
def De (C:jC) (k:Nat) (fx:List Nat) (n:Nat) (f i:Nat) (c:Code) (m:Nat) (st:TS) (x:TX) (st':TS):Prop:=
 iter C (gh C k) (N4 C (gh C k) k fx n) fx f i c (fun x1 cG=>x1=x∧cG=st') m st
theorem De.ok {k:Nat} {fx:List Nat} {n f i:Nat} {c:Code} {m:Nat} {st:TS} {x:TX} {st':TS} (h:De C k fx n f i c m st x st') (hm:m≤k):(Qr.loop f i c st x st').ok (gh C k) (N4 C (gh C k) k fx (n+1)):=
 zE (fun _ _ _ _ h=>h) (nr (fun _ _ _ _ h=>h) (bI _) n) (fun _ _ h=>h) m k hm st h
end
end Go.T
namespace Go.T
def sW (rows:List (List TC)) (i f:Nat):Option TC:=(rows[i]?).bind fun r=>r[f]?
def ET:Value→Prop
 | .int _ _=>True
 | .bool _=>True
 | .string _=>True
 | .slice _ _ _=>True
 |_=>False
def Mode.nx:Mode→Mode
 | .deep=> .deep
 |_=> .snap
structure Yp (w:World) (R:Nat→Prop) (m:Mode) (S:Nat→Prop) (z:Nat) (rows:List (List TC)) (A:Option Addr) (c:Nat) (u:Nat→Nat→Value) (T:Nat→Nat→Nat→Prop):Prop where
 len:rows.length≤c
 cap:c≤maxLen
 z0:0<z
 width: ∀r∈rows,r.length=z
 addr:rows≠[]→ ∃ad,A=some ad
 cell: ∀ad,A=some ad→ ∀i f tc,sW rows i f=some tc→w.cell? (ad.add (i*z+f))=some (u i f)
 read:m= .snap→ ∀ad,A=some ad→rows≠[]→R ad.block
 own:m≠ .snap→(A=none→c=0)∧ ∀ad,A=some ad→S ad.block∧ad.spot=none∧
  ∀j,j<c*z→(∃x,w.cell? ⟨ad.block,ad.off+j,none⟩=some x)∧w.frozen? ⟨ad.block,ad.off+j,none⟩=false
 soft:m≠ .snap→1<z→ ∀ad,A=some ad→ ∀i,w.frozen? ⟨ad.block,i,none⟩=false
 lW:m= .deep→ ∀i f k,T i f k→S k∧(∀ad,A=some ad→k≠ad.block)∧ ∀i' f',T i' f' k→i'=i∧f'=f
inductive ai (w:World) (R:Nat→Prop):Mode→(Nat→Prop)→TC→Value→Prop
 |sc (m:Mode) (S:Nat→Prop) (v:Value) (h:ET v):ai w R m S (.sc v) v
 |sub (m:Mode) (S:Nat→Prop) (z:Nat) (rows:List (List TC)) (A:Option Addr) (c:Nat) (u:Nat→Nat→Value) (T:Nat→Nat→Nat→Prop)
   (h:Yp w R m S z rows A c u T) (hn: ∀i f tc,sW rows i f=some tc→ai w R m.nx (T i f) tc (u i f)):
   ai w R m S (.sub z rows) (.slice A rows.length c)
 |any (m:Mode) (S:Nat→Prop) (v:Value) (h:v.oneCell'=true∧v.cells= #[v]):ai w R m S .any v
variable {w w' : World} {R R' S S' : Nat → Prop} {m : Mode} {c : TC} {v : Value}
theorem Df {rows:List (List TC)} {i f:Nat} {tc:TC} (h:sW rows i f=some tc):rows≠[]:=by
 rintro rfl;simp[sW] at h
theorem dS {w w':World} {a:Addr} (h:w'.heap[a.block]?=w.heap[a.block]?):w'.cell? a=w.cell? a:=by
 unfold World.cell?;rw[h]
theorem je {w w':World} {a:Addr} (h:w'.heap[a.block]?=w.heap[a.block]?):w'.frozen? a=w.frozen? a:=by
 unfold World.frozen?;rw[h]
theorem bH (a:Addr) (n:Nat):(a.add n).block=a.block:=by unfold Addr.add;split<;>rfl
theorem ai.mono (h:ai w R m S c v) (hS: ∀k,S k→S' k):ai w R m S' c v:=by
 cases h with
 |any _ _ _ h=>exact .any _ _ _ h
 |sc _ _ _ h=>exact .sc _ _ _ h
 |sub _ _ z rows A c u T h hn=>
  refine .sub _ _ z rows A c u T {h with own:=fun hm=>⟨(h.own hm).1,fun ad ha=>⟨hS _ ((h.own hm).2 ad ha).1,((h.own hm).2 ad ha).2⟩⟩,lW:=fun hm i f k hk=>⟨hS _ (h.lW hm i f k hk).1,(h.lW hm i f k hk).2⟩} hn
theorem qJ {m:Mode} (h:m.nx≠ .snap):m= .deep:=by cases m<;>simp_all [Mode.nx]
theorem ai.move (h:ai w R m S c v):(∀k,R k→R' k∧w'.heap[k]?=w.heap[k]?)→(m≠ .snap→ ∀k,S k→w'.heap[k]?=w.heap[k]?)→ai w' R' m S c v:=by
 induction h with
 |any _ _ _ h=>exact fun _ _=> .any _ _ _ h
 |sc _ _ _ h=>exact fun _ _=> .sc _ _ _ h
 |sub m S z rows A c u T h hn ih=>
  intro hR hS;refine .sub _ _ z rows A c u T {h with cell:= ?_,read:= ?_,own:= ?_,soft:=fun hm h1 ad ha i=>by rw[je (w:=w) (a:=⟨ad.block,i,none⟩) (hS hm _ ((h.own hm).2 ad ha).1)];exact h.soft hm h1 ad ha i} fun i f tc ht=>ih i f tc ht hR fun hm k hk=> ?_
  ·intro ad ha i f tc ht
   rw[dS (w:=w)]
   ·exact h.cell ad ha i f tc ht
   ·rw[bH]
    by_cases hm:m= .snap
    ·exact(hR _ (h.read hm ad ha (Df ht))).2
    ·exact hS hm _ ((h.own hm).2 ad ha).1
  ·exact fun hm ad ha hne=>(hR _ (h.read hm ad ha hne)).1
  ·intro hm
   refine⟨(h.own hm).1,fun ad ha=>⟨((h.own hm).2 ad ha).1,((h.own hm).2 ad ha).2.1,fun j hj=> ?_⟩⟩;have hb:=hS hm _ ((h.own hm).2 ad ha).1;obtain⟨⟨x,hx⟩,hf⟩:=((h.own hm).2 ad ha).2.2 j hj;exact⟨⟨x,by rw[dS (w:=w) (by exact hb)];exact hx⟩,by rw[je (w:=w) (by exact hb)];exact hf⟩
  ·have:=qJ hm
   subst this;exact hS eO k (h.lW rfl i f k hk).1
theorem ai.freeze (h:ai w R m S c v):(∀k,R k→R' k)→(m≠ .snap→ ∀k,S k→R' k)→ai w R' .snap S' c v:=by
 induction h generalizing S' with
 |any _ _ _ h=>exact fun _ _=> .any _ _ _ h
 |sc _ _ _ h=>exact fun _ _=> .sc _ _ _ h
 |sub m S z rows A c u T h hn ih=>
  intro hR hS;refine .sub _ _ z rows A c u (fun _ _ _=>False) {h with read:= ?_,own:=fun hm=>absurd rfl hm,soft:=fun hm=>absurd rfl hm,lW:=fun hm=>by cases hm} fun i f tc ht=>ih i f tc ht hR fun hm k hk=> ?_
  ·intro _ ad ha hne
   by_cases hm:m= .snap
   ·exact hR _ (h.read hm ad ha hne)
   ·exact hS hm _ ((h.own hm).2 ad ha).1
  ·have:=qJ hm
   subst this;exact hS eO k (h.lW rfl i f k hk).1
theorem ai.mU (h:ai w R .snap S c v) (hR: ∀k,R k→R' k):ai w R' .snap S' c v:=h.freeze hR fun h=>absurd rfl h
end Go.T
namespace Go.T
theorem iz {o:Nat}: ∀{l:List Nat},jc o l=true↔o∈l
 |[]=>by simp[jc]
 |a::r=>by
  simp only[jc,cw]
  cases h:Nat.beq a o with
  |true=>simp[fk h]
  |false=>simp only[iz (l:=r)];have:=ov h;simp[Ne.symm this]
theorem cV {o:Nat} {l:List Nat}:jc o l=false↔o∉l:=by
 rw[←iz];simp
theorem vi {o d:Nat}: ∀{l:List Nat},d∈L8 o l↔d∈l∧d≠o
 |[]=>by simp[L8]
 |a::r=>by
  simp only[L8]
  cases h:Nat.beq a o with
  |true=>
   have h1:=fk h;subst h1;simp only[vi (l:=r),cw];exact⟨fun⟨x,y⟩=>⟨.inr x,y⟩,fun⟨x,y⟩=>⟨x.resolve_left y,y⟩⟩
  |false=>
   have h1:=ov h;simp only[cw,vi (l:=r)]
   constructor
   ·rintro(rfl|⟨x,y⟩)
    ·exact⟨.inl rfl,h1⟩
    ·exact⟨.inr x,y⟩
   ·rintro⟨rfl|x,y⟩
    ·exact .inl rfl
    ·exact .inr ⟨x,y⟩
theorem oc {a:List Nat} {l:List Nat} (h:qy a l=false) {x:Nat} (hx:x∈a):x∉l:=by
 induction a with
 |nil=>cases hx
 |cons y r ih=>
  simp only[qy] at h
  cases h1:jc y l with
  |true=>rw[h1] at h;cases h
  |false=>
   rw[h1] at h;rcases cw.1 hx with rfl|hx
   ·exact cV.1 h1
   ·exact ih h hx
theorem beq_false {a b:Nat} (h:a≠b):Nat.beq a b=false:=by
 cases h1:Nat.beq a b with
 |true=>exact absurd (fk h1) h
 |false=>rfl
theorem yE (a:Nat):Nat.beq a a=true:=by simp
section
variable {α β : Type}
theorem dD (i j:Nat) (e:α): ∀(l:List (Nat×α)),aa j (kX i e l)=if j=i then some e else aa j l
 |[]=>by
  simp only[kX,aa]
  by_cases h:j=i
  ·subst h;simp
  ·rw[beq_false (Ne.symm h),aF h]
 |(a,x)::r=>by
  have ih:=dD i j e r;simp only[kX]
  cases h1:Nat.beq a i with
  |true=>
   have h1:=fk h1;subst h1;simp only[aa]
   by_cases h:j=a
   ·subst h;simp
   ·rw[beq_false (Ne.symm h),aF h]
  |false=>
   have h1:=ov h1
   cases h2:Nat.ble i a with
   |true=>
    simp only[aa]
    by_cases h:j=i
    ·subst h;simp
    ·rw[beq_false (Ne.symm h),aF h]
   |false=>
    simp only[aa]
    by_cases h3:a=j
    ·subst h3;rw[yE,aF h1]
    ·rw[beq_false h3];exact ih
theorem fI (i j:Nat): ∀(l:List (Nat×α)),aa j (ni i l)=if j=i then none else aa j l
 |[]=>by simp[ni,aa]
 |(a,x)::r=>by
  have ih:=fI i j r;simp only[ni]
  cases h1:Nat.beq a i with
  |true=>
   have h1:=fk h1;subst h1;simp only[aa,ih]
   by_cases h:j=a
   ·simp[h]
   ·rw[beq_false (Ne.symm h)]
  |false=>
   have h1:=ov h1;simp only[aa]
   by_cases h3:a=j
   ·subst h3;rw[yE,aF h1]
   ·rw[beq_false h3];exact ih
theorem o9 (f:α→α) (j:Nat): ∀(l:List (Nat×α)),aa j (mapA f l)=(aa j l).map f
 |[]=>rfl
 |(a,x)::r=>by
  simp only[mapA,aa]
  cases Nat.beq a j with
  |true=>rfl
  |false=>exact o9 f j r
theorem GA (l:List Nat) (j:Nat): ∀(m:List (Nat×α)),aa j (wW l m)=if j∈l then aa j m else none
 |[]=>by simp[wW,aa]
 |(a,x)::r=>by
  have ih:=GA l j r;simp only[wW]
  cases h1:jc a l with
  |true=>
   have h1:=iz.1 h1;simp only[aa]
   by_cases h:a=j
   ·subst h;rw[yE,aP h1]
   ·rw[beq_false h];exact ih
  |false=>
   have h1:=cV.1 h1;simp only[aa,ih]
   by_cases h:a=j
   ·subst h;rw[aF h1,aF h1]
   ·rw[beq_false h]
end
structure Fp where
 I:Nat→Prop
 S:Nat→Nat→Prop
 V:Nat→Value
 β:Nat→Addr
def rd (φ:Fp) (ds:List Nat) (k:Nat):Prop:=φ.I k∨ ∃d,d∈ds∧φ.S d k
abbrev C2:Nat→Prop:=fun _=>False
def OB.m (b:OB):Mode:=if b.deep then .deep else .top
def kz (w:World) (φ:Fp) (o:Nat) (b:OB):Prop:=ai w φ.I b.m (φ.S o) (.sub b.z b.rows) (φ.V o)
def wX (z n:Nat) (l h:Int) (V v:Value):Prop:=
 0≤l∧l≤h∧h≤n∧ ∃A A' c,V= .slice A n c∧v= .slice A' (h.toNat-l.toNat) (c-l.toNat)∧(c≠l.toNat→A'=A.map fun a=>a.add (l.toNat*z))∧(A=none→A'=none)∧
  ∀ad,A=some ad→ ∃ad',A'=some ad'∧ad'.block=ad.block∧(ad.spot=none→ad'.spot=none)
def aA (ob:List (Nat×OB)) (d:Nat):Prop:= ∃b,aa d ob=some b
def Py (ob:List (Nat×OB)) (w:World) (φ:Fp) (z:Nat) (rows:List (List TC)) (v:Value) (o:Nat) (i:Int) (f:Nat):Prop:=
 ∃b,aa o ob=some b∧0≤i∧sW b.rows i.toNat f=some (.sub z rows)∧ ∃ad n c,φ.V o= .slice (some ad) n c∧w.cell? (ad.add (i.toNat*b.z+f))=some v
def cq (ob:List (Nat×OB)) (w:World) (φ:Fp) (e:CE) (v:Value):Prop:=
 match e with
 | .sc x=>v=x∧ET x
 | .nil z=>v= .slice none 0 0∧0<z
 | .ref o cut=> ∃b,aa o ob=some b∧match cut with
   |none=>v=φ.V o
   |some (l,h)=>wX b.z b.rows.length l h (φ.V o) v
 | .snap ds loc z rows=>(∀d∈ds,d=0∨aA ob d)∧ai w (rd φ ds) .snap C2 (.sub z rows) v∧ ∀o i f,loc=some (o,i,f)→o∈ds∧Py ob w φ z rows v o i f
 | .gone=>True
def jJ (ob:List (Nat×OB)) (w:World) (φ:Fp) (c:nh) (u:Value):Prop:=
 match c with
 | .mk true cs=> ∃xs:Array Value,u= .agg xs∧xs.size=cs.length∧ ∀(j:Nat) (e:CE),cs[j]?=some e→ ∃x,xs[j]?=some x∧x.cells= #[x]∧cq ob w φ e x
 | .mk false cs=> ∃e,cs=[e]∧u.cells= #[u]∧cq ob w φ e u
 | .ptr b=>u= .pointer (some (φ.β b))
def bP (ob:List (Nat×OB)) (w:World) (φ:Fp) (e:TE) (v:Value):Prop:=
 match e with
 | .dead=>True
 | .v true es=> ∃vs:Array Value,v= .tuple vs∧vs.size=es.length∧ ∀(k:Nat) (c:nh),es[k]?=some c→ ∃u,vs[k]?=some u∧jJ ob w φ c u
 | .v false es=> ∃c,es=[c]∧jJ ob w φ c v
 | .bp b off=>v= .pointer (some ((φ.β b).add off))
 | .ep ds cells=>(∀d∈ds,d=0∨aA ob d)∧ ∃ad,v= .pointer (some ad)∧(cells≠[]→rd φ ds ad.block)∧ ∀(j:Nat) (tc:TC),cells[j]?=some tc→ ∃u,w.cell? (ad.add j)=some u∧ai w (rd φ ds) .snap C2 tc u
 | .er o path i f=> ∃b,aa o ob=some b∧0≤i∧ ∃ad n c,φ.V o= .slice (some ad) n c∧match path with
   |none=>v= .pointer (some (ad.add (i.toNat*b.z+f)))
   |some (i0,f0)=>0≤i0∧ ∃z1 nE,sW b.rows i0.toNat f0=some (.sub z1 nE)∧ ∃ad1 n1 c1,w.cell? (ad.add (i0.toNat*b.z+f0))=some (.slice (some ad1) n1 c1)∧
    v= .pointer (some (ad1.add (i.toNat*z1+f)))
 | .fn f caps=>v= .func (.func f) #[] (caps.map fun b=>Value.pointer (some (φ.β b))).toArray
 | .kb b=>v= .bool b
structure BO (F:Nat→Prop) (w0 w:World):Prop where
 os:w.os=w0.os
 tape:w.tape=w0.tape
 output:w.output=w0.output
 size:w0.heap.size≤w.heap.size
 block: ∀k,k<w0.heap.size→ ¬F k→w.heap[k]?=w0.heap[k]?
structure Arg where
 all:Nat→Prop
 sh:Nat→Prop
structure Sep (F:Nat→Prop) (A:Arg) (w0 w:World) (φ:Fp) (bx:List (Nat×List CE)) (ob:List (Nat×OB)):Prop where
 arg:φ.S 0=A.all
 nz: ∀o,aA ob o→o≠0
 apart: ∀o o' k,aA ob o→aA ob o'→φ.S o k→φ.S o' k→o=o'
 read: ∀o k,aA ob o→φ.S o k→ ¬φ.I k
 fresh: ∀o k,aA ob o→φ.S o k→k<w.heap.size∧(w0.heap.size≤k∨F k)
 ro: ∀k,φ.I k→k<w.heap.size∧(w0.heap.size≤k∨F k∨A.sh k)
 kk: ∀k,A.all k→k<w0.heap.size∧ ¬F k
 box: ∀b cs,aa b bx=some cs→u0 b=true→ ¬φ.I (φ.β b).block∧(∀o,aA ob o→ ¬φ.S o (φ.β b).block)∧(w0.heap.size≤(φ.β b).block∨F (φ.β b).block)∧
  ∀b' cs',aa b' bx=some cs'→b'≠b→(φ.β b').block≠(φ.β b).block
 spot: ∀b cs,aa b bx=some cs→(u0 b=true→(φ.β b).spot=none)∧(φ.β b).block<w.heap.size∧(u0 b=false→A.all (φ.β b).block)
 soft: ∀b cs j,aa b bx=some cs→u0 b=true→j<cs.length→w.frozen? ((φ.β b).add j)=false
structure aH (F:Nat→Prop) (A:Arg) (w0:World) (φ:Fp) (st:TS) (tm:Array Value) (w:World):Prop where
 tmp: ∀i,bP st.ob w φ (st.get i) (tm.getD i undef)
 box: ∀b cs,aa b st.bx=some cs→ ∀(j:Nat) (e:CE),cs[j]?=some e→ ∃v,w.cell? ((φ.β b).add j)=some v∧v.cells= #[v]∧cq st.ob w φ e v
 obj: ∀o b,aa o st.ob=some b→kz w φ o b
 sep:Sep F A w0 w φ st.bx st.ob
 frm:BO F w0 w
def Rel (F:Nat→Prop) (A:Arg) (w0:World) (st:TS) (tm:Array Value) (w:World):Prop:= ∃φ,aH F A w0 φ st tm w
section
variable {ob zo : List (Nat × OB)} {w w' : World} {φ φ' : Fp} {f : CE → CE} {g : TE → TE}
def rC (f:CE→CE):nh→nh
 | .mk a cs=> .mk a (cs.map f)
 | .ptr b=> .ptr b
theorem qK (f:CE→CE): ∀(es:List nh) (k:Nat),(jd f es)[k]?=(es[k]?).map (rC f)
 |[],_=>by simp[jd]
 | .mk a cs::r,0=>by simp[jd,rC]
 | .ptr b::r,0=>by simp[jd,rC]
 | .mk a cs::r,k+1=>by simp[jd,qK f r k]
 | .ptr b::r,k+1=>by simp[jd,qK f r k]
theorem nF (f:CE→CE): ∀(es:List nh),(jd f es).length=es.length
 |[]=>rfl
 | .mk a cs::r=>by simp[jd,nF f r]
 | .ptr b::r=>by simp[jd,nF f r]
theorem jJ.AR (hβ:φ'.β=φ.β) (hc: ∀e v,cq ob w φ e v→cq zo w' φ' (f e) v) {c:nh} {u:Value} (h:jJ ob w φ c u):
 jJ zo w' φ' (rC f c) u:=by
 cases c with
 |ptr b=>simp only[jJ,rC] at h ⊢;rw[hβ];exact h
 |mk a cs=>
  cases a with
  |true=>
   obtain⟨xs,h1,h2,h3⟩:=h;refine⟨xs,h1,by simp[h2],fun j e he=> ?_⟩;rw[gY] at he
   cases h4:cs[j]? with
   |none=>rw[h4] at he;cases he
   |some e0=>
    rw[h4] at he;simp only[jB,aU] at he;subst he;obtain⟨x,hx,hx1,hok⟩:=h3 j e0 h4;exact⟨x,hx,hx1,hc _ _ hok⟩
  |false=>
   obtain⟨e,rfl,h2,h3⟩:=h;exact⟨f e,rfl,h2,hc _ _ h3⟩
theorem bP.AR (hβ:φ'.β=φ.β) (hc: ∀e v,cq ob w φ e v→cq zo w' φ' (f e) v) (ht: ∀e v,(∀t es,e≠ .v t es)→bP ob w φ e v→bP zo w' φ' (g e) v) {e:TE} {v:Value} (h:bP ob w φ e v):
 bP zo w' φ' (uE f g e) v:=by
 by_cases hv: ∃t es,e= .v t es
 ·obtain⟨tup,es,rfl⟩:=hv
  cases tup with
  |true=>
   obtain⟨vs,h1,h2,h3⟩:=h;refine⟨vs,h1,by rw[nF];exact h2,fun k c hk=> ?_⟩;rw[qK] at hk
   cases h4:es[k]? with
   |none=>rw[h4] at hk;cases hk
   |some c0=>
    rw[h4] at hk;simp only[jB,aU] at hk;obtain⟨u,hu,hok⟩:=h3 k c0 h4;exact⟨u,hu,by rw[←hk];exact hok.AR hβ hc⟩
  |false=>
   obtain⟨c,rfl,hok⟩:=h;refine⟨_,?_,hok.AR hβ hc⟩
   cases c<;>rfl
 ·have h1:uE f g e=g e:=by cases e<;>first|rfl|exact absurd ⟨_,_,rfl⟩ hv
  rw[h1];exact ht e v (fun t es he=>hv ⟨t,es,he⟩) h
end
theorem get_map (f:CE→CE) (g:TE→TE) (h:List (Nat×OB)→List (Nat×OB)) (hd:g .dead= .dead) (st:TS) (i:Nat):(sO f g h st).get i=uE f g (st.get i):=by
 unfold TS.get sO;simp only[o9]
 cases aa i st.tm with
 |none=>exact hd.symm
 |some e=>rfl
variable {F : Nat → Prop} {A : Arg} {w0 w w' : World} {φ φ' : Fp} {st st' : TS} {tm AK : Array Value}
theorem aH.AR (h:aH F A w0 φ st tm w) {f:CE→CE} {g:TE→TE} {k:List (Nat×OB)→List (Nat×OB)} (hd:g .dead= .dead) (hβ:φ'.β=φ.β)
 (hc: ∀e v,cq st.ob w φ e v→cq (k st.ob) w' φ' (f e) v) (ht: ∀e v,(∀t es,e≠ .v t es)→bP st.ob w φ e v→bP (k st.ob) w' φ' (g e) v)
 (hw: ∀b cs,aa b st.bx=some cs→ ∀j,j<cs.length→w'.cell? ((φ.β b).add j)=w.cell? ((φ.β b).add j))
 (ho: ∀o b,aa o (k st.ob)=some b→kz w' φ' o b) (hs:Sep F A w0 w' φ' (mapA (List.map f) st.bx) (k st.ob)) (hf:BO F w0 w'):aH F A w0 φ' (sO f g k st) tm w' where
 tmp i:=by rw[get_map f g k hd];exact(h.tmp i).AR hβ hc ht
 box b cs hb j e he:=by
  simp only[sO,o9] at hb
  cases h1:aa b st.bx with
  |none=>rw[h1] at hb;cases hb
  |some cs0=>
   rw[h1] at hb;simp only[jB,aU] at hb;subst hb;rw[gY] at he
   cases h2:cs0[j]? with
   |none=>rw[h2] at he;cases he
   |some e0=>
    rw[h2] at he;simp only[jB,aU] at he;subst he;obtain⟨v,hv,h1c,hok⟩:=h.box b cs0 h1 j e0 h2;refine⟨v,?_,h1c,hc _ _ hok⟩;rw[hβ,hw b cs0 h1 j (List.getElem?_eq_some_iff.1 h2).1];exact hv
 obj:=ho
 sep:=hs
 frm:=hf
theorem Sep.boxes {bx bx':List (Nat×List CE)} {ob:List (Nat×OB)} (h:Sep F A w0 w φ bx ob) (hb: ∀b cs',aa b bx'=some cs'→ ∃cs,aa b bx=some cs∧cs'.length=cs.length):Sep F A w0 w φ bx' ob where
 arg:=h.arg
 nz:=h.nz
 apart:=h.apart
 read:=h.read
 fresh:=h.fresh
 ro:=h.ro
 kk:=h.kk
 box b cs' hl hw:=by
  obtain⟨cs,h1,_⟩:=hb b cs' hl;obtain⟨a1,a2,a3,a4⟩:=h.box b cs h1 hw;refine⟨a1,a2,a3,fun b' LN hl' hne=> ?_⟩;obtain⟨cs2,h2,_⟩:=hb b' LN hl';exact a4 b' cs2 h2 hne
 spot b cs' hl:=by obtain⟨cs,h1,_⟩:=hb b cs' hl;exact h.spot b cs h1
 soft b cs' j hl hw hj:=by obtain⟨cs,h1,h2⟩:=hb b cs' hl;exact h.soft b cs j h1 hw ax
theorem eR (f:CE→CE) {bx:List (Nat×List CE)}: ∀b cs',aa b (mapA (List.map f) bx)=some cs'→ ∃cs,aa b bx=some cs∧cs'.length=cs.length:=by
 intro b cs' h;rw[o9] at h
 cases h1:aa b bx with
 |none=>rw[h1] at h;cases h
 |some cs=>
  rw[h1] at h;simp only[jB,aU] at h;exact⟨cs,rfl,by rw[←h];simp⟩
theorem Sep.lt {bx:List (Nat×List CE)} {ob:List (Nat×OB)} (h:Sep F A w0 w φ bx ob) (hs:w0.heap.size≤w.heap.size) {d:Nat} (hd:d=0∨aA ob d) {k:Nat} (hk:φ.S d k):k<w.heap.size:=by
 rcases hd with rfl|hd
 ·rw[h.arg] at hk;exact gu (h.kk k hk).1 hs
 ·exact(h.fresh d k hd hk).1
theorem Sep.WN {bx:List (Nat×List CE)} {ob:List (Nat×OB)} (h:Sep F A w0 w φ bx ob) (hs:w0.heap.size≤w.heap.size) {ds:List Nat} (hd: ∀d∈ds,d=0∨aA ob d) {k:Nat} (hk:rd φ ds k):k<w.heap.size:=by
 rcases hk with hk|⟨d,hm,hk⟩
 ·exact(h.ro k hk).1
 ·exact h.lt hs (hd d hm) hk
structure jE (w w':World):Prop where
 os:w'.os=w.os
 tape:w'.tape=w.tape
 output:w'.output=w.output
 size:w.heap.size≤w'.heap.size
 block: ∀k,k<w.heap.size→w'.heap[k]?=w.heap[k]?
theorem jE.refl (w:World):jE w w:=⟨rfl,rfl,rfl,bI _,fun _ _=>rfl⟩
theorem jE.alloc (w:World) (o:Obj):jE w (w.alloc o):=⟨rfl,rfl,rfl,by simp,fun k hk=>heap_alloc_old w o hk⟩
theorem jE.drew (w:World):jE w w.drew:=⟨rfl,rfl,rfl,bI _,fun _ _=>rfl⟩
theorem jE.trans {a b c:World} (h:jE a b) (k:jE b c):jE a c:=
 ⟨k.os.trans h.os,k.tape.trans h.tape,k.output.trans h.output,pY h.size k.size,fun i hi=>(k.block i (gu hi h.size)).trans (h.block i hi)⟩
theorem BO.BP (h:BO F w0 w) (g:jE w w'):BO F w0 w':=
 ⟨g.os.trans h.os,g.tape.trans h.tape,g.output.trans h.output,pY h.size g.size,fun k hk hf=>(g.block k (gu hk h.size)).trans (h.block k hk hf)⟩
theorem jE.cell (g:jE w w') {a:Addr} {v:Value} (h:w.cell? a=some v):w'.cell? a=some v:=by
 rw[dS (w:=w) (g.block _ (World.block_lt_of_cell? w a h))];exact h
theorem jE.BQ (g:jE w w') {a:Addr} (h:a.block<w.heap.size):w'.cell? a=w.cell? a:=dS (g.block _ h)
theorem cq.stay {ob:List (Nat×OB)} (hI: ∀k,φ.I k→w'.heap[k]?=w.heap[k]?) (hS: ∀d k,d=0∨aA ob d→φ.S d k→w'.heap[k]?=w.heap[k]?)
 (hV: ∀o,aA ob o→ ∀ad n c,φ.V o= .slice (some ad) n c→ ∀i v,w.cell? (ad.add i)=some v→w'.cell? (ad.add i)=some v) {e:CE} {v:Value} (h:cq ob w φ e v):cq ob w' φ e v:=by
 cases e with
 |snap ds loc z rows=>
  obtain⟨h1,h2,h3⟩:=h;refine⟨h1,h2.move (fun k hk=>⟨hk,?_⟩) (fun hm=>absurd rfl hm),fun o i f hl=>⟨(h3 o i f hl).1,?_⟩⟩
  ·rcases hk with hk|⟨d,hd,hk⟩
   ·exact hI k hk
   ·exact hS d k (h1 d hd) hk
  ·obtain⟨b,a1,a2,a3,ad,n,c,a4,a5⟩:=(h3 o i f hl).2
   exact⟨b,a1,a2,a3,ad,n,c,a4,hV o ⟨b,a1⟩ ad n c a4 _ _ a5⟩
 |_=>exact h
theorem bP.stay {ob:List (Nat×OB)} (hI: ∀k,φ.I k→w'.heap[k]?=w.heap[k]?) (hS: ∀d k,d=0∨aA ob d→φ.S d k→w'.heap[k]?=w.heap[k]?)
 (hV: ∀o,aA ob o→ ∀ad n c,φ.V o= .slice (some ad) n c→ ∀i v,w.cell? (ad.add i)=some v→w'.cell? (ad.add i)=some v)
 (hA: ∀ad v,w.cell? ad=some v→(∀k,ad.block=k→w'.heap[k]?=w.heap[k]?)→w'.cell? ad=some v) (hE: ∀ds cells v,bP ob w φ (.ep ds cells) v→bP ob w' φ (.ep ds cells) v) {e:TE} {v:Value} (hv: ∀t es,e≠ .v t es)
 (h:bP ob w φ e v):bP ob w' φ e v:=by
 cases e with
 |v t es=>exact absurd rfl (hv t es)
 |ep ds cells=>exact hE ds cells v h
 |er o path i f=>
  obtain⟨b,h1,h2,ad,n,c,h3,h4⟩:=h;refine⟨b,h1,h2,ad,n,c,h3,?_⟩
  cases path with
  |none=>exact h4
  |some q=>
   obtain⟨i0,f0⟩:=q;obtain⟨a1,z1,nE,a2,ad1,n1,c1,a3,a4⟩:=h4;exact⟨a1,z1,nE,a2,ad1,n1,c1,hV o ⟨b,h1⟩ ad n c h3 _ _ a3,a4⟩
 |_=>exact h
theorem rD (st:TS):sO id id id st=st:=by
 have h1: ∀(es:List nh),jd id es=es:=by
  intro es
  induction es with
  |nil=>rfl
  |cons c r ih=>cases c<;>simp[jd,ih]
 have h2: ∀e:TE,uE id id e=e:=by
  intro e;cases e<;>first|rfl|(simp only[uE,h1])
 have h3: ∀{α:Type} (f:α→α) (hf: ∀a,f a=a) (l:List (Nat×α)),mapA f l=l:=by
  intro α f hf l
  induction l with
  |nil=>rfl
  |cons a r ih=>obtain⟨j,x⟩:=a;simp only[mapA,hf,ih]
 unfold sO;rw[h3 _ h2,h3 _ (fun l=>List.map_id l)]
 rfl
theorem Sep.BP {bx:List (Nat×List CE)} {ob:List (Nat×OB)} (h:Sep F A w0 w φ bx ob) (g:jE w w'):Sep F A w0 w' φ bx ob where
 arg:=h.arg
 nz:=h.nz
 apart:=h.apart
 read:=h.read
 fresh o k ho hk:=⟨gu (h.fresh o k ho hk).1 g.size,(h.fresh o k ho hk).2⟩
 ro k hk:=⟨gu (h.ro k hk).1 g.size,(h.ro k hk).2⟩
 kk:=h.kk
 box:=h.box
 spot b cs hb:=⟨(h.spot b cs hb).1,gu (h.spot b cs hb).2.1 g.size,(h.spot b cs hb).2.2⟩
 soft b cs j hb hw hj:=by
  rw[je (w:=w) (g.block _ (by rw[bH];exact(h.spot b cs hb).2.1))];exact h.soft b cs j hb hw hj
theorem aH.BP (h:aH F A w0 φ st tm w) (g:jE w w'):aH F A w0 φ st tm w':=by
 have hI: ∀k,φ.I k→w'.heap[k]?=w.heap[k]?:=fun k hk=>g.block k (h.sep.ro k hk).1;have hS: ∀d k,d=0∨aA st.ob d→φ.S d k→w'.heap[k]?=w.heap[k]?:=fun d k hd hk=>g.block k (h.sep.lt h.frm.size hd hk)
 have hE: ∀ds cells v,bP st.ob w φ (.ep ds cells) v→bP st.ob w' φ (.ep ds cells) v:=by
  intro ds cells v ⟨h1,ad,h2,hr,h3⟩;refine⟨h1,ad,h2,hr,fun j tc hj=> ?_⟩;obtain⟨u,h4,h5⟩:=h3 j tc hj;exact⟨u,g.cell h4,h5.move (fun k hk=>⟨hk,g.block k (h.sep.WN h.frm.size h1 hk)⟩) (fun hm=>absurd rfl hm)⟩
 have:=h.AR (f:=id) (g:=id) (k:=id) (φ':=φ) (w':=w') rfl rfl (fun e v he=>he.stay hI hS (fun o ho ad n c hv i v hc=>g.cell hc))
  (fun e v hv he=>bP.stay hI hS (fun o ho ad n c hv i v hc=>g.cell hc) (fun ad v hc _=>g.cell hc) hE hv he)
  (fun b cs hb j hj=>g.BQ (by rw[bH];exact(h.sep.spot b cs hb).2.1))
  (fun o b hb=>(h.obj o b hb).move (fun k hk=>⟨hk,hI k hk⟩) (fun _ k hk=>hS o k (.inr ⟨b,hb⟩) hk))
  (by
    have h3:mapA (List.map (id:CE→CE)) st.bx=st.bx:=by
     have:=congrArg TS.bx (rD st);exact this
    rw[h3]
    exact h.sep.BP g) (h.frm.BP g)
 rw[rD] at this;exact this
end Go.T
namespace Go.T
variable {F : Nat → Prop} {A : Arg} {w0 w w' : World} {φ φ' : Fp} {st st' : TS} {tm AK : Array Value}
theorem getD_set_ne (tm:Array Value) (d i:Nat) (v x:Value) (h:i≠d):(tm.setIfInBounds d v).getD i x=tm.getD i x:=by
 simp only[qv,Jp];rw[aF fun h'=>h h'.symm]
theorem IA (tm:Array Value) (d:Nat) (v x:Value) (h:d<tm.size):(tm.setIfInBounds d v).getD d x=v:=by
 simp only[qv,Jp];simp[h]
theorem Kz (st:TS) (d i:Nat) (e:TE):(st.set d e).get i=if i=d then e else st.get i:=by
 unfold TS.get TS.set;simp only[dD]
 by_cases h:i=d
 ·simp[h]
 ·simp[h]
theorem aH.IB (h:aH F A w0 φ st tm w) {d:Nat} {e:TE} {v:Value} (hd:d<tm.size) (ht:bP st.ob w φ e v):aH F A w0 φ (st.set d e) (tm.setIfInBounds d v) w where
 tmp i:=by
  rw[Kz]
  by_cases hi:i=d
  ·subst hi;rw[aP rfl,IA _ _ _ _ hd];exact ht
  ·rw[aF hi,getD_set_ne _ _ _ _ _ hi];exact h.tmp i
 box:=h.box
 obj:=h.obj
 sep:=h.sep
 frm:=h.frm
theorem aH.Un (h:aH F A w0 φ st tm w) {d:Nat} {e:TE} (ht:bP st.ob w φ e (tm.getD d undef)):aH F A w0 φ (st.set d e) tm w where
 tmp i:=by
  rw[Kz]
  by_cases hi:i=d
  ·subst hi;rw[aP rfl];exact ht
  ·rw[aF hi];exact h.tmp i
 box:=h.box
 obj:=h.obj
 sep:=h.sep
 frm:=h.frm
theorem Sep.sub {bx:List (Nat×List CE)} {ob zo:List (Nat×OB)} (h:Sep F A w0 w φ bx ob) (hd: ∀o,aA zo o→aA ob o):Sep F A w0 w φ bx zo where
 arg:=h.arg
 nz o ho:=h.nz o (hd o ho)
 apart o o' k h1 h2:=h.apart o o' k (hd o h1) (hd o' h2)
 read o k ho:=h.read o k (hd o ho)
 fresh o k ho:=h.fresh o k (hd o ho)
 ro:=h.ro
 kk:=h.kk
 box b cs hb hw:=by
  obtain⟨a1,a2,a3,a4⟩:=h.box b cs hb hw;exact⟨a1,fun o ho=>a2 o (hd o ho),a3,a4⟩
 spot:=h.spot
 soft:=h.soft
theorem kN {o d:Nat} {ob:List (Nat×OB)}:aA (ni o ob) d↔d≠o∧aA ob d:=by
 unfold aA;rw[fI]
 by_cases h:d=o
 ·simp[h]
 ·simp[h]
theorem rE {o d:Nat} {ob:List (Nat×OB)} (h:d≠o):aa d (ni o ob)=aa d ob:=by rw[fI,aF h]
theorem cq.kill {o:Nat} {ob:List (Nat×OB)} {e:CE} {v:Value} (h:cq ob w φ e v):cq (ni o ob) w φ (Js o e) v:=by
 unfold Js
 cases hd:jc o (ee e) with
 |true=>trivial
 |false=>
  have hd:=cV.1 hd
  cases e with
  |ref p cut=>
   simp only[ee,jz] at hd;obtain⟨b,h1,h2⟩:=h;exact⟨b,by rw[rE (Ne.symm hd)];exact h1,h2⟩
  |snap ds loc z rows=>
   simp only[ee] at hd;obtain⟨h1,h2,h3⟩:=h;refine⟨fun d hm=> ?_,h2,fun p i f hl=> ?_⟩
   ·rcases h1 d hm with h|h
    ·exact .inl h
    ·exact .inr (kN.2 ⟨fun e=>hd (e▸hm),h⟩)
   ·obtain⟨a1,b,a2,a3⟩:=h3 p i f hl
    have hp:p≠o:=fun e=>by subst e;exact hd a1
    exact⟨a1,b,by rw[rE hp];exact a2,a3⟩
  |_=>exact h
theorem bP.kill {o:Nat} {ob:List (Nat×OB)} {e:TE} {v:Value} (hv: ∀t es,e≠ .v t es) (h:bP ob w φ e v):bP (ni o ob) w φ (Pp o e) v:=by
 cases e with
 |v t es=>exact absurd rfl (hv t es)
 |ep ds cells=>
  simp only[Pp]
  cases hd:jc o ds with
  |true=>trivial
  |false=>
   have hd:=cV.1 hd;obtain⟨h1,h2⟩:=h;refine⟨fun d hm=> ?_,h2⟩;rcases h1 d hm with h|h
   ·exact .inl h
   ·exact .inr (kN.2 ⟨fun e=>hd (e▸hm),h⟩)
 |er p path i f=>
  simp only[Pp]
  cases hd:Nat.beq p o with
  |true=>trivial
  |false=>
   have hd:=ov hd;obtain⟨b,h1,h2⟩:=h;exact⟨b,by rw[rE hd];exact h1,h2⟩
 |_=>exact h
theorem aH.ku (h:aH F A w0 φ st tm w) (o:Nat):aH F A w0 φ (ku o st) tm w:=by
 refine h.AR (φ':=φ) rfl rfl (fun e v he=>he.kill) (fun e v hv he=>he.kill hv) (fun _ _ _ _ _=>rfl) (fun p b hb=> ?_) ?_ h.frm
 ·rw[fI] at hb
  split at hb
  ·cases hb
  ·exact h.obj p b hb
 ·exact(h.sep.boxes (eR _)).sub fun d hd=>(kN.1 hd).2
theorem ig {o d:Nat}:aA (T.ku o st).ob d↔d≠o∧aA st.ob d:=kN
theorem Jw {o d:Nat} (h:d≠o):aa d (T.ku o st).ob=aa d st.ob:=rE h
def Fp.more (φ:Fp) (X:Nat→Prop):Fp:={φ with I:=fun k=>φ.I k∨X k}
theorem KA {X:Nat→Prop} {ds:List Nat} {k:Nat} (h:rd φ ds k):rd (φ.more X) ds k:=h.imp .inl id
theorem ai.mo {R R' S:Nat→Prop} {m:Mode} {c:TC} {v:Value} (h:ai w R m S c v) (hR: ∀k,R k→R' k):ai w R' m S c v:=
 h.move (fun k hk=>⟨hR k hk,rfl⟩) fun _ _ _=>rfl
theorem cq.more {X:Nat→Prop} {ob:List (Nat×OB)} {e:CE} {v:Value} (h:cq ob w φ e v):cq ob w (φ.more X) e v:=by
 cases e with
 |snap ds loc z rows=>
  obtain⟨h1,h2,h3⟩:=h;exact⟨h1,h2.mo fun k hk=>KA hk,h3⟩
 |_=>exact h
theorem bP.more {X:Nat→Prop} {ob:List (Nat×OB)} {e:TE} {v:Value} (hv: ∀t es,e≠ .v t es) (h:bP ob w φ e v):bP ob w (φ.more X) e v:=by
 cases e with
 |v t es=>exact absurd rfl (hv t es)
 |ep ds cells=>
  obtain⟨h1,ad,h2,hr,h3⟩:=h;refine⟨h1,ad,h2,fun hc=>KA (hr hc),fun j tc hj=> ?_⟩;obtain⟨u,h4,h5⟩:=h3 j tc hj;exact⟨u,h4,h5.mo fun k hk=>KA hk⟩
 |_=>exact h
theorem Dg (st:TS):mapA (List.map (id:CE→CE)) st.bx=st.bx:=congrArg TS.bx (rD st)
theorem aH.more (h:aH F A w0 φ st tm w) {X:Nat→Prop} (hX: ∀k,X k→k<w.heap.size∧(w0.heap.size≤k∨F k∨A.sh k)) (hS: ∀k o,X k→aA st.ob o→ ¬φ.S o k)
 (hB: ∀b cs,aa b st.bx=some cs→u0 b=true→ ¬X (φ.β b).block):aH F A w0 (φ.more X) st tm w:=by
 have:=h.AR (f:=id) (g:=id) (k:=id) (φ':=φ.more X) (w':=w) rfl rfl (fun e v he=>he.more) (fun e v hv he=>he.more hv) (fun _ _ _ _ _=>rfl)
  (fun o b hb=>(h.obj o b hb).mo fun k hk=> .inl hk)
  (by
    rw[Dg]
    exact {
     arg:=h.sep.arg,nz:=h.sep.nz,apart:=h.sep.apart,fresh:=h.sep.fresh,kk:=h.sep.kk,spot:=h.sep.spot,soft:=h.sep.soft
     read:=fun o k ho hk hI=>hI.elim (h.sep.read o k ho hk) fun hx=>hS k o hx ho hk
     ro:=fun k hk=>hk.elim (h.sep.ro k) (hX k)
     box:=fun b cs hb hw=>by
      obtain⟨a1,a2,a3,a4⟩:=h.sep.box b cs hb hw
      exact⟨fun hI=>hI.elim a1 (hB b cs hb hw),a2,a3,a4⟩}) h.frm
 rw[rD] at this;exact this
def Fp.add (φ:Fp) (o:Nat) (X:Nat→Prop) (v:Value):Fp:={φ with S:=fun d k=>if d=o then X k else φ.S d k,V:=fun d=>if d=o then v else φ.V d}
theorem KB {o:Nat} {X:Nat→Prop} {v:Value} {ds:List Nat} (hd:o∉ds) {k:Nat} (h:rd φ ds k):rd (φ.add o X v) ds k:=by
 rcases h with h|⟨d,hm,h⟩
 ·exact .inl h
 ·refine .inr ⟨d,hm,?_⟩
  show(if d=o then X k else φ.S d k)
  have hp:d≠o:=fun e=>by subst e;exact hd hm
  rw[aF hp];exact h
theorem qA {o d:Nat} {X:Nat→Prop} {v:Value} (h:d≠o) {k:Nat}:(φ.add o X v).S d k=φ.S d k:=aF h
theorem R2 {o d:Nat} {X:Nat→Prop} {v:Value} (h:d≠o):(φ.add o X v).V d=φ.V d:=aF h
theorem gv {o d:Nat} {b:OB} {ob:List (Nat×OB)}:aA (kX o b ob) d↔d=o∨aA ob d:=by
 unfold aA;rw[dD]
 by_cases h:d=o
 ·simp[h]
 ·simp[h]
theorem jf {o d:Nat} {b:OB} {ob:List (Nat×OB)} (h:d≠o):aa d (kX o b ob)=aa d ob:=by rw[dD,aF h]
theorem jw {o:Nat} {b:OB} {ob:List (Nat×OB)}:aa o (kX o b ob)=some b:=by rw[dD,aP rfl]
theorem cq.add {o:Nat} {b:OB} {X:Nat→Prop} {V:Value} {ob:List (Nat×OB)} (h0:o≠0) (hn: ¬aA ob o) {e:CE} {v:Value} (h:cq ob w φ e v):cq (kX o b ob) w (φ.add o X V) e v:=by
 cases e with
 |ref p cut=>
  obtain⟨b',h1,h2⟩:=h;have hp:p≠o:=fun e=>hn ⟨b',e▸h1⟩;refine⟨b',by rw[jf hp];exact h1,?_⟩;rw[R2 hp];exact h2
 |snap ds loc z rows=>
  obtain⟨h1,h2,h3⟩:=h;have hd:o∉ds:=fun hm=>(h1 o hm).elim h0 hn;refine⟨fun d hm=>(h1 d hm).imp id fun h=>gv.2 (.inr h),h2.mo fun k hk=>KB hd hk,fun p i f hl=>⟨(h3 p i f hl).1,?_⟩⟩;obtain⟨a1,b',a2,a3,a4,ad,n,c,a5,a6⟩:=h3 p i f hl;have hp:p≠o:=fun e=>hn ⟨b',e▸a2⟩;exact⟨b',by rw[jf hp];exact a2,a3,a4,ad,n,c,by rw[R2 hp];exact a5,a6⟩
 |_=>exact h
theorem bP.add {o:Nat} {b:OB} {X:Nat→Prop} {V:Value} {ob:List (Nat×OB)} (h0:o≠0) (hn: ¬aA ob o) {e:TE} {v:Value} (hv: ∀t es,e≠ .v t es) (h:bP ob w φ e v):
 bP (kX o b ob) w (φ.add o X V) e v:=by
 cases e with
 |v t es=>exact absurd rfl (hv t es)
 |ep ds cells=>
  obtain⟨h1,ad,h2,hr,h3⟩:=h;have hd:o∉ds:=fun hm=>(h1 o hm).elim h0 hn;refine⟨fun d hm=>(h1 d hm).imp id fun h=>gv.2 (.inr h),ad,h2,fun hc=>KB hd (hr hc),fun j tc hj=> ?_⟩;obtain⟨u,h4,h5⟩:=h3 j tc hj;exact⟨u,h4,h5.mo fun k hk=>KB hd hk⟩
 |er p path i f=>
  obtain⟨b',h1,h2,ad,n,c,h3,h4⟩:=h;have hp:p≠o:=fun e=>hn ⟨b',e▸h1⟩;exact⟨b',by rw[jf hp];exact h1,h2,ad,n,c,by rw[R2 hp];exact h3,h4⟩
 |_=>exact h
theorem Uo (st:TS) (o:Nat) (b:OB):st.Wz o b=sO id id (kX o b) st:=by
 have h:=rD st;unfold sO at h ⊢;have h1:=congrArg TS.tm h;have h2:=congrArg TS.bx h;simp only at h1 h2;rw[h1,h2];rfl
theorem aH.add (h:aH F A w0 φ st tm w) {o:Nat} {b:OB} {X:Nat→Prop} {v:Value} (h0:o≠0) (hn: ¬aA st.ob o) (hc:ai w φ.I b.m X (.sub b.z b.rows) v)
 (hX: ∀k,X k→k<w.heap.size∧(w0.heap.size≤k∨F k)) (hI: ∀k,X k→ ¬φ.I k) (hS: ∀k d,X k→aA st.ob d→ ¬φ.S d k)
 (hB: ∀b cs,aa b st.bx=some cs→u0 b=true→ ¬X (φ.β b).block):aH F A w0 (φ.add o X v) (st.Wz o b) tm w:=by
 rw[Uo];refine h.AR (φ':=φ.add o X v) (w':=w) rfl rfl (fun e u he=>he.add h0 hn) (fun e u hv he=>he.add h0 hn hv) (fun _ _ _ _ _=>rfl) (fun p b' hb=> ?_) ?_ h.frm
 ·unfold kz
  by_cases hp:p=o
  ·subst hp
   rw[jw] at hb
   cases hb
   show ai w φ.I b.m (fun k=>if p=p then X k else φ.S p k) (.sub b.z b.rows) (if p=p then v else φ.V p);simp only[if_true];exact hc
  ·rw[jf hp] at hb
   have:=h.obj p b' hb;unfold kz at this;show ai w φ.I b'.m (fun k=>if p=o then X k else φ.S p k) (.sub b'.z b'.rows) (if p=o then v else φ.V p);simp only[aF hp];exact this
 ·rw[Dg]
  exact {
   arg:=by
    show(fun k=>if 0=o then X k else φ.S 0 k)=A.all;simp only[aF (Ne.symm h0)];exact h.sep.arg
   nz:=fun d hd=>(gv.1 hd).elim (fun e=>e▸h0) (h.sep.nz d)
   apart:=fun d d' k h1 h2 h3 h4=>by
    by_cases e1:d=o
    ·by_cases e2:d'=o
     ·rw[e1,e2]
     ·subst e1
      rw[qA e2] at h4
      have h3:X k:=by have XC:(if d=d then X k else φ.S d k):=h3;simpa using XC
      exact absurd h4 (hS k d' h3 ((gv.1 h2).resolve_left e2))
    ·rw[qA e1] at h3
     by_cases e2:d'=o
     ·subst e2
      have h4:X k:=by have h4':(if d'=d' then X k else φ.S d' k):=h4;simpa using h4'
      exact absurd h3 (hS k d h4 ((gv.1 h1).resolve_left e1))
     ·rw[qA e2] at h4
      exact h.sep.apart d d' k ((gv.1 h1).resolve_left e1) ((gv.1 h2).resolve_left e2) h3 h4
   read:=fun d k hd hk=>by
    by_cases e1:d=o
    ·subst e1
     have hk:X k:=by have hk':(if d=d then X k else φ.S d k):=hk;simpa using hk'
     exact hI k hk
    ·rw[qA e1] at hk
     exact h.sep.read d k ((gv.1 hd).resolve_left e1) hk
   fresh:=fun d k hd hk=>by
    by_cases e1:d=o
    ·subst e1
     have hk:X k:=by have hk':(if d=d then X k else φ.S d k):=hk;simpa using hk'
     exact hX k hk
    ·rw[qA e1] at hk
     exact h.sep.fresh d k ((gv.1 hd).resolve_left e1) hk
   ro:=h.sep.ro
   kk:=h.sep.kk
   box:=fun b' cs hb hw=>by
    obtain⟨a1,a2,a3,a4⟩:=h.sep.box b' cs hb hw;refine⟨a1,fun d hd hk=> ?_,a3,a4⟩
    by_cases e1:d=o
    ·subst e1
     have hk:X (φ.β b').block:=by have hk':(if d=d then X (φ.β b').block else φ.S d (φ.β b').block):=hk;simpa using hk'
     exact hB b' cs hb hw hk
    ·rw[qA e1] at hk
     exact a2 d ((gv.1 hd).resolve_left e1) hk
   spot:=h.sep.spot
   soft:=h.sep.soft}
theorem aH.yw (h:aH F A w0 φ st tm w) {o:Nat} {b:OB} {X:Nat→Prop} {v:Value} (h0:o≠0) (hc:ai w φ.I b.m X (.sub b.z b.rows) v)
 (hX: ∀k,X k→k<w.heap.size∧(w0.heap.size≤k∨F k)) (hI: ∀k,X k→ ¬φ.I k) (hS: ∀k d,X k→d≠o→aA st.ob d→ ¬φ.S d k)
 (hB: ∀b cs,aa b st.bx=some cs→u0 b=true→ ¬X (φ.β b).block):aH F A w0 (φ.add o X v) (T.yw o b st) tm w:=
 (h.ku o).add h0 (fun hd=>(ig.1 hd).1 rfl) hc hX hI (fun k d hx hd=>hS k d hx (ig.1 hd).1 (ig.1 hd).2)
   fun b cs hb hw=>by
    obtain⟨cs0,h1,_⟩:=eR _ b cs hb;exact hB b cs0 h1 hw
end Go.T
namespace Go.T
variable {F : Nat → Prop} {A : Arg} {w0 w w' : World} {φ φ' : Fp} {st st' : TS} {tm AK : Array Value}
attribute [local semireducible] bg in
theorem v8 (rows:List (List TC)) (l h:Int):bg rows l h=(rows.take h.toNat).drop l.toNat:=rfl
theorem GB {rows:List (List TC)} {l h:Int} (h2:h≤rows.length):(bg rows l h).length=h.toNat-l.toNat:=by
 rw[v8,gf,dj]
 have:h.toNat≤rows.length:=by omega
 omega
theorem KC {rows:List (List TC)} {l h:Int} {i f:Nat} {tc:TC} (ht:sW (bg rows l h) i f=some tc):sW rows (i+l.toNat) f=some tc∧i+l.toNat<h.toNat:=by
 unfold sW at ht ⊢;rw[v8,lY,Bz] at ht
 by_cases hi:l.toNat+i<h.toNat
 ·rw[aP hi] at ht
  rw[Nat.add_comm];exact⟨ht,hi⟩
 ·rw[aF hi] at ht;cases ht
theorem yF {a:Addr} (n:Nat) (h:a.spot=none):(a.add n).spot=none:=by unfold Addr.add;split<;>simp[h]
theorem qL {a:Addr} (n:Nat) (h:a.spot=none):a.add n=⟨a.block,a.off+n,none⟩:=by
 unfold Addr.add;split
 ·subst n;cases a;simp_all
 ·rfl
theorem ai.cut {R S:Nat→Prop} {m:Mode} {z:Nat} {rows:List (List TC)} {V v:Value} {l h:Int} (k:ai w R m S (.sub z rows) V) (hc:wX z rows.length l h V v):
 ai w R m S (.sub z (bg rows l h)) v:=by
 cases k with
 |sub _ _ _ _ A c u T k hn=>
  obtain⟨h0,h1,h2,A1,A',c1,e1,rfl,e2,e3,e4⟩:=hc
  cases e1
  have hlen:=GB (rows:=rows) (l:=l) h2
  have hle:h.toNat≤rows.length:=by omega
  rw[←hlen];have hcl:=k.len
  have hne: ∀i f tc,sW (bg rows l h) i f=some tc→c≠l.toNat:=fun i f tc ht=>by
   have:=(KC ht).2;omega
  refine .sub _ _ _ _ A' (c-l.toNat) (fun i f=>u (i+l.toNat) f) (fun i f=>T (i+l.toNat) f) ?_ fun i f tc ht=>hn _ _ _ (KC ht).1
  have hb: ∀ad',A'=some ad'→ ∃ad,A=some ad∧ad'.block=ad.block∧(ad.spot=none→ad'.spot=none):=fun ad' ha=>by
   cases hA:A with
   |none=>rw[e3 hA] at ha;cases ha
   |some ad=>
    obtain⟨ad2,b1,b2,b3⟩:=e4 ad hA;rw[b1] at ha;cases ha;exact⟨ad,rfl,b2,b3⟩
  have hnm:rows=[]→bg rows l h=[]:=fun e=>by rw[v8,e];simp
  refine⟨by omega,pY (Nat.sub_le _ _) k.cap,k.z0,fun r hr=>k.width r ?_,fun hr=> ?_,fun ad' ha i f tc ht=> ?_,fun hm ad' ha hr=> ?_,fun hm=>⟨fun ha=> ?_,fun ad' ha=> ?_⟩,fun hm Rt ad' ha i=> ?_,fun hm i f q hq=> ?_⟩
  ·rw[v8] at hr
   exact sK (qx hr)
  ·obtain⟨ad,ha⟩:=k.addr fun e=>hr (hnm e)
   obtain⟨ad',b1,_⟩:=e4 ad ha;exact⟨ad',b1⟩
  ·obtain⟨ad,hA,_⟩:=hb ad' ha
   have:=e2 (hne i f tc ht);rw[hA] at this;simp only[jB] at this;rw[this] at ha
   cases ha
   rw[Addr.add_add];have:=k.cell ad hA _ _ _ (KC ht).1;rw[nc] at this;rw[show l.toNat*z+(i*z+f)=i*z+l.toNat*z+f by omega];exact this
  ·obtain⟨ad,hA,b1,_⟩:=hb ad' ha
   rw[b1];exact k.read hm ad hA fun e=>hr (hnm e)
  ·cases hA:A with
   |none=>rw[(k.own hm).1 hA];omega
   |some ad=>obtain⟨ad2,b1,_⟩:=e4 ad hA;rw[b1] at ha;cases ha
  ·obtain⟨ad,hA,b1,b2⟩:=hb ad' ha
   obtain⟨a1,a2,a3⟩:=(k.own hm).2 ad hA;refine⟨by rw[b1];exact a1,b2 a2,fun j hj=> ?_⟩
   have aaX:c≠l.toNat:=fun e=>by rw[e] at hj;simp at hj
   have:=e2 aaX;rw[hA] at this;simp only[jB] at this;rw[this] at ha
   cases ha
   rw[qL _ a2];simp only;rw[jA];refine a3 _ ?_
   have:l.toNat*z+(c-l.toNat)*z≤c*z:=by
    rw[←nc];exact jZ _ ax
   omega
  ·obtain⟨ad,hA,b1,b2⟩:=hb ad' ha
   rw[b1];exact k.soft hm Rt ad hA i
  ·obtain⟨a1,a2,a3⟩:=k.lW hm _ _ _ hq
   refine⟨a1,fun ad' ha=> ?_,fun i' f' Io=> ?_⟩
   ·obtain⟨ad,hA,b1,_⟩:=hb ad' ha
    rw[b1];exact a2 ad hA
   ·obtain⟨c1,c2⟩:=a3 _ _ Io
    exact⟨by omega,c2⟩
theorem kz.cut {o:Nat} {b:OB} (h:kz w φ o b) {cut:Option (Int×Int)} {v:Value} (hc:match(generalizing:=false) cut with|none=>v=φ.V o|some (l,h)=>wX b.z b.rows.length l h (φ.V o) v):
 ai w φ.I b.m (φ.S o) (.sub b.z (L9 cut b.rows)) v:=by
 cases cut with
 |none=>simp only at hc;rw[hc];exact h
 |some q=>obtain⟨l,h1⟩:=q;exact ai.cut h hc
theorem Qx {o:Nat} {l:Option (Nat×Int×Nat)} {p:Nat} {i:Int} {f:Nat} (h:WA o l=some (p,i,f)):l=some (p,i,f)∧p≠o:=by
 unfold WA at h
 cases l with
 |none=>cases h
 |some q=>
  obtain⟨a,b,c⟩:=q;simp only at h
  cases h1:Nat.beq a o with
  |true=>rw[h1] at h;cases h
  |false=>rw[h1] at h;cases h;exact⟨rfl,ov h1⟩
theorem N6 {o:Nat} {ds:List Nat} {k:Nat} (h:rd φ ds k):rd (φ.more (φ.S o)) (L8 o ds) k:=by
 rcases h with h|⟨d,hd,h⟩
 ·exact .inl (.inl h)
 ·by_cases e:d=o
  ·subst e;exact .inl (.inr h)
  ·exact .inr ⟨d,vi.2 ⟨hd,e⟩,h⟩
theorem cq.freeze {o:Nat} {b:OB} {ob:List (Nat×OB)} (hb:aa o ob=some b) (hO:kz w φ o b) {e:CE} {v:Value} (h:cq ob w φ e v):cq (ni o ob) w (φ.more (φ.S o)) (F6 o b e) v:=by
 cases e with
 |ref p cut=>
  obtain⟨b',h1,h2⟩:=h;simp only[F6]
  cases hd:Nat.beq p o with
  |true=>
   have:=fk hd;subst this;rw[hb] at h1;cases h1;refine And.intro (fun d hm=>by cases hm) (And.intro ?_ (fun _ _ _ hl=>by cases hl));exact(hO.cut h2).freeze (fun k hk=> .inl (.inl hk)) fun _ k hk=> .inl (.inr hk)
  |false=>
   have:=ov hd;exact⟨b',by rw[rE this];exact h1,h2⟩
 |snap ds loc z rows=>
  obtain⟨h1,h2,h3⟩:=h;refine⟨fun d hm=> ?_,h2.mo fun k hk=>N6 hk,fun p i f hl=> ?_⟩
  ·obtain⟨a1,a2⟩:=vi.1 hm
   exact(h1 d a1).imp id fun h=>kN.2 ⟨a2,h⟩
  ·obtain⟨a1,a2⟩:=Qx hl
   obtain⟨a3,b',a4,a5⟩:=h3 p i f a1;exact⟨vi.2 ⟨a3,a2⟩,b',by rw[rE a2];exact a4,a5⟩
 |_=>exact h
theorem bP.freeze {o:Nat} {ob:List (Nat×OB)} {e:TE} {v:Value} (hv: ∀t es,e≠ .v t es) (h:bP ob w φ e v):bP (ni o ob) w (φ.more (φ.S o)) (Kq o e) v:=by
 cases e with
 |v t es=>exact absurd rfl (hv t es)
 |ep ds cells=>
  obtain⟨h1,ad,h2,hr,h3⟩:=h;refine⟨fun d hm=> ?_,ad,h2,fun hc=>N6 (hr hc),fun j tc hj=> ?_⟩
  ·obtain⟨a1,a2⟩:=vi.1 hm
   exact(h1 d a1).imp id fun h=>kN.2 ⟨a2,h⟩
  ·obtain⟨u,h4,h5⟩:=h3 j tc hj
   exact⟨u,h4,h5.mo fun k hk=>N6 hk⟩
 |er p path i f=>
  simp only[Kq]
  cases hd:Nat.beq p o with
  |true=>trivial
  |false=>
   obtain⟨b,h1,h2⟩:=h;exact⟨b,by rw[rE (ov hd)];exact h1,h2⟩
 |_=>exact h
theorem aH.sP (h:aH F A w0 φ st tm w) (o:Nat): ∃φ',aH F A w0 φ' (sP st o) tm w∧φ'.β=φ.β∧φ'.V=φ.V∧φ'.S=φ.S∧ ∀k,φ'.I k↔φ.I k∨(aA st.ob o∧φ.S o k):=by
 unfold T.sP
 cases hb:aa o st.ob with
 |none=>exact⟨φ,h,rfl,rfl,rfl,fun k=>⟨.inl,fun hk=>hk.elim id fun⟨⟨b,hb'⟩,_⟩=>by rw[hb] at hb';cases hb'⟩⟩
 |some b=>
  refine⟨φ.more (φ.S o),h.AR (φ':=φ.more (φ.S o)) (w':=w) rfl rfl (fun e v he=>he.freeze hb (h.obj o b hb)) (fun e v hv he=>he.freeze hv) (fun _ _ _ _ _=>rfl) (fun p b' hp=> ?_) ?_ h.frm,rfl,rfl,rfl,fun k=>⟨fun hk=>hk.imp id fun hk=>⟨⟨b,hb⟩,hk⟩,fun hk=>hk.imp id fun hk=>hk.2⟩⟩
  ·rw[fI] at hp
   split at hp
   ·cases hp
   ·exact(h.obj p b' hp).mo fun k hk=> .inl hk
  ·have hs:=(h.sep.boxes (eR (F6 o b))).sub (zo:=ni o st.ob) fun d hd=>(kN.1 hd).2
   have hin:aA st.ob o:=⟨b,hb⟩
   exact {
    arg:=hs.arg,nz:=hs.nz,apart:=hs.apart,fresh:=hs.fresh,kk:=hs.kk,spot:=hs.spot,soft:=hs.soft
    read:=fun p k hp hk hI=>by
     obtain⟨a1,a2⟩:=kN.1 hp;rcases hI with hI|hI
     ·exact h.sep.read p k a2 hk hI
     ·exact a1 (h.sep.apart p o k a2 hin hk hI)
    ro:=fun k hk=>hk.elim (h.sep.ro k) fun hk=>⟨(h.sep.fresh o k hin hk).1,(h.sep.fresh o k hin hk).2.imp id .inl⟩
    box:=fun b' cs hb' hw=>by
     obtain⟨a1,a2,a3,a4⟩:=hs.box b' cs hb' hw;obtain⟨cs0,c1,_⟩:=eR _ b' cs hb'
     exact⟨fun hI=>hI.elim a1 ((h.sep.box b' cs0 c1 hw).2.1 o hin),a2,a3,a4⟩}
theorem aH.qi (h:aH F A w0 φ st tm w) {o:Nat} {b b':OB} {X:Nat→Prop} (hb:aa o st.ob=some b) (hz:b'.z=b.z) (hl:b'.rows.length=b.rows.length)
 (hc:ai w' φ.I b'.m X (.sub b'.z b'.rows) (φ.V o)) (hf:BO F w0 w') (hsz:w.heap.size≤w'.heap.size) (hw: ∀k,k<w.heap.size→ ¬φ.S o k→w'.heap[k]?=w.heap[k]?)
 (hX: ∀k,X k→k<w'.heap.size∧(w0.heap.size≤k∨F k)) (hI: ∀k,X k→ ¬φ.I k) (hS: ∀k d,X k→d≠o→aA st.ob d→ ¬φ.S d k)
 (hB: ∀b cs,aa b st.bx=some cs→u0 b=true→ ¬X (φ.β b).block):aH F A w0 (φ.add o X (φ.V o)) (qi o b' st) tm w':=by
 have hin:aA st.ob o:=⟨b,hb⟩;have h0:o≠0:=h.sep.nz o hin
 have hV:(φ.add o X (φ.V o)).V=φ.V:=by
  funext d
  show(if d=o then φ.V o else φ.V d)=φ.V d
  split
  ·subst_vars;rfl
  ·rfl
 have mS: ∀d,aA (kX o b' st.ob) d↔aA st.ob d:=fun d=>by
  rw[gv];exact⟨fun h=>h.elim (fun e=>e▸hin) id,.inr⟩
 have stI: ∀k,φ.I k→w'.heap[k]?=w.heap[k]?:=fun k hk=>hw k (h.sep.ro k hk).1 fun hs=>h.sep.read o k hin hs hk
 have stS: ∀d k,d≠o→d=0∨aA st.ob d→φ.S d k→w'.heap[k]?=w.heap[k]?:=fun d k hne hd hk=>hw k (h.sep.lt h.frm.size hd hk) fun hs=>by
  rcases hd with rfl|hd
  ·rw[h.sep.arg] at hk
   have:=h.sep.kk k hk;rcases (h.sep.fresh o k hin hs).2 with h3|h3
   ·omega
   ·exact this.2 h3
  ·exact hne (h.sep.apart d o k hd hin hk hs)
 have stR: ∀ds k,o∉ds→(∀d∈ds,d=0∨aA st.ob d)→rd φ ds k→rd (φ.add o X (φ.V o)) ds k∧w'.heap[k]?=w.heap[k]?:=fun ds k hn hd hk=>by
  refine⟨KB hn hk,?_⟩;rcases hk with hk|⟨d,hm,hk⟩
  ·exact stI k hk
  ·exact stS d k (fun e=>by subst e;exact hn hm) (hd d hm) hk
 have stV: ∀p b1 ad n c i f tc u,p≠o→aa p st.ob=some b1→φ.V p= .slice (some ad) n c→sW b1.rows i f=some tc→w.cell? (ad.add (i*b1.z+f))=some u→w'.cell? (ad.add (i*b1.z+f))=some u:=by
  intro p b1 ad n c i f tc u hne hp hv ht hcell;have hO:=h.obj p b1 hp;unfold kz at hO;rw[hv] at hO
  have hS:φ.S p ad.block:=by
   cases hO with
   |sub _ _ _ _ _ _ u T k hn=>exact(k.own (by unfold OB.m;split<;>simp)).2 ad rfl|>.1
  rw[dS (w:=w)]
  ·exact hcell
  ·rw[bH];exact stS p _ hne (.inr ⟨b1,hp⟩) hS
 have cbox: ∀p cs,aa p st.bx=some cs→w'.heap[(φ.β p).block]?=w.heap[(φ.β p).block]?:=fun p cs hp=>by
  obtain⟨a1,a2,a3⟩:=h.sep.spot p cs hp;refine hw _ a2 fun hs=> ?_
  cases Aj:u0 p with
  |true=>exact(h.sep.box p cs hp Aj).2.1 o hin hs
  |false=>
   have:=h.sep.kk _ (a3 Aj);rcases (h.sep.fresh o _ hin hs).2 with h3|h3
   ·omega
   ·exact this.2 h3
 refine h.AR (φ':=φ.add o X (φ.V o)) rfl rfl (fun e v he=> ?_) (fun e v hv he=> ?_) (fun p cs hp j hj=> ?_) (fun p b1 hp=> ?_) ?_ hf
 ·cases e with
  |ref p cut=>
   obtain⟨b1,h1,h2⟩:=he
   by_cases hp:p=o
   ·subst hp
    rw[hb] at h1;cases h1;refine⟨b',jw,?_⟩;rw[hV]
    cases cut with
    |none=>exact h2
    |some q=>obtain⟨l,r⟩:=q;simp only at h2 ⊢;rw[hz,hl];exact h2
   ·exact⟨b1,by rw[jf hp];exact h1,by rw[hV];exact h2⟩
  |snap ds loc z rows=>
   simp only[NW]
   cases hd:jc o ds with
   |true=>trivial
   |false=>
    have hd:=cV.1 hd;obtain⟨h1,h2,h3⟩:=he;refine⟨fun d hm=>(h1 d hm).imp id (mS d).2,h2.move (fun k hk=>stR ds k hd h1 hk) (fun hm=>absurd rfl hm),fun p i f hl=> ?_⟩;obtain⟨a1,b1,a2,a3,a4,ad,n,c,a5,a6⟩:=h3 p i f hl
    have hp:p≠o:=fun e=>by subst e;exact hd a1
    refine⟨a1,b1,by rw[jf hp];exact a2,a3,a4,ad,n,c,by rw[hV];exact a5,stV p b1 ad n c _ _ _ _ hp a2 a5 a4 a6⟩
  |_=>exact he
 ·cases e with
  |v t es=>exact absurd rfl (hv t es)
  |ep ds cells=>
   simp only[Ko]
   cases hd:jc o ds with
   |true=>trivial
   |false=>
    have hd:=cV.1 hd;obtain⟨h1,ad,h2,hr,h3⟩:=he;refine⟨fun d hm=>(h1 d hm).imp id (mS d).2,ad,h2,fun hc=>(stR ds _ hd h1 (hr hc)).1,fun j tc hj=> ?_⟩;obtain⟨u,h4,h5⟩:=h3 j tc hj
    have hc:cells≠[]:=fun e=>by rw[e] at hj;simp at hj
    exact⟨u,by rw[dS (w:=w) (by rw[bH];exact(stR ds _ hd h1 (hr hc)).2)];exact h4,h5.move (fun k hk=>stR ds k hd h1 hk) (fun hm=>absurd rfl hm)⟩
  |er p path i f=>
   obtain⟨b1,h1,h2,ad,n,c,h3,h4⟩:=he
   cases path with
   |none=>
    simp only[Ko]
    by_cases hp:p=o
    ·subst hp
     rw[hb] at h1;cases h1;exact⟨b',jw,h2,ad,n,c,by rw[hV];exact h3,by rw[hz];exact h4⟩
    ·exact⟨b1,by rw[jf hp];exact h1,h2,ad,n,c,by rw[hV];exact h3,h4⟩
   |some q=>
    obtain⟨i0,f0⟩:=q;simp only[Ko]
    cases hd:Nat.beq p o with
    |true=>trivial
    |false=>
     have hp:=ov hd;obtain⟨a1,z1,nE,a2,ad1,n1,c1,a3,a4⟩:=h4;exact⟨b1,by rw[jf hp];exact h1,h2,ad,n,c,by rw[hV];exact h3,a1,z1,nE,a2,ad1,n1,c1,stV p b1 ad n c _ _ _ _ hp h1 h3 a2 a3,a4⟩
  |_=>exact he
 ·exact dS (by rw[bH];exact cbox p cs hp)
 ·unfold kz
  by_cases LO:p=o
  ·subst LO
   rw[jw] at hp;cases hp;rw[hV];show ai w' φ.I b'.m (fun k=>if p=p then X k else φ.S p k) (.sub b'.z b'.rows) (φ.V p);simp only[if_true];exact hc
  ·rw[jf LO] at hp
   rw[hV];show ai w' φ.I b1.m (fun k=>if p=o then X k else φ.S p k) (.sub b1.z b1.rows) (φ.V p);simp only[aF LO];exact(h.obj p b1 hp).move (fun k hk=>⟨hk,stI k hk⟩) fun _ k hk=>stS p k LO (.inr ⟨b1,hp⟩) hk
 ·have hs:=h.sep.boxes (eR (NW o))
  have self: ∀k,(φ.add o X (φ.V o)).S o k→X k:=fun k hk=>by
   have hk':(if o=o then X k else φ.S o k):=hk;simpa using hk'
  exact {
   arg:=by
    show(fun k=>if 0=o then X k else φ.S 0 k)=A.all;simp only[aF (Ne.symm h0)];exact h.sep.arg
   nz:=fun d hd=>h.sep.nz d ((mS d).1 hd)
   apart:=fun d d' k h1 h2 h3 h4=>by
    have i1:=(mS d).1 h1;have i2:=(mS d').1 h2
    by_cases e1:d=o
    ·subst e1
     by_cases e2:d'=d
     ·exact e2.symm
     ·rw[qA e2] at h4;exact absurd h4 (hS k d' (self k h3) e2 i2)
    ·rw[qA e1] at h3
     by_cases e2:d'=o
     ·subst e2;exact absurd h3 (hS k d (self k h4) e1 i1)
     ·rw[qA e2] at h4;exact h.sep.apart d d' k i1 i2 h3 h4
   read:=fun d k hd hk=>by
    have hd:=(mS d).1 hd
    by_cases e1:d=o
    ·subst e1;exact hI k (self k hk)
    ·rw[qA e1] at hk;exact h.sep.read d k hd hk
   fresh:=fun d k hd hk=>by
    have hd:=(mS d).1 hd
    by_cases e1:d=o
    ·subst e1;exact hX k (self k hk)
    ·rw[qA e1] at hk
     exact⟨gu (h.sep.fresh d k hd hk).1 hsz,(h.sep.fresh d k hd hk).2⟩
   ro:=fun k hk=>⟨gu (h.sep.ro k hk).1 hsz,(h.sep.ro k hk).2⟩
   kk:=h.sep.kk
   box:=fun p cs hp Aj=>by
    obtain⟨cs0,c1,_⟩:=eR _ p cs hp;obtain⟨a1,a2,a3,a4⟩:=hs.box p cs hp Aj;refine⟨a1,fun d hd hk=> ?_,a3,a4⟩;have hd:=(mS d).1 hd
    by_cases e1:d=o
    ·subst e1;exact hB p cs0 c1 Aj (self _ hk)
    ·rw[qA e1] at hk;exact a2 d hd hk
   spot:=fun p cs hp=>⟨(hs.spot p cs hp).1,gu (hs.spot p cs hp).2.1 hsz,(hs.spot p cs hp).2.2⟩
   soft:=fun p cs j hp Aj hj=>by
    obtain⟨cs0,c1,c2⟩:=eR _ p cs hp;rw[je (w:=w) (by rw[bH];exact cbox p cs0 c1)]
    exact h.sep.soft p cs0 j c1 Aj ax}
end Go.T
namespace Go.T
variable {F : Nat → Prop} {A : Arg} {w0 w w' : World} {φ φ' : Fp} {st st' : TS} {tm AK : Array Value}
theorem aH.less (h:aH F A w0 φ st tm w) (ht: ∀i,st'.get i= .dead∨st'.get i=st.get i) (hb: ∀b cs,aa b st'.bx=some cs→aa b st.bx=some cs) (ho:st'.ob=st.ob):aH F A w0 φ st' tm w where
 tmp i:=by
  rw[ho];rcases ht i with h1|h1
  ·rw[h1];trivial
  ·rw[h1];exact h.tmp i
 box b cs h1:=by rw[ho];exact h.box b cs (hb b cs h1)
 obj:=by rw[ho];exact h.obj
 sep:=by rw[ho];exact h.sep.boxes fun b cs h1=>⟨cs,hb b cs h1,rfl⟩
 frm:=h.frm
theorem Mi (st:TS) (l:List Nat) (bx:List (Nat×List CE)) (ob:List (Nat×OB)) (i:Nat):(⟨wW l st.tm,bx,ob⟩:TS).get i= .dead∨(⟨wW l st.tm,bx,ob⟩:TS).get i=st.get i:=by
 unfold TS.get;simp only[GA]
 by_cases h:i∈l
 ·right;rw[aP h]
 ·left;rw[aF h]
theorem aH.keep (h:aH F A w0 φ st tm w) (l:List Nat):aH F A w0 φ ⟨wW l st.tm,st.bx,st.ob⟩ tm w:=
 h.less (Mi st l st.bx st.ob) (fun _ _ h=>h) rfl
theorem GC (l:List Nat) (j:Nat): ∀(m:List (Nat×List CE)) (cs:List CE),aa j (sV l m)=some cs→aa j m=some cs
 |[],cs,h=>by simp[sV,aa] at h
 |(a,x)::r,cs,h=>by
  have ih:=GC l j r cs
  have key:aa j ((a,x)::sV l r)=some cs→aa j ((a,x)::r)=some cs:=fun h=>by
   simp only[aa] at h ⊢
   cases h1:Nat.beq a j with
   |true=>rw[h1] at h;exact h
   |false=>rw[h1] at h;exact ih h
  have skip:(100000≤a→False)→a∉l→aa j (sV l r)=some cs→aa j ((a,x)::r)=some cs:=fun h1 h2 h=>by
   simp only[aa]
   cases h3:Nat.beq a j with
   |false=>exact ih h
   |true=>
    exfalso
    have h3:=fk h3;subst h3
    have: ∀(m:List (Nat×List CE)),aa a (sV l m)=none:=by
     intro m
     induction m with
     |nil=>rfl
     |cons p r ih=>
      obtain⟨c,y⟩:=p;simp only[sV]
      have hk: ∀(hc:c≠a),aa a ((c,y)::sV l r)=none:=fun hc=>by
       simp only[aa,beq_false hc];exact ih
      split
      ·rename_i h4
       exact hk fun e=>h1 (by subst e;exact ou h4)
      ·split
       ·rename_i h5
        exact hk fun e=>h2 (by subst e;exact iz.1 h5)
       ·exact ih
    rw[this] at h;cases h
  simp only[sV] at h
  split at h
  ·exact key h
  ·rename_i h4
   split at h
   ·exact key h
   ·rename_i h5
    exact skip (fun h6=>by rw[Gq h6] at h4;cases h4) (cV.1 h5) h
theorem aH.Yq (h:aH F A w0 φ st tm w) (l:List Nat):aH F A w0 φ ⟨wW l st.tm,sV l st.bx,st.ob⟩ tm w:=
 h.less (Mi st l (sV l st.bx) st.ob) (fun b cs hb=>GC l b st.bx cs hb) rfl
theorem Qy {b:Nat} {ob:List (Nat×OB)} {β:Nat→Addr} (hβ: ∀c,c≠b→β c=φ.β c) {e:TE} {v:Value} (hn:Gt b e=false) (h:bP ob w φ e v):bP ob w {φ with β:=β} e v:=by
 have Wd: ∀(c:nh) (u:Value),VR b c=false→jJ ob w φ c u→jJ ob w {φ with β:=β} c u:=by
  intro c u hc h
  cases c with
  |ptr c=>
   simp only[jJ] at h ⊢;rw[hβ c (ov hc)];exact h
  |mk a cs=>cases a<;>exact h
 cases e with
 |v t es=>
  simp only[Gt,List.any_eq_false] at hn
  cases t with
  |true=>
   obtain⟨vs,h1,h2,h3⟩:=h;refine⟨vs,h1,h2,fun k c hk=> ?_⟩;obtain⟨u,h4,h5⟩:=h3 k c hk;exact⟨u,h4,Wd c u (by simpa using hn c (fC hk)) h5⟩
  |false=>
   obtain⟨c,rfl,h3⟩:=h;exact⟨c,rfl,Wd c v (by simpa using hn c eO) h3⟩
 |bp c off=>
  simp only[bP] at h ⊢;rw[hβ c (ov hn)];exact h
 |fn f caps=>
  simp only[bP] at h ⊢;rw[h];have hn:=cV.1 hn
  congr 2
  refine List.map_congr_left fun c hc=> ?_;rw[hβ c fun e=>by subst e;exact hn hc]
 |_=>exact h
theorem Jx (b:Nat) (st:TS) (i:Nat):(Jt b st).get i=if Gt b (st.get i)=true then .dead else st.get i:=by
 unfold TS.get Jt;simp only[o9]
 cases aa i st.tm with
 |none=>simp
 |some e=>
  simp only[jB]
  cases Gt b e<;>simp
theorem aH.Jt (h:aH F A w0 φ st tm w) (b:Nat):aH F A w0 φ (Jt b st) tm w:=by
 refine h.less (fun i=> ?_) (fun c cs hc=> ?_) rfl
 ·rw[Jx];split<;>simp
 ·have:aa c (ni b st.bx)=some cs:=hc
  rw[fI] at this
  split at this
  ·cases this
  ·exact this
def Fp.box (φ:Fp) (b:Nat) (ad:Addr):Fp:={φ with β:=fun c=>if c=b then ad else φ.β c}
theorem rF {b:Nat} {ad:Addr}:(φ.box b ad).β b=ad:=aP rfl
theorem kZ {b c:Nat} {ad:Addr} (h:c≠b):(φ.box b ad).β c=φ.β c:=aF h
theorem aH.C6 (h:aH F A w0 φ st tm w) {b:Nat} {cs:List CE} {ad:Addr} (hw:u0 b=true) (hs:ad.spot=none) (hlt:ad.block<w.heap.size) (hS: ∀o,aA st.ob o→ ¬φ.S o ad.block)
 (hI: ¬φ.I ad.block) (hF:w0.heap.size≤ad.block∨F ad.block) (hB: ∀b' cs',aa b' st.bx=some cs'→b'≠b→(φ.β b').block≠ad.block)
 (hc: ∀(j:Nat) (e:CE),cs[j]?=some e→ ∃v,w.cell? (ad.add j)=some v∧v.cells= #[v]∧cq st.ob w φ e v) (hf: ∀j,j<cs.length→w.frozen? (ad.add j)=false):aH F A w0 (φ.box b ad) (C6 b cs st) tm w:=by
 have sv: ∀c,aa c (T.C6 b cs st).bx=if c=b then some cs else aa c st.bx:=fun c=>by
  show aa c (kX b cs (ni b st.bx))=_;rw[dD,fI]
  by_cases hc:c=b<;>simp[hc]
 refine⟨fun i=> ?_,fun c cs' sC j e he=> ?_,h.obj,?_,h.frm⟩
 ·show bP st.ob w (φ.box b ad) ((T.Jt b st).get i) (tm.getD i undef)
  rw[Jx]
  split
  ·trivial
  ·rename_i hn
   exact Qy (fun c hc=>kZ hc) (by simpa using hn) (h.tmp i)
 ·rw[sv] at sC
  by_cases hcb:c=b
  ·subst hcb
   rw[aP rfl] at sC;cases sC;rw[rF];exact hc j e he
  ·rw[aF hcb] at sC
   rw[kZ hcb];exact h.box c cs' sC j e he
 ·exact {
   arg:=h.sep.arg,nz:=h.sep.nz,apart:=h.sep.apart,read:=h.sep.read,fresh:=h.sep.fresh,ro:=h.sep.ro,kk:=h.sep.kk
   box:=fun c cs' sC VE=>by
    rw[sv] at sC
    by_cases hcb:c=b
    ·subst hcb
     rw[rF];refine⟨hI,hS,hF,fun b' LN hb' hne=> ?_⟩;rw[sv,aF hne] at hb';rw[kZ hne];exact hB b' LN hb' hne
    ·rw[aF hcb] at sC
     rw[kZ hcb];obtain⟨a1,a2,a3,a4⟩:=h.sep.box c cs' sC VE;refine⟨a1,a2,a3,fun b' LN hb' hne=> ?_⟩;rw[sv] at hb'
     by_cases hb2:b'=b
     ·subst hb2
      rw[rF];exact fun e=>hB c cs' sC hcb e.symm
     ·rw[aF hb2] at hb'
      rw[kZ hb2];exact a4 b' LN hb' hne
   spot:=fun c cs' sC=>by
    rw[sv] at sC
    by_cases hcb:c=b
    ·subst hcb
     rw[rF];exact⟨fun _=>hs,hlt,fun e=>by rw[hw] at e;cases e⟩
    ·rw[aF hcb] at sC
     rw[kZ hcb];exact h.sep.spot c cs' sC
   soft:=fun c cs' j sC VE hj=>by
    rw[sv] at sC
    by_cases hcb:c=b
    ·subst hcb
     rw[aP rfl] at sC;cases sC;rw[rF];exact hf j hj
    ·rw[aF hcb] at sC
     rw[kZ hcb];exact h.sep.soft c cs' j sC VE hj}
theorem aH.C5 (h:aH F A w0 φ st tm w) {b:Nat} {cs old:List CE} (hb:aa b st.bx=some old) (Aj:u0 b=true) (hl:cs.length=old.length) (hf:BO F w0 w') (hsz:w.heap.size≤w'.heap.size)
 (hw: ∀k,k<w.heap.size→k≠(φ.β b).block→w'.heap[k]?=w.heap[k]?) (hfz: ∀j,j<cs.length→w'.frozen? ((φ.β b).add j)=false)
 (hc: ∀(j:Nat) (e:CE),cs[j]?=some e→ ∃v,w'.cell? ((φ.β b).add j)=some v∧v.cells= #[v]∧cq st.ob w φ e v):aH F A w0 φ (st.C5 b cs) tm w':=by
 obtain⟨b1,b2,b3,b4⟩:=h.sep.box b old hb Aj;have stI: ∀k,φ.I k→w'.heap[k]?=w.heap[k]?:=fun k hk=>hw k (h.sep.ro k hk).1 fun e=>b1 (e▸hk)
 have nA: ∀k,A.all k→k≠(φ.β b).block:=fun k hk e=>by
  subst e;have:=h.sep.kk _ hk;rcases b3 with b3|b3
  ·omega
  ·exact this.2 b3
 have stS: ∀d k,d=0∨aA st.ob d→φ.S d k→w'.heap[k]?=w.heap[k]?:=fun d k hd hk=>hw k (h.sep.lt h.frm.size hd hk) fun e=>by
  subst e;rcases hd with rfl|hd
  ·rw[h.sep.arg] at hk;exact nA _ hk rfl
  ·exact b2 d hd hk
 have own: ∀o ad n c,aA st.ob o→φ.V o= .slice (some ad) n c→φ.S o ad.block:=fun o ad n c ⟨bo,ho⟩ hv=>by
  have hO:=h.obj o bo ho;unfold kz at hO;rw[hv] at hO
  cases hO with
  |sub _ _ _ _ _ _ u T k hn=>exact(k.own (by unfold OB.m;split<;>simp)).2 ad rfl|>.1
 have hV: ∀o,aA st.ob o→ ∀ad n c,φ.V o= .slice (some ad) n c→ ∀i v,w.cell? (ad.add i)=some v→w'.cell? (ad.add i)=some v:=fun o ho ad n c hv i v hcell=>by
  rw[dS (w:=w)]
  ·exact hcell
  ·rw[bH];exact stS o _ (.inr ho) (own o ad n c ho hv)
 have hCE: ∀e v,cq st.ob w φ e v→cq st.ob w' φ e v:=fun e v he=>he.stay stI stS hV
 have hE: ∀ds cells v,bP st.ob w φ (.ep ds cells) v→bP st.ob w' φ (.ep ds cells) v:=by
  intro ds cells v ⟨h1,ad,h2,hr,h3⟩;refine⟨h1,ad,h2,hr,fun j tc hj=> ?_⟩;obtain⟨u,h4,h5⟩:=h3 j tc hj
  have hcn:cells≠[]:=fun e=>by rw[e] at hj;simp at hj
  have stR: ∀k,rd φ ds k→w'.heap[k]?=w.heap[k]?:=fun k hk=>by
   rcases hk with hk|⟨d,hm,hk⟩
   ·exact stI k hk
   ·exact stS d k (h1 d hm) hk
  exact⟨u,by rw[dS (w:=w) (by rw[bH];exact stR _ (hr hcn))];exact h4,h5.move (fun k hk=>⟨hk,stR k hk⟩) (fun hm=>absurd rfl hm)⟩
 have hT: ∀e v,bP st.ob w φ e v→bP st.ob w' φ e v:=fun e v he=>by
  have:=bP.AR (f:=id) (g:=id) rfl hCE (fun e v hv he=>bP.stay stI stS hV (fun ad v hc hk=>by rw[dS (w:=w) (hk _ rfl)];exact hc) hE hv he) he
  have hid:uE id id e=e:=by
   have h1:=congrArg TS.tm (rD ⟨[(0,e)],[],[]⟩);simpa [sO,mapA] using h1
  rw[hid] at this;exact this
 have sv: ∀c,aa c (st.C5 b cs).bx=if c=b then some cs else aa c st.bx:=fun c=>dD _ _ _ _
 have obox: ∀c cs',aa c st.bx=some cs'→c≠b→w'.heap[(φ.β c).block]?=w.heap[(φ.β c).block]?:=fun c cs' sC hne=>hw _ (h.sep.spot c cs' sC).2.1 (b4 c cs' sC hne);refine⟨fun i=>hT _ _ (h.tmp i),fun c cs' sC j e he=> ?_,fun o bo ho=> ?_,?_,hf⟩
 ·rw[sv] at sC
  by_cases hcb:c=b
  ·subst hcb
   rw[aP rfl] at sC;cases sC;obtain⟨v,h1,h3,h2⟩:=hc j e he;exact⟨v,h1,h3,hCE _ _ h2⟩
  ·rw[aF hcb] at sC
   obtain⟨v,h1,h3,h2⟩:=h.box c cs' sC j e he;exact⟨v,by rw[dS (w:=w) (by rw[bH];exact obox c cs' sC hcb)];exact h1,h3,hCE _ _ h2⟩
 ·exact(h.obj o bo ho).move (fun k hk=>⟨hk,stI k hk⟩) fun _ k hk=>stS o k (.inr ⟨bo,ho⟩) hk
 ·have len: ∀c cs',aa c (st.C5 b cs).bx=some cs'→ ∃cs0,aa c st.bx=some cs0∧cs'.length=cs0.length:=fun c cs' sC=>by
   rw[sv] at sC
   by_cases hcb:c=b
   ·subst hcb
    rw[aP rfl] at sC;cases sC;exact⟨old,hb,hl⟩
   ·rw[aF hcb] at sC;exact⟨cs',sC,rfl⟩
  have hs:=h.sep.boxes len
  exact {
   arg:=hs.arg,nz:=hs.nz,apart:=hs.apart,read:=hs.read,kk:=hs.kk,box:=hs.box
   fresh:=fun o k ho hk=>⟨gu (hs.fresh o k ho hk).1 hsz,(hs.fresh o k ho hk).2⟩
   ro:=fun k hk=>⟨gu (hs.ro k hk).1 hsz,(hs.ro k hk).2⟩
   spot:=fun c cs' sC=>⟨(hs.spot c cs' sC).1,gu (hs.spot c cs' sC).2.1 hsz,(hs.spot c cs' sC).2.2⟩
   soft:=fun c cs' j sC VE hj=>by
    obtain⟨cs0,c1,c2⟩:=len c cs' sC
    by_cases hcb:c=b
    ·subst hcb
     rw[sv,aP rfl] at sC;cases sC;exact hfz j hj
    ·rw[je (w:=w) (by rw[bH];exact obox c cs0 c1 hcb)]
     exact h.sep.soft c cs0 j c1 VE ax}
end Go.T
namespace Go.T
variable {F : Nat → Prop} {A : Arg} {w0 w w' : World} {φ φ' : Fp} {st st' : TS} {tm AK : Array Value}
structure Ext (ob zo:List (Nat×OB)) (φ φ':Fp):Prop where
 look: ∀d b,aa d ob=some b→aa d zo=some b
 I:φ'.I=φ.I
 β:φ'.β=φ.β
 S: ∀d,d=0∨aA ob d→φ'.S d=φ.S d
 V: ∀d,aA ob d→φ'.V d=φ.V d
section
variable {ob zo : List (Nat × OB)}
theorem Ext.dom (x:Ext ob zo φ φ') {d:Nat} (h:aA ob d):aA zo d:=let ⟨b,h⟩:=h;⟨b,x.look d b h⟩
theorem Ext.rd (x:Ext ob zo φ φ') {ds:List Nat} (hd: ∀d∈ds,d=0∨aA ob d) {k:Nat} (h:T.rd φ ds k):T.rd φ' ds k:=by
 rcases h with h|⟨d,hm,h⟩
 ·exact .inl (by rw[x.I];exact h)
 ·exact .inr ⟨d,hm,by rw[x.S d (hd d hm)];exact h⟩
theorem cq.ext (x:Ext ob zo φ φ') {e:CE} {v:Value} (h:cq ob w φ e v):cq zo w φ' e v:=by
 cases e with
 |ref o cut=>
  obtain⟨b,h1,h2⟩:=h;exact⟨b,x.look o b h1,by rw[x.V o ⟨b,h1⟩];exact h2⟩
 |snap ds loc z rows=>
  obtain⟨h1,h2,h3⟩:=h;refine⟨fun d hm=>(h1 d hm).imp id x.dom,h2.mo fun k hk=>x.rd h1 hk,fun o i f hl=> ?_⟩;obtain⟨a1,b,a2,a3,a4,ad,n,c,a5,a6⟩:=h3 o i f hl;exact⟨a1,b,x.look o b a2,a3,a4,ad,n,c,by rw[x.V o ⟨b,a2⟩];exact a5,a6⟩
 |_=>exact h
theorem jJ.ext (x:Ext ob zo φ φ') {c:nh} {v:Value} (h:jJ ob w φ c v):jJ zo w φ' c v:=by
 cases c with
 |ptr b=>simp only[jJ] at h ⊢;rw[x.β];exact h
 |mk a cs=>
  cases a with
  |true=>obtain⟨xs,h1,h2,h3⟩:=h;exact⟨xs,h1,h2,fun j e he=>let ⟨y,h4,h6,h5⟩:=h3 j e he;⟨y,h4,h6,h5.ext x⟩⟩
  |false=>obtain⟨e,h1,h2,h3⟩:=h;exact⟨e,h1,h2,h3.ext x⟩
theorem bP.ext (x:Ext ob zo φ φ') {e:TE} {v:Value} (h:bP ob w φ e v):bP zo w φ' e v:=by
 cases e with
 |v t es=>
  cases t with
  |true=>obtain⟨vs,h1,h2,h3⟩:=h;exact⟨vs,h1,h2,fun j e he=>let ⟨y,h4,h5⟩:=h3 j e he;⟨y,h4,h5.ext x⟩⟩
  |false=>obtain⟨c,h1,h2⟩:=h;exact⟨c,h1,h2.ext x⟩
 |ep ds cells=>
  obtain⟨h1,ad,h2,hr,h3⟩:=h;refine⟨fun d hm=>(h1 d hm).imp id x.dom,ad,h2,fun hc=>x.rd h1 (hr hc),fun j tc hj=> ?_⟩;obtain⟨u,h4,h5⟩:=h3 j tc hj;exact⟨u,h4,h5.mo fun k hk=>x.rd h1 hk⟩
 |er o path i f=>
  obtain⟨b,h1,h2,ad,n,c,h3,h4⟩:=h;exact⟨b,x.look o b h1,h2,ad,n,c,by rw[x.V o ⟨b,h1⟩];exact h3,h4⟩
 |bp b off=>simp only[bP] at h ⊢;rw[x.β];exact h
 |fn f caps=>simp only[bP] at h ⊢;rw[x.β];exact h
 |_=>exact h
end
def LU:Nat→Nat→List (Nat×OB)→Prop
 |n,m,[]=>n≤m
 |n,m,(i,b)::r=>n≤i∧(b.deep=true∧b.rows=[]∧0<b.z)∧LU (i+1) m r
theorem LU.le: ∀{n m:Nat} {l:List (Nat×OB)},LU n m l→n≤m
 |_,_,[],h=>h
 |_,_,(i,b)::r,h=>by have:=LU.le h.2.2;have:=h.1;omega
theorem LU.down {n n' m:Nat} {l:List (Nat×OB)} (h:LU n m l) (hn:n'≤n):LU n' m l:=by
 cases l with
 |nil=>exact pY hn h
 |cons p r=>obtain⟨i,b⟩:=p;exact⟨pY hn h.1,h.2⟩
theorem LU.app: ∀{n m k:Nat} {l l':List (Nat×OB)},LU n m l→LU m k l'→LU n k (l++l')
 |_,_,_,[],_,h,h'=>h'.down h
 |_,_,_,(i,b)::r,_,h,h'=>⟨h.1,h.2.1,h.2.2.app h'⟩
theorem LU.mem: ∀{n m:Nat} {l:List (Nat×OB)} {i:Nat} {b:OB},LU n m l→(i,b)∈l→n≤i∧i<m∧b.deep=true∧b.rows=[]∧0<b.z
 |n,m,(j,b')::r,i,b,h,hm=>by
  rcases cw.1 hm with e|hm
  ·cases e
   have:=h.2.2.le;exact⟨h.1,by omega,h.2.1⟩
  ·obtain⟨h1,h2,h3⟩:=h.2.2.mem hm
   exact⟨by have:=h.1;omega,h2,h3⟩
theorem En: ∀{n m:Nat} {l:List (Nat×OB)} {ob:List (Nat×OB)},LU n m l→(∀i b,(i,b)∈l→aa i (iy l ob)=some b)∧ ∀d,d<n→aa d (iy l ob)=aa d ob
 |_,_,[],ob,_=>⟨fun _ _ h=>(by cases h),fun _ _=>rfl⟩
 |n,m,(j,b')::r,ob,h=>by
  obtain⟨h1,h2⟩:=En (ob:=ob) h.2.2;refine⟨fun i b hm=> ?_,fun d hd=> ?_⟩
  ·simp only[iy,dD]
   rcases cw.1 hm with e|hm
   ·cases e;rw[aP rfl]
   ·have:=(h.2.2.mem hm).1
    rw[aF ax];exact h1 i b hm
  ·have:=h.1
   simp only[iy,dD];rw[aF ax];exact h2 d ax
theorem AS: ∀{l:List (Nat×OB)} {ob:List (Nat×OB)} {d:Nat} {b:OB},aa d (iy l ob)=some b→(d,b)∈l∨aa d ob=some b
 |[],_,_,_,h=> .inr h
 |(j,b')::r,ob,d,b,h=>by
  simp only[iy,dD] at h
  by_cases hd:d=j
  ·rw[aP hd] at h;cases h;subst hd;exact .inl (.head _)
  ·rw[aF hd] at h
   exact(AS h).imp (.tail _) id
def WO:Value:= .slice none 0 0
def opened (N:Nat) (φ:Fp):Fp:={φ with S:=fun d k=>d<N∧φ.S d k,V:=fun d=>if d<N then φ.V d else WO}
section
variable {ob zo : List (Nat × OB)} {N : Nat} (x : Ext ob zo φ (opened N φ))
include x
theorem AT: ∀(cs:List CE) (n:Nat),N≤n→LU n (e8 n cs).2.1 (e8 n cs).2.2∧(e8 n cs).1.length=cs.length∧
 ((∀i b,(i,b)∈(e8 n cs).2.2→aa i zo=some b)→ ∀(j:Nat) (e':CE),(e8 n cs).1[j]?=some e'→ ∃e,cs[j]?=some e∧ ∀v,cq ob w φ e v→cq zo w (opened N φ) e' v)
 |[],n,hn=>⟨bI _,rfl,fun _ j e' h=>by simp[e8] at h⟩
 |e::r,n,hn=>by
  have keep: ∀(e:CE),(∀z,Nat.ble 1 z=true→e≠ .nil z)→e8 n (e::r)=(e::(e8 n r).1,(e8 n r).2.1,(e8 n r).2.2):=by
   intro e he
   cases e with
   |nil z=>
    simp only[e8]
    cases h:Nat.ble 1 z with
    |true=>exact absurd rfl (he z h)
    |false=>rfl
   |_=>rfl
  by_cases hz: ∃z,Nat.ble 1 z=true∧e= .nil z
  ·obtain⟨z,hz,rfl⟩:=hz
   have heq:e8 n (.nil z::r)=(.ref n none::(e8 (n+1) r).1,(e8 (n+1) r).2.1,(n,⟨true,z,[]⟩)::(e8 (n+1) r).2.2):=by simp only[e8,hz]
   rw[heq];obtain⟨h1,h2,h3⟩:=AT r (n+1) ax;refine⟨⟨bI _,⟨rfl,rfl,ou hz⟩,h1⟩,by simp[h2],fun hl j e' he=> ?_⟩
   cases j with
   |zero=>
    simp only[cZ,aU] at he;subst he;refine⟨_,rfl,fun v hv=>⟨_,hl n _ (.head _),?_⟩⟩
    show v=if n<N then φ.V n else WO
    rw[aF ax];exact hv.1
   |succ j=>
    simp only[oV] at he ⊢;exact h3 (fun i b hm=>hl i b (.tail _ hm)) j e' he
  ·rw[keep e fun z We he=>hz ⟨z,We,he⟩]
   obtain⟨h1,h2,h3⟩:=AT r n hn;refine⟨h1,by simp[h2],fun hl j e' he=> ?_⟩
   cases j with
   |zero=>
    simp only[cZ,aU] at he;subst he;exact⟨_,rfl,fun v hv=>hv.ext x⟩
   |succ j=>
    simp only[oV] at he ⊢;exact h3 hl j e' he
theorem we: ∀(cs:List nh) (n:Nat),N≤n→LU n (ey n cs).2.1 (ey n cs).2.2∧(ey n cs).1.length=cs.length∧
 ((∀i b,(i,b)∈(ey n cs).2.2→aa i zo=some b)→ ∀(j:Nat) (e':nh),(ey n cs).1[j]?=some e'→ ∃e,cs[j]?=some e∧ ∀v,jJ ob w φ e v→jJ zo w (opened N φ) e' v)
 |[],n,hn=>⟨bI _,rfl,fun _ j e' h=>by simp[ey] at h⟩
 | .ptr b::r,n,hn=>by
   obtain⟨h1,h2,h3⟩:=we r n hn;refine⟨h1,by simp[ey,h2],fun hl j e' he=> ?_⟩
   cases j with
   |zero=>
    simp only[ey,cZ,aU] at he;subst he;exact⟨_,rfl,fun v hv=>hv.ext x⟩
   |succ j=>
    simp only[ey,oV] at he ⊢;exact h3 hl j e' he
 | .mk a cs::r,n,hn=>by
   obtain⟨g1,g2,g3⟩:=AT (w:=w) x cs n hn;obtain⟨h1,h2,h3⟩:=we r (e8 n cs).2.1 (pY hn g1.le);refine⟨g1.app h1,by simp[ey,h2],fun hl j e' he=> ?_⟩
   cases j with
   |zero=>
    simp only[ey,cZ,aU] at he;subst he;refine⟨_,rfl,fun v hv=> ?_⟩;have g4:=g3 fun i b hm=>hl i b (gr _ hm)
    cases a with
    |true=>
     obtain⟨xs,k1,k2,k3⟩:=hv;refine⟨xs,k1,by rw[g2];exact k2,fun j e' he=> ?_⟩;obtain⟨e,k4,k5⟩:=g4 j e' he;obtain⟨y,k6,k8,k7⟩:=k3 j e k4;exact⟨y,k6,k8,k5 y k7⟩
    |false=>
     obtain⟨e,rfl,k2,k3⟩:=hv;have hlen:(e8 n [e]).1.length=1:=g2
     obtain⟨e',he'⟩: ∃e',(e8 n [e]).1=[e']:=by
      cases hq:(e8 n [e]).1 with
      |nil=>rw[hq] at hlen;cases hlen
      |cons y t=>cases t with
       |nil=>exact⟨y,rfl⟩
       |cons _ _=>rw[hq] at hlen;simp at hlen
     obtain⟨e0,k4,k5⟩:=g4 0 e' (by rw[he'];rfl);simp only[cZ,aU] at k4;subst k4;exact⟨e',he',k2,k5 v k3⟩
   |succ j=>
    simp only[ey,oV] at he ⊢;exact h3 (fun i b hm=>hl i b (lG _ hm)) j e' he
theorem Qz (e:TE) (n:Nat) (hn:N≤n):LU n (AQ n e).2.1 (AQ n e).2.2∧
 ((∀i b,(i,b)∈(AQ n e).2.2→aa i zo=some b)→ ∀v,bP ob w φ e v→bP zo w (opened N φ) (AQ n e).1 v):=by
 cases e with
 |v t es=>
  obtain⟨h1,h2,h3⟩:=we (w:=w) x es n hn;refine⟨h1,fun hl v hv=> ?_⟩;have h4:=h3 hl;simp only[AQ]
  cases t with
  |true=>
   obtain⟨vs,k1,k2,k3⟩:=hv;refine⟨vs,k1,by rw[h2];exact k2,fun j e' he=> ?_⟩;obtain⟨e,k4,k5⟩:=h4 j e' he;obtain⟨y,k6,k7⟩:=k3 j e k4;exact⟨y,k6,k5 y k7⟩
  |false=>
   obtain⟨c,rfl,k1⟩:=hv;have hlen:(ey n [c]).1.length=1:=h2
   obtain⟨e',he'⟩: ∃e',(ey n [c]).1=[e']:=by
    cases hq:(ey n [c]).1 with
    |nil=>rw[hq] at hlen;cases hlen
    |cons y t=>cases t with
     |nil=>exact⟨y,rfl⟩
     |cons _ _=>rw[hq] at hlen;simp at hlen
   obtain⟨e0,k4,k5⟩:=h4 0 e' (by rw[he'];rfl);simp only[cZ,aU] at k4;subst k4;exact⟨e',he',k5 v k1⟩
 |kb b=>
  refine⟨bI _,fun _ v hv=> ?_⟩;simp only[bP] at hv;subst hv;exact⟨_,rfl,_,rfl,rfl,rfl,trivial⟩
 |_=>exact⟨bI _,fun _ v hv=>hv.ext x⟩
theorem GD: ∀(l:List (Nat×TE)) (n:Nat),N≤n→(∃m,LU n m (vg n l).2)∧
 ((∀i b,(i,b)∈(vg n l).2→aa i zo=some b)→ ∀(i:Nat) (e':TE),aa i (vg n l).1=some e'→ ∃e,aa i l=some e∧ ∀v,bP ob w φ e v→bP zo w (opened N φ) e' v)
 |[],n,hn=>⟨⟨n,bI _⟩,fun _ i e' h=>by simp[vg,aa] at h⟩
 |(j,e)::r,n,hn=>by
  obtain⟨g1,g2⟩:=Qz (w:=w) x e n hn;obtain⟨⟨m,h1⟩,h2⟩:=GD r (AQ n e).2.1 (pY hn g1.le);refine⟨⟨m,g1.app h1⟩,fun hl i e' he=> ?_⟩;simp only[vg,aa] at he ⊢
  cases hj:Nat.beq j i with
  |true=>
   rw[hj] at he;simp only[aU] at he;subst he;exact⟨e,rfl,g2 fun i b hm=>hl i b (gr _ hm)⟩
  |false=>
   rw[hj] at he;exact h2 (fun i b hm=>hl i b (lG _ hm)) i e' he
end
theorem Mj {n:Nat}: ∀{ob:List (Nat×OB)},Me n ob=true→ ∀o,aA ob o→o<n
 |[],_,o,⟨b,h⟩=>by cases h
 |(i,x)::r,ha,o,⟨b,h⟩=>by
  simp only[Me] at ha
  cases h1:Nat.ble n i with
  |true=>rw[h1] at ha;cases ha
  |false=>
   rw[h1] at ha;simp only[aa] at h
   cases h2:Nat.beq i o with
   |true=>
    have:=fk h2;subst this
    exact Nat.lt_of_not_le fun h3=>by rw[Gq h3] at h1;cases h1
   |false=>rw[h2] at h;exact Mj ha o ⟨b,h⟩
theorem aH.Mf (h:aH F A w0 φ st tm w): ∃φ',aH F A w0 φ' (Mf st) tm w∧φ'.β=φ.β:=by
 unfold T.Mf
 cases ha:Me 900000000 st.ob with
 |false=>exact⟨φ,h,rfl⟩
 |true=>
  have hlt:=Mj ha
  have x1: ∀zo,(∀d b,aa d st.ob=some b→aa d zo=some b)→Ext st.ob zo φ (opened 900000000 φ):=fun zo hl=>
   ⟨hl,rfl,rfl,fun d hd=>by
     have:d<900000000:=hd.elim (fun e=>by omega) (hlt d)
     funext k
     simp[opened,this],fun d hd=>aP (hlt d hd)⟩
  obtain⟨⟨m,XD⟩,_⟩:=GD (w:=w) (x1 st.ob fun _ _ h=>h) st.tm 900000000 (bI _);obtain⟨l1,l2⟩:=En (ob:=st.ob) XD
  have x:Ext st.ob (iy (vg 900000000 st.tm).2 st.ob) φ (opened 900000000 φ):=x1 _ fun d b hd=>by rw[l2 d (hlt d ⟨b,hd⟩)];exact hd
  obtain⟨_,hT⟩:=GD (w:=w) x st.tm 900000000 (bI _);have hT:=hT l1
  have old: ∀d,aA (iy (vg 900000000 st.tm).2 st.ob) d→(d<900000000∧aA st.ob d)∨900000000≤d:=fun d ⟨b,hd⟩=>by
   rcases AS hd with h1|h1
   ·exact .inr (XD.mem h1).1
   ·exact .inl ⟨hlt d ⟨b,h1⟩,b,h1⟩
  have oldS: ∀d k,aA (iy (vg 900000000 st.tm).2 st.ob) d→(opened 900000000 φ).S d k→aA st.ob d∧φ.S d k:=fun d k hd hk=>by
   rcases old d hd with h1|h1
   ·exact⟨h1.2,hk.2⟩
   ·exact absurd hk.1 ax
  refine⟨opened 900000000 φ,⟨fun i=> ?_,fun b cs hb j e he=> ?_,fun o b ho=> ?_,?_,h.frm⟩,rfl⟩
  ·show bP (iy (vg 900000000 st.tm).2 st.ob) w (opened 900000000 φ) (match aa i (vg 900000000 st.tm).1 with|some e=>e|none=> .dead) (tm.getD i undef)
   cases hi:aa i (vg 900000000 st.tm).1 with
   |none=>trivial
   |some e'=>
    obtain⟨e,h1,h2⟩:=hT i e' hi;have:=h.tmp i;unfold TS.get at this;rw[h1] at this;exact h2 _ this
  ·obtain⟨v,h1,h3,h2⟩:=h.box b cs hb j e he
   exact⟨v,h1,h3,h2.ext x⟩
  ·unfold kz
   rcases AS ho with h1|h1
   ·obtain⟨a1,a2,a3,a4,a5⟩:=XD.mem h1
    obtain⟨bd,bz,br⟩:=b;simp only at a3 a4 a5;subst a3 a4;have hv:(opened 900000000 φ).V o=WO:=aF ax;rw[hv]
    refine ai.sub _ _ bz [] none 0 (fun _ _=>default) (fun _ _ _=>False) ⟨bI _,BF _,a5,fun r hr=>(by cases hr),fun hr=>absurd rfl hr,fun _ ha=>(by cases ha),fun _ _ ha=>(by cases ha),
     fun _=>⟨fun _=>rfl,fun _ ha=>(by cases ha)⟩,fun _ _ _ ha=>(by cases ha),fun _ _ _ _ hk=>hk.elim⟩ fun i f tc ht=>absurd rfl (Df ht)
   ·have hd:=hlt o ⟨b,h1⟩
    have:=h.obj o b h1;unfold kz at this;rw[x.V o ⟨b,h1⟩,x.S o (.inr ⟨b,h1⟩)];exact this
  ·exact {
    arg:=by rw[x.S 0 (.inl rfl)];exact h.sep.arg
    nz:=fun o ho e=>by
     rcases old o ho with h1|h1
     ·exact h.sep.nz o h1.2 e
     ·omega
    apart:=fun o o' k h1 h2 h3 h4=>h.sep.apart o o' k (oldS o k h1 h3).1 (oldS o' k h2 h4).1 (oldS o k h1 h3).2 (oldS o' k h2 h4).2
    read:=fun o k h1 h2=>h.sep.read o k (oldS o k h1 h2).1 (oldS o k h1 h2).2
    fresh:=fun o k h1 h2=>h.sep.fresh o k (oldS o k h1 h2).1 (oldS o k h1 h2).2
    ro:=h.sep.ro
    kk:=h.sep.kk
    box:=fun b cs hb hw=>by
     obtain⟨a1,a2,a3,a4⟩:=h.sep.box b cs hb hw;exact⟨a1,fun o ho hk=>a2 o (oldS o _ ho hk).1 (oldS o _ ho hk).2,a3,a4⟩
    spot:=h.sep.spot
    soft:=h.sep.soft}
end Go.T
namespace Go.T
variable {F : Nat → Prop} {A : Arg} {w0 w w' : World} {φ φ' : Fp} {st st' : TS} {tm AK : Array Value}
structure GF (n:Nat) (ρ:List (Nat×Nat)):Prop where
 rng: ∀o m,(o,m)∈ρ→1≤m∧m<n∧o≠0
 apart:ρ.Pairwise fun a b=>a.1≠b.1∧a.2≠b.2
theorem gi {α:Type} {o:Nat} {m:α}: ∀{ρ:List (Nat×α)},aa o ρ=some m→(o,m)∈ρ
 |(a,x)::r,h=>by
  simp only[aa] at h
  cases h1:Nat.beq a o with
  |true=>
   rw[h1] at h
   cases h
   have:=fk h1;subst this;exact .head _
  |false=>rw[h1] at h;exact .tail _ (gi h)
theorem qk {α:Type} {o:Nat}: ∀{ρ:List (Nat×α)},aa o ρ=none→ ∀m,(o,m)∉ρ
 |[],_,_=>by simp
 |(a,x)::r,h,m=>by
  simp only[aa] at h
  cases h1:Nat.beq a o with
  |true=>rw[h1] at h;cases h
  |false=>
   rw[h1] at h;intro hm;rcases cw.1 hm with e|hm
   ·cases e;exact ov h1 rfl
   ·exact qk h m hm
theorem yG {n o m:Nat}: ∀{ρ:List (Nat×Nat)},(ρ.Pairwise fun a b=>a.1≠b.1∧a.2≠b.2)→(o,m)∈ρ→aa o ρ=some m
 |(a,x)::r,h,hm=>by
  simp only[aa];rw[List.pairwise_cons] at h;rcases cw.1 hm with e|hm
  ·cases e;rw[yE]
  ·have:=(h.1 _ hm).1
   rw[beq_false this];exact yG (n:=n) h.2 hm
theorem zF: ∀(l:List Nat) (n:Nat) (ρ:List (Nat×Nat)),1≤n→GF n ρ→ ∃n',GF n' (number l n ρ)∧(∀o m,aa o ρ=some m→aa o (number l n ρ)=some m)∧ ∀o∈l,o≠0→ ∃m,aa o (number l n ρ)=some m
 |[],n,ρ,_,h=>⟨n,h,fun _ _ h=>h,fun _ h=>by cases h⟩
 |o::r,n,ρ,hn,h=>by
  simp only[number]
  cases h0:Nat.beq o 0 with
  |true=>
   obtain⟨n',h1,h2,h3⟩:=zF r n ρ hn h;refine⟨n',h1,h2,fun p hp X5=> ?_⟩;rcases cw.1 hp with e|hp
   ·exact absurd (e.trans (fk h0)) X5
   ·exact h3 p hp X5
  |false=>
   have h0:=ov h0
   cases hl:aa o ρ with
   |some m=>
    obtain⟨n',h1,h2,h3⟩:=zF r n ρ hn h;refine⟨n',h1,h2,fun p hp X5=> ?_⟩;rcases cw.1 hp with e|hp
    ·subst e;exact⟨m,h2 _ _ hl⟩
    ·exact h3 p hp X5
   |none=>
    have hk:GF (n+1) ((o,n)::ρ):=by
     refine⟨fun p m hm=> ?_,List.pairwise_cons.2 ⟨fun a ha=>⟨fun e=> ?_,fun e=> ?_⟩,h.apart⟩⟩
     ·rcases cw.1 hm with e|hm
      ·cases e;exact⟨hn,by omega,h0⟩
      ·have:=h.rng p m hm;exact⟨this.1,by omega,this.2.2⟩
     ·obtain⟨a1,a2⟩:=a
      simp only at e;subst e;exact qk hl a2 ha
     ·obtain⟨a1,a2⟩:=a
      simp only at e;have:=(h.rng a1 a2 ha).2.1;omega
    obtain⟨n',h1,h2,h3⟩:=zF r (n+1) ((o,n)::ρ) ax hk
    have hon:aa o ((o,n)::ρ)=some n:=by simp only[aa,yE]
    refine⟨n',h1,fun p m hp=>h2 p m ?_,fun p hp X5=> ?_⟩
    ·simp only[aa]
     rw[beq_false fun e=>by subst e;rw[hl] at hp;cases hp];exact hp
    ·rcases cw.1 hp with e|hp
     ·subst e;exact⟨n,h2 _ _ hon⟩
     ·exact h3 p hp X5
theorem VW {o o' m:Nat}: ∀{ρ:List (Nat×Nat)},(ρ.Pairwise fun a b=>a.1≠b.1∧a.2≠b.2)→(o,m)∈ρ→(o',m)∈ρ→o=o'
 |p::r,h,h1,h2=>by
  rw[List.pairwise_cons] at h;rcases cw.1 h1 with e1|h1
  ·rcases cw.1 h2 with e2|h2
   ·rw[←e1] at e2;cases e2;rfl
   ·exact absurd (by rw[←e1]) (h.1 _ h2).2
  ·rcases cw.1 h2 with e2|h2
   ·exact absurd (by rw[←e2]) (h.1 _ h1).2
   ·exact VW h.2 h1 h2
def inv (ρ:List (Nat×Nat)) (m:Nat):Nat:=match ρ.find? fun p=>Nat.beq p.2 m with|some p=>p.1|none=>0
theorem inv_eq {n o m:Nat} {ρ:List (Nat×Nat)} (h:GF n ρ) (hl:aa o ρ=some m):inv ρ m=o:=by
 unfold inv;have hm:=gi hl
 cases hf:ρ.find? fun p=>Nat.beq p.2 m with
 |none=>
  have:=List.find?_eq_none.1 hf _ hm;simp at this
 |some p=>
  have h1:=List.mem_of_find?_eq_some hf;have h2:=List.find?_some hf;have h2:=fk h2;simp only;obtain⟨p1,p2⟩:=p;simp only at h2;subst h2;exact VW h.apart h1 hm
theorem inv_zero {n:Nat} {ρ:List (Nat×Nat)} (h:GF n ρ):inv ρ 0=0:=by
 unfold inv
 cases hf:ρ.find? fun p=>Nat.beq p.2 0 with
 |none=>rfl
 |some p=>
  have h1:=List.mem_of_find?_eq_some hf;have h2:=List.find?_some hf;have h2:=fk h2;obtain⟨p1,p2⟩:=p;have:=(h.rng p1 p2 h1).1;simp only at h2;omega
theorem BR {o m:Nat} {ρ:List (Nat×Nat)} (hl:aa o ρ=some m):Da ρ o=m:=by unfold Da;rw[hl]
theorem Jy {n:Nat} {ρ:List (Nat×Nat)} (h:GF n ρ):Da ρ 0=0:=by
 unfold Da
 cases hl:aa 0 ρ with
 |none=>rfl
 |some m=>exact absurd rfl (h.rng 0 m (gi hl)).2.2
theorem BS {ob:List (Nat×OB)} {m:Nat} {b:OB}: ∀{ρ:List (Nat×Nat)},aa m (qz ob ρ)=some b→ ∃o,(o,m)∈ρ∧aa o ob=some b
 |(o,n)::r,h=>by
  simp only[qz] at h
  cases ho:aa o ob with
  |none=>
   rw[ho] at h;obtain⟨o',h1,h2⟩:=BS h;exact⟨o',.tail _ h1,h2⟩
  |some b'=>
   rw[ho] at h;simp only[dD] at h
   by_cases hm:m=n
   ·rw[aP hm] at h;cases h;subst hm;exact⟨o,.head _,ho⟩
   ·rw[aF hm] at h
    obtain⟨o',h1,h2⟩:=BS h;exact⟨o',.tail _ h1,h2⟩
theorem Mk {ob:List (Nat×OB)} {o m:Nat} {b:OB} (ho:aa o ob=some b): ∀{ρ:List (Nat×Nat)},(ρ.Pairwise fun a b=>a.1≠b.1∧a.2≠b.2)→(o,m)∈ρ→aa m (qz ob ρ)=some b
 |(o',n)::r,h,hm=>by
  rw[List.pairwise_cons] at h;simp only[qz];rcases cw.1 hm with e|hm
  ·cases e
   rw[ho];simp only[dD,aP]
  ·have h1:=(h.1 _ hm).2
   have ih:=Mk ho h.2 hm
   cases ho':aa o' ob with
   |none=>exact ih
   |some b'=>
    simp only[dD];rw[aF (Ne.symm h1)];exact ih
def Fp.Ml (φ:Fp) (ρ:List (Nat×Nat)):Fp:={φ with S:=fun m=>φ.S (inv ρ m),V:=fun m=>φ.V (inv ρ m)}
section
variable {ob : List (Nat × OB)} {n : Nat} {ρ : List (Nat × Nat)} (hρ : GF n ρ)
include hρ
theorem BT {o m:Nat} {b:OB} (hm:aa o ρ=some m) (ho:aa o ob=some b):aa m (qz ob ρ)=some b:=Mk ho hρ.apart (gi hm)
theorem R4 {o m:Nat} (hm:aa o ρ=some m):(φ.Ml ρ).S m=φ.S o:=by show φ.S (inv ρ m)=_;rw[inv_eq hρ hm]
theorem Pz {o m:Nat} (hm:aa o ρ=some m):(φ.Ml ρ).V m=φ.V o:=by show φ.V (inv ρ m)=_;rw[inv_eq hρ hm]
theorem R5:(φ.Ml ρ).S 0=φ.S 0:=by show φ.S (inv ρ 0)=_;rw[inv_zero hρ]
theorem R6 {ds:List Nat} (hz: ∀d,aA ob d→d≠0) (hd: ∀d∈ds,d=0∨aA ob d) (hc: ∀o∈ds,o≠0→ ∃m,aa o ρ=some m):
 (∀d∈ds.map (Da ρ),d=0∨aA (qz ob ρ) d)∧ ∀k,rd φ ds k→rd (φ.Ml ρ) (ds.map (Da ρ)) k:=by
 refine⟨fun d hm=> ?_,fun k hk=> ?_⟩
 ·obtain⟨o,h1,rfl⟩:=List.mem_map.1 hm
  rcases hd o h1 with rfl|h2
  ·exact .inl (Jy hρ)
  ·obtain⟨m,h3⟩:=hc o h1 (hz o h2)
   obtain⟨b,h4⟩:=h2;rw[BR h3];exact .inr ⟨b,BT hρ h3 h4⟩
 ·rcases hk with hk|⟨d,hm,hk⟩
  ·exact .inl hk
  ·refine .inr ⟨Da ρ d,List.mem_map_of_mem hm,?_⟩
   rcases hd d hm with rfl|h2
   ·rw[Jy hρ,R5 hρ];exact hk
   ·obtain⟨m,h3⟩:=hc d hm (hz d h2)
    rw[BR h3,R4 hρ h3];exact hk
theorem cq.Ml (hz: ∀d,aA ob d→d≠0) {e:CE} {v:Value} (hc: ∀o∈ee e,o≠0→ ∃m,aa o ρ=some m) (h:cq ob w φ e v):cq (qz ob ρ) w (φ.Ml ρ) (BN ρ e) v:=by
 cases e with
 |ref o cut=>
  obtain⟨b,h1,h2⟩:=h;obtain⟨m,h3⟩:=hc o (by simp[ee]) (hz o ⟨b,h1⟩);simp only[BN];rw[BR h3];exact⟨b,BT hρ h3 h1,by rw[Pz hρ h3];exact h2⟩
 |snap ds loc z rows=>
  obtain⟨h1,h2,h3⟩:=h;obtain⟨g1,g2⟩:=R6 hρ (φ:=φ) hz h1 hc;refine⟨g1,h2.mo g2,fun o i f hl=> ?_⟩
  cases loc with
  |none=>cases hl
  |some q=>
   obtain⟨o',i',f'⟩:=q;simp only[aU,sM] at hl;obtain⟨rfl,rfl,rfl⟩:=hl;obtain⟨a1,b,a2,a3,a4,ad,n,c,a5,a6⟩:=h3 o' i' f' rfl;obtain⟨m,a7⟩:=hc o' a1 (hz o' ⟨b,a2⟩);refine⟨List.mem_map_of_mem a1,?_⟩;rw[BR a7];exact⟨b,BT hρ a7 a2,a3,a4,ad,n,c,by rw[Pz hρ a7];exact a5,a6⟩
 |_=>exact h
theorem bP.Ml (hz: ∀d,aA ob d→d≠0) {e:TE} {v:Value} (hc: ∀o∈uF e,o≠0→ ∃m,aa o ρ=some m) (h:bP ob w φ e v):bP (qz ob ρ) w (φ.Ml ρ) (uE (BN ρ) (RT ρ) e) v:=by
 have comp: ∀(c:nh) (u:Value),(∀o∈fH [c],o≠0→ ∃m,aa o ρ=some m)→jJ ob w φ c u→jJ (qz ob ρ) w (φ.Ml ρ) (rC (BN ρ) c) u:=by
  intro c u hc h
  cases c with
  |ptr b=>exact h
  |mk a cs=>
   simp only[fH,lX] at hc;have Ud: ∀e∈cs,∀o∈ee e,o≠0→ ∃m,aa o ρ=some m:=fun e he o ho=>hc o (List.mem_flatMap.2 ⟨e,he,ho⟩)
   cases a with
   |true=>
    obtain⟨xs,h1,h2,h3⟩:=h;refine⟨xs,h1,by simp[h2],fun j e he=> ?_⟩;rw[gY] at he
    cases h4:cs[j]? with
    |none=>rw[h4] at he;cases he
    |some e0=>
     rw[h4] at he;simp only[jB,aU] at he;subst he;obtain⟨x,hx,hx1,hok⟩:=h3 j e0 h4;exact⟨x,hx,hx1,hok.Ml hρ hz (Ud e0 (fC h4))⟩
   |false=>
    obtain⟨e,rfl,h2,h3⟩:=h;exact⟨_,rfl,h2,h3.Ml hρ hz (Ud e eO)⟩
 have dcomp: ∀(es:List nh) (c:nh),c∈es→ ∀o,o∈fH [c]→o∈fH es:=by
  intro es
  induction es with
  |nil=>intro c hc;cases hc
  |cons x r ih=>
   intro c hc o ho;rcases cw.1 hc with rfl|hc
   ·cases c with
    |ptr b=>simp[fH] at ho
    |mk a cs=>
     simp only[fH,lX] at ho;simp only[fH];exact gr _ ho
   ·have:=ih c hc o ho
    cases x with
    |ptr b=>exact this
    |mk a cs=>simp only[fH];exact lG _ this
 cases e with
 |v t es=>
  cases t with
  |true=>
   obtain⟨vs,h1,h2,h3⟩:=h;refine⟨vs,h1,by rw[nF];exact h2,fun k c hk=> ?_⟩;rw[qK] at hk
   cases h4:es[k]? with
   |none=>rw[h4] at hk;cases hk
   |some c0=>
    rw[h4] at hk;simp only[jB,aU] at hk;obtain⟨u,hu,hok⟩:=h3 k c0 h4;exact⟨u,hu,by rw[←hk];exact comp c0 u (fun o ho=>hc o (dcomp es c0 (fC h4) o ho)) hok⟩
  |false=>
   obtain⟨c,rfl,hok⟩:=h;refine⟨rC (BN ρ) c,?_,comp c v hc hok⟩
   cases c<;>rfl
 |ep ds cells=>
  obtain⟨h1,ad,h2,hr,h3⟩:=h;obtain⟨g1,g2⟩:=R6 hρ (φ:=φ) hz h1 hc;refine⟨g1,ad,h2,fun hne=>g2 _ (hr hne),fun j tc hj=> ?_⟩;obtain⟨u,h4,h5⟩:=h3 j tc hj;exact⟨u,h4,h5.mo g2⟩
 |er o path i f=>
  obtain⟨b,h1,h2,ad,n,c,h3,h4⟩:=h;obtain⟨m,h5⟩:=hc o (by simp[uF]) (hz o ⟨b,h1⟩);show bP (qz ob ρ) w (φ.Ml ρ) (.er (Da ρ o) path i f) v;rw[BR h5];exact⟨b,BT hρ h5 h1,h2,ad,n,c,by rw[Pz hρ h5];exact h3,h4⟩
 |_=>exact h
end
theorem aH.canon (h:aH F A w0 φ st tm w): ∃φ',aH F A w0 φ' (canon st) tm w∧φ'.β=φ.β:=by
 obtain⟨n,hρ,_,hall⟩:=zF (WI st) 1 [] (bI _) ⟨fun _ _ h=>(by cases h),List.Pairwise.nil⟩;unfold T.canon Yo;generalize number (WI st) 1 []=ρ at hρ hall;have hz:=h.sep.nz
 have dom: ∀m,aA (qz st.ob ρ) m→ ∃o,aa o ρ=some m∧aA st.ob o:=fun m ⟨b,hm⟩=>by
  obtain⟨o,h1,h2⟩:=BS hm;exact⟨o,yG (n:=n) hρ.apart h1,b,h2⟩
 have domS: ∀m k,aA (qz st.ob ρ) m→(φ.Ml ρ).S m k→ ∃o,aa o ρ=some m∧aA st.ob o∧φ.S o k:=fun m k hm hk=>by
  obtain⟨o,h1,h2⟩:=dom m hm;rw[R4 hρ h1] at hk;exact⟨o,h1,h2,hk⟩
 refine⟨φ.Ml ρ,⟨fun i=> ?_,fun b cs hb j e he=> ?_,fun m b hm=> ?_,?_,h.frm⟩,rfl⟩
 ·show bP (qz st.ob ρ) w (φ.Ml ρ) (match aa i (mapA (uE (BN ρ) (RT ρ)) st.tm) with|some e=>e|none=> .dead) (tm.getD i undef)
  rw[o9]
  cases hi:aa i st.tm with
  |none=>trivial
  |some e=>
   have:=h.tmp i;unfold TS.get at this;rw[hi] at this;exact this.Ml hρ hz fun o ho Y5=>hall o (gr _ (List.mem_flatMap.2 ⟨_,gi hi,ho⟩)) Y5
 ·simp only[o9] at hb
  cases h1:aa b st.bx with
  |none=>rw[h1] at hb;cases hb
  |some cs0=>
   rw[h1] at hb;simp only[jB,aU] at hb;subst hb;rw[gY] at he
   cases h2:cs0[j]? with
   |none=>rw[h2] at he;cases he
   |some e0=>
    rw[h2] at he;simp only[jB,aU] at he;subst he;obtain⟨v,h3,h5,h4⟩:=h.box b cs0 h1 j e0 h2;exact⟨v,h3,h5,h4.Ml hρ hz fun o ho Y5=>hall o (lG _ (List.mem_flatMap.2 ⟨_,gi h1,List.mem_flatMap.2 ⟨e0,fC h2,ho⟩⟩)) Y5⟩
 ·obtain⟨o,h1,h2⟩:=BS hm
  have h1:=yG (n:=n) hρ.apart h1;unfold kz;rw[R4 hρ h1,Pz hρ h1];exact h.obj o b h2
 ·have hs:=h.sep.boxes (eR (BN ρ))
  exact {
   arg:=by rw[R5 hρ];exact h.sep.arg
   nz:=fun m hm e=>by
    obtain⟨o,h1,_⟩:=dom m hm;have:=(hρ.rng o m (gi h1)).1;omega
   apart:=fun m m' k h1 h2 h3 h4=>by
    obtain⟨o,a1,a2,a3⟩:=domS m k h1 h3;obtain⟨o',b1,b2,b3⟩:=domS m' k h2 h4;have:=h.sep.apart o o' k a2 b2 a3 b3;subst this;rw[a1] at b1;cases b1;rfl
   read:=fun m k h1 h2=>by obtain⟨o,a1,a2,a3⟩:=domS m k h1 h2;exact h.sep.read o k a2 a3
   fresh:=fun m k h1 h2=>by obtain⟨o,a1,a2,a3⟩:=domS m k h1 h2;exact h.sep.fresh o k a2 a3
   ro:=hs.ro
   kk:=hs.kk
   box:=fun b cs hb hw=>by
    obtain⟨a1,a2,a3,a4⟩:=hs.box b cs hb hw;refine⟨a1,fun m hm hk=> ?_,a3,a4⟩;obtain⟨o,c1,c2,c3⟩:=domS m _ hm hk;exact a2 o c2 c3
   spot:=hs.spot
   soft:=hs.soft}
theorem aH.head (h:aH F A w0 φ st tm w) (l:List Nat):Rel F A w0 (Mg l st) tm w:=by
 obtain⟨φ1,h1,_⟩:=(h.Yq l).Mf;obtain⟨φ2,h2,_⟩:=h1.canon;exact⟨φ2,h2⟩
end Go.T
