import Derived.Below
import Derived.WalkKit
import Derived.Laws.AppendOwn
import Derived.DataElems
namespace Go.T
theorem iX {P Q:Prop} (h:P:=by rfl) (k:Q:=by trivial):P∧Q:=⟨h,k⟩
theorem Yk {P:Prop} (h:P:=by first|rfl|(simp;done)|(simp;omega)):P:=h
theorem ay {P:Prop} (h:P:=by omega):P:=h
theorem SX {P:Prop} (h:P:=by assumption):P:=h
theorem mD {P:Prop} (h:P:=by simp;omega):P:=h
theorem jN {P:Prop} (h:P:=by simp<;>omega):P:=h
theorem cY {P:Prop} (h:P:=by simp):P:=h
theorem Yl {P:Prop} (h:P:=by trivial):P:=h
theorem WX {P:Prop} (h:P:=by rfl):P:=h
abbrev nZ:= @Array.getD_eq_getD_getElem?
abbrev oX:= @Array.getElem?_eq_getElem
abbrev F5:= @Array.getElem?_setIfInBounds
abbrev ID:= @Array.getElem?_toList
abbrev r6:= @Array.length_toList
abbrev dm:= @Bool.and_eq_true
abbrev qa:= @Bool.and_true
abbrev zc:= @Bool.false_eq_true
abbrev DG:= @Bool.false_or
abbrev qb:= @Bool.not_eq_true'
abbrev F6:= @Bool.not_true
abbrev fR:= @Bool.true_and
abbrev oc:= @Int.ofNat_eq_natCast
abbrev r7:= @Int.toNat_natCast
abbrev oY:= @List.all_cons
abbrev tX:= @List.all_nil
abbrev tY:= @List.append_assoc
abbrev mH:= @List.append_nil
abbrev xF:= @List.cons_append
abbrev vq:= @List.drop_eq_getElem_cons
abbrev kD:= @List.drop_length
abbrev zd:= @List.drop_of_length_le
abbrev xG:= @List.eq_nil_of_length_eq_zero
abbrev Ld:= @List.flatten_append
abbrev vr:= @List.flatten_cons
abbrev ki:= @List.getD_eq_getElem?_getD
abbrev iJ:= @List.getElem?_append_left
abbrev jx:= @List.getElem?_append_right
abbrev mI:= @List.getElem?_cons_succ
abbrev cR:= @List.getElem?_cons_zero
abbrev kE:= @List.getElem?_drop
abbrev aV:= @List.getElem?_eq_getElem
abbrev Le:= @List.getElem?_eq_none
abbrev gv:= @List.getElem?_map
abbrev BW:= @List.getElem?_take
abbrev oe:= @List.getElem_mem
abbrev cT:= @List.length_append
abbrev e8:= @List.length_cons
abbrev jy:= @List.length_drop
abbrev IE:= @List.length_filter_le
abbrev cw:= @List.length_map
abbrev Tl:= @List.length_modify
abbrev kG:= @List.length_singleton
abbrev e9:= @List.length_take
abbrev vt:= @List.map_append
abbrev DH:= @List.map_drop
abbrev IF:= @List.map_take
abbrev fm:= @List.mem_append_left
abbrev jz:= @List.mem_append_right
abbrev cz:= @List.mem_cons
abbrev ew:= @List.mem_of_getElem?
abbrev vu:= @List.mem_of_mem_drop
abbrev r8:= @List.mem_of_mem_take
abbrev fo:= @List.mem_singleton
abbrev qc:= @List.nil_append
abbrev xH:= @List.take_append_drop
abbrev tZ:= @List.take_length
abbrev Q5:= @List.take_of_length_le
abbrev qd:= @Nat.add_assoc
abbrev qe:= @Nat.add_eq
abbrev nv:= @Nat.add_mul
abbrev nw:= @Nat.add_zero
abbrev DI:= @Nat.ble_eq_true_of_le
abbrev ze:= @Nat.div_add_mod'
abbrev eD:= @Nat.eq_of_beq_eq_true
abbrev F7:= @Nat.le_max_left
abbrev lV:= @Nat.le_of_ble_eq_true
abbrev cc:= @Nat.le_refl
abbrev og:= @Nat.le_trans
abbrev fI:= @Nat.lt_of_lt_of_le
abbrev r9:= @Nat.min
abbrev lI:= @Nat.mul_le_mul_right
abbrev lW:= @Nat.ne_of_beq_eq_false
abbrev qf:= @Nat.sub_self
abbrev DJ:= @Nat.succ_mul
abbrev ig:= @Nat.zero_add
abbrev vv:= @Nat.zero_le
abbrev ij:= @Option.map_some
abbrev aY:= @Option.some.injEq
abbrev ua:= @Prod.mk.injEq
abbrev oh:= @decide_eq_false
abbrev zf:= @decide_eq_true
abbrev iq:= @exists_eq_left
abbrev gu:= @exists_eq_left'
abbrev aR:= @if_neg
abbrev bg:= @if_pos
abbrev uc:= @of_decide_eq_true
inductive TC where
 |sc (v:Value)
 |sub (s:Nat) (rows:List (List TC))
 |any
 deriving Inhabited
inductive Mode where
 |snap|top|deep
 deriving DecidableEq,Inhabited
inductive CE where
 |sc (v:Value)
 |nil (z:Nat)
 |ref (o:Nat) (cut:Option (Int×Int))
 |snap (ds:List Nat) (loc:Option (Nat×Int×Nat)) (z:Nat) (rows:List (List TC))
 |gone
 deriving Inhabited
inductive kH where
 |mk (agg:Bool) (cs:List CE)
 |ptr (b:Nat)
inductive TE where
 |dead
 |v (tup:Bool) (es:List kH)
 |bp (b off:Nat)
 |ep (ds:List Nat) (cells:List TC)
 |er (o:Nat) (path:Option (Int×Nat)) (i:Int) (f:Nat)
 |fn (f:FuncId) (caps:List Nat)
 |kb (b:Bool)
 deriving Inhabited
structure OB where
 deep:Bool
 z:Nat
 rows:List (List TC)
structure TS where
 tm:List (Nat×TE)
 bx:List (Nat×List CE)
 ob:List (Nat×OB)
inductive TI where
 |int (k:IntKind)
 |bool
 |str
 |slice (e:TypeId)
 |ptr (e:TypeId)
 |struct (fs:List (Nat×TypeId))
 |other
 deriving Inhabited
structure gx where
 ti:TI
 size:Nat
 bytes:Nat
 flat:Bool
 zero:List TC
 eqs:List Nat:=[]
 deriving Inhabited
inductive TV where
 |c (c:TC)
 |ag (cs:List TC)
 |tu (vs:List (Nat×List TC))
 |bx (cs:List TC)
 |fn (f:FuncId) (caps:List (List TC))
inductive bC where
 |borrow|inout (ms:List Mode)|consume (ms:List Mode)
 deriving DecidableEq
def bC.mc:bC→Nat→Mode
 | .borrow,_=> .snap
 | .inout ms,j=>match ms[j]? with|some m=>m|none=> .deep
 | .consume ms,j=>match ms[j]? with|some m=>m|none=> .deep
structure Mo where
 ps:List bC
 shares:Bool
 res:List (List Mode)
 frz:Bool:=false
inductive w5 where
 |nil
 |op (i:Nat) (fl:List Nat) (r:w5)
 |alt (a b:w5)
structure ic where
 P:Program
 tt:TypeId→gx
 sig:FuncId→Mo
 lr:FuncId→Nat→List Nat
 lb:FuncId→Nat→List Nat
 DE:FuncId→Nat→Option w5
 ext:FuncId→Option (List TV→Option (TV×List TV))
inductive TX where
 |norm|ex (id:Nat)|ret
 deriving DecidableEq
inductive Ev (R:Type) where
 |fail
 |ret (r:R)
 |test (b:Bool) (k:Bool→Ev R)
 |row (rows:List (List TC)) (i:Int) (k:List TC→Ev R)
 |byte (s:ByteArray) (i:Int) (k:Int→Ev R)
 |bytes (rows:List (List TC)) (k:List Int→Ev R)
 |call (f:FuncId) (vs:List TV) (k:TV→List TV→Ev R)
 |loop (f:FuncId) (i:Nat) (c:Code) (st:TS) (k:TX→TS→Ev R)
 |both (a b:Ev R)
@[irreducible] def dn (a b:Int):Bool:=decide (a<b)
@[irreducible] def p6 (a b:Int):Bool:=decide (a≤b)
@[irreducible] def fJ (a b:Int):Bool:=a==b
@[irreducible] def Pw (a b:Bool):Bool:=a==b
@[irreducible] def Ka (a b:ByteArray):Bool:=a.toList==b.toList
@[irreducible] def IG (a b:ByteArray):Bool:=Op.bytesLess a.toList b.toList
@[irreducible] def fits (n b:Nat):Bool:=decide (n*b≤140737488355328∧n≤140737488355328)
@[irreducible] def cQ (rows:List (List TC)):Bool:=rows.all fun r=>r.all fun c=>match c with| .sc _=>true|_=>false
@[irreducible] def fq (l h n:Int):Bool:=decide (0≤l∧l≤h∧h≤n)
@[irreducible] def rowAt (rows:List (List TC)) (i:Int):Option (List TC):=if 0≤i then rows[i.toNat]? else none
@[irreducible] def AS (s:ByteArray) (i:Int):Option Int:=if 0≤i then(s[i.toNat]?).map fun b=>(b.toNat:Int) else none
@[irreducible] def av (rows:List (List TC)) (l h:Int):List (List TC):=(rows.take h.toNat).drop l.toNat
@[irreducible] def eM (z:Nat) (rows:List (List TC)) (l h:Int):List (List TC):=rows.take l.toNat++List.replicate (h.toNat-l.toNat) (List.replicate z .any)++rows.drop h.toNat
@[irreducible] def jO (rows aP:List (List TC)):List (List TC):=aP.take rows.length++rows.drop aP.length
@[irreducible] def setRow (rows:List (List TC)) (i:Int) (f:Nat) (cs:List TC):List (List TC):=
  match rows[i.toNat]? with
  |some r=>rows.set i.toNat (r.take f++cs++r.drop (f+cs.length))
  |none=>rows
@[irreducible] def Ni (a b:Int):Int:=if b<a then b else a
@[irreducible] def zg (n:Int):Nat:=n.toNat
@[irreducible] def zh (a b:Int):Int:=a+b
@[irreducible] def Kb (k:IntKind) (a b:Int):Int:=k.wrap (a+b)
@[irreducible] def DK (k:IntKind) (a b:Int):Int:=k.wrap (a-b)
@[irreducible] def Kd (k:IntKind) (a b:Int):Int:=k.wrap (a*b)
@[irreducible] def dR (k:IntKind) (a b:Int):Int:=k.wrap (a.tdiv b)
@[irreducible] def Ke (a b:Int):Int:=a.tmod b
@[irreducible] def RL (k:IntKind) (a b:Int):Int:=k.wrap (a*2 ^ (min b.toNat k.bits))
@[irreducible] def Mq (k:IntKind) (a b:Int):Int:=a.fdiv (2 ^ (min b.toNat k.bits))
@[irreducible] def vw (op:BinOp) (k:IntKind) (a b:Int):Int:=Go.bits op k a b
@[irreducible] def BX (k:IntKind) (n:Int):Int:=k.wrap n
@[irreducible] def Tm (a b:ByteArray):ByteArray:=a++b
@[irreducible] def Tn (s:ByteArray) (l h:Int):ByteArray:=s.extract l.toNat h.toNat
def oT:List (List TC)→Option (List Int)
 |[]=>some []
 |[.sc (.int .u8 n)]::r=>(oT r).map fun ns=>n::ns
 |_=>none
@[irreducible] def sg (rows:List (List TC)):Option (List Int):=oT rows
@[irreducible] def II (ns:List Int):ByteArray:=⟨(ns.map fun n:Int=>UInt8.ofNat n.toNat).toArray⟩
@[irreducible] def xI (s:ByteArray):List (List TC):=s.data.toList.map fun b=>[TC.sc (.int .u8 b.toNat)]
abbrev one (c:CE):TE:= .v false [.mk false [c]]
abbrev S (v:Value):TE:=one (.sc v)
def gJ (o:Nat):List Nat→Bool
 |[]=>false
 |a::r=>match Nat.beq a o with|true=>true|false=>gJ o r
def IJ (o:Nat):List Nat→List Nat
 |[]=>[]
 |a::r=>match Nat.beq a o with|true=>IJ o r|false=>a::IJ o r
def om:List Nat→List Nat→Bool
 |[],_=>false
 |a::r,l=>match gJ a l with|true=>true|false=>om r l
section
variable {α : Type}
def aa (i:Nat):List (Nat×α)→Option α
 |[]=>none
 |(j,e)::r=>match Nat.beq j i with|true=>some e|false=>aa i r
def jr (i:Nat) (e:α):List (Nat×α)→List (Nat×α)
 |[]=>[(i,e)]
 |(j,e')::r=>match Nat.beq j i with
  |true=>(i,e)::r
  |false=>match Nat.ble i j with
   |true=>(i,e)::(j,e')::r
   |false=>(j,e')::jr i e r
def kJ (i:Nat):List (Nat×α)→List (Nat×α)
 |[]=>[]
 |(j,e)::r=>match Nat.beq j i with|true=>kJ i r|false=>(j,e)::kJ i r
def mapA (f:α→α):List (Nat×α)→List (Nat×α)
 |[]=>[]
 |(j,e)::r=>(j,f e)::mapA f r
end
def TS.get (st:TS) (i:Nat):TE:=match aa i st.tm with|some e=>e|none=> .dead
def TS.set (st:TS) (i:Nat) (e:TE):TS:=⟨jr i e st.tm,st.bx,st.ob⟩
def TS.AT (st:TS) (i:Nat) (cs:List CE):TS:=⟨st.tm,jr i cs st.bx,st.ob⟩
def TS.RM (st:TS) (i:Nat) (o:OB):TS:=⟨st.tm,st.bx,jr i o st.ob⟩
def gK (f:CE→CE):List kH→List kH
 |[]=>[]
 | .mk a cs::r=> .mk a (cs.map f)::gK f r
 | .ptr b::r=> .ptr b::gK f r
def rH (f:CE→CE) (g:TE→TE):TE→TE
 | .v tup es=> .v tup (gK f es)
 |e=>g e
def qg (f:CE→CE) (g:TE→TE) (h:List (Nat×OB)→List (Nat×OB)) (st:TS):TS:=
 ⟨mapA (rH f g) st.tm,mapA (List.map f) st.bx,h st.ob⟩
def dM:CE→List Nat
 | .ref o _=>[o]
 | .snap d _ _ _=>d
 |_=>[]
def eT:List kH→List Nat
 |[]=>[]
 | .mk _ cs::r=>cs.flatMap dM++eT r
 | .ptr _::r=>eT r
def rI:TE→List Nat
 | .v _ es=>eT es
 | .ep d _=>d
 | .er o _ _ _=>[o]
 |_=>[]
def F8 (o:Nat) (e:CE):CE:=match gJ o (dM e) with|true=> .gone|false=>e
def Lf (o:Nat):TE→TE
 | .ep d cells=>match gJ o d with|true=> .dead|false=> .ep d cells
 | .er p path i f=>match Nat.beq p o with|true=> .dead|false=> .er p path i f
 |e=>e
def iY (o:Nat) (st:TS):TS:=qg (F8 o) (Lf o) (kJ o) st
def Kf (o:Nat) (e:CE):CE:=match e with
 | .snap d l z rows=>match gJ o d with|true=> .gone|false=> .snap d l z rows
 |e=>e
def GW (o:Nat):TE→TE
 | .ep d cells=>match gJ o d with|true=> .dead|false=> .ep d cells
 | .er p (some q) i f=>match Nat.beq p o with|true=> .dead|false=> .er p (some q) i f
 |e=>e
def nM (o:Nat) (b:OB) (st:TS):TS:=qg (Kf o) (GW o) (jr o b) st
def IK (cut:Option (Int×Int)) (rows:List (List TC)):List (List TC):=match cut with
 |none=>rows
 |some (l,h)=>av rows l h
def RN (o:Nat) (l:Option (Nat×Int×Nat)):Option (Nat×Int×Nat):=match l with
 |some (p,i,f)=>match Nat.beq p o with|true=>none|false=>some (p,i,f)
 |none=>none
def Dt (o:Nat) (b:OB) (e:CE):CE:=match e with
 | .ref p cut=>match Nat.beq p o with|true=> .snap [] none b.z (IK cut b.rows)|false=> .ref p cut
 | .snap d l z rows=> .snap (IJ o d) (RN o l) z rows
 |e=>e
def GX (o:Nat):TE→TE
 | .ep d cells=> .ep (IJ o d) cells
 | .er p path i f=>match Nat.beq p o with|true=> .dead|false=> .er p path i f
 |e=>e
def qh (st:TS) (o:Nat):TS:=match aa o st.ob with
 |some b=>qg (Dt o b) (GX o) (kJ o) st
 |none=>st
def vz (o:Nat) (b:OB) (st:TS):TS:=(iY o st).RM o b
def gf:List (Nat×OB)→List (Nat×OB)→List (Nat×OB)
 |[],ob=>ob
 |(i,b)::r,ob=>jr i b (gf r ob)
def mJ {α:Type}:List (Nat×α)→List Nat
 |[]=>[]
 |(o,_)::r=>o::mJ r
def w6 (l:List Nat) (e:CE):CE:=match e with
 | .snap d l' z rows=>match om d l with|true=> .gone|false=> .snap d l' z rows
 |e=>e
def sX (l:List Nat):TE→TE
 | .ep d cells=>match om d l with|true=> .dead|false=> .ep d cells
 | .er p (some q) i f=>match gJ p l with|true=> .dead|false=> .er p (some q) i f
 |e=>e
def nN (W:List (Nat×OB)) (st:TS):TS:=match W with
 |[]=>st
 |W=>qg (w6 (mJ W)) (sX (mJ W)) (gf W) st
section
variable {Z : Type}
def fL {α:Type} (f:α→(α→Z)→Z):List α→(List α→Z)→Z
 |[],K=>K []
 |a::r,K=>f a fun a'=>fL f r fun r'=>K (a'::r')
def fB (b:Bool) (K:Bool→Z):Z:=match b with|true=>K true|false=>K false
def fN (n:Nat) (K:Nat→Z):Z:=K n
def Q6 (p:Option (Int×Nat)) (K:Option (Int×Nat)→Z):Z:=match p with|none=>K none|some (a,b)=>K (some (a,b))
def To (p:Option (Int×Int)) (K:Option (Int×Int)→Z):Z:=match p with|none=>K none|some (a,b)=>K (some (a,b))
def Wp (p:Option (Nat×Int×Nat)) (K:Option (Nat×Int×Nat)→Z):Z:=match p with|none=>K none|some (a,b,c)=>K (some (a,b,c))
def fV (v:Value) (K:Value→Z):Z:=match v with
 | .int k n=>K (.int k n)
 | .bool b=>K (.bool b)
 | .string s=>K (.string s)
 |v=>K v
def Tp (c:TC) (K:TC→Z):Z:=match c with| .sc v=>fV v fun v=>K (.sc v)| .sub z rows=>K (.sub z rows)| .any=>K .any
def UI (e:CE) (K:CE→Z):Z:=match e with
 | .sc v=>fV v fun v=>K (.sc v)
 | .nil z=>K (.nil z)
 | .ref o cut=>To cut fun cut=>K (.ref o cut)
 | .snap d l z rows=>fL fN d fun d=>Wp l fun l=>K (.snap d l z rows)
 | .gone=>K .gone
def Nj (c:kH) (K:kH→Z):Z:=match c with
 | .mk a cs=>fB a fun a=>fL UI cs fun cs=>K (.mk a cs)
 | .ptr b=>K (.ptr b)
def Ve (e:TE) (K:TE→Z):Z:=match e with
 | .dead=>K .dead
 | .v tup es=>fB tup fun tup=>fL Nj es fun es=>K (.v tup es)
 | .bp b off=>K (.bp b off)
 | .ep d cells=>fL fN d fun d=>fL Tp cells fun cells=>K (.ep d cells)
 | .er r path i f=>Q6 path fun path=>K (.er r path i f)
 | .fn f caps=>K (.fn f caps)
 | .kb b=>fB b fun b=>K (.kb b)
def Vf (b:OB) (K:OB→Z):Z:=match b with|⟨d,z,rows⟩=>fB d fun d=>K ⟨d,z,rows⟩
def Nk (cs:List TC) (K:List TC→Z):Z:=fL Tp cs K
def RO (v:TV) (K:TV→Z):Z:=match v with
 | .c c=>Tp c fun c=>K (.c c)
 | .ag cs=>Nk cs fun cs=>K (.ag cs)
 | .tu vs=>fL (fun p K=>match p with|(i,cs)=>Nk cs fun cs=>K (i,cs)) vs fun vs=>K (.tu vs)
 | .bx cs=>Nk cs fun cs=>K (.bx cs)
 | .fn f caps=>K (.fn f caps)
def Mr (st:TS) (K:TS→Z):Z:=
 fL (fun p K=>match p with|(i,e)=>Ve e fun e=>K (i,e)) st.tm fun tm=>
 fL (fun p K=>match p with|(i,cs)=>fL UI cs fun cs=>K (i,cs)) st.bx fun bx=>
 fL (fun p K=>match p with|(i,b)=>Vf b fun b=>K (i,b)) st.ob fun ob=>K ⟨tm,bx,ob⟩
end
def jt (st:TS):CE→Option (Nat×List (List TC))
 | .nil z=>some (z,[])
 | .ref o cut=>match aa o st.ob with|some ⟨_,z,rows⟩=>some (z,IK cut rows)|none=>none
 | .snap _ _ z rows=>some (z,rows)
 |_=>none
def sY (st:TS) (e:CE):Option TC:=match e with
 | .sc v=>some (.sc v)
 |e=>match jt st e with|some (z,rows)=>some (.sub z rows)|none=>none
def oz (st:TS):List CE→Option (List TC)
 |[]=>some []
 |e::r=>match sY st e,oz st r with
  |some c,some cs=>some (c::cs)
  |_,_=>none
def GY (c:TC):CE:=match c with| .sc v=> .sc v| .sub z _=> .nil z| .any=> .gone
section
variable (C : ic)
def GZ (ty:TypeId):Value→TE
 | .slice none 0 0=>match(C.tt ty).ti with
   | .slice e=>one (.nil (C.tt e).size)
   |_=> .dead
 | .int k n=>S (.int k n)
 | .bool b=> .kb b
 | .string s=>S (.string s)
 |_=> .dead
def lX (st:TS) (ty:TypeId):Operand→TE
 | .tmp i=>st.get i
 | .const v=>GZ C ty v
 | .func f=> .fn f []
 | .global _=> .dead
def Nl:TE→Option Value
 | .v false [.mk false [.sc v]]=>some v
 | .kb b=>some (.bool b)
 |_=>none
def asInt:TE→Option Int
 | .v false [.mk false [.sc (.int _ n)]]=>some n
 |_=>none
def p7:TE→Option CE
 | .v false [.mk false [e]]=>some e
 | .kb b=>some (.sc (.bool b))
 |_=>none
def w7:TE→Option (List CE)
 | .v false [.mk _ cs]=>some cs
 | .kb b=>some [.sc (.bool b)]
 |_=>none
def Nm (op:BinOp):Value→Value→Option Value
 | .int k a,.int k' b=>
   match op with
   | .shl=>if 0≤b then some (.int k (RL k a b)) else none
   | .shr=>if 0≤b then some (.int k (Mq k a b)) else none
   |_=>if k=k' then
    match op with
    | .add=>some (.int k (Kb k a b))
    | .sub=>some (.int k (DK k a b))
    | .mul=>some (.int k (Kd k a b))
    | .and=>some (.int k (vw .and k a b))
    | .or=>some (.int k (vw .or k a b))
    | .xor=>some (.int k (vw .xor k a b))
    | .eql=>some (.bool (fJ a b))
    | .neq=>some (.bool (!fJ a b))
    | .lss=>some (.bool (dn a b))
    | .leq=>some (.bool (p6 a b))
    | .gtr=>some (.bool (dn b a))
    | .geq=>some (.bool (p6 b a))
    |_=>none
    else none
 | .string a,.string b=>match op with
   | .eql=>some (.bool (Ka a b))
   | .neq=>some (.bool (!Ka a b))
   | .lss=>some (.bool (IG a b))
   | .leq=>some (.bool (IG a b||Ka a b))
   | .gtr=>some (.bool (!(IG a b||Ka a b)))
   | .geq=>some (.bool (!IG a b))
   |_=>none
 |_,_=>none
def qi:List Nat→List CE→List CE→Option Bool
 |[],[],[]=>some true
 |1::ks,.sc (.int k a)::r,.sc (.int k' b)::r'=>if k=k' then(match qi ks r r' with|some q=>some (fJ a b&&q)|none=>none) else none
 |2::ks,.sc (.bool a)::r,.sc (.bool b)::r'=>match qi ks r r' with|some q=>some (Pw a b&&q)|none=>none
 |3::ks,.sc (.string a)::r,.sc (.string b)::r'=>match qi ks r r' with|some q=>some (Ka a b&&q)|none=>none
 |_,_,_=>none
def zi (t:TypeId):Bool:=match(C.tt t).ti with| .struct _=>true|_=>false
def kK (t:TypeId) (f:Nat):Option (Nat×TypeId):=match(C.tt t).ti with| .struct fs=>fs[f]?|_=>none
def PI (t:TypeId) (f:Nat):TypeId:=match kK C t f with|some (_,ft)=>ft|none=>0
def rJ (t:TypeId):Option TypeId:=match(C.tt t).ti with| .slice e=>some e|_=>none
def RP (ds:List Nat) (loc:Option (Nat×Int×Nat)) (j:Nat) (c:TC):CE:=
 match c with
 | .sc v=> .sc v
 | .sub z rows=> .snap ds (match loc with|some (o,i,f)=>some (o,i,f+j)|none=>none) z rows
 | .any=> .gone
def sZ (ds:List Nat) (loc:Option (Nat×Int×Nat)):Nat→List TC→List CE
 |_,[]=>[]
 |j,c::r=>RP ds loc j c::sZ ds loc (j+1) r
def known (i:gx):Bool:=match i.ti with| .other=>false|_=>true
def rK (i:gx):Bool:=match i.ti with| .other=>false| .ptr _=>false|_=>true
def Nn (t:TypeId) (xs:List CE):TE:= .v false [.mk (zi C t) xs]
variable {R : Type}
def xJ (t:TypeId) (xs:List CE) (K:TE→Ev R):Ev R:=match known (C.tt t),Nat.beq xs.length (C.tt t).size with
 |true,true=>K (Nn C t xs)
 |_,_=> .fail
def G0 (e:TypeId) (z:Nat):Bool:=match known (C.tt e) with|true=>Nat.beq z (C.tt e).size|false=>false
def Lg (st:TS) (o:Nat) (path:Option (Int×Nat)) (i:Int) (f:Nat) (K:List TC→Ev R):Ev R:=
 match aa o st.ob with
 |some ⟨_,_,rows⟩=>match path with
  |none=> .row rows i fun row=>K (row.drop f)
  |some (i0,f0)=> .row rows i0 fun row0=>match row0[f0]? with
   |some (.sub _ kR)=> .row kR i fun row=>K (row.drop f)
   |_=> .fail
 |none=> .fail
def xK (st:TS) (t:TypeId) (e:TE) (K:TE→Ev R):Ev R:=
 match e with
 | .bp b off=>match aa b st.bx with
   |some cs=>xJ C t ((cs.drop off).take (C.tt t).size) K
   |none=> .fail
 | .ep ds cells=>xJ C t (sZ ds none 0 (cells.take (C.tt t).size)) K
 | .er o path i f=>Lg st o path i f fun cells=>
     xJ C t (sZ [o] (match path with|none=>some (o,i,f)|some _=>none) 0 (cells.take (C.tt t).size)) K
 |_=> .fail
def s5 (t:TypeId):List (Nat×TE)→List CE→Option (List CE)
 |[],cs=>some cs
 |(f,e)::r,cs=>match kK C t f,w7 e with
  |some (off,ft),some c=>match Nat.beq c.length (C.tt ft).size with
   |true=>s5 t r (cs.take off++c++cs.drop (off+c.length))
   |false=>none
  |_,_=>none
def Du (st:TS):List Operand→Option (List Nat)
 |[]=>some []
 |x::r=>match lX C st 0 x,Du st r with
  | .bp b 0,some bs=>some (b::bs)
  |_,_=>none
def bound (st:TS) (d:Int):Option Operand→Option Int
 |none=>some d
 |some a=>asInt (lX C st 0 a)
def plain:TE→TE
 | .kb b=>S (.bool b)
 |e=>e
def No (e:CE) (l h:Int):CE:=match e with
 | .nil z=> .nil z
 | .ref o none=> .ref o (some (l,h))
 | .ref o (some (a,_))=> .ref o (some (zh a l,zh a h))
 | .snap ds _ z rows=> .snap ds none z (av rows l h)
 |e=>e
def Np (e:CE) (n:Int) (cells:List TC):TE:=match e with
 | .ref o none=> .er o none n 0
 | .ref o (some _)=> .ep [o] cells
 | .snap _ (some (o,i,f)) _ _=> .er o (some (i,f)) n 0
 | .snap ds none _ _=> .ep ds cells
 |_=> .dead
def Dv (t:TypeId):Bool:=match(C.tt t).ti with| .bool=>true|_=>false
def RQ (bt:Bool) (op:BinOp) (a b:Value) (K:TE→Ev R):Ev R:=match op,a,b with
 | .eql,.bool p,.bool q=>match bt with|true=>K (S (.bool (Pw p q)))|false=> .fail
 | .neq,.bool p,.bool q=>match bt with|true=>K (S (.bool (!Pw p q)))|false=> .fail
 | .rem,.int k p,.int k' q=>if k=k' then .test (fJ q 0) fun z=>match z with
     |false=>K (S (.int k (Ke p q)))
     |true=> .fail
   else .fail
 | .quo,.int k p,.int k' q=>if k=k' then .test (fJ q 0) fun z=>match z with
     |false=>K (S (.int k (dR k p q)))
     |true=> .fail
   else .fail
 | .add,.string p,.string q=> .test (fits (p.size+q.size) 1) fun z=>match z with
   |true=>K (S (.string (Tm p q)))
   |false=> .fail
 |_,_,_=>match Nm op a b with
  |some v=>K (S v)
  |none=> .fail
def RS (st:TS) (t:TypeId) (e:CE) (K:Value→Ev R):Ev R:=match(C.tt t).ti,e with
 | .str,.sc (.string s)=>K (.int .i64 s.size)
 | .slice _,e=>match jt st e with
   |some (_,rows)=>K (.int .i64 rows.length)
   |none=> .fail
 |_,_=> .fail
def eE (st:TS) (o:Oper) (K:TE→Ev R):Ev R:=
 match o.op with
 | .move x=>K (lX C st o.type x)
 | .assign x=>K (lX C st o.type x)
 | .pick c a b=>match lX C st o.type c with
   | .kb p=>match p with
     |true=>K (lX C st o.type a)
     |false=>K (lX C st o.type b)
   |_=> .fail
 | .load t a=>xK C st t (lX C st 0 a) K
 | .nilCheck x=>match lX C st 0 x with
   | .bp b off=>K (.bp b off)
   | .ep d c=>K (.ep d c)
   | .er r p i f=>K (.er r p i f)
   |_=> .fail
 | .binOp op t x y _=>match plain (lX C st t x),plain (lX C st t y) with
   | .v false [.mk false [.sc a]],.v false [.mk false [.sc b]]=>RQ (Dv C t) op a b K
   | .v false [.mk true xs],.v false [.mk true ys]=>match known (C.tt t),(C.tt t).eqs with
     |false,_=> .fail
     |true,[]=> .fail
     |true,k::ks=>match op,qi (k::ks) xs ys with
      | .eql,some b=>K (S (.bool b))
      | .neq,some b=>K (S (.bool (!b)))
      |_,_=> .fail
   |_,_=> .fail
 | .unOp op _ x=>match op,lX C st o.type x with
   | .not,.kb b=>match b with|true=>K (.kb false)|false=>K (.kb true)
   | .not,.v false [.mk false [.sc (.bool b)]]=>K (S (.bool (!b)))
   | .neg,.v false [.mk false [.sc (.int k n)]]=>K (S (.int k (DK k 0 n)))
   |_,_=> .fail
 | .convert src dst x=>match(C.tt dst).ti,(C.tt src).ti,lX C st src x with
   | .int k,.int _,.v false [.mk false [.sc (.int _ n)]]=>K (S (.int k (BX k n)))
   | .str,.str,.v false [.mk false [.sc (.string s)]]=>K (S (.string s))
   | .str,.slice et,.v false [.mk false [e]]=>match(C.tt et).ti,jt st e with
     | .int .u8,some (_,rows)=> .bytes rows fun ns=>K (S (.string (II ns)))
     |_,_=> .fail
   |_,_,_=> .fail
 | .fieldAddr s x f=>match kK C s f,lX C st 0 x with
   |some (off,_),.bp b o=>K (.bp b (o+off))
   |some (off,_),.ep d cells=>K (.ep d (cells.drop off))
   |some (off,_),.er r p i g=>K (.er r p i (g+off))
   |_,_=> .fail
 | .field t x f=>match kK C t f,lX C st t x with
   |some (off,ft),.v false [.mk true cs]=>xJ C ft ((cs.drop off).take (C.tt ft).size) K
   |_,_=> .fail
 | .indexAddr t x i=>match rJ C t,p7 (lX C st t x),asInt (lX C st 0 i) with
   |some et,some e,some n=>match jt st e with
    |some (z,rows)=>match G0 C et z with
     |true=> .row rows n fun cells=>K (Np e n cells)
     |false=> .fail
    |none=> .fail
   |_,_,_=> .fail
 | .index t x i=>match(C.tt t).ti,Nl (lX C st t x),asInt (lX C st 0 i) with
   | .str,some (.string s),some n=> .byte s n fun b=>K (S (.int .u8 b))
   |_,_,_=> .fail
 | .slice t x lo hi mx=>match mx,(C.tt t).ti,p7 (lX C st t x) with
   |none,.str,some (.sc (.string s))=>match bound C st 0 lo,bound C st s.size hi with
    |some l,some h=> .test (fq l h s.size) fun z=>match z with
     |true=>K (S (.string (Tn s l h)))
     |false=> .fail
    |_,_=> .fail
   |none,.slice et,some e=>match jt st e with
    |some (z,rows)=>match G0 C et z,bound C st 0 lo,bound C st rows.length hi with
     |true,some l,some h=> .test (fq l h rows.length) fun b=>match b with
      |true=>K (one (No e l h))
      |false=> .fail
     |_,_,_=> .fail
    |none=> .fail
   |_,_,_=> .fail
 | .extract x i=>match lX C st 0 x with
   | .v true es=>match es[i]? with
     |some (.mk a cs)=>K (.v false [.mk a cs])
     |some (.ptr b)=>K (.bp b 0)
     |none=> .fail
   |_=> .fail
 | .build t ps=>match zi C t,s5 C t (ps.toList.map fun p=>(p.1,lX C st (PI C t p.1) p.2)) ((C.tt t).zero.map GY) with
   |true,some cs=>K (.v false [.mk true cs])
   |_,_=> .fail
 | .makeFunc fn first caps=>match fn,first.toList,Du C st caps.toList with
   | .func f,[],some bs=>K (.fn f bs)
   |_,_,_=> .fail
 | .call {callee:= .builtin .len,args,argTypes}=>match args.toList,argTypes.toList with
   |[x],[t]=>match p7 (lX C st t x) with
    |some e=>RS C st t e fun v=>K (S v)
    |none=> .fail
   |_,_=> .fail
 | .call {callee:= .builtin .min,args,argTypes}=>match args.toList,argTypes.toList with
   |[x,y],t::_=>match Nl (lX C st t x),asInt (lX C st t y) with
    |some (.int k a),some b=>K (S (.int k (Ni a b)))
    |_,_=> .fail
   |_,_=> .fail
 |_=> .fail
def jP (e:CE) (st:TS):Option (TC×TS×Bool):=
 match e with
 | .sc v=>some (.sc v,st,true)
 | .nil z=>some (.sub z [],st,true)
 | .ref o cut=>match aa o st.ob with
   |some ⟨d,z,rows⟩=>some (.sub z (IK cut rows),iY o st,d)
   |none=>none
 | .snap [] _ z rows=>some (.sub z rows,st,false)
 |_=>none
def DL:List CE→TS→Option (List TC×TS×Bool)
 |[],st=>some ([],st,true)
 |e::r,st=>match jP e st with
  |some (c,cG,d1)=>match DL r cG with
   |some (cs,jL,d2)=>some (c::cs,jL,d1&&d2)
   |none=>none
  |none=>none
def rowsOf (st:TS) (ty:TypeId):List (Nat×Operand)→Nat→Option (List (List TC)×TS×Bool)
 |[],_=>some ([],st,true)
 |(i,x)::r,n=>match Nat.beq i n,w7 (lX C st ty x) with
  |true,some cs=>match Nat.beq cs.length (C.tt ty).size,DL cs st with
   |true,some (cs',cG,d1)=>match rowsOf cG ty r (n+1) with
    |some (rs,jL,d2)=>some (cs'::rs,jL,d1&&d2)
    |none=>none
   |_,_=>none
  |_,_=>none
def mF (d k j:Nat):Nat:=1000+400*d+20*k+j
def RT (b j:Nat):Nat:=1000000000+100*b+j
def r5 (b:Nat):Bool:=match Nat.ble 200000 b with|true=>Nat.ble 300000 b|false=>true
def Q7 (b:Nat):kH→Bool
 | .ptr c=>Nat.beq c b
 | .mk _ _=>false
def DM (b:Nat):TE→Bool
 | .bp c _=>Nat.beq c b
 | .fn _ caps=>gJ b caps
 | .v _ es=>es.any (Q7 b)
 |_=>false
def F9 (b:Nat) (st:TS):TS:=⟨mapA (fun e=>match DM b e with|true=> .dead|false=>e) st.tm,kJ b st.bx,st.ob⟩
def AU (b:Nat) (cs:List CE) (st:TS):TS:=(F9 b st).AT b cs
def setCells (f:Nat) (cs:List TC) (rows:List (List TC)) (i:Int):List (List TC):=setRow rows i f cs
def DN (o:Nat) (e:CE):CE:=match e with
 | .snap d (some (p,i,f)) z rows=>match Nat.beq p o with|true=> .snap [] none z rows|false=> .snap d (some (p,i,f)) z rows
 |e=>e
def Q8 (o:Nat):TE→TE
 | .er p (some q) i f=>match Nat.beq p o with|true=> .dead|false=> .er p (some q) i f
 |e=>e
def Fo (b:OB):OB:=⟨false,b.z,b.rows⟩
def si (o:Nat) (st:TS):TS:=match aa o st.ob with
 |some b=>qg (DN o) (Q8 o) (jr o (Fo b)) st
 |none=>st
def Kg (o:Nat):List CE→Bool
 |[]=>false
 | .snap _ (some (p,_,_)) _ _::r=>match Nat.beq p o with|true=>true|false=>Kg o r
 |_::r=>Kg o r
def zj (o:Nat) (path:Option (Int×Nat)) (i:Int) (f:Nat) (cs:List CE) (st:TS) (K:TS→Ev R):Ev R:=
 match DL cs st with
 |some (ts,cG,d1)=>match aa o cG.ob with
  |some ⟨d,z,rows⟩=>match path with
   |none=> .row rows i fun row=>match Nat.ble (f+ts.length) row.length with
    |true=>K (nN [(o,⟨d&&d1,z,setRow rows i f ts⟩)] cG)
    |false=> .fail
   |some (i0,f0)=>match d,d1 with
    |true,true=> .row rows i0 fun row0=>match row0[f0]? with
     |some (.sub z1 kR)=> .row kR i fun row=>match Nat.ble (f+ts.length) row.length with
      |true=>K (nN [(o,⟨true,z,setRow rows i0 f0 [.sub z1 (setRow kR i f ts)]⟩)] cG)
      |false=> .fail
     |_=> .fail
    |_,_=> .fail
  |none=> .fail
 |none=> .fail
def Dw:List CE→Bool
 |[]=>false
 | .gone::_=>true
 |_::r=>Dw r
def DO (b off:Nat) (cs:List CE) (st:TS):Option TS:=
 match aa b st.bx with
 |some old=>match r5 b&& !Dw cs,Nat.ble (off+cs.length) old.length with
  |true,true=>some (st.AT b (old.take off++cs++old.drop (off+cs.length)))
  |_,_=>none
 |none=>none
def rL (st:TS) (e:CE):Option (Option Nat×Nat×Bool×List (List TC)):=
 match e with
 | .nil z=>some (none,z,true,[])
 | .ref o cut=>match aa o st.ob with
   |some ⟨d,z,rows⟩=>some (some o,z,d,IK cut rows)
   |none=>none
 |_=>none
def jA (o:Option Nat) (st:TS):TS:=match o with|some o=>iY o st|none=>st
def p8 (d:Nat) (b:OB) (st:TS):TS:=(vz (mF d 0 0) b st).set d (one (.ref (mF d 0 0) none))
def AV (e:TypeId) (z:Nat):Bool:=match rK (C.tt e) with|true=>Nat.beq z (C.tt e).size|false=>false
def yd (g o':Nat) (b:OB) (l h:Int) (st:TS):TS:=vz g ⟨true,1,[]⟩ (nM o' ⟨b.deep,b.z,eM b.z b.rows l h⟩ st)
def Kh (d:Nat) (o:Option Nat) (dp:Bool) (cx:CE) (st:TS):Option (Nat×List (List TC)×TS):=match cx with
 | .ref o' (some (l,h))=>match dp,aa o' st.ob,(match o with|some o=>Nat.beq o o'||Nat.beq o (mF d 1 0)|none=>false)||Nat.beq o' (mF d 1 0) with
   |true,some ⟨true,z,rows⟩,false=>some (z,av rows l h,iY (mF d 1 0) (jA o (yd (mF d 1 0) o' ⟨true,z,rows⟩ l h st)))
   |_,_,_=>none
 |_=>none
def Nq (st:TS) (cx:CE):Option (Nat×List (List TC)):=match cx with
 | .ref o' cut=>match aa o' st.ob with
   |some ⟨false,z,rows⟩=>some (z,IK cut rows)
   |_=>none
 |_=>none
def Lh (st:TS) (d:Nat) (t t':TypeId) (s:TE) (x:TE) (K:TS→Ev R):Ev R:=
 match rJ C t,p7 s,p7 x with
 |some e,some cs,some cx=>match rL st cs,(C.tt t').ti with
  |some (o,z,dp,rows),.str=>match AV C e z,Nat.beq z 1,cx with
   |true,true,.sc (.string b)=> .test (fits (rows.length+b.size) (C.tt e).bytes) fun q=>match q with
    |true=>K (p8 d ⟨dp,z,rows++xI b⟩ (jA o st))
    |false=> .fail
   |_,_,_=> .fail
  |some (o,z,dp,rows),.slice _=>match AV C e z with
   |false=> .fail
   |true=>match(C.tt e).flat with
     |true=>match jt st cx with
      |some (z',aP)=>match Nat.beq z z' with
       |true=> .test (cQ aP&&fits (rows.length+aP.length) (C.tt e).bytes) fun q=>match q with
        |true=>K (p8 d ⟨dp,z,rows++aP⟩ (jA o st))
        |false=> .fail
       |false=> .fail
      |none=> .fail
     |false=>match Kh d o dp cx st with
      |some (z',aP,cG)=>match Nat.beq z z' with
        |true=> .test (fits (rows.length+aP.length) (C.tt e).bytes) fun q=>match q with
         |true=>K (p8 d ⟨dp,z,rows++aP⟩ cG)
         |false=> .fail
        |false=> .fail
      |none=>match Nq st cx with
       |some (z',aP)=>match Nat.beq z z' with
        |true=> .test (fits (rows.length+aP.length) (C.tt e).bytes) fun q=>match q with
         |true=>K (p8 d ⟨false,z,rows++aP⟩ (jA o st))
         |false=> .fail
        |false=> .fail
       |none=>match jP cx (jA o st) with
       |some (.sub z' aP,cG,d1)=>match Nat.beq z z' with
        |true=> .test (fits (rows.length+aP.length) (C.tt e).bytes) fun q=>match q with
         |true=>K (p8 d ⟨dp&&d1,z,rows++aP⟩ cG)
         |false=> .fail
        |false=> .fail
       |_=> .fail
  |_,_=> .fail
 |_,_,_=> .fail
def Q9 (st:TS) (d:Option Nat) (t:TypeId) (s:TE) (x:TE) (K:TS→Ev R):Ev R:=
 match rJ C t,p7 s,p7 x with
 |some e,some (.ref o none),some cx=>match aa o st.ob,jt st cx,rK (C.tt e) with
  |some ⟨true,z,rows⟩,some (z',aP),true=>match Nat.beq z z'&&Nat.beq z (C.tt e).size with
   |true=> .test (cQ aP) fun q=>match q with
    |true=>match d with
     |some d=>K ((nM o ⟨true,z,jO rows aP⟩ st).set d (one (.sc (.int .i64 (Int.ofNat (r9 aP.length rows.length))))))
     |none=>K (nM o ⟨true,z,jO rows aP⟩ st)
    |false=> .fail
   |false=> .fail
  |_,_,_=> .fail
 |_,_,_=> .fail
def G1 (st:TS):List Nat→Option (List (List TC))
 |[]=>some []
 |b::r=>match aa b st.bx with
  |some cs=>match oz st cs,G1 st r with
   |some c,some cs=>some (c::cs)
   |_,_=>none
  |none=>none
def Nr (st:TS) (e:TE) (K:TV→Ev R):Ev R:=
 match e with
 | .v false [.mk a cs]=>match oz st cs with
   |some ts=>match a,ts with
    |true,ts=>K (.ag ts)
    |false,[c]=>K (.c c)
    |_,_=> .fail
   |none=> .fail
 | .kb b=>K (.c (.sc (.bool b)))
 | .bp b off=>match aa b st.bx with
   |some cs=>match oz st (cs.drop off) with
    |some ts=>K (.bx ts)
    |none=> .fail
   |none=> .fail
 | .ep _ (c::cells)=>K (.bx (c::cells))
 | .er r p i f=>Lg st r p i f fun cells=>match cells with
   |[]=> .fail
   |c::cells=>K (.bx (c::cells))
 | .fn f caps=>match G1 st caps with
   |some xs=>K (.fn f xs)
   |none=> .fail
 |_=> .fail
def IL (st:TS):List TE→(List TV→Ev R)→Ev R
 |[],K=>K []
 |e::r,K=>Nr st e fun v=>IL st r fun vs=>K (v::vs)
def s6 (st:TS) (b:Nat):List Nat:=match aa b st.bx with
 |some cs=>(2*b+1)::(cs.flatMap dM).map (2* ·)
 |none=>[2*b+1]
def lY (st:TS):TE→List Nat
 | .v _ es=>(eT es).map (2* ·)
 | .ep d _=>d.map (2* ·)
 | .er o _ _ _=>[2*o]
 | .bp b _=>s6 st b
 | .fn _ caps=>caps.flatMap (s6 st)
 |_=>[]
def qj (st:TS) (o:Nat):Bool:=match aa o st.ob with|some ⟨true,_,_⟩=>true|_=>false
def AW (st:TS) (o:Nat):Bool:=match aa o st.ob with|some ⟨false,_,_⟩=>true|_=>false
def lZ (st:TS) (c:Bool):List Mode→List CE→Option (List Nat)
 |_,[]=>some []
 |ms,e::r=>match lZ st c (ms.drop 1) r with
  |some l=>match ms.headD .deep,e with
   |_,.sc _=>some l
   |_,.nil _=>some l
   | .snap,.snap [] none _ _=>some l
   | .snap,_=>none
   | .top,.ref o none=>match AW st o with|true=>some ((2*o)::l)|false=>none
   | .top,_=>none
   |_,.ref o none=>match qj st o with|true=>some ((2*o)::l)|false=>none
   |_,.ref o (some _)=>match c,qj st o with|true,true=>some ((2*o)::l)|_,_=>none
   |_,.snap _ (some (o,_,_)) _ _=>match c,qj st o with|false,true=>some ((2*o)::l)|_,_=>none
   |_,_=>none
  |none=>none
def lD (st:TS) (c:Bool) (ms:List Mode) (e:TE):Option (List Nat):=match e with
 | .v false [.mk _ cs]=>match c,ms with|true,ms=>lZ st true ms cs|false,[]=>lZ st false [] cs|_,_=>none
 | .bp b 0=>match c,r5 b,aa b st.bx with
   |false,true,some cs=>match lZ st true ms cs with
    |some l=>some ((2*b+1)::l)
    |none=>none
   |_,_,_=>none
 |_=>none
def bC.ms:bC→List Mode
 | .inout ms=>ms
 | .consume ms=>ms
 |_=>[]
def ye:List Nat→Bool
 |[]=>true
 |a::r=>match gJ a r with|true=>false|false=>ye r
def s7 (st:TS):List bC→List TE→Option (List Nat×List Nat)
 |[],[]=>some ([],[])
 |p::ps,e::es=>match s7 st ps es with
  |some (own,rd)=>match p with
   | .borrow=>some (own,lY st e++rd)
   | .inout ms=>match lD st false ms e with|some l=>some (l++own,rd)|none=>none
   | .consume ms=>match lD st true ms e with|some l=>some (l++own,rd)|none=>none
  |none=>none
 |_,_=>none
def oA:List CE→TS→TS
 |[],st=>st
 | .ref o _::r,st=>oA r (iY o st)
 |_::r,st=>oA r st
def mM (st:TS) (e:CE) (c:TC):Option (List (Nat×OB)):=
 match e,c with
 | .sc _,.sc _=>some []
 | .nil _,.sub _ []=>some []
 | .ref o none,.sub z rows=>match aa o st.ob with
   |some ⟨true,z0,_⟩=>match Nat.beq z z0 with|true=>some [(o,⟨true,z,rows⟩)]|false=>none
   |_=>none
 | .snap _ (some (o,i,f)) z0 _,.sub z' aP=>match aa o st.ob,Nat.beq z' z0 with
   |some ⟨true,z,rows⟩,true=>some [(o,⟨true,z,setRow rows i f [.sub z' aP]⟩)]
   |_,_=>none
 |_,_=>none
def Dx (st:TS):List CE→List TC→Option (List (Nat×OB))
 |[],[]=>some []
 |e::r,c::cs=>match mM st e c,Dx st r cs with
  |some a,some b=>some (a++b)
  |_,_=>none
 |_,_=>none
def bJ (f:Nat→Nat):List Mode→Nat→List TC→TS→List CE×TS
 |_,_,[],st=>([],st)
 |ms,j,c::cs,st=>match c with
  | .sc v=>match bJ f (ms.drop 1) (j+1) cs st with|(r,st')=>(.sc v::r,st')
  | .sub z rows=>match ms.headD .snap with
    | .snap=>match bJ f (ms.drop 1) (j+1) cs st with|(r,st')=>(.snap [] none z rows::r,st')
    | .top=>match bJ f (ms.drop 1) (j+1) cs (vz (f j) ⟨false,z,rows⟩ st) with|(r,st')=>(.ref (f j) none::r,st')
    | .deep=>match bJ f (ms.drop 1) (j+1) cs (vz (f j) ⟨true,z,rows⟩ st) with|(r,st')=>(.ref (f j) none::r,st')
  | .any=>match bJ f (ms.drop 1) (j+1) cs st with|(r,st')=>(.gone::r,st')
def ny (kC:TS):List bC→List TE→TS→TS
 |p::ps,e::es,st=>match p,e with
  | .consume _,.v false [.mk _ cs]=>ny kC ps es (oA cs st)
  | .inout _,.bp b _=>match aa b kC.bx with
    |some cs=>ny kC ps es ⟨(oA cs st).tm,kJ b (oA cs st).bx,(oA cs st).ob⟩
    |none=>ny kC ps es st
  |_,_=>ny kC ps es st
 |_,_,st=>st
def oB (st:TS):List bC→List TE→List TV→Option (List (Nat×OB)×List (Nat×List Mode×List TC))
 |p::ps,e::es,fs=>match p with
  | .inout ms=>match e,fs with
    | .v false [.mk false [e]],.c c::fs=>match mM st e c,oB st ps es fs with
      |some a,some (b,bs)=>some (a++b,bs)
      |_,_=>none
    | .v false [.mk true cs],.ag ts::fs=>match Dx st cs ts,oB st ps es fs with
      |some a,some (b,bs)=>some (a++b,bs)
      |_,_=>none
    | .bp b 0,.bx ts::fs=>match aa b st.bx,oB st ps es fs with
      |some cs,some (a,bs)=>match Nat.beq cs.length ts.length with|true=>some (a,(b,ms,ts)::bs)|false=>none
      |_,_=>none
    |_,_=>none
  |_=>oB st ps es fs
 |[],[],[]=>some ([],[])
 |_,_,_=>none
def IM:List Mode→List TC→List Mode
 |_,[]=>[]
 |ms,_::r=>(match ms.headD .deep with| .snap=> .snap|_=> .deep)::IM (ms.drop 1) r
def zk:List (Nat×List Mode×List TC)→TS→TS
 |[],st=>st
 |(b,ms,ts)::r,st=>match bJ (RT b) (IM ms ts) 0 ts st with
  |(cs,st')=>zk r (st'.AT b cs)
def mN (st:TS):List Nat→TS
 |[]=>st
 |o::r=>mN (qh st o) r
def vA (st:TS):TE→List Nat
 | .bp b _=>match aa b st.bx with|some cs=>cs.flatMap dM|none=>[]
 | .fn _ caps=>caps.flatMap fun b=>match aa b st.bx with|some cs=>cs.flatMap dM|none=>[]
 |e=>rI e
def borrowed (st:TS):List bC→List TE→List Nat
 | .borrow::ps,e::es=>vA st e++borrowed st ps es
 |_::ps,_::es=>borrowed st ps es
 |_,_=>[]
def oC (d k:Nat):Nat:=400000+20*d+k
def eg (d:Nat):Nat→List (List Mode)→List (Nat×List TC)→TS→List kH×TS
 |_,_,[],st=>([],st)
 |k,ms,(a,cs)::r,st=>match bJ (mF d k) (ms.headD []) 0 cs st with
  |(cs',st')=>match Nat.beq a 2 with
   |true=>match eg d (k+1) (ms.drop 1) r (AU (oC d k) cs' st') with
    |(es,BS)=>(.ptr (oC d k)::es,BS)
   |false=>match eg d (k+1) (ms.drop 1) r st' with
    |(es,BS)=>(.mk (Nat.beq a 1) cs'::es,BS)
def w8:List (Nat×List TC)→Bool
 |[]=>true
 |(_,cs)::r=>match Nat.ble cs.length 20 with|true=>w8 r|false=>false
def Ns (d:Nat) (ms:List (List Mode)) (v:TV) (st:TS):Option TS:=
 match v with
 | .c c=>match bJ (mF d 0) (ms.headD []) 0 [c] st with|(cs,st')=>some (st'.set d (.v false [.mk false cs]))
 | .ag cs=>match bJ (mF d 0) (ms.headD []) 0 cs st with|(cs,st')=>some (st'.set d (.v false [.mk true cs]))
 | .tu vs=>match w8 vs with
   |true=>match eg d 0 ms vs st with|(es,st')=>some (st'.set d (.v true es))
   |false=>none
 | .bx cs=>match bJ (mF d 0) (ms.headD []) 0 cs st with|(cs',st')=>some ((AU (oC d 0) cs' st').set d (.bp (oC d 0) 0))
 |_=>none
def qk:TV→Bool
 | .c _=>true
 | .ag cs=>Nat.ble cs.length 16
 | .bx cs=>Nat.ble cs.length 16
 | .fn _ caps=>Nat.ble caps.length 900
 | .tu _=>false
def kL:List TV→Bool
 |[]=>true
 |v::r=>match qk v with|true=>kL r|false=>false
def oZ (vs:List TV):Bool:=match Nat.ble vs.length 50 with|true=>kL vs|false=>false
def vC (sh:Bool) (st:TS) (ps:List bC) (es:List TE):TS:=match sh with
 |true=>mN (ny st ps es st) (borrowed st ps es)
 |false=>ny st ps es st
def jX:List Mode→List TC→Bool
 |_,[]=>true
 |ms,.sc _::r=>jX (ms.drop 1) r
 |ms,.sub _ _::r=>match ms.headD .snap with| .deep=>jX (ms.drop 1) r|_=>false
 |ms,.any::r=>match ms.headD .snap with| .deep=>jX (ms.drop 1) r|_=>false
def Dy:List (List Mode)→List (Nat×List TC)→Bool
 |_,[]=>true
 |ms,(_,cs)::r=>match jX (ms.headD []) cs with|true=>Dy (ms.drop 1) r|false=>false
def Li (ms:List (List Mode)):TV→Bool
 | .c c=>jX (ms.headD []) [c]
 | .ag cs=>jX (ms.headD []) cs
 | .bx cs=>jX (ms.headD []) cs
 | .tu vs=>Dy ms vs
 | .fn _ _=>false
def G2:List bC→Bool
 |[]=>true
 | .inout (_::_)::_=>false
 |_::r=>G2 r
def Nt:List bC→Bool
 |[]=>true
 | .inout (_::_)::_=>false
 | .consume (_::_)::_=>false
 |_::r=>Nt r
def Ki (g:Mo) (r:TV):Bool:=match g.shares with
 |true=>true
 |false=>match G2 g.ps with|true=>Li g.res r|false=>false
def zl (d:Option Tmp) (f:FuncId) (es:List TE) (st:TS) (K:TS→Ev R):Ev R:=
 match s7 st (C.sig f).ps es with
 |some (own,rd)=>match ye own,om own rd,(C.sig f).shares&&gJ 0 rd with
  |true,false,false=>IL st es fun vs=>match oZ vs with
   |true=> .call f vs fun r fs=>match Ki (C.sig f) r with
    |false=> .fail
    |true=>match oB st (C.sig f).ps es fs with
     |some (W,B)=>Mr (zk B (nN W (vC (C.sig f).shares st (C.sig f).ps es))) fun jL=>match d with
      |some d=>match Ns d (C.sig f).res r jL with
       |some st4=>K st4
       |none=> .fail
      |none=>K jL
     |none=> .fail
   |false=> .fail
  |_,_,_=> .fail
 |none=> .fail
def zm (st:TS):List Operand→List TypeId→List TE
 |x::xs,t::ts=>lX C st t x::zm st xs ts
 |_,_=>[]
def Ga (st:TS) (o:Oper) (K:TS→Ev R):Ev R:=match o.dst with
 |some d=>eE C st o fun e=>K (st.set d e)
 |none=> .fail
def jQ (st:TS) (o:Oper) (K:TS→Ev R):Ev R:=
 match o.op with
 | .alloc t=>match o.dst,rK (C.tt t) with
   |some d,true=>match r5 d with
    |true=>K ((AU d ((C.tt t).zero.map GY) st).set d (.bp d 0))
    |false=> .fail
   |_,_=> .fail
 | .box t x=>match o.dst,w7 (lX C st t x) with
   |some d,some cs=>match r5 d with
    |true=>K ((AU d cs st).set d (.bp d 0))
    |false=> .fail
   |_,_=> .fail
 | .store t a x=>match o.dst,known (C.tt t),w7 (lX C st t x) with
   |none,true,some cs=>match Nat.beq cs.length (C.tt t).size,lX C st 0 a with
    |true,.bp b off=>match DO b off cs st with
     |some st'=>K st'
     |none=> .fail
    |true,.er r none i f=>match Kg r cs with
     |true=>zj r none i f (cs.map (DN r)) (si r st) K
     |false=>zj r none i f cs st K
    |true,.er r p i f=>zj r p i f cs st K
    |_,_=> .fail
   |_,_,_=> .fail
 | .buildSlice t n ps=>match o.dst,rJ C t with
   |some d,some e=>match Nat.beq n ps.size&&Nat.ble (n*(C.tt e).size) 16777216&&rK (C.tt e),rowsOf C st e ps.toList 0 with
    |true,some (rs,st',dp)=>K (p8 d ⟨dp,(C.tt e).size,rs⟩ st')
    |_,_=> .fail
   |_,_=> .fail
 | .makeSlice t l c=>match o.dst,rJ C t,asInt (lX C st 3 l),asInt (lX C st 3 c) with
   |some d,some e,some n,some n'=> .test (rK (C.tt e)&&fJ n n'&&p6 0 n&&fits (zg n) (C.tt e).bytes) fun z=>match z with
    |true=>K (p8 d ⟨true,(C.tt e).size,List.replicate (zg n) (C.tt e).zero⟩ st)
    |false=> .fail
   |_,_,_,_=> .fail
 | .convert src dst x=>match(C.tt dst).ti,(C.tt src).ti with
   | .slice et,.str=>match o.dst,(C.tt et).ti,Nl (lX C st src x) with
     |some d,.int .u8,some (.string s)=> .test (fits s.size 1) fun z=>match z with
      |true=>K (p8 d ⟨true,1,xI s⟩ st)
      |false=> .fail
     |_,_,_=> .fail
   |_,_=>Ga C st o K
 | .call {callee:= .builtin .append,args,argTypes}=>match o.dst,args.toList,argTypes.toList with
   |some d,[s,x],[t,t']=>Lh C st d t t' (lX C st t s) (lX C st t' x) K
   |_,_,_=> .fail
 | .call {callee:= .builtin .copy,args,argTypes}=>match args.toList,argTypes.toList with
   |[s,x],[t,t']=>Q9 C st o.dst t (lX C st t s) (lX C st t' x) K
   |_,_=> .fail
 | .call {callee:= .value (.func f),args,argTypes}=>match Nat.beq args.toList.length argTypes.toList.length with
   |true=>zl C o.dst f (zm C st args.toList argTypes.toList) st K
   |false=> .fail
 | .call {callee:= .value (.tmp i),args,argTypes}=>match Nat.beq args.toList.length argTypes.toList.length with
   |true=>match st.get i with
    | .fn f caps=>zl C o.dst f (zm C st args.toList argTypes.toList++caps.map fun b=> .bp b 0) st K
    |_=> .fail
   |false=> .fail
 |_=>Ga C st o K
def G3 (st:TS) (b:Nat):List Nat:=match aa b st.bx with
 |some cs=>(2*b+1)::(cs.flatMap dM).map (2* ·)
 |none=>[2*b+1]
def vD (st:TS):TE→List Nat
 | .v _ es=>(eT es).map (2* ·)
 | .bp b _=>G3 st b
 |_=>[]
def lE (st:TS):List bC→List TE→List Nat
 | .borrow::ps,_::es=>lE st ps es
 |_::ps,e::es=>vD st e++lE st ps es
 |_,_=>[]
def writes (st:TS) (o:Oper):List Nat:=match o.op with
 | .store _ a _=>match lX C st 0 a with
   | .bp b _=>[2*b+1]
   | .er o _ _ _=>[2*o]
   |_=>[]
 | .call {callee:= .builtin .append,args,argTypes}=>match args.toList,argTypes.toList with
   |s::_,t::_=>(rI (lX C st t s)).map (2* ·)
   |_,_=>[]
 | .call {callee:= .builtin .copy,args,argTypes}=>match args.toList,argTypes.toList with
   |s::_,t::_=>(rI (lX C st t s)).map (2* ·)
   |_,_=>[]
 | .call {callee:= .value (.func f),args,argTypes}=>lE st (C.sig f).ps (zm C st args.toList argTypes.toList)
 | .call {callee:= .value (.tmp i),args,argTypes}=>match st.get i with
   | .fn f caps=>lE st (C.sig f).ps (zm C st args.toList argTypes.toList++caps.map fun b=> .bp b 0)
   |_=>[]
 |_=>[]
def Nu (st:TS) (o:Oper):Option (List Nat):=match o.op with
 | .load _ a=>match lX C st 0 a with
   | .bp b _=>match aa b st.bx with
     |some _=>some [2*b+1]
     |none=>none
   | .ep d (_::_)=>some (d.map (2* ·))
   | .er o none _ _=>some [2*o]
   | .er o (some _) _ _=>match aa o st.ob with
     |some ⟨true,_,_⟩=>some [2*o]
     |_=>none
   |_=>none
 |_=>none
def Ra (ops:Array Oper) (st:TS) (o:Oper):Bool:=match o.guard with
 |none=>false
 |some (j,want)=>match ops[j]? with
  |some oj=>match oj.dst with
   |some t=>match st.get t with
    | .kb b=>match b,want with
      |true,false=>true
      |false,true=>true
      |_,_=>false
    | .v true []=>true
    |_=>false
   |none=>false
  |none=>false
def vE (ops:Array Oper) (st:TS) (o:Oper):List Nat→Bool
 |[]=>true
 |l::r=>match ops[l]? with
  |some ol=>match Ra ops st ol with
   |true=>vE ops st o r
   |false=>match Nu C st ol with
    |some rd=>match om rd (writes C st o) with|true=>false|false=>vE ops st o r
    |none=>false
  |none=>false
def zn:List Mode→List CE→List Nat
 |_,[]=>[]
 |ms,e::r=>match ms.headD .deep,e with
  | .snap,.ref o none=>o::zn (ms.drop 1) r
  |_,_=>zn (ms.drop 1) r
def Gb (st:TS):List bC→List TE→List Nat
 |p::ps,e::es=>match p,e with
  | .inout (m::ms),.bp b _=>match aa b st.bx with
    |some cs=>zn (m::ms) cs++Gb st ps es
    |none=>Gb st ps es
  | .consume (m::ms),.v false [.mk _ cs]=>zn (m::ms) cs++Gb st ps es
  |_,_=>Gb st ps es
 |_,_=>[]
def DP:List CE→List Nat
 |[]=>[]
 | .ref o _::r=>o::DP r
 |_::r=>DP r
def AX:List kH→List Nat
 |[]=>[]
 | .mk _ cs::r=>DP cs++AX r
 |_::r=>AX r
def Lj (st:TS) (e:TypeId):List (Nat×Operand)→List Nat
 |[]=>[]
 |(_,x)::r=>match lX C st e x with
  | .v _ es=>AX es++Lj st e r
  |_=>Lj st e r
def RU (fx:List Nat) (st:TS) (o:Oper):TS:=match o.op with
 | .buildSlice t n ps=>match gJ 777777 fx,rJ C t with
   |true,some e=>mN st (Lj C st e ps.toList)
   |_,_=>st
 | .call {callee:= .value (.func f),args,argTypes}=>match Nt (C.sig f).ps with
   |true=>st
   |false=>mN st (Gb st (C.sig f).ps (zm C st args.toList argTypes.toList))
 |_=>st
def IN (fx fl:List Nat) (ops:Array Oper) (st:TS) (o:Oper) (K:TS→Ev R):Ev R:=Mr (RU C fx st o) fun st=>match vE C ops st o fl with
 |true=>jQ C st o K
 |false=> .fail
def IP (st:TS) (o:Oper) (K:TS→Ev R):Ev R:=match o.dst with
 |some d=>K (st.set d (.v true []))
 |none=>K st
def Kj (fx fl:List Nat) (ops:Array Oper) (st:TS) (o:Oper) (b want:Bool) (K:TS→Ev R):Ev R:=
 match b,want with
 |true,true=>IN C fx fl ops st o K
 |false,false=>IN C fx fl ops st o K
 |_,_=>IP st o K
def Lk (fx:List Nat) (o:Oper):Bool:=match o.dst with|some d=> !gJ d fx|none=>true
def guarded (fx fl:List Nat) (ops:Array Oper) (st:TS) (o:Oper) (K:TS→Ev R):Ev R:=
 match Lk fx o with
 |false=> .fail
 |true=>match o.guard with
  |none=>IN C fx fl ops st o K
  |some (j,want)=>match ops[j]? with
   |some oj=>match oj.dst with
    |some t=>match st.get t with
     | .kb b=>Kj C fx fl ops st o b want K
     | .v false [.mk false [.sc (.bool b)]]=> .test b fun b=>Kj C fx fl ops (st.set t (.kb b)) o b want K
     | .v true []=>IP st o K
     |_=> .fail
    |none=> .fail
   |none=> .fail
def ud {α:Type} (l:List Nat):List (Nat×α)→List (Nat×α)
 |[]=>[]
 |(i,e)::r=>match gJ i l with|true=>(i,e)::ud l r|false=>ud l r
def G4 (fx:List Nat) (l:List Nat) (ops:Array Oper):List Oper→TS→(TS→Ev R)→Ev R
 |[],st,K=>Mr ⟨ud l st.tm,st.bx,st.ob⟩ K
 |o::r,st,K=>guarded C fx [] ops st o fun st'=>Mr st' fun st'=>G4 fx l ops r st' K
def me (fx:List Nat) (l:List Nat) (ops:Array Oper):w5→TS→(TS→Ev R)→Ev R
 | .nil,st,K=>Mr ⟨ud l st.tm,st.bx,st.ob⟩ K
 | .op i fl r,st,K=>match ops[i]? with
   |some o=>guarded C fx fl ops st o fun st'=>Mr st' fun st'=>me fx l ops r st' K
   |none=> .fail
 | .alt a b,st,K=> .both (me fx l ops a st K) (me fx l ops b st K)
def ql (l:List Nat):List (Nat×List CE)→List (Nat×List CE)
 |[]=>[]
 |(i,cs)::r=>match Nat.ble 100000 i with
  |true=>(i,cs)::ql l r
  |false=>match gJ i l with|true=>(i,cs)::ql l r|false=>ql l r
def eo (n:Nat):List CE→List CE×Nat×List (Nat×OB)
 |[]=>([],n,[])
 | .nil z::r=>match Nat.ble 1 z with
   |true=>match eo (n+1) r with|(cs,m,obs)=>(.ref n none::cs,m,(n,⟨true,z,[]⟩)::obs)
   |false=>match eo n r with|(cs,m,obs)=>(.nil z::cs,m,obs)
 |e::r=>match eo n r with|(cs,m,obs)=>(e::cs,m,obs)
def dS (n:Nat):List kH→List kH×Nat×List (Nat×OB)
 |[]=>([],n,[])
 | .mk a cs::r=>match eo n cs with
   |(cs',m,o1)=>match dS m r with|(es,m',o2)=>(.mk a cs'::es,m',o1++o2)
 | .ptr b::r=>match dS n r with|(es,m,o2)=>(.ptr b::es,m,o2)
def yf (n:Nat) (e:TE):TE×Nat×List (Nat×OB):=match e with
 | .v tup es=>match dS n es with|(es',m,o)=>(.v tup es',m,o)
 | .kb b=>(S (.bool b),n,[])
 |e=>(e,n,[])
def sj (n:Nat):List (Nat×TE)→List (Nat×TE)×List (Nat×OB)
 |[]=>([],[])
 |(i,e)::r=>match yf n e with
  |(e',m,o1)=>match sj m r with|(r',o2)=>((i,e')::r',o1++o2)
def IQ (n:Nat):List (Nat×OB)→Bool
 |[]=>true
 |(i,_)::r=>match Nat.ble n i with|true=>false|false=>IQ n r
def IS (st:TS):TS:=match IQ 900000000 st.ob with
 |true=>match sj 900000000 st.tm with|(tm,obs)=>⟨tm,st.bx,gf obs st.ob⟩
 |false=>st
def RV (st:TS):List Nat:=(st.tm.flatMap fun p=>rI p.2)++st.bx.flatMap fun p=>p.2.flatMap dM
def number:List Nat→Nat→List (Nat×Nat)→List (Nat×Nat)
 |[],_,ρ=>ρ
 |o::r,n,ρ=>match Nat.beq o 0 with
  |true=>number r n ρ
  |false=>match aa o ρ with
   |some _=>number r n ρ
   |none=>number r (n+1) ((o,n)::ρ)
def AY (ρ:List (Nat×Nat)) (o:Nat):Nat:=match aa o ρ with|some n=>n|none=>0
def zo (ρ:List (Nat×Nat)):CE→CE
 | .ref o cut=> .ref (AY ρ o) cut
 | .snap d l z rows=> .snap (d.map (AY ρ)) (match l with|some (o,i,f)=>some (AY ρ o,i,f)|none=>none) z rows
 |e=>e
def Nv (ρ:List (Nat×Nat)):TE→TE
 | .ep d cells=> .ep (d.map (AY ρ)) cells
 | .er o p i f=> .er (AY ρ o) p i f
 |e=>e
def oq (ob:List (Nat×OB)):List (Nat×Nat)→List (Nat×OB)
 |[]=>[]
 |(o,n)::r=>match aa o ob with|some b=>jr n b (oq ob r)|none=>oq ob r
def Tq (ρ:List (Nat×Nat)) (st:TS):TS:=⟨mapA (rH (zo ρ) (Nv ρ)) st.tm,mapA (List.map (zo ρ)) st.bx,oq st.ob ρ⟩
def canon (st:TS):TS:=Tq (number (RV st) 1 []) st
def IT (l:List Nat) (st:TS):TS:=canon (IS ⟨ud l st.tm,ql l st.bx,st.ob⟩)
def run (fx:List Nat) (f:FuncId):Nat→Code→TS→(TX→TS→Ev R)→Ev R
 |_,.skip,st,K=>K .norm st
 |_,.region id ops draw,st,K=>match draw with
  |false=>G4 C fx (C.lr f id) ops ops.toList st (K .norm)
  |true=>match C.DE f id with
   |some l=>me C fx (C.lr f id) ops l st (K .norm)
   |none=> .fail
 |i,.seq a b,st,K=>run fx f i a st fun x st'=>match x with
  | .norm=>run fx f i b st' K
  |x=>K x st'
 |i,.cond c a b,st,K=>match lX C st 0 c with
  | .kb p=>match p with
    |true=>run fx f i a st K
    |false=>run fx f i b st K
  | .v false [.mk false [.sc (.bool p)]]=> .test p fun p=>match p with
    |true=>run fx f i a st K
    |false=>run fx f i b st K
  |_=> .fail
 |_,.block id body,st,K=>run fx f id body st fun x st'=>match x with
  | .ex id'=>match Nat.beq id' id with|true=>K .norm st'|false=>K (.ex id') st'
  |x=>K x st'
 |i,.loop body,st,K=>Mr (IT (C.lb f i) st) fun st=> .loop f i body st K
 |_,.exit id,st,K=>K (.ex id) st
 |_,.ret,st,K=>K .ret st
 |_,_,_,_=> .fail
def Nw:Mode→Bool
 | .deep=>true
 |_=>false
def cC (sh:Bool) (p:bC) (n:Nat):Nat→List TC→List CE×List (Nat×OB)
 |_,[]=>([],[])
 |j,c::r=>match cC sh p n (j+1) r with
  |(es,obs)=>match c with
   | .sc v=>(.sc v::es,obs)
   | .sub z rows=>match p.mc j with
     | .snap=>(.snap (match sh with|true=>[]|false=>[0]) none z rows::es,obs)
     |m=>(.ref (n+j) none::es,(n+j,⟨Nw m,z,rows⟩)::obs)
   | .any=>(.gone::es,obs)
def AZ (sh:Bool) (i:Nat):List (List TC)→List (Nat×List CE)
 |[]=>[]
 |c::r=>(i,(cC sh .borrow 0 0 c).1)::AZ sh (i+1) r
def sk (p:bC) (i:Nat):Nat:=match p with| .borrow=>200000+1000*i|_=>100000+1000*i
def init (sh:Bool) (ps:List bC) (i:Nat):List TV→TS
 |[]=>⟨[],[],[]⟩
 |v::r=>match init sh (ps.drop 1) (i+1) r with
  |⟨tm,bx,ob⟩=>match v with
   | .c c=>match cC sh (ps.headD .borrow) (500+16*i) 0 [c] with|(cs,o)=>⟨(i,.v false [.mk false cs])::tm,bx,o++ob⟩
   | .ag cs=>match cC sh (ps.headD .borrow) (500+16*i) 0 cs with|(cs,o)=>⟨(i,.v false [.mk true cs])::tm,bx,o++ob⟩
   | .bx cs=>match cC sh (ps.headD .borrow) (500+16*i) 0 cs with
     |(cs,o)=>⟨(i,.bp (sk (ps.headD .borrow) i) 0)::tm,(sk (ps.headD .borrow) i,cs)::bx,o++ob⟩
   | .fn f caps=>⟨(i,.fn f (List.range' (200000+1000*i+1) caps.length))::tm,AZ sh (200000+1000*i+1) caps++bx,ob⟩
   | .tu _=>⟨tm,bx,ob⟩
def Kk (m:Mode) (e:CE) (deep:Bool):Bool:=match m,e with
 |_,.sc _=>true
 | .snap,_=>true
 |_,.nil _=>true
 | .top,.ref _ _=>true
 | .deep,.ref _ _=>deep
 |_,_=>false
def vF:List Mode→List CE→TS→Option (List TC×TS)
 |_,[],st=>some ([],st)
 |ms,e::r,st=>match jP e st with
  |some (c,st',d)=>match Kk (ms.headD .snap) e d with
   |true=>match vF (ms.drop 1) r st' with
    |some (cs,BS)=>some (c::cs,BS)
    |none=>none
   |false=>none
  |none=>none
def ir:List Mode→List CE→TS→Option (List TC×TS)
 |_,[],st=>some ([],st)
 |ms,e::r,st=>match ms.headD .deep,e with
  | .snap,e=>match jP e st with
    |some (c,st',_)=>match ir (ms.drop 1) r st' with
     |some (cs,BS)=>some (c::cs,BS)
     |none=>none
    |none=>none
  |_,.sc v=>match ir (ms.drop 1) r st with
   |some (cs,st')=>some (.sc v::cs,st')
   |none=>none
  |_,.nil z=>match ir (ms.drop 1) r st with
   |some (cs,st')=>some (.sub z []::cs,st')
   |none=>none
  |_,.ref o none=>match aa o st.ob with
   |some ⟨true,z,rows⟩=>match ir (ms.drop 1) r (iY o st) with
    |some (cs,st')=>some (.sub z rows::cs,st')
    |none=>none
   |_=>none
  |_,_=>none
def RW (a:Bool):Nat:=match a with|true=>1|false=>0
def Ll (st:TS) (r:ResultVar) (K:TE→Ev R):Ev R:=match r with
 | .tmp t=>K (st.get t)
 | .cell a t=>xK C st t (st.get a) K
def DQ:List (List Mode)→List ResultVar→TS→(List (Nat×List TC)→TS→Ev R)→Ev R
 |_,[],st,K=>K [] st
 |ms,r::rs,st,K=>Ll C st r fun e=>match e with
  | .v false [.mk a cs]=>match vF (ms.headD []) cs st with
    |some (ts,st')=>DQ (ms.drop 1) rs st' fun vs BS=>K ((RW a,ts)::vs) BS
    |none=> .fail
  | .kb b=>DQ (ms.drop 1) rs st fun vs BS=>K ((0,[.sc (.bool b)])::vs) BS
  | .bp b 0=>match r5 b,aa b st.bx with
    |true,some cs=>match vF (ms.headD []) cs ⟨st.tm,kJ b st.bx,st.ob⟩ with
     |some (ts,st')=>DQ (ms.drop 1) rs st' fun vs BS=>K ((2,ts)::vs) BS
     |none=> .fail
    |_,_=> .fail
  |_=> .fail
def IU:List bC→Nat→TS→Option (List TV)
 |[],_,_=>some []
 |p::ps,i,st=>match p with
  | .inout ms=>match ms,st.get i with
    |[],.v false [.mk false [e]]=>match ir [] [e] st with
     |some ([c],st')=>match IU ps (i+1) st' with
      |some vs=>some (.c c::vs)
      |none=>none
     |_=>none
    |[],.v false [.mk true cs]=>match ir [] cs st with
     |some (ts,st')=>match IU ps (i+1) st' with
      |some vs=>some (.ag ts::vs)
      |none=>none
     |none=>none
    |ms,.bp b 0=>match r5 b,aa b st.bx with
     |true,some cs=>match ir ms cs st with
      |some (ts,st')=>match IU ps (i+1) st' with
       |some vs=>some (.bx ts::vs)
       |none=>none
      |none=>none
     |_,_=>none
    |_,_=>none
  |_=>IU ps (i+1) st
def A4:List (Nat×List TC)→TV
 |[(0,[c])]=> .c c
 |[(1,cs)]=> .ag cs
 |[(2,cs)]=> .bx cs
 |vs=> .tu vs
def A5:List bC→Nat→List Nat
 |[],_=>[]
 | .inout _::r,i=>i::A5 r (i+1)
 |_::r,i=>A5 r (i+1)
def DR (g:Mo):List Nat:=match g.frz with|true=>777777::A5 g.ps 0|false=>A5 g.ps 0
def Nx (g:Mo) (rs:List ResultVar) (x:TX) (st:TS):Ev (TV×List TV):=match x with
 | .ex _=> .fail
 |_=>DQ C g.res rs st fun rs st'=>match IU g.ps 0 st' with
  |some fs=>RO (A4 rs) fun r=>fL RO fs fun fs=> .ret (r,fs)
  |none=> .fail
def vG (g:Mo) (vs:List TV):TS:=init true g.ps 0 vs
def body (f:FuncId) (vs:List TV):Ev (TV×List TV):=
 match C.P.funcs[f]? with
 |none=> .fail
 |some fn=>match fn.body with
  |none=> .fail
  |some c=>Mr (vG (C.sig f) vs) fun st=>run C (DR (C.sig f)) f 0 c st (Nx C (C.sig f) fn.results.toList)
end
abbrev Cf:=FuncId→List TV→TV→List TV→Prop
abbrev Lp:=FuncId→Nat→Code→TS→(TX→TS→Prop)→Prop
def Ev.holds {R:Type} (cf:Cf) (lp:Lp) (Q:R→Prop):Ev R→Prop
 | .fail=>False
 | .ret r=>Q r
 | .test b k=>(k b).holds cf lp Q
 | .row rows i k=> ∃c,rowAt rows i=some c∧(k c).holds cf lp Q
 | .byte s i k=> ∃b,AS s i=some b∧(k b).holds cf lp Q
 | .bytes rows k=> ∃ns,sg rows=some ns∧(k ns).holds cf lp Q
 | .call f vs k=> ∃r fs,cf f vs r fs∧(k r fs).holds cf lp Q
 | .loop f i c st k=>lp f i c st fun x st'=>(k x st').holds cf lp Q
 | .both a b=> ∃r,a.holds cf lp (fun r'=>r'=r)∧b.holds cf lp (fun r'=>r'=r)∧Q r
section
variable (C : ic)
def DS (x:TX) (st:TS):Ev (TX×TS):= .ret (x,st)
def iter (cf:Cf) (lp:Lp) (fx:List Nat) (f i:Nat) (c:Code) (Q:TX→TS→Prop):Nat→TS→Prop
 |0,_=>False
 |n+1,st=>(run C fx f i c st DS).holds cf lp fun p=>match p with
   |(.norm,st')=>Mr (IT (C.lb f i) st') fun st'=>iter cf lp fx f i c Q n st'
   |(x,st')=>Q x st'
def Kl (cf:Cf) (k:Nat) (fx:List Nat):Nat→Lp
 |0=>fun _ _ _ _ _=>False
 |n+1=>fun f i c st Q=>iter C cf (Kl cf k fx n) fx f i c Q k st
def fc:Nat→Cf
 |0=>fun _ _ _ _=>False
 |k+1=>fun f vs r fs=>match C.ext f with
  |some p=>p vs=some (r,fs)
  |none=>(body C f vs).holds (fc k) (Kl C (fc k) k (DR (C.sig f)) 4) fun p=>p=(r,fs)
end
end Go.T
set_option linter.all false
namespace Go.T
inductive An where
 |b (x:Bool)
 |row (c:List TC)
 |n (i:Int)
 |ns (l:List Int)
 |call (r:TV) (fs:List TV)
 |loop (x:TX) (st:TS)
inductive Qr where
 |test (b x:Bool)
 |row (rows:List (List TC)) (i:Int) (c:List TC)
 |byte (s:ByteArray) (i b:Int)
 |bytes (rows:List (List TC)) (ns:List Int)
 |call (f:FuncId) (vs:List TV) (r:TV) (fs:List TV)
 |loop (f:FuncId) (i:Nat) (c:Code) (st:TS) (x:TX) (st':TS)
def Ev.trace {R:Type}:Ev R→List An→List Qr→Option (R×List Qr)
 | .fail,_,_=>none
 | .ret r,as,qs=>match as with|[]=>some (r,qs)|_=>none
 | .test b k,as,qs=>match as with| .b x::as=>(k x).trace as (.test b x::qs)|_=>none
 | .row rows i k,as,qs=>match as with| .row c::as=>(k c).trace as (.row rows i c::qs)|_=>none
 | .byte s i k,as,qs=>match as with| .n b::as=>(k b).trace as (.byte s i b::qs)|_=>none
 | .bytes rows k,as,qs=>match as with| .ns l::as=>(k l).trace as (.bytes rows l::qs)|_=>none
 | .call f vs k,as,qs=>match as with| .call r fs::as=>fL RO vs fun vs=>(k r fs).trace as (.call f vs r fs::qs)|_=>none
 | .loop f i c st k,as,qs=>match as with| .loop x st'::as=>(k x st').trace as (.loop f i c st x st'::qs)|_=>none
 | .both _ _,_,_=>none
def Qr.ok (cf:Cf) (lp:Lp):Qr→Prop
 | .test b x=>b=x
 | .row rows i c=>rowAt rows i=some c
 | .byte s i b=>AS s i=some b
 | .bytes rows ns=>sg rows=some ns
 | .call f vs r fs=>cf f vs r fs
 | .loop f i c st x st'=>lp f i c st fun x1 cG=>x1=x∧cG=st'
section
variable {Z : Type}
theorem o5 {α:Type} {f:α→(α→Z)→Z} (h: ∀a K,f a K=K a): ∀(l:List α) (K:List α→Z),fL f l K=K l
 |[],K=>rfl
 |a::r,K=>by simp only[fL,h,o5 h r]
theorem Ny (b:Bool) (K:Bool→Z):fB b K=K b:=by cases b<;>rfl
theorem Nz (b:Nat) (K:Nat→Z):fN b K=K b:=rfl
theorem NA (p:Option (Int×Nat)) (K:Option (Int×Nat)→Z):Q6 p K=K p:=by cases p<;>rfl
theorem PJ (p:Option (Int×Int)) (K:Option (Int×Int)→Z):To p K=K p:=by cases p<;>rfl
theorem RX (p:Option (Nat×Int×Nat)) (K:Option (Nat×Int×Nat)→Z):Wp p K=K p:=by cases p<;>rfl
theorem Rb (v:Value) (K:Value→Z):fV v K=K v:=by cases v<;>rfl
theorem G5 (c:TC) (K:TC→Z):Tp c K=K c:=by cases c<;>simp only[Tp,Rb]
theorem NC (e:CE) (K:CE→Z):UI e K=K e:=by
 cases e<;>simp only[UI,Rb,PJ,RX,o5 Nz]
theorem ND (c:kH) (K:kH→Z):Nj c K=K c:=by cases c<;>simp only[Nj,Ny,o5 NC]
theorem RY (e:TE) (K:TE→Z):Ve e K=K e:=by
 cases e<;>simp only[Ve,Ny,o5 ND,o5 Nz,o5 G5,NA]
theorem RZ (b:OB) (K:OB→Z):Vf b K=K b:=by cases b;simp only[Vf,Ny]
theorem NF (v:TV) (K:TV→Z):RO v K=K v:=by
 cases v<;>simp only[RO,Nk,G5,o5 G5]
 rw[o5 (fun a K=>by cases a;simp only[Nk,o5 G5])]
theorem mg (st:TS) (K:TS→Z):Mr st K=K st:=by
 cases st;simp only[Mr]
 rw[o5 (fun a K=>by cases a;simp only[RY]),o5 (fun a K=>by cases a;simp only[o5 NC]),o5 (fun a K=>by cases a;simp only[RZ])]
end
theorem dx {R:Type} {cf cf':Cf} {lp lp':Lp} (hc: ∀f vs r fs,cf f vs r fs→cf' f vs r fs) (AM: ∀f i c st (Q Q':TX→TS→Prop),(∀x s,Q x s→Q' x s)→lp f i c st Q→lp' f i c st Q') {Q Q':R→Prop} (hQ: ∀r,Q r→Q' r):
 ∀(e:Ev R),e.holds cf lp Q→e.holds cf' lp' Q'
 | .fail,h=>h
 | .ret r,h=>hQ r h
 | .test b k,h=>dx hc AM hQ (k b) h
 | .row rows i k,⟨c,h1,h2⟩=>⟨c,h1,dx hc AM hQ (k c) h2⟩
 | .byte rows i k,⟨c,h1,h2⟩=>⟨c,h1,dx hc AM hQ (k c) h2⟩
 | .bytes rows k,⟨c,h1,h2⟩=>⟨c,h1,dx hc AM hQ (k c) h2⟩
 | .call f vs k,⟨r,fs,h1,h2⟩=>⟨r,fs,hc _ _ _ _ h1,dx hc AM hQ (k r fs) h2⟩
 | .loop f i c st k,h=>AM _ _ _ _ _ _ (fun x s hxs=>dx hc AM hQ (k x s) hxs) h
 | .both a b,⟨r,h1,h2,h3⟩=>⟨r,dx hc AM (fun _ h=>h) a h1,dx hc AM (fun _ h=>h) b h2,hQ r h3⟩
section
variable {C : ic}
theorem w9 {cf cf':Cf} {lp lp':Lp} (hc: ∀f vs r fs,cf f vs r fs→cf' f vs r fs) (AM: ∀f i c st (Q Q':TX→TS→Prop),(∀x s,Q x s→Q' x s)→lp f i c st Q→lp' f i c st Q')
 {fx:List Nat} {f i:Nat} {c:Code} {Q Q':TX→TS→Prop} (hQ: ∀x s,Q x s→Q' x s): ∀(n n':Nat),n≤n'→ ∀(st:TS),iter C cf lp fx f i c Q n st→iter C cf' lp' fx f i c Q' n' st
 |0,_,_,_,h=>h.elim
 |n+1,0,hn,_,_=>absurd hn ay
 |n+1,n'+1,hn,st,h=>by
  refine dx hc AM (fun p hp=> ?_) _ h;obtain⟨x,s⟩:=p
  cases x with
  |norm=>
   simp only at hp ⊢;rw[mg] at hp ⊢;exact w9 hc AM hQ n n' ay _ hp
  |ex id=>exact hQ _ _ hp
  |ret=>exact hQ _ _ hp
theorem kM {cf cf':Cf} (hc: ∀f vs r fs,cf f vs r fs→cf' f vs r fs) {k k':Nat} (hk:k≤k') {fx:List Nat}: ∀(n:Nat) (f i:Nat) (c:Code) (st:TS) (Q Q':TX→TS→Prop),(∀x s,Q x s→Q' x s)→
 Kl C cf k fx n f i c st Q→Kl C cf' k' fx n f i c st Q'
 |0,_,_,_,_,_,_,_,h=>h.elim
 |n+1,f,i,c,st,Q,Q',hQ,h=>w9 hc (kM hc hk n) hQ k k' hk st h
theorem vH: ∀(k:Nat) (f:FuncId) (vs:List TV) (r:TV) (fs:List TV),fc C k f vs r fs→fc C (k+1) f vs r fs
 |0,_,_,_,_,h=>h.elim
 |k+1,f,vs,r,fs,h=>by
  unfold fc at h ⊢
  cases hx:C.ext f with
  |some p=>rw[hx] at h;exact h
  |none=>rw[hx] at h;exact dx (vH k) (kM (vH k) (Nat.le_succ k) 4) (fun _ h=>h) _ h
theorem Km {k:Nat} {f:FuncId} {vs:List TV} {r:TV} {fs:List TV} (hx:C.ext f=none) (h:(body C f vs).holds (fc C k) (Kl C (fc C k) k (DR (C.sig f)) 4) fun p=>p=(r,fs)):fc C (k+1) f vs r fs:=by
 unfold fc;rw[hx];exact h
theorem Ms {k:Nat} {f:FuncId} {vs:List TV} {r:TV} {fs:List TV} {p:List TV→Option (TV×List TV)} (hx:C.ext f=some p) (h:p vs=some (r,fs)):fc C (k+1) f vs r fs:=by
 unfold fc;rw[hx];exact h
theorem iO {k k':Nat} (hk:k≤k') {f:FuncId} {vs:List TV} {r:TV} {fs:List TV} (h:fc C k f vs r fs):fc C k' f vs r fs:=by
 induction hk with
 |refl=>exact h
 |step _ ih=>exact vH _ _ _ _ _ ih
def A6 (C:ic) (k:Nat) (fx:List Nat) (n:Nat) (f i:Nat) (c:Code) (m:Nat) (st:TS) (x:TX) (st':TS):Prop:=
 iter C (fc C k) (Kl C (fc C k) k fx n) fx f i c (fun x1 cG=>x1=x∧cG=st') m st
theorem A6.ok {k:Nat} {fx:List Nat} {n f i:Nat} {c:Code} {m:Nat} {st:TS} {x:TX} {st':TS} (h:A6 C k fx n f i c m st x st') (hm:m≤k):(Qr.loop f i c st x st').ok (fc C k) (Kl C (fc C k) k fx (n+1)):=
 w9 (fun _ _ _ _ h=>h) (kM (fun _ _ _ _ h=>h) (cc _) n) (fun _ _ h=>h) m k hm st h
end
end Go.T
namespace Go.T
def qm (rows:List (List TC)) (i f:Nat):Option TC:=(rows[i]?).bind fun r=>r[f]?
def Ck:Value→Prop
 | .int _ _=>True
 | .bool _=>True
 | .string _=>True
 | .slice _ _ _=>True
 |_=>False
def Mode.nx:Mode→Mode
 | .deep=> .deep
 |_=> .snap
structure Tr (w:World) (R:Nat→Prop) (m:Mode) (S:Nat→Prop) (z:Nat) (rows:List (List TC)) (A:Option Addr) (c:Nat) (u:Nat→Nat→Value) (T:Nat→Nat→Nat→Prop):Prop where
 len:rows.length≤c
 cap:c≤maxLen
 z0:0<z
 width: ∀r∈rows,r.length=z
 addr:rows≠[]→ ∃ad,A=some ad
 cell: ∀ad,A=some ad→ ∀i f tc,qm rows i f=some tc→w.cell? (ad.add (i*z+f))=some (u i f)
 read:m= .snap→ ∀ad,A=some ad→rows≠[]→R ad.block
 own:m≠ .snap→(A=none→c=0)∧ ∀ad,A=some ad→S ad.block∧ad.spot=none∧
  ∀j,j<c*z→(∃x,w.cell? ⟨ad.block,ad.off+j,none⟩=some x)∧w.frozen? ⟨ad.block,ad.off+j,none⟩=false
 soft:m≠ .snap→1<z→ ∀ad,A=some ad→ ∀i,w.frozen? ⟨ad.block,i,none⟩=false
 kz:m= .deep→ ∀i f k,T i f k→S k∧(∀ad,A=some ad→k≠ad.block)∧ ∀i' f',T i' f' k→i'=i∧f'=f
inductive aj (w:World) (R:Nat→Prop):Mode→(Nat→Prop)→TC→Value→Prop
 |sc (m:Mode) (S:Nat→Prop) (v:Value) (h:Ck v):aj w R m S (.sc v) v
 |sub (m:Mode) (S:Nat→Prop) (z:Nat) (rows:List (List TC)) (A:Option Addr) (c:Nat) (u:Nat→Nat→Value) (T:Nat→Nat→Nat→Prop)
   (h:Tr w R m S z rows A c u T) (hn: ∀i f tc,qm rows i f=some tc→aj w R m.nx (T i f) tc (u i f)):
   aj w R m S (.sub z rows) (.slice A rows.length c)
 |any (m:Mode) (S:Nat→Prop) (v:Value) (h:v.oneCell'=true∧v.cells= #[v]):aj w R m S .any v
variable {w w' : World} {R R' S S' : Nat → Prop} {m : Mode} {c : TC} {v : Value}
theorem A7 {rows:List (List TC)} {i f:Nat} {tc:TC} (h:qm rows i f=some tc):rows≠[]:=by
 rintro rfl;simp[qm] at h
theorem dy {w w':World} {a:Addr} (h:w'.heap[a.block]?=w.heap[a.block]?):w'.cell? a=w.cell? a:=by
 unfold World.cell?;rw[h]
theorem gL {w w':World} {a:Addr} (h:w'.heap[a.block]?=w.heap[a.block]?):w'.frozen? a=w.frozen? a:=by
 unfold World.frozen?;rw[h]
theorem bO (a:Addr) (n:Nat):(a.add n).block=a.block:=by unfold Addr.add;split<;>rfl
theorem aj.mono (h:aj w R m S c v) (hS: ∀k,S k→S' k):aj w R m S' c v:=by
 cases h with
 |any _ _ _ h=>exact .any _ _ _ h
 |sc _ _ _ h=>exact .sc _ _ _ h
 |sub _ _ z rows A c u T h hn=>
  refine .sub _ _ z rows A c u T {h with own:=fun hm=>⟨(h.own hm).1,fun ad ha=>⟨hS _ ((h.own hm).2 ad ha).1,((h.own hm).2 ad ha).2⟩⟩,kz:=fun hm i f k hk=>⟨hS _ (h.kz hm i f k hk).1,(h.kz hm i f k hk).2⟩} hn
theorem oD {m:Mode} (h:m.nx≠ .snap):m= .deep:=by cases m<;>simp_all [Mode.nx]
theorem aj.move (h:aj w R m S c v):(∀k,R k→R' k∧w'.heap[k]?=w.heap[k]?)→(m≠ .snap→ ∀k,S k→w'.heap[k]?=w.heap[k]?)→aj w' R' m S c v:=by
 induction h with
 |any _ _ _ h=>exact fun _ _=> .any _ _ _ h
 |sc _ _ _ h=>exact fun _ _=> .sc _ _ _ h
 |sub m S z rows A c u T h hn ih=>
  intro hR hS;refine .sub _ _ z rows A c u T {h with cell:= ?_,read:= ?_,own:= ?_,soft:=fun hm h1 ad ha i=>by rw[gL (w:=w) (a:=⟨ad.block,i,none⟩) (hS hm _ ((h.own hm).2 ad ha).1)];exact h.soft hm h1 ad ha i} fun i f tc ht=>ih i f tc ht hR fun hm k hk=> ?_
  ·intro ad ha i f tc ht
   rw[dy (w:=w)]
   ·exact h.cell ad ha i f tc ht
   ·rw[bO]
    by_cases hm:m= .snap
    ·exact(hR _ (h.read hm ad ha (A7 ht))).2
    ·exact hS hm _ ((h.own hm).2 ad ha).1
  ·exact fun hm ad ha hne=>(hR _ (h.read hm ad ha hne)).1
  ·intro hm
   refine⟨(h.own hm).1,fun ad ha=>⟨((h.own hm).2 ad ha).1,((h.own hm).2 ad ha).2.1,fun j hj=> ?_⟩⟩;have hb:=hS hm _ ((h.own hm).2 ad ha).1;obtain⟨⟨x,hx⟩,hf⟩:=((h.own hm).2 ad ha).2.2 j hj;exact⟨⟨x,by rw[dy (w:=w) (by exact hb)];exact hx⟩,by rw[gL (w:=w) (by exact hb)];exact hf⟩
  ·have:=oD hm
   subst this;exact hS cY k (h.kz rfl i f k hk).1
theorem aj.freeze (h:aj w R m S c v):(∀k,R k→R' k)→(m≠ .snap→ ∀k,S k→R' k)→aj w R' .snap S' c v:=by
 induction h generalizing S' with
 |any _ _ _ h=>exact fun _ _=> .any _ _ _ h
 |sc _ _ _ h=>exact fun _ _=> .sc _ _ _ h
 |sub m S z rows A c u T h hn ih=>
  intro hR hS;refine .sub _ _ z rows A c u (fun _ _ _=>False) {h with read:= ?_,own:=fun hm=>absurd rfl hm,soft:=fun hm=>absurd rfl hm,kz:=fun hm=>by cases hm} fun i f tc ht=>ih i f tc ht hR fun hm k hk=> ?_
  ·intro _ ad ha hne
   by_cases hm:m= .snap
   ·exact hR _ (h.read hm ad ha hne)
   ·exact hS hm _ ((h.own hm).2 ad ha).1
  ·have:=oD hm
   subst this;exact hS cY k (h.kz rfl i f k hk).1
theorem aj.kj (h:aj w R .snap S c v) (hR: ∀k,R k→R' k):aj w R' .snap S' c v:=h.freeze hR fun h=>absurd rfl h
end Go.T
namespace Go.T
theorem gh {o:Nat}: ∀{l:List Nat},gJ o l=true↔o∈l
 |[]=>by simp[gJ]
 |a::r=>by
  simp only[gJ,cz]
  cases h:Nat.beq a o with
  |true=>simp[eD h]
  |false=>simp only[gh (l:=r)];have:=lW h;simp[Ne.symm this]
theorem cM {o:Nat} {l:List Nat}:gJ o l=false↔o∉l:=by
 rw[←gh];simp
theorem sn {o d:Nat}: ∀{l:List Nat},d∈IJ o l↔d∈l∧d≠o
 |[]=>by simp[IJ]
 |a::r=>by
  simp only[IJ]
  cases h:Nat.beq a o with
  |true=>
   have h1:=eD h;subst h1;simp only[sn (l:=r),cz];exact⟨fun⟨x,y⟩=>⟨.inr x,y⟩,fun⟨x,y⟩=>⟨x.resolve_left y,y⟩⟩
  |false=>
   have h1:=lW h;simp only[cz,sn (l:=r)]
   constructor
   ·rintro(rfl|⟨x,y⟩)
    ·exact⟨.inl rfl,h1⟩
    ·exact⟨.inr x,y⟩
   ·rintro⟨rfl|x,y⟩
    ·exact .inl rfl
    ·exact .inr ⟨x,y⟩
theorem lJ {a:List Nat} {l:List Nat} (h:om a l=false) {x:Nat} (hx:x∈a):x∉l:=by
 induction a with
 |nil=>cases hx
 |cons y r ih=>
  simp only[om] at h
  cases h1:gJ y l with
  |true=>rw[h1] at h;cases h
  |false=>
   rw[h1] at h;rcases cz.1 hx with rfl|hx
   ·exact cM.1 h1
   ·exact ih h hx
theorem beq_false {a b:Nat} (h:a≠b):Nat.beq a b=false:=by
 cases h1:Nat.beq a b with
 |true=>exact absurd (eD h1) h
 |false=>rfl
theorem vJ (a:Nat):Nat.beq a a=true:=by simp
section
variable {α β : Type}
theorem cZ (i j:Nat) (e:α): ∀(l:List (Nat×α)),aa j (jr i e l)=if j=i then some e else aa j l
 |[]=>by
  simp only[jr,aa]
  by_cases h:j=i
  ·subst h;simp
  ·rw[beq_false (Ne.symm h),aR h]
 |(a,x)::r=>by
  have ih:=cZ i j e r;simp only[jr]
  cases h1:Nat.beq a i with
  |true=>
   have h1:=eD h1;subst h1;simp only[aa]
   by_cases h:j=a
   ·subst h;simp
   ·rw[beq_false (Ne.symm h),aR h]
  |false=>
   have h1:=lW h1
   cases h2:Nat.ble i a with
   |true=>
    simp only[aa]
    by_cases h:j=i
    ·subst h;simp
    ·rw[beq_false (Ne.symm h),aR h]
   |false=>
    simp only[aa]
    by_cases h3:a=j
    ·subst h3;rw[vJ,aR h1]
    ·rw[beq_false h3];exact ih
theorem eU (i j:Nat): ∀(l:List (Nat×α)),aa j (kJ i l)=if j=i then none else aa j l
 |[]=>by simp[kJ,aa]
 |(a,x)::r=>by
  have ih:=eU i j r;simp only[kJ]
  cases h1:Nat.beq a i with
  |true=>
   have h1:=eD h1;subst h1;simp only[aa,ih]
   by_cases h:j=a
   ·simp[h]
   ·rw[beq_false (Ne.symm h)]
  |false=>
   have h1:=lW h1;simp only[aa]
   by_cases h3:a=j
   ·subst h3;rw[vJ,aR h1]
   ·rw[beq_false h3];exact ih
theorem mO (f:α→α) (j:Nat): ∀(l:List (Nat×α)),aa j (mapA f l)=(aa j l).map f
 |[]=>rfl
 |(a,x)::r=>by
  simp only[mapA,aa]
  cases Nat.beq a j with
  |true=>rfl
  |false=>exact mO f j r
theorem DT (l:List Nat) (j:Nat): ∀(m:List (Nat×α)),aa j (ud l m)=if j∈l then aa j m else none
 |[]=>by simp[ud,aa]
 |(a,x)::r=>by
  have ih:=DT l j r;simp only[ud]
  cases h1:gJ a l with
  |true=>
   have h1:=gh.1 h1;simp only[aa]
   by_cases h:a=j
   ·subst h;rw[vJ,bg h1]
   ·rw[beq_false h];exact ih
  |false=>
   have h1:=cM.1 h1;simp only[aa,ih]
   by_cases h:a=j
   ·subst h;rw[aR h1,aR h1]
   ·rw[beq_false h]
end
structure Fp where
 I:Nat→Prop
 S:Nat→Nat→Prop
 V:Nat→Value
 β:Nat→Addr
def rd (φ:Fp) (ds:List Nat) (k:Nat):Prop:=φ.I k∨ ∃d,d∈ds∧φ.S d k
abbrev AP:Nat→Prop:=fun _=>False
def OB.m (b:OB):Mode:=if b.deep then .deep else .top
def iZ (w:World) (φ:Fp) (o:Nat) (b:OB):Prop:=aj w φ.I b.m (φ.S o) (.sub b.z b.rows) (φ.V o)
def ue (z n:Nat) (l h:Int) (V v:Value):Prop:=
 0≤l∧l≤h∧h≤n∧ ∃A A' c,V= .slice A n c∧v= .slice A' (h.toNat-l.toNat) (c-l.toNat)∧(c≠l.toNat→A'=A.map fun a=>a.add (l.toNat*z))∧(A=none→A'=none)∧
  ∀ad,A=some ad→ ∃ad',A'=some ad'∧ad'.block=ad.block∧(ad.spot=none→ad'.spot=none)
def az (ob:List (Nat×OB)) (d:Nat):Prop:= ∃b,aa d ob=some b
def Lm (ob:List (Nat×OB)) (w:World) (φ:Fp) (z:Nat) (rows:List (List TC)) (v:Value) (o:Nat) (i:Int) (f:Nat):Prop:=
 ∃b,aa o ob=some b∧0≤i∧qm b.rows i.toNat f=some (.sub z rows)∧ ∃ad n c,φ.V o= .slice (some ad) n c∧w.cell? (ad.add (i.toNat*b.z+f))=some v
def cj (ob:List (Nat×OB)) (w:World) (φ:Fp) (e:CE) (v:Value):Prop:=
 match e with
 | .sc x=>v=x∧Ck x
 | .nil z=>v= .slice none 0 0∧0<z
 | .ref o cut=> ∃b,aa o ob=some b∧match cut with
   |none=>v=φ.V o
   |some (l,h)=>ue b.z b.rows.length l h (φ.V o) v
 | .snap ds loc z rows=>(∀d∈ds,d=0∨az ob d)∧aj w (rd φ ds) .snap AP (.sub z rows) v∧ ∀o i f,loc=some (o,i,f)→o∈ds∧Lm ob w φ z rows v o i f
 | .gone=>True
def iu (ob:List (Nat×OB)) (w:World) (φ:Fp) (c:kH) (u:Value):Prop:=
 match c with
 | .mk true cs=> ∃xs:Array Value,u= .agg xs∧xs.size=cs.length∧ ∀(j:Nat) (e:CE),cs[j]?=some e→ ∃x,xs[j]?=some x∧x.cells= #[x]∧cj ob w φ e x
 | .mk false cs=> ∃e,cs=[e]∧u.cells= #[u]∧cj ob w φ e u
 | .ptr b=>u= .pointer (some (φ.β b))
def bS (ob:List (Nat×OB)) (w:World) (φ:Fp) (e:TE) (v:Value):Prop:=
 match e with
 | .dead=>True
 | .v true es=> ∃vs:Array Value,v= .tuple vs∧vs.size=es.length∧ ∀(k:Nat) (c:kH),es[k]?=some c→ ∃u,vs[k]?=some u∧iu ob w φ c u
 | .v false es=> ∃c,es=[c]∧iu ob w φ c v
 | .bp b off=>v= .pointer (some ((φ.β b).add off))
 | .ep ds cells=>(∀d∈ds,d=0∨az ob d)∧ ∃ad,v= .pointer (some ad)∧(cells≠[]→rd φ ds ad.block)∧ ∀(j:Nat) (tc:TC),cells[j]?=some tc→ ∃u,w.cell? (ad.add j)=some u∧aj w (rd φ ds) .snap AP tc u
 | .er o path i f=> ∃b,aa o ob=some b∧0≤i∧ ∃ad n c,φ.V o= .slice (some ad) n c∧match path with
   |none=>v= .pointer (some (ad.add (i.toNat*b.z+f)))
   |some (i0,f0)=>0≤i0∧ ∃z1 kR,qm b.rows i0.toNat f0=some (.sub z1 kR)∧ ∃ad1 n1 c1,w.cell? (ad.add (i0.toNat*b.z+f0))=some (.slice (some ad1) n1 c1)∧
    v= .pointer (some (ad1.add (i.toNat*z1+f)))
 | .fn f caps=>v= .func (.func f) #[] (caps.map fun b=>Value.pointer (some (φ.β b))).toArray
 | .kb b=>v= .bool b
structure Ln (F:Nat→Prop) (w0 w:World):Prop where
 os:w.os=w0.os
 tape:w.tape=w0.tape
 output:w.output=w0.output
 size:w0.heap.size≤w.heap.size
 block: ∀k,k<w0.heap.size→ ¬F k→w.heap[k]?=w0.heap[k]?
structure Arg where
 all:Nat→Prop
 sh:Nat→Prop
structure Sep (F:Nat→Prop) (A:Arg) (w0 w:World) (φ:Fp) (bx:List (Nat×List CE)) (ob:List (Nat×OB)):Prop where
 arg:φ.S 0=A.all
 nz: ∀o,az ob o→o≠0
 apart: ∀o o' k,az ob o→az ob o'→φ.S o k→φ.S o' k→o=o'
 read: ∀o k,az ob o→φ.S o k→ ¬φ.I k
 fresh: ∀o k,az ob o→φ.S o k→k<w.heap.size∧(w0.heap.size≤k∨F k)
 ro: ∀k,φ.I k→k<w.heap.size∧(w0.heap.size≤k∨F k∨A.sh k)
 iW: ∀k,A.all k→k<w0.heap.size∧ ¬F k
 box: ∀b cs,aa b bx=some cs→r5 b=true→ ¬φ.I (φ.β b).block∧(∀o,az ob o→ ¬φ.S o (φ.β b).block)∧(w0.heap.size≤(φ.β b).block∨F (φ.β b).block)∧
  ∀b' cs',aa b' bx=some cs'→b'≠b→(φ.β b').block≠(φ.β b).block
 spot: ∀b cs,aa b bx=some cs→(r5 b=true→(φ.β b).spot=none)∧(φ.β b).block<w.heap.size∧(r5 b=false→A.all (φ.β b).block)
 soft: ∀b cs j,aa b bx=some cs→r5 b=true→j<cs.length→w.frozen? ((φ.β b).add j)=false
structure aG (F:Nat→Prop) (A:Arg) (w0:World) (φ:Fp) (st:TS) (tm:Array Value) (w:World):Prop where
 tmp: ∀i,bS st.ob w φ (st.get i) (tm.getD i undef)
 box: ∀b cs,aa b st.bx=some cs→ ∀(j:Nat) (e:CE),cs[j]?=some e→ ∃v,w.cell? ((φ.β b).add j)=some v∧v.cells= #[v]∧cj st.ob w φ e v
 obj: ∀o b,aa o st.ob=some b→iZ w φ o b
 sep:Sep F A w0 w φ st.bx st.ob
 frm:Ln F w0 w
def Rel (F:Nat→Prop) (A:Arg) (w0:World) (st:TS) (tm:Array Value) (w:World):Prop:= ∃φ,aG F A w0 φ st tm w
section
variable {ob wY : List (Nat × OB)} {w w' : World} {φ φ' : Fp} {f : CE → CE} {g : TE → TE}
def o6 (f:CE→CE):kH→kH
 | .mk a cs=> .mk a (cs.map f)
 | .ptr b=> .ptr b
theorem oE (f:CE→CE): ∀(es:List kH) (k:Nat),(gK f es)[k]?=(es[k]?).map (o6 f)
 |[],_=>by simp[gK]
 | .mk a cs::r,0=>by simp[gK,o6]
 | .ptr b::r,0=>by simp[gK,o6]
 | .mk a cs::r,k+1=>by simp[gK,oE f r k]
 | .ptr b::r,k+1=>by simp[gK,oE f r k]
theorem kU (f:CE→CE): ∀(es:List kH),(gK f es).length=es.length
 |[]=>rfl
 | .mk a cs::r=>by simp[gK,kU f r]
 | .ptr b::r=>by simp[gK,kU f r]
theorem iu.yg (hβ:φ'.β=φ.β) (hc: ∀e v,cj ob w φ e v→cj wY w' φ' (f e) v) {c:kH} {u:Value} (h:iu ob w φ c u):
 iu wY w' φ' (o6 f c) u:=by
 cases c with
 |ptr b=>simp only[iu,o6] at h ⊢;rw[hβ];exact h
 |mk a cs=>
  cases a with
  |true=>
   obtain⟨xs,h1,h2,h3⟩:=h;refine⟨xs,h1,by simp[h2],fun j e he=> ?_⟩;rw[gv] at he
   cases h4:cs[j]? with
   |none=>rw[h4] at he;cases he
   |some e0=>
    rw[h4] at he;simp only[ij,aY] at he;subst he;obtain⟨x,hx,hx1,hok⟩:=h3 j e0 h4;exact⟨x,hx,hx1,hc _ _ hok⟩
  |false=>
   obtain⟨e,rfl,h2,h3⟩:=h;exact⟨f e,rfl,h2,hc _ _ h3⟩
theorem bS.yg (hβ:φ'.β=φ.β) (hc: ∀e v,cj ob w φ e v→cj wY w' φ' (f e) v) (ht: ∀e v,(∀t es,e≠ .v t es)→bS ob w φ e v→bS wY w' φ' (g e) v) {e:TE} {v:Value} (h:bS ob w φ e v):
 bS wY w' φ' (rH f g e) v:=by
 by_cases hv: ∃t es,e= .v t es
 ·obtain⟨tup,es,rfl⟩:=hv
  cases tup with
  |true=>
   obtain⟨vs,h1,h2,h3⟩:=h;refine⟨vs,h1,by rw[kU];exact h2,fun k c hk=> ?_⟩;rw[oE] at hk
   cases h4:es[k]? with
   |none=>rw[h4] at hk;cases hk
   |some c0=>
    rw[h4] at hk;simp only[ij,aY] at hk;obtain⟨u,hu,hok⟩:=h3 k c0 h4;exact⟨u,hu,by rw[←hk];exact hok.yg hβ hc⟩
  |false=>
   obtain⟨c,rfl,hok⟩:=h;refine⟨_,?_,hok.yg hβ hc⟩
   cases c<;>rfl
 ·have h1:rH f g e=g e:=by cases e<;>first|rfl|exact absurd ⟨_,_,rfl⟩ hv
  rw[h1];exact ht e v (fun t es he=>hv ⟨t,es,he⟩) h
end
theorem get_map (f:CE→CE) (g:TE→TE) (h:List (Nat×OB)→List (Nat×OB)) (hd:g .dead= .dead) (st:TS) (i:Nat):(qg f g h st).get i=rH f g (st.get i):=by
 unfold TS.get qg;simp only[mO]
 cases aa i st.tm with
 |none=>exact hd.symm
 |some e=>rfl
variable {F : Nat → Prop} {A : Arg} {w0 w w' : World} {φ φ' : Fp} {st st' : TS} {tm ya : Array Value}
theorem aG.yg (h:aG F A w0 φ st tm w) {f:CE→CE} {g:TE→TE} {k:List (Nat×OB)→List (Nat×OB)} (hd:g .dead= .dead) (hβ:φ'.β=φ.β)
 (hc: ∀e v,cj st.ob w φ e v→cj (k st.ob) w' φ' (f e) v) (ht: ∀e v,(∀t es,e≠ .v t es)→bS st.ob w φ e v→bS (k st.ob) w' φ' (g e) v)
 (hw: ∀b cs,aa b st.bx=some cs→ ∀j,j<cs.length→w'.cell? ((φ.β b).add j)=w.cell? ((φ.β b).add j))
 (ho: ∀o b,aa o (k st.ob)=some b→iZ w' φ' o b) (hs:Sep F A w0 w' φ' (mapA (List.map f) st.bx) (k st.ob)) (hf:Ln F w0 w'):aG F A w0 φ' (qg f g k st) tm w' where
 tmp i:=by rw[get_map f g k hd];exact(h.tmp i).yg hβ hc ht
 box b cs hb j e he:=by
  simp only[qg,mO] at hb
  cases h1:aa b st.bx with
  |none=>rw[h1] at hb;cases hb
  |some cs0=>
   rw[h1] at hb;simp only[ij,aY] at hb;subst hb;rw[gv] at he
   cases h2:cs0[j]? with
   |none=>rw[h2] at he;cases he
   |some e0=>
    rw[h2] at he;simp only[ij,aY] at he;subst he;obtain⟨v,hv,h1c,hok⟩:=h.box b cs0 h1 j e0 h2;refine⟨v,?_,h1c,hc _ _ hok⟩;rw[hβ,hw b cs0 h1 j (List.getElem?_eq_some_iff.1 h2).1];exact hv
 obj:=ho
 sep:=hs
 frm:=hf
theorem Sep.boxes {bx bx':List (Nat×List CE)} {ob:List (Nat×OB)} (h:Sep F A w0 w φ bx ob) (hb: ∀b cs',aa b bx'=some cs'→ ∃cs,aa b bx=some cs∧cs'.length=cs.length):Sep F A w0 w φ bx' ob where
 arg:=h.arg
 nz:=h.nz
 apart:=h.apart
 read:=h.read
 fresh:=h.fresh
 ro:=h.ro
 iW:=h.iW
 box b cs' hl hw:=by
  obtain⟨cs,h1,_⟩:=hb b cs' hl;obtain⟨a1,a2,a3,a4⟩:=h.box b cs h1 hw;refine⟨a1,a2,a3,fun b' Im hl' hne=> ?_⟩;obtain⟨cs2,h2,_⟩:=hb b' Im hl';exact a4 b' cs2 h2 hne
 spot b cs' hl:=by obtain⟨cs,h1,_⟩:=hb b cs' hl;exact h.spot b cs h1
 soft b cs' j hl hw hj:=by obtain⟨cs,h1,h2⟩:=hb b cs' hl;exact h.soft b cs j h1 hw ay
theorem ei (f:CE→CE) {bx:List (Nat×List CE)}: ∀b cs',aa b (mapA (List.map f) bx)=some cs'→ ∃cs,aa b bx=some cs∧cs'.length=cs.length:=by
 intro b cs' h;rw[mO] at h
 cases h1:aa b bx with
 |none=>rw[h1] at h;cases h
 |some cs=>
  rw[h1] at h;simp only[ij,aY] at h;exact⟨cs,rfl,by rw[←h];simp⟩
theorem Sep.lt {bx:List (Nat×List CE)} {ob:List (Nat×OB)} (h:Sep F A w0 w φ bx ob) (hs:w0.heap.size≤w.heap.size) {d:Nat} (hd:d=0∨az ob d) {k:Nat} (hk:φ.S d k):k<w.heap.size:=by
 rcases hd with rfl|hd
 ·rw[h.arg] at hk;exact fI (h.iW k hk).1 hs
 ·exact(h.fresh d k hd hk).1
theorem Sep.R0 {bx:List (Nat×List CE)} {ob:List (Nat×OB)} (h:Sep F A w0 w φ bx ob) (hs:w0.heap.size≤w.heap.size) {ds:List Nat} (hd: ∀d∈ds,d=0∨az ob d) {k:Nat} (hk:rd φ ds k):k<w.heap.size:=by
 rcases hk with hk|⟨d,hm,hk⟩
 ·exact(h.ro k hk).1
 ·exact h.lt hs (hd d hm) hk
structure jR (w w':World):Prop where
 os:w'.os=w.os
 tape:w'.tape=w.tape
 output:w'.output=w.output
 size:w.heap.size≤w'.heap.size
 block: ∀k,k<w.heap.size→w'.heap[k]?=w.heap[k]?
theorem jR.refl (w:World):jR w w:=⟨rfl,rfl,rfl,cc _,fun _ _=>rfl⟩
theorem jR.alloc (w:World) (o:Obj):jR w (w.alloc o):=⟨rfl,rfl,rfl,by simp,fun k hk=>heap_alloc_old w o hk⟩
theorem jR.drew (w:World):jR w w.drew:=⟨rfl,rfl,rfl,cc _,fun _ _=>rfl⟩
theorem jR.trans {a b c:World} (h:jR a b) (k:jR b c):jR a c:=
 ⟨k.os.trans h.os,k.tape.trans h.tape,k.output.trans h.output,og h.size k.size,fun i hi=>(k.block i (fI hi h.size)).trans (h.block i hi)⟩
theorem Ln.Kn (h:Ln F w0 w) (g:jR w w'):Ln F w0 w':=
 ⟨g.os.trans h.os,g.tape.trans h.tape,g.output.trans h.output,og h.size g.size,fun k hk hf=>(g.block k (fI hk h.size)).trans (h.block k hk hf)⟩
theorem jR.cell (g:jR w w') {a:Addr} {v:Value} (h:w.cell? a=some v):w'.cell? a=some v:=by
 rw[dy (w:=w) (g.block _ (World.block_lt_of_cell? w a h))];exact h
theorem jR.Lo (g:jR w w') {a:Addr} (h:a.block<w.heap.size):w'.cell? a=w.cell? a:=dy (g.block _ h)
theorem cj.stay {ob:List (Nat×OB)} (hI: ∀k,φ.I k→w'.heap[k]?=w.heap[k]?) (hS: ∀d k,d=0∨az ob d→φ.S d k→w'.heap[k]?=w.heap[k]?)
 (hV: ∀o,az ob o→ ∀ad n c,φ.V o= .slice (some ad) n c→ ∀i v,w.cell? (ad.add i)=some v→w'.cell? (ad.add i)=some v) {e:CE} {v:Value} (h:cj ob w φ e v):cj ob w' φ e v:=by
 cases e with
 |snap ds loc z rows=>
  obtain⟨h1,h2,h3⟩:=h;refine⟨h1,h2.move (fun k hk=>⟨hk,?_⟩) (fun hm=>absurd rfl hm),fun o i f hl=>⟨(h3 o i f hl).1,?_⟩⟩
  ·rcases hk with hk|⟨d,hd,hk⟩
   ·exact hI k hk
   ·exact hS d k (h1 d hd) hk
  ·obtain⟨b,a1,a2,a3,ad,n,c,a4,a5⟩:=(h3 o i f hl).2
   exact⟨b,a1,a2,a3,ad,n,c,a4,hV o ⟨b,a1⟩ ad n c a4 _ _ a5⟩
 |_=>exact h
theorem bS.stay {ob:List (Nat×OB)} (hI: ∀k,φ.I k→w'.heap[k]?=w.heap[k]?) (hS: ∀d k,d=0∨az ob d→φ.S d k→w'.heap[k]?=w.heap[k]?)
 (hV: ∀o,az ob o→ ∀ad n c,φ.V o= .slice (some ad) n c→ ∀i v,w.cell? (ad.add i)=some v→w'.cell? (ad.add i)=some v)
 (hA: ∀ad v,w.cell? ad=some v→(∀k,ad.block=k→w'.heap[k]?=w.heap[k]?)→w'.cell? ad=some v) (hE: ∀ds cells v,bS ob w φ (.ep ds cells) v→bS ob w' φ (.ep ds cells) v) {e:TE} {v:Value} (hv: ∀t es,e≠ .v t es)
 (h:bS ob w φ e v):bS ob w' φ e v:=by
 cases e with
 |v t es=>exact absurd rfl (hv t es)
 |ep ds cells=>exact hE ds cells v h
 |er o path i f=>
  obtain⟨b,h1,h2,ad,n,c,h3,h4⟩:=h;refine⟨b,h1,h2,ad,n,c,h3,?_⟩
  cases path with
  |none=>exact h4
  |some q=>
   obtain⟨i0,f0⟩:=q;obtain⟨a1,z1,kR,a2,ad1,n1,c1,a3,a4⟩:=h4;exact⟨a1,z1,kR,a2,ad1,n1,c1,hV o ⟨b,h1⟩ ad n c h3 _ _ a3,a4⟩
 |_=>exact h
theorem o7 (st:TS):qg id id id st=st:=by
 have h1: ∀(es:List kH),gK id es=es:=by
  intro es
  induction es with
  |nil=>rfl
  |cons c r ih=>cases c<;>simp[gK,ih]
 have h2: ∀e:TE,rH id id e=e:=by
  intro e;cases e<;>first|rfl|(simp only[rH,h1])
 have h3: ∀{α:Type} (f:α→α) (hf: ∀a,f a=a) (l:List (Nat×α)),mapA f l=l:=by
  intro α f hf l
  induction l with
  |nil=>rfl
  |cons a r ih=>obtain⟨j,x⟩:=a;simp only[mapA,hf,ih]
 unfold qg;rw[h3 _ h2,h3 _ (fun l=>List.map_id l)]
 rfl
theorem Sep.Kn {bx:List (Nat×List CE)} {ob:List (Nat×OB)} (h:Sep F A w0 w φ bx ob) (g:jR w w'):Sep F A w0 w' φ bx ob where
 arg:=h.arg
 nz:=h.nz
 apart:=h.apart
 read:=h.read
 fresh o k ho hk:=⟨fI (h.fresh o k ho hk).1 g.size,(h.fresh o k ho hk).2⟩
 ro k hk:=⟨fI (h.ro k hk).1 g.size,(h.ro k hk).2⟩
 iW:=h.iW
 box:=h.box
 spot b cs hb:=⟨(h.spot b cs hb).1,fI (h.spot b cs hb).2.1 g.size,(h.spot b cs hb).2.2⟩
 soft b cs j hb hw hj:=by
  rw[gL (w:=w) (g.block _ (by rw[bO];exact(h.spot b cs hb).2.1))];exact h.soft b cs j hb hw hj
theorem aG.Kn (h:aG F A w0 φ st tm w) (g:jR w w'):aG F A w0 φ st tm w':=by
 have hI: ∀k,φ.I k→w'.heap[k]?=w.heap[k]?:=fun k hk=>g.block k (h.sep.ro k hk).1;have hS: ∀d k,d=0∨az st.ob d→φ.S d k→w'.heap[k]?=w.heap[k]?:=fun d k hd hk=>g.block k (h.sep.lt h.frm.size hd hk)
 have hE: ∀ds cells v,bS st.ob w φ (.ep ds cells) v→bS st.ob w' φ (.ep ds cells) v:=by
  intro ds cells v ⟨h1,ad,h2,hr,h3⟩;refine⟨h1,ad,h2,hr,fun j tc hj=> ?_⟩;obtain⟨u,h4,h5⟩:=h3 j tc hj;exact⟨u,g.cell h4,h5.move (fun k hk=>⟨hk,g.block k (h.sep.R0 h.frm.size h1 hk)⟩) (fun hm=>absurd rfl hm)⟩
 have:=h.yg (f:=id) (g:=id) (k:=id) (φ':=φ) (w':=w') rfl rfl (fun e v he=>he.stay hI hS (fun o ho ad n c hv i v hc=>g.cell hc))
  (fun e v hv he=>bS.stay hI hS (fun o ho ad n c hv i v hc=>g.cell hc) (fun ad v hc _=>g.cell hc) hE hv he)
  (fun b cs hb j hj=>g.Lo (by rw[bO];exact(h.sep.spot b cs hb).2.1))
  (fun o b hb=>(h.obj o b hb).move (fun k hk=>⟨hk,hI k hk⟩) (fun _ k hk=>hS o k (.inr ⟨b,hb⟩) hk))
  (by
    have h3:mapA (List.map (id:CE→CE)) st.bx=st.bx:=by
     have:=congrArg TS.bx (o7 st);exact this
    rw[h3]
    exact h.sep.Kn g) (h.frm.Kn g)
 rw[o7] at this;exact this
end Go.T
namespace Go.T
variable {F : Nat → Prop} {A : Arg} {w0 w w' : World} {φ φ' : Fp} {st st' : TS} {tm ya : Array Value}
theorem getD_set_ne (tm:Array Value) (d i:Nat) (v x:Value) (h:i≠d):(tm.setIfInBounds d v).getD i x=tm.getD i x:=by
 simp only[nZ,F5];rw[aR fun h'=>h h'.symm]
theorem Fq (tm:Array Value) (d:Nat) (v x:Value) (h:d<tm.size):(tm.setIfInBounds d v).getD d x=v:=by
 simp only[nZ,F5];simp[h]
theorem G6 (st:TS) (d i:Nat) (e:TE):(st.set d e).get i=if i=d then e else st.get i:=by
 unfold TS.get TS.set;simp only[cZ]
 by_cases h:i=d
 ·simp[h]
 ·simp[h]
theorem aG.Fs (h:aG F A w0 φ st tm w) {d:Nat} {e:TE} {v:Value} (hd:d<tm.size) (ht:bS st.ob w φ e v):aG F A w0 φ (st.set d e) (tm.setIfInBounds d v) w where
 tmp i:=by
  rw[G6]
  by_cases hi:i=d
  ·subst hi;rw[bg rfl,Fq _ _ _ _ hd];exact ht
  ·rw[aR hi,getD_set_ne _ _ _ _ _ hi];exact h.tmp i
 box:=h.box
 obj:=h.obj
 sep:=h.sep
 frm:=h.frm
theorem aG.PK (h:aG F A w0 φ st tm w) {d:Nat} {e:TE} (ht:bS st.ob w φ e (tm.getD d undef)):aG F A w0 φ (st.set d e) tm w where
 tmp i:=by
  rw[G6]
  by_cases hi:i=d
  ·subst hi;rw[bg rfl];exact ht
  ·rw[aR hi];exact h.tmp i
 box:=h.box
 obj:=h.obj
 sep:=h.sep
 frm:=h.frm
theorem Sep.sub {bx:List (Nat×List CE)} {ob wY:List (Nat×OB)} (h:Sep F A w0 w φ bx ob) (hd: ∀o,az wY o→az ob o):Sep F A w0 w φ bx wY where
 arg:=h.arg
 nz o ho:=h.nz o (hd o ho)
 apart o o' k h1 h2:=h.apart o o' k (hd o h1) (hd o' h2)
 read o k ho:=h.read o k (hd o ho)
 fresh o k ho:=h.fresh o k (hd o ho)
 ro:=h.ro
 iW:=h.iW
 box b cs hb hw:=by
  obtain⟨a1,a2,a3,a4⟩:=h.box b cs hb hw;exact⟨a1,fun o ho=>a2 o (hd o ho),a3,a4⟩
 spot:=h.spot
 soft:=h.soft
theorem jh {o d:Nat} {ob:List (Nat×OB)}:az (kJ o ob) d↔d≠o∧az ob d:=by
 unfold az;rw[eU]
 by_cases h:d=o
 ·simp[h]
 ·simp[h]
theorem o8 {o d:Nat} {ob:List (Nat×OB)} (h:d≠o):aa d (kJ o ob)=aa d ob:=by rw[eU,aR h]
theorem cj.kill {o:Nat} {ob:List (Nat×OB)} {e:CE} {v:Value} (h:cj ob w φ e v):cj (kJ o ob) w φ (F8 o e) v:=by
 unfold F8
 cases hd:gJ o (dM e) with
 |true=>trivial
 |false=>
  have hd:=cM.1 hd
  cases e with
  |ref p cut=>
   simp only[dM,fo] at hd;obtain⟨b,h1,h2⟩:=h;exact⟨b,by rw[o8 (Ne.symm hd)];exact h1,h2⟩
  |snap ds loc z rows=>
   simp only[dM] at hd;obtain⟨h1,h2,h3⟩:=h;refine⟨fun d hm=> ?_,h2,fun p i f hl=> ?_⟩
   ·rcases h1 d hm with h|h
    ·exact .inl h
    ·exact .inr (jh.2 ⟨fun e=>hd (e▸hm),h⟩)
   ·obtain⟨a1,b,a2,a3⟩:=h3 p i f hl
    have hp:p≠o:=fun e=>by subst e;exact hd a1
    exact⟨a1,b,by rw[o8 hp];exact a2,a3⟩
  |_=>exact h
theorem bS.kill {o:Nat} {ob:List (Nat×OB)} {e:TE} {v:Value} (hv: ∀t es,e≠ .v t es) (h:bS ob w φ e v):bS (kJ o ob) w φ (Lf o e) v:=by
 cases e with
 |v t es=>exact absurd rfl (hv t es)
 |ep ds cells=>
  simp only[Lf]
  cases hd:gJ o ds with
  |true=>trivial
  |false=>
   have hd:=cM.1 hd;obtain⟨h1,h2⟩:=h;refine⟨fun d hm=> ?_,h2⟩;rcases h1 d hm with h|h
   ·exact .inl h
   ·exact .inr (jh.2 ⟨fun e=>hd (e▸hm),h⟩)
 |er p path i f=>
  simp only[Lf]
  cases hd:Nat.beq p o with
  |true=>trivial
  |false=>
   have hd:=lW hd;obtain⟨b,h1,h2⟩:=h;exact⟨b,by rw[o8 hd];exact h1,h2⟩
 |_=>exact h
theorem aG.iY (h:aG F A w0 φ st tm w) (o:Nat):aG F A w0 φ (iY o st) tm w:=by
 refine h.yg (φ':=φ) rfl rfl (fun e v he=>he.kill) (fun e v hv he=>he.kill hv) (fun _ _ _ _ _=>rfl) (fun p b hb=> ?_) ?_ h.frm
 ·rw[eU] at hb
  split at hb
  ·cases hb
  ·exact h.obj p b hb
 ·exact(h.sep.boxes (ei _)).sub fun d hd=>(jh.1 hd).2
theorem fX {o d:Nat}:az (T.iY o st).ob d↔d≠o∧az st.ob d:=jh
theorem Gc {o d:Nat} (h:d≠o):aa d (T.iY o st).ob=aa d st.ob:=o8 h
def Fp.more (φ:Fp) (X:Nat→Prop):Fp:={φ with I:=fun k=>φ.I k∨X k}
theorem G7 {X:Nat→Prop} {ds:List Nat} {k:Nat} (h:rd φ ds k):rd (φ.more X) ds k:=h.imp .inl id
theorem aj.jS {R R' S:Nat→Prop} {m:Mode} {c:TC} {v:Value} (h:aj w R m S c v) (hR: ∀k,R k→R' k):aj w R' m S c v:=
 h.move (fun k hk=>⟨hR k hk,rfl⟩) fun _ _ _=>rfl
theorem cj.more {X:Nat→Prop} {ob:List (Nat×OB)} {e:CE} {v:Value} (h:cj ob w φ e v):cj ob w (φ.more X) e v:=by
 cases e with
 |snap ds loc z rows=>
  obtain⟨h1,h2,h3⟩:=h;exact⟨h1,h2.jS fun k hk=>G7 hk,h3⟩
 |_=>exact h
theorem bS.more {X:Nat→Prop} {ob:List (Nat×OB)} {e:TE} {v:Value} (hv: ∀t es,e≠ .v t es) (h:bS ob w φ e v):bS ob w (φ.more X) e v:=by
 cases e with
 |v t es=>exact absurd rfl (hv t es)
 |ep ds cells=>
  obtain⟨h1,ad,h2,hr,h3⟩:=h;refine⟨h1,ad,h2,fun hc=>G7 (hr hc),fun j tc hj=> ?_⟩;obtain⟨u,h4,h5⟩:=h3 j tc hj;exact⟨u,h4,h5.jS fun k hk=>G7 hk⟩
 |_=>exact h
theorem A8 (st:TS):mapA (List.map (id:CE→CE)) st.bx=st.bx:=congrArg TS.bx (o7 st)
theorem aG.more (h:aG F A w0 φ st tm w) {X:Nat→Prop} (hX: ∀k,X k→k<w.heap.size∧(w0.heap.size≤k∨F k∨A.sh k)) (hS: ∀k o,X k→az st.ob o→ ¬φ.S o k)
 (hB: ∀b cs,aa b st.bx=some cs→r5 b=true→ ¬X (φ.β b).block):aG F A w0 (φ.more X) st tm w:=by
 have:=h.yg (f:=id) (g:=id) (k:=id) (φ':=φ.more X) (w':=w) rfl rfl (fun e v he=>he.more) (fun e v hv he=>he.more hv) (fun _ _ _ _ _=>rfl)
  (fun o b hb=>(h.obj o b hb).jS fun k hk=> .inl hk)
  (by
    rw[A8]
    exact {
     arg:=h.sep.arg,nz:=h.sep.nz,apart:=h.sep.apart,fresh:=h.sep.fresh,iW:=h.sep.iW,spot:=h.sep.spot,soft:=h.sep.soft
     read:=fun o k ho hk hI=>hI.elim (h.sep.read o k ho hk) fun hx=>hS k o hx ho hk
     ro:=fun k hk=>hk.elim (h.sep.ro k) (hX k)
     box:=fun b cs hb hw=>by
      obtain⟨a1,a2,a3,a4⟩:=h.sep.box b cs hb hw
      exact⟨fun hI=>hI.elim a1 (hB b cs hb hw),a2,a3,a4⟩}) h.frm
 rw[o7] at this;exact this
def Fp.add (φ:Fp) (o:Nat) (X:Nat→Prop) (v:Value):Fp:={φ with S:=fun d k=>if d=o then X k else φ.S d k,V:=fun d=>if d=o then v else φ.V d}
theorem G8 {o:Nat} {X:Nat→Prop} {v:Value} {ds:List Nat} (hd:o∉ds) {k:Nat} (h:rd φ ds k):rd (φ.add o X v) ds k:=by
 rcases h with h|⟨d,hm,h⟩
 ·exact .inl h
 ·refine .inr ⟨d,hm,?_⟩
  show(if d=o then X k else φ.S d k)
  have hp:d≠o:=fun e=>by subst e;exact hd hm
  rw[aR hp];exact h
theorem ot {o d:Nat} {X:Nat→Prop} {v:Value} (h:d≠o) {k:Nat}:(φ.add o X v).S d k=φ.S d k:=aR h
theorem NG {o d:Nat} {X:Nat→Prop} {v:Value} (h:d≠o):(φ.add o X v).V d=φ.V d:=aR h
theorem fu {o d:Nat} {b:OB} {ob:List (Nat×OB)}:az (jr o b ob) d↔d=o∨az ob d:=by
 unfold az;rw[cZ]
 by_cases h:d=o
 ·simp[h]
 ·simp[h]
theorem gM {o d:Nat} {b:OB} {ob:List (Nat×OB)} (h:d≠o):aa d (jr o b ob)=aa d ob:=by rw[cZ,aR h]
theorem g6 {o:Nat} {b:OB} {ob:List (Nat×OB)}:aa o (jr o b ob)=some b:=by rw[cZ,bg rfl]
theorem cj.add {o:Nat} {b:OB} {X:Nat→Prop} {V:Value} {ob:List (Nat×OB)} (h0:o≠0) (hn: ¬az ob o) {e:CE} {v:Value} (h:cj ob w φ e v):cj (jr o b ob) w (φ.add o X V) e v:=by
 cases e with
 |ref p cut=>
  obtain⟨b',h1,h2⟩:=h;have hp:p≠o:=fun e=>hn ⟨b',e▸h1⟩;refine⟨b',by rw[gM hp];exact h1,?_⟩;rw[NG hp];exact h2
 |snap ds loc z rows=>
  obtain⟨h1,h2,h3⟩:=h;have hd:o∉ds:=fun hm=>(h1 o hm).elim h0 hn;refine⟨fun d hm=>(h1 d hm).imp id fun h=>fu.2 (.inr h),h2.jS fun k hk=>G8 hd hk,fun p i f hl=>⟨(h3 p i f hl).1,?_⟩⟩;obtain⟨a1,b',a2,a3,a4,ad,n,c,a5,a6⟩:=h3 p i f hl;have hp:p≠o:=fun e=>hn ⟨b',e▸a2⟩;exact⟨b',by rw[gM hp];exact a2,a3,a4,ad,n,c,by rw[NG hp];exact a5,a6⟩
 |_=>exact h
theorem bS.add {o:Nat} {b:OB} {X:Nat→Prop} {V:Value} {ob:List (Nat×OB)} (h0:o≠0) (hn: ¬az ob o) {e:TE} {v:Value} (hv: ∀t es,e≠ .v t es) (h:bS ob w φ e v):
 bS (jr o b ob) w (φ.add o X V) e v:=by
 cases e with
 |v t es=>exact absurd rfl (hv t es)
 |ep ds cells=>
  obtain⟨h1,ad,h2,hr,h3⟩:=h;have hd:o∉ds:=fun hm=>(h1 o hm).elim h0 hn;refine⟨fun d hm=>(h1 d hm).imp id fun h=>fu.2 (.inr h),ad,h2,fun hc=>G8 hd (hr hc),fun j tc hj=> ?_⟩;obtain⟨u,h4,h5⟩:=h3 j tc hj;exact⟨u,h4,h5.jS fun k hk=>G8 hd hk⟩
 |er p path i f=>
  obtain⟨b',h1,h2,ad,n,c,h3,h4⟩:=h;have hp:p≠o:=fun e=>hn ⟨b',e▸h1⟩;exact⟨b',by rw[gM hp];exact h1,h2,ad,n,c,by rw[NG hp];exact h3,h4⟩
 |_=>exact h
theorem PL (st:TS) (o:Nat) (b:OB):st.RM o b=qg id id (jr o b) st:=by
 have h:=o7 st;unfold qg at h ⊢;have h1:=congrArg TS.tm h;have h2:=congrArg TS.bx h;simp only at h1 h2;rw[h1,h2];rfl
theorem aG.add (h:aG F A w0 φ st tm w) {o:Nat} {b:OB} {X:Nat→Prop} {v:Value} (h0:o≠0) (hn: ¬az st.ob o) (hc:aj w φ.I b.m X (.sub b.z b.rows) v)
 (hX: ∀k,X k→k<w.heap.size∧(w0.heap.size≤k∨F k)) (hI: ∀k,X k→ ¬φ.I k) (hS: ∀k d,X k→az st.ob d→ ¬φ.S d k)
 (hB: ∀b cs,aa b st.bx=some cs→r5 b=true→ ¬X (φ.β b).block):aG F A w0 (φ.add o X v) (st.RM o b) tm w:=by
 rw[PL];refine h.yg (φ':=φ.add o X v) (w':=w) rfl rfl (fun e u he=>he.add h0 hn) (fun e u hv he=>he.add h0 hn hv) (fun _ _ _ _ _=>rfl) (fun p b' hb=> ?_) ?_ h.frm
 ·unfold iZ
  by_cases hp:p=o
  ·subst hp
   rw[g6] at hb
   cases hb
   show aj w φ.I b.m (fun k=>if p=p then X k else φ.S p k) (.sub b.z b.rows) (if p=p then v else φ.V p);simp only[if_true];exact hc
  ·rw[gM hp] at hb
   have:=h.obj p b' hb;unfold iZ at this;show aj w φ.I b'.m (fun k=>if p=o then X k else φ.S p k) (.sub b'.z b'.rows) (if p=o then v else φ.V p);simp only[aR hp];exact this
 ·rw[A8]
  exact {
   arg:=by
    show(fun k=>if 0=o then X k else φ.S 0 k)=A.all;simp only[aR (Ne.symm h0)];exact h.sep.arg
   nz:=fun d hd=>(fu.1 hd).elim (fun e=>e▸h0) (h.sep.nz d)
   apart:=fun d d' k h1 h2 h3 h4=>by
    by_cases e1:d=o
    ·by_cases e2:d'=o
     ·rw[e1,e2]
     ·subst e1
      rw[ot e2] at h4
      have h3:X k:=by have Pz:(if d=d then X k else φ.S d k):=h3;simpa using Pz
      exact absurd h4 (hS k d' h3 ((fu.1 h2).resolve_left e2))
    ·rw[ot e1] at h3
     by_cases e2:d'=o
     ·subst e2
      have h4:X k:=by have W7:(if d'=d' then X k else φ.S d' k):=h4;simpa using W7
      exact absurd h3 (hS k d h4 ((fu.1 h1).resolve_left e1))
     ·rw[ot e2] at h4
      exact h.sep.apart d d' k ((fu.1 h1).resolve_left e1) ((fu.1 h2).resolve_left e2) h3 h4
   read:=fun d k hd hk=>by
    by_cases e1:d=o
    ·subst e1
     have hk:X k:=by have hk':(if d=d then X k else φ.S d k):=hk;simpa using hk'
     exact hI k hk
    ·rw[ot e1] at hk
     exact h.sep.read d k ((fu.1 hd).resolve_left e1) hk
   fresh:=fun d k hd hk=>by
    by_cases e1:d=o
    ·subst e1
     have hk:X k:=by have hk':(if d=d then X k else φ.S d k):=hk;simpa using hk'
     exact hX k hk
    ·rw[ot e1] at hk
     exact h.sep.fresh d k ((fu.1 hd).resolve_left e1) hk
   ro:=h.sep.ro
   iW:=h.sep.iW
   box:=fun b' cs hb hw=>by
    obtain⟨a1,a2,a3,a4⟩:=h.sep.box b' cs hb hw;refine⟨a1,fun d hd hk=> ?_,a3,a4⟩
    by_cases e1:d=o
    ·subst e1
     have hk:X (φ.β b').block:=by have hk':(if d=d then X (φ.β b').block else φ.S d (φ.β b').block):=hk;simpa using hk'
     exact hB b' cs hb hw hk
    ·rw[ot e1] at hk
     exact a2 d ((fu.1 hd).resolve_left e1) hk
   spot:=h.sep.spot
   soft:=h.sep.soft}
theorem aG.vz (h:aG F A w0 φ st tm w) {o:Nat} {b:OB} {X:Nat→Prop} {v:Value} (h0:o≠0) (hc:aj w φ.I b.m X (.sub b.z b.rows) v)
 (hX: ∀k,X k→k<w.heap.size∧(w0.heap.size≤k∨F k)) (hI: ∀k,X k→ ¬φ.I k) (hS: ∀k d,X k→d≠o→az st.ob d→ ¬φ.S d k)
 (hB: ∀b cs,aa b st.bx=some cs→r5 b=true→ ¬X (φ.β b).block):aG F A w0 (φ.add o X v) (T.vz o b st) tm w:=
 (h.iY o).add h0 (fun hd=>(fX.1 hd).1 rfl) hc hX hI (fun k d hx hd=>hS k d hx (fX.1 hd).1 (fX.1 hd).2)
   fun b cs hb hw=>by
    obtain⟨cs0,h1,_⟩:=ei _ b cs hb;exact hB b cs0 h1 hw
end Go.T
namespace Go.T
variable {F : Nat → Prop} {A : Arg} {w0 w w' : World} {φ φ' : Fp} {st st' : TS} {tm ya : Array Value}
attribute [local semireducible] av in
theorem s8 (rows:List (List TC)) (l h:Int):av rows l h=(rows.take h.toNat).drop l.toNat:=rfl
theorem DU {rows:List (List TC)} {l h:Int} (h2:h≤rows.length):(av rows l h).length=h.toNat-l.toNat:=by
 rw[s8,jy,e9]
 have:h.toNat≤rows.length:=by omega
 omega
theorem G9 {rows:List (List TC)} {l h:Int} {i f:Nat} {tc:TC} (ht:qm (av rows l h) i f=some tc):qm rows (i+l.toNat) f=some tc∧i+l.toNat<h.toNat:=by
 unfold qm at ht ⊢;rw[s8,kE,BW] at ht
 by_cases hi:l.toNat+i<h.toNat
 ·rw[bg hi] at ht
  rw[Nat.add_comm];exact⟨ht,hi⟩
 ·rw[aR hi] at ht;cases ht
theorem vK {a:Addr} (n:Nat) (h:a.spot=none):(a.add n).spot=none:=by unfold Addr.add;split<;>simp[h]
theorem oF {a:Addr} (n:Nat) (h:a.spot=none):a.add n=⟨a.block,a.off+n,none⟩:=by
 unfold Addr.add;split
 ·subst n;cases a;simp_all
 ·rfl
theorem aj.cut {R S:Nat→Prop} {m:Mode} {z:Nat} {rows:List (List TC)} {V v:Value} {l h:Int} (k:aj w R m S (.sub z rows) V) (hc:ue z rows.length l h V v):
 aj w R m S (.sub z (av rows l h)) v:=by
 cases k with
 |sub _ _ _ _ A c u T k hn=>
  obtain⟨h0,h1,h2,A1,A',c1,e1,rfl,e2,e3,e4⟩:=hc
  cases e1
  have hlen:=DU (rows:=rows) (l:=l) h2
  have hle:h.toNat≤rows.length:=by omega
  rw[←hlen];have hcl:=k.len
  have hne: ∀i f tc,qm (av rows l h) i f=some tc→c≠l.toNat:=fun i f tc ht=>by
   have:=(G9 ht).2;omega
  refine .sub _ _ _ _ A' (c-l.toNat) (fun i f=>u (i+l.toNat) f) (fun i f=>T (i+l.toNat) f) ?_ fun i f tc ht=>hn _ _ _ (G9 ht).1
  have hb: ∀ad',A'=some ad'→ ∃ad,A=some ad∧ad'.block=ad.block∧(ad.spot=none→ad'.spot=none):=fun ad' ha=>by
   cases hA:A with
   |none=>rw[e3 hA] at ha;cases ha
   |some ad=>
    obtain⟨ad2,b1,b2,b3⟩:=e4 ad hA;rw[b1] at ha;cases ha;exact⟨ad,rfl,b2,b3⟩
  have hnm:rows=[]→av rows l h=[]:=fun e=>by rw[s8,e];simp
  refine⟨by omega,og (Nat.sub_le _ _) k.cap,k.z0,fun r hr=>k.width r ?_,fun hr=> ?_,fun ad' ha i f tc ht=> ?_,fun hm ad' ha hr=> ?_,fun hm=>⟨fun ha=> ?_,fun ad' ha=> ?_⟩,fun hm M6 ad' ha i=> ?_,fun hm i f q hq=> ?_⟩
  ·rw[s8] at hr
   exact r8 (vu hr)
  ·obtain⟨ad,ha⟩:=k.addr fun e=>hr (hnm e)
   obtain⟨ad',b1,_⟩:=e4 ad ha;exact⟨ad',b1⟩
  ·obtain⟨ad,hA,_⟩:=hb ad' ha
   have:=e2 (hne i f tc ht);rw[hA] at this;simp only[ij] at this;rw[this] at ha
   cases ha
   rw[Addr.add_add];have:=k.cell ad hA _ _ _ (G9 ht).1;rw[nv] at this;rw[show l.toNat*z+(i*z+f)=i*z+l.toNat*z+f by omega];exact this
  ·obtain⟨ad,hA,b1,_⟩:=hb ad' ha
   rw[b1];exact k.read hm ad hA fun e=>hr (hnm e)
  ·cases hA:A with
   |none=>rw[(k.own hm).1 hA];omega
   |some ad=>obtain⟨ad2,b1,_⟩:=e4 ad hA;rw[b1] at ha;cases ha
  ·obtain⟨ad,hA,b1,b2⟩:=hb ad' ha
   obtain⟨a1,a2,a3⟩:=(k.own hm).2 ad hA;refine⟨by rw[b1];exact a1,b2 a2,fun j hj=> ?_⟩
   have VL:c≠l.toNat:=fun e=>by rw[e] at hj;simp at hj
   have:=e2 VL;rw[hA] at this;simp only[ij] at this;rw[this] at ha
   cases ha
   rw[oF _ a2];simp only;rw[qd];refine a3 _ ?_
   have:l.toNat*z+(c-l.toNat)*z≤c*z:=by
    rw[←nv];exact lI _ ay
   omega
  ·obtain⟨ad,hA,b1,b2⟩:=hb ad' ha
   rw[b1];exact k.soft hm M6 ad hA i
  ·obtain⟨a1,a2,a3⟩:=k.kz hm _ _ _ hq
   refine⟨a1,fun ad' ha=> ?_,fun i' f' Ff=> ?_⟩
   ·obtain⟨ad,hA,b1,_⟩:=hb ad' ha
    rw[b1];exact a2 ad hA
   ·obtain⟨c1,c2⟩:=a3 _ _ Ff
    exact⟨by omega,c2⟩
theorem iZ.cut {o:Nat} {b:OB} (h:iZ w φ o b) {cut:Option (Int×Int)} {v:Value} (hc:match(generalizing:=false) cut with|none=>v=φ.V o|some (l,h)=>ue b.z b.rows.length l h (φ.V o) v):
 aj w φ.I b.m (φ.S o) (.sub b.z (IK cut b.rows)) v:=by
 cases cut with
 |none=>simp only at hc;rw[hc];exact h
 |some q=>obtain⟨l,h1⟩:=q;exact aj.cut h hc
theorem Mt {o:Nat} {l:Option (Nat×Int×Nat)} {p:Nat} {i:Int} {f:Nat} (h:RN o l=some (p,i,f)):l=some (p,i,f)∧p≠o:=by
 unfold RN at h
 cases l with
 |none=>cases h
 |some q=>
  obtain⟨a,b,c⟩:=q;simp only at h
  cases h1:Nat.beq a o with
  |true=>rw[h1] at h;cases h
  |false=>rw[h1] at h;cases h;exact⟨rfl,lW h1⟩
theorem Ko {o:Nat} {ds:List Nat} {k:Nat} (h:rd φ ds k):rd (φ.more (φ.S o)) (IJ o ds) k:=by
 rcases h with h|⟨d,hd,h⟩
 ·exact .inl (.inl h)
 ·by_cases e:d=o
  ·subst e;exact .inl (.inr h)
  ·exact .inr ⟨d,sn.2 ⟨hd,e⟩,h⟩
theorem cj.freeze {o:Nat} {b:OB} {ob:List (Nat×OB)} (hb:aa o ob=some b) (hO:iZ w φ o b) {e:CE} {v:Value} (h:cj ob w φ e v):cj (kJ o ob) w (φ.more (φ.S o)) (Dt o b e) v:=by
 cases e with
 |ref p cut=>
  obtain⟨b',h1,h2⟩:=h;simp only[Dt]
  cases hd:Nat.beq p o with
  |true=>
   have:=eD hd;subst this;rw[hb] at h1;cases h1;refine And.intro (fun d hm=>by cases hm) (And.intro ?_ (fun _ _ _ hl=>by cases hl));exact(hO.cut h2).freeze (fun k hk=> .inl (.inl hk)) fun _ k hk=> .inl (.inr hk)
  |false=>
   have:=lW hd;exact⟨b',by rw[o8 this];exact h1,h2⟩
 |snap ds loc z rows=>
  obtain⟨h1,h2,h3⟩:=h;refine⟨fun d hm=> ?_,h2.jS fun k hk=>Ko hk,fun p i f hl=> ?_⟩
  ·obtain⟨a1,a2⟩:=sn.1 hm
   exact(h1 d a1).imp id fun h=>jh.2 ⟨a2,h⟩
  ·obtain⟨a1,a2⟩:=Mt hl
   obtain⟨a3,b',a4,a5⟩:=h3 p i f a1;exact⟨sn.2 ⟨a3,a2⟩,b',by rw[o8 a2];exact a4,a5⟩
 |_=>exact h
theorem bS.freeze {o:Nat} {ob:List (Nat×OB)} {e:TE} {v:Value} (hv: ∀t es,e≠ .v t es) (h:bS ob w φ e v):bS (kJ o ob) w (φ.more (φ.S o)) (GX o e) v:=by
 cases e with
 |v t es=>exact absurd rfl (hv t es)
 |ep ds cells=>
  obtain⟨h1,ad,h2,hr,h3⟩:=h;refine⟨fun d hm=> ?_,ad,h2,fun hc=>Ko (hr hc),fun j tc hj=> ?_⟩
  ·obtain⟨a1,a2⟩:=sn.1 hm
   exact(h1 d a1).imp id fun h=>jh.2 ⟨a2,h⟩
  ·obtain⟨u,h4,h5⟩:=h3 j tc hj
   exact⟨u,h4,h5.jS fun k hk=>Ko hk⟩
 |er p path i f=>
  simp only[GX]
  cases hd:Nat.beq p o with
  |true=>trivial
  |false=>
   obtain⟨b,h1,h2⟩:=h;exact⟨b,by rw[o8 (lW hd)];exact h1,h2⟩
 |_=>exact h
theorem aG.qh (h:aG F A w0 φ st tm w) (o:Nat): ∃φ',aG F A w0 φ' (qh st o) tm w∧φ'.β=φ.β∧φ'.V=φ.V∧φ'.S=φ.S∧ ∀k,φ'.I k↔φ.I k∨(az st.ob o∧φ.S o k):=by
 unfold T.qh
 cases hb:aa o st.ob with
 |none=>exact⟨φ,h,rfl,rfl,rfl,fun k=>⟨.inl,fun hk=>hk.elim id fun⟨⟨b,hb'⟩,_⟩=>by rw[hb] at hb';cases hb'⟩⟩
 |some b=>
  refine⟨φ.more (φ.S o),h.yg (φ':=φ.more (φ.S o)) (w':=w) rfl rfl (fun e v he=>he.freeze hb (h.obj o b hb)) (fun e v hv he=>he.freeze hv) (fun _ _ _ _ _=>rfl) (fun p b' hp=> ?_) ?_ h.frm,rfl,rfl,rfl,fun k=>⟨fun hk=>hk.imp id fun hk=>⟨⟨b,hb⟩,hk⟩,fun hk=>hk.imp id fun hk=>hk.2⟩⟩
  ·rw[eU] at hp
   split at hp
   ·cases hp
   ·exact(h.obj p b' hp).jS fun k hk=> .inl hk
  ·have hs:=(h.sep.boxes (ei (Dt o b))).sub (wY:=kJ o st.ob) fun d hd=>(jh.1 hd).2
   have hin:az st.ob o:=⟨b,hb⟩
   exact {
    arg:=hs.arg,nz:=hs.nz,apart:=hs.apart,fresh:=hs.fresh,iW:=hs.iW,spot:=hs.spot,soft:=hs.soft
    read:=fun p k hp hk hI=>by
     obtain⟨a1,a2⟩:=jh.1 hp;rcases hI with hI|hI
     ·exact h.sep.read p k a2 hk hI
     ·exact a1 (h.sep.apart p o k a2 hin hk hI)
    ro:=fun k hk=>hk.elim (h.sep.ro k) fun hk=>⟨(h.sep.fresh o k hin hk).1,(h.sep.fresh o k hin hk).2.imp id .inl⟩
    box:=fun b' cs hb' hw=>by
     obtain⟨a1,a2,a3,a4⟩:=hs.box b' cs hb' hw;obtain⟨cs0,c1,_⟩:=ei _ b' cs hb'
     exact⟨fun hI=>hI.elim a1 ((h.sep.box b' cs0 c1 hw).2.1 o hin),a2,a3,a4⟩}
theorem aG.nM (h:aG F A w0 φ st tm w) {o:Nat} {b b':OB} {X:Nat→Prop} (hb:aa o st.ob=some b) (hz:b'.z=b.z) (hl:b'.rows.length=b.rows.length)
 (hc:aj w' φ.I b'.m X (.sub b'.z b'.rows) (φ.V o)) (hf:Ln F w0 w') (hsz:w.heap.size≤w'.heap.size) (hw: ∀k,k<w.heap.size→ ¬φ.S o k→w'.heap[k]?=w.heap[k]?)
 (hX: ∀k,X k→k<w'.heap.size∧(w0.heap.size≤k∨F k)) (hI: ∀k,X k→ ¬φ.I k) (hS: ∀k d,X k→d≠o→az st.ob d→ ¬φ.S d k)
 (hB: ∀b cs,aa b st.bx=some cs→r5 b=true→ ¬X (φ.β b).block):aG F A w0 (φ.add o X (φ.V o)) (nM o b' st) tm w':=by
 have hin:az st.ob o:=⟨b,hb⟩;have h0:o≠0:=h.sep.nz o hin
 have hV:(φ.add o X (φ.V o)).V=φ.V:=by
  funext d
  show(if d=o then φ.V o else φ.V d)=φ.V d
  split
  ·subst_vars;rfl
  ·rfl
 have kg: ∀d,az (jr o b' st.ob) d↔az st.ob d:=fun d=>by
  rw[fu];exact⟨fun h=>h.elim (fun e=>e▸hin) id,.inr⟩
 have stI: ∀k,φ.I k→w'.heap[k]?=w.heap[k]?:=fun k hk=>hw k (h.sep.ro k hk).1 fun hs=>h.sep.read o k hin hs hk
 have stS: ∀d k,d≠o→d=0∨az st.ob d→φ.S d k→w'.heap[k]?=w.heap[k]?:=fun d k hne hd hk=>hw k (h.sep.lt h.frm.size hd hk) fun hs=>by
  rcases hd with rfl|hd
  ·rw[h.sep.arg] at hk
   have:=h.sep.iW k hk;rcases (h.sep.fresh o k hin hs).2 with h3|h3
   ·omega
   ·exact this.2 h3
  ·exact hne (h.sep.apart d o k hd hin hk hs)
 have stR: ∀ds k,o∉ds→(∀d∈ds,d=0∨az st.ob d)→rd φ ds k→rd (φ.add o X (φ.V o)) ds k∧w'.heap[k]?=w.heap[k]?:=fun ds k hn hd hk=>by
  refine⟨G8 hn hk,?_⟩;rcases hk with hk|⟨d,hm,hk⟩
  ·exact stI k hk
  ·exact stS d k (fun e=>by subst e;exact hn hm) (hd d hm) hk
 have stV: ∀p b1 ad n c i f tc u,p≠o→aa p st.ob=some b1→φ.V p= .slice (some ad) n c→qm b1.rows i f=some tc→w.cell? (ad.add (i*b1.z+f))=some u→w'.cell? (ad.add (i*b1.z+f))=some u:=by
  intro p b1 ad n c i f tc u hne hp hv ht hcell;have hO:=h.obj p b1 hp;unfold iZ at hO;rw[hv] at hO
  have hS:φ.S p ad.block:=by
   cases hO with
   |sub _ _ _ _ _ _ u T k hn=>exact(k.own (by unfold OB.m;split<;>simp)).2 ad rfl|>.1
  rw[dy (w:=w)]
  ·exact hcell
  ·rw[bO];exact stS p _ hne (.inr ⟨b1,hp⟩) hS
 have cbox: ∀p cs,aa p st.bx=some cs→w'.heap[(φ.β p).block]?=w.heap[(φ.β p).block]?:=fun p cs hp=>by
  obtain⟨a1,a2,a3⟩:=h.sep.spot p cs hp;refine hw _ a2 fun hs=> ?_
  cases xD:r5 p with
  |true=>exact(h.sep.box p cs hp xD).2.1 o hin hs
  |false=>
   have:=h.sep.iW _ (a3 xD);rcases (h.sep.fresh o _ hin hs).2 with h3|h3
   ·omega
   ·exact this.2 h3
 refine h.yg (φ':=φ.add o X (φ.V o)) rfl rfl (fun e v he=> ?_) (fun e v hv he=> ?_) (fun p cs hp j hj=> ?_) (fun p b1 hp=> ?_) ?_ hf
 ·cases e with
  |ref p cut=>
   obtain⟨b1,h1,h2⟩:=he
   by_cases hp:p=o
   ·subst hp
    rw[hb] at h1;cases h1;refine⟨b',g6,?_⟩;rw[hV]
    cases cut with
    |none=>exact h2
    |some q=>obtain⟨l,r⟩:=q;simp only at h2 ⊢;rw[hz,hl];exact h2
   ·exact⟨b1,by rw[gM hp];exact h1,by rw[hV];exact h2⟩
  |snap ds loc z rows=>
   simp only[Kf]
   cases hd:gJ o ds with
   |true=>trivial
   |false=>
    have hd:=cM.1 hd;obtain⟨h1,h2,h3⟩:=he;refine⟨fun d hm=>(h1 d hm).imp id (kg d).2,h2.move (fun k hk=>stR ds k hd h1 hk) (fun hm=>absurd rfl hm),fun p i f hl=> ?_⟩;obtain⟨a1,b1,a2,a3,a4,ad,n,c,a5,a6⟩:=h3 p i f hl
    have hp:p≠o:=fun e=>by subst e;exact hd a1
    refine⟨a1,b1,by rw[gM hp];exact a2,a3,a4,ad,n,c,by rw[hV];exact a5,stV p b1 ad n c _ _ _ _ hp a2 a5 a4 a6⟩
  |_=>exact he
 ·cases e with
  |v t es=>exact absurd rfl (hv t es)
  |ep ds cells=>
   simp only[GW]
   cases hd:gJ o ds with
   |true=>trivial
   |false=>
    have hd:=cM.1 hd;obtain⟨h1,ad,h2,hr,h3⟩:=he;refine⟨fun d hm=>(h1 d hm).imp id (kg d).2,ad,h2,fun hc=>(stR ds _ hd h1 (hr hc)).1,fun j tc hj=> ?_⟩;obtain⟨u,h4,h5⟩:=h3 j tc hj
    have hc:cells≠[]:=fun e=>by rw[e] at hj;simp at hj
    exact⟨u,by rw[dy (w:=w) (by rw[bO];exact(stR ds _ hd h1 (hr hc)).2)];exact h4,h5.move (fun k hk=>stR ds k hd h1 hk) (fun hm=>absurd rfl hm)⟩
  |er p path i f=>
   obtain⟨b1,h1,h2,ad,n,c,h3,h4⟩:=he
   cases path with
   |none=>
    simp only[GW]
    by_cases hp:p=o
    ·subst hp
     rw[hb] at h1;cases h1;exact⟨b',g6,h2,ad,n,c,by rw[hV];exact h3,by rw[hz];exact h4⟩
    ·exact⟨b1,by rw[gM hp];exact h1,h2,ad,n,c,by rw[hV];exact h3,h4⟩
   |some q=>
    obtain⟨i0,f0⟩:=q;simp only[GW]
    cases hd:Nat.beq p o with
    |true=>trivial
    |false=>
     have hp:=lW hd;obtain⟨a1,z1,kR,a2,ad1,n1,c1,a3,a4⟩:=h4;exact⟨b1,by rw[gM hp];exact h1,h2,ad,n,c,by rw[hV];exact h3,a1,z1,kR,a2,ad1,n1,c1,stV p b1 ad n c _ _ _ _ hp h1 h3 a2 a3,a4⟩
  |_=>exact he
 ·exact dy (by rw[bO];exact cbox p cs hp)
 ·unfold iZ
  by_cases Io:p=o
  ·subst Io
   rw[g6] at hp;cases hp;rw[hV];show aj w' φ.I b'.m (fun k=>if p=p then X k else φ.S p k) (.sub b'.z b'.rows) (φ.V p);simp only[if_true];exact hc
  ·rw[gM Io] at hp
   rw[hV];show aj w' φ.I b1.m (fun k=>if p=o then X k else φ.S p k) (.sub b1.z b1.rows) (φ.V p);simp only[aR Io];exact(h.obj p b1 hp).move (fun k hk=>⟨hk,stI k hk⟩) fun _ k hk=>stS p k Io (.inr ⟨b1,hp⟩) hk
 ·have hs:=h.sep.boxes (ei (Kf o))
  have self: ∀k,(φ.add o X (φ.V o)).S o k→X k:=fun k hk=>by
   have hk':(if o=o then X k else φ.S o k):=hk;simpa using hk'
  exact {
   arg:=by
    show(fun k=>if 0=o then X k else φ.S 0 k)=A.all;simp only[aR (Ne.symm h0)];exact h.sep.arg
   nz:=fun d hd=>h.sep.nz d ((kg d).1 hd)
   apart:=fun d d' k h1 h2 h3 h4=>by
    have i1:=(kg d).1 h1;have i2:=(kg d').1 h2
    by_cases e1:d=o
    ·subst e1
     by_cases e2:d'=d
     ·exact e2.symm
     ·rw[ot e2] at h4;exact absurd h4 (hS k d' (self k h3) e2 i2)
    ·rw[ot e1] at h3
     by_cases e2:d'=o
     ·subst e2;exact absurd h3 (hS k d (self k h4) e1 i1)
     ·rw[ot e2] at h4;exact h.sep.apart d d' k i1 i2 h3 h4
   read:=fun d k hd hk=>by
    have hd:=(kg d).1 hd
    by_cases e1:d=o
    ·subst e1;exact hI k (self k hk)
    ·rw[ot e1] at hk;exact h.sep.read d k hd hk
   fresh:=fun d k hd hk=>by
    have hd:=(kg d).1 hd
    by_cases e1:d=o
    ·subst e1;exact hX k (self k hk)
    ·rw[ot e1] at hk
     exact⟨fI (h.sep.fresh d k hd hk).1 hsz,(h.sep.fresh d k hd hk).2⟩
   ro:=fun k hk=>⟨fI (h.sep.ro k hk).1 hsz,(h.sep.ro k hk).2⟩
   iW:=h.sep.iW
   box:=fun p cs hp xD=>by
    obtain⟨cs0,c1,_⟩:=ei _ p cs hp;obtain⟨a1,a2,a3,a4⟩:=hs.box p cs hp xD;refine⟨a1,fun d hd hk=> ?_,a3,a4⟩;have hd:=(kg d).1 hd
    by_cases e1:d=o
    ·subst e1;exact hB p cs0 c1 xD (self _ hk)
    ·rw[ot e1] at hk;exact a2 d hd hk
   spot:=fun p cs hp=>⟨(hs.spot p cs hp).1,fI (hs.spot p cs hp).2.1 hsz,(hs.spot p cs hp).2.2⟩
   soft:=fun p cs j hp xD hj=>by
    obtain⟨cs0,c1,c2⟩:=ei _ p cs hp;rw[gL (w:=w) (by rw[bO];exact cbox p cs0 c1)]
    exact h.sep.soft p cs0 j c1 xD ay}
end Go.T
namespace Go.T
variable {F : Nat → Prop} {A : Arg} {w0 w w' : World} {φ φ' : Fp} {st st' : TS} {tm ya : Array Value}
theorem aG.less (h:aG F A w0 φ st tm w) (ht: ∀i,st'.get i= .dead∨st'.get i=st.get i) (hb: ∀b cs,aa b st'.bx=some cs→aa b st.bx=some cs) (ho:st'.ob=st.ob):aG F A w0 φ st' tm w where
 tmp i:=by
  rw[ho];rcases ht i with h1|h1
  ·rw[h1];trivial
  ·rw[h1];exact h.tmp i
 box b cs h1:=by rw[ho];exact h.box b cs (hb b cs h1)
 obj:=by rw[ho];exact h.obj
 sep:=by rw[ho];exact h.sep.boxes fun b cs h1=>⟨cs,hb b cs h1,rfl⟩
 frm:=h.frm
theorem IV (st:TS) (l:List Nat) (bx:List (Nat×List CE)) (ob:List (Nat×OB)) (i:Nat):(⟨ud l st.tm,bx,ob⟩:TS).get i= .dead∨(⟨ud l st.tm,bx,ob⟩:TS).get i=st.get i:=by
 unfold TS.get;simp only[DT]
 by_cases h:i∈l
 ·right;rw[bg h]
 ·left;rw[aR h]
theorem aG.keep (h:aG F A w0 φ st tm w) (l:List Nat):aG F A w0 φ ⟨ud l st.tm,st.bx,st.ob⟩ tm w:=
 h.less (IV st l st.bx st.ob) (fun _ _ h=>h) rfl
theorem DV (l:List Nat) (j:Nat): ∀(m:List (Nat×List CE)) (cs:List CE),aa j (ql l m)=some cs→aa j m=some cs
 |[],cs,h=>by simp[ql,aa] at h
 |(a,x)::r,cs,h=>by
  have ih:=DV l j r cs
  have key:aa j ((a,x)::ql l r)=some cs→aa j ((a,x)::r)=some cs:=fun h=>by
   simp only[aa] at h ⊢
   cases h1:Nat.beq a j with
   |true=>rw[h1] at h;exact h
   |false=>rw[h1] at h;exact ih h
  have skip:(100000≤a→False)→a∉l→aa j (ql l r)=some cs→aa j ((a,x)::r)=some cs:=fun h1 h2 h=>by
   simp only[aa]
   cases h3:Nat.beq a j with
   |false=>exact ih h
   |true=>
    exfalso
    have h3:=eD h3;subst h3
    have: ∀(m:List (Nat×List CE)),aa a (ql l m)=none:=by
     intro m
     induction m with
     |nil=>rfl
     |cons p r ih=>
      obtain⟨c,y⟩:=p;simp only[ql]
      have hk: ∀(hc:c≠a),aa a ((c,y)::ql l r)=none:=fun hc=>by
       simp only[aa,beq_false hc];exact ih
      split
      ·rename_i h4
       exact hk fun e=>h1 (by subst e;exact lV h4)
      ·split
       ·rename_i h5
        exact hk fun e=>h2 (by subst e;exact gh.1 h5)
       ·exact ih
    rw[this] at h;cases h
  simp only[ql] at h
  split at h
  ·exact key h
  ·rename_i h4
   split at h
   ·exact key h
   ·rename_i h5
    exact skip (fun h6=>by rw[DI h6] at h4;cases h4) (cM.1 h5) h
theorem aG.Ts (h:aG F A w0 φ st tm w) (l:List Nat):aG F A w0 φ ⟨ud l st.tm,ql l st.bx,st.ob⟩ tm w:=
 h.less (IV st l (ql l st.bx) st.ob) (fun b cs hb=>DV l b st.bx cs hb) rfl
theorem Mu {b:Nat} {ob:List (Nat×OB)} {β:Nat→Addr} (hβ: ∀c,c≠b→β c=φ.β c) {e:TE} {v:Value} (hn:DM b e=false) (h:bS ob w φ e v):bS ob w {φ with β:=β} e v:=by
 have Ru: ∀(c:kH) (u:Value),Q7 b c=false→iu ob w φ c u→iu ob w {φ with β:=β} c u:=by
  intro c u hc h
  cases c with
  |ptr c=>
   simp only[iu] at h ⊢;rw[hβ c (lW hc)];exact h
  |mk a cs=>cases a<;>exact h
 cases e with
 |v t es=>
  simp only[DM,List.any_eq_false] at hn
  cases t with
  |true=>
   obtain⟨vs,h1,h2,h3⟩:=h;refine⟨vs,h1,h2,fun k c hk=> ?_⟩;obtain⟨u,h4,h5⟩:=h3 k c hk;exact⟨u,h4,Ru c u (by simpa using hn c (ew hk)) h5⟩
  |false=>
   obtain⟨c,rfl,h3⟩:=h;exact⟨c,rfl,Ru c v (by simpa using hn c cY) h3⟩
 |bp c off=>
  simp only[bS] at h ⊢;rw[hβ c (lW hn)];exact h
 |fn f caps=>
  simp only[bS] at h ⊢;rw[h];have hn:=cM.1 hn
  congr 2
  refine List.map_congr_left fun c hc=> ?_;rw[hβ c fun e=>by subst e;exact hn hc]
 |_=>exact h
theorem Gd (b:Nat) (st:TS) (i:Nat):(F9 b st).get i=if DM b (st.get i)=true then .dead else st.get i:=by
 unfold TS.get F9;simp only[mO]
 cases aa i st.tm with
 |none=>simp
 |some e=>
  simp only[ij]
  cases DM b e<;>simp
theorem aG.F9 (h:aG F A w0 φ st tm w) (b:Nat):aG F A w0 φ (F9 b st) tm w:=by
 refine h.less (fun i=> ?_) (fun c cs hc=> ?_) rfl
 ·rw[Gd];split<;>simp
 ·have:aa c (kJ b st.bx)=some cs:=hc
  rw[eU] at this
  split at this
  ·cases this
  ·exact this
def Fp.box (φ:Fp) (b:Nat) (ad:Addr):Fp:={φ with β:=fun c=>if c=b then ad else φ.β c}
theorem o9 {b:Nat} {ad:Addr}:(φ.box b ad).β b=ad:=bg rfl
theorem ju {b c:Nat} {ad:Addr} (h:c≠b):(φ.box b ad).β c=φ.β c:=aR h
theorem aG.AU (h:aG F A w0 φ st tm w) {b:Nat} {cs:List CE} {ad:Addr} (hw:r5 b=true) (hs:ad.spot=none) (hlt:ad.block<w.heap.size) (hS: ∀o,az st.ob o→ ¬φ.S o ad.block)
 (hI: ¬φ.I ad.block) (hF:w0.heap.size≤ad.block∨F ad.block) (hB: ∀b' cs',aa b' st.bx=some cs'→b'≠b→(φ.β b').block≠ad.block)
 (hc: ∀(j:Nat) (e:CE),cs[j]?=some e→ ∃v,w.cell? (ad.add j)=some v∧v.cells= #[v]∧cj st.ob w φ e v) (hf: ∀j,j<cs.length→w.frozen? (ad.add j)=false):aG F A w0 (φ.box b ad) (AU b cs st) tm w:=by
 have pY: ∀c,aa c (T.AU b cs st).bx=if c=b then some cs else aa c st.bx:=fun c=>by
  show aa c (jr b cs (kJ b st.bx))=_;rw[cZ,eU]
  by_cases hc:c=b<;>simp[hc]
 refine⟨fun i=> ?_,fun c cs' p0 j e he=> ?_,h.obj,?_,h.frm⟩
 ·show bS st.ob w (φ.box b ad) ((T.F9 b st).get i) (tm.getD i undef)
  rw[Gd]
  split
  ·trivial
  ·rename_i hn
   exact Mu (fun c hc=>ju hc) (by simpa using hn) (h.tmp i)
 ·rw[pY] at p0
  by_cases hcb:c=b
  ·subst hcb
   rw[bg rfl] at p0;cases p0;rw[o9];exact hc j e he
  ·rw[aR hcb] at p0
   rw[ju hcb];exact h.box c cs' p0 j e he
 ·exact {
   arg:=h.sep.arg,nz:=h.sep.nz,apart:=h.sep.apart,read:=h.sep.read,fresh:=h.sep.fresh,ro:=h.sep.ro,iW:=h.sep.iW
   box:=fun c cs' p0 QN=>by
    rw[pY] at p0
    by_cases hcb:c=b
    ·subst hcb
     rw[o9];refine⟨hI,hS,hF,fun b' Im hb' hne=> ?_⟩;rw[pY,aR hne] at hb';rw[ju hne];exact hB b' Im hb' hne
    ·rw[aR hcb] at p0
     rw[ju hcb];obtain⟨a1,a2,a3,a4⟩:=h.sep.box c cs' p0 QN;refine⟨a1,a2,a3,fun b' Im hb' hne=> ?_⟩;rw[pY] at hb'
     by_cases hb2:b'=b
     ·subst hb2
      rw[o9];exact fun e=>hB c cs' p0 hcb e.symm
     ·rw[aR hb2] at hb'
      rw[ju hb2];exact a4 b' Im hb' hne
   spot:=fun c cs' p0=>by
    rw[pY] at p0
    by_cases hcb:c=b
    ·subst hcb
     rw[o9];exact⟨fun _=>hs,hlt,fun e=>by rw[hw] at e;cases e⟩
    ·rw[aR hcb] at p0
     rw[ju hcb];exact h.sep.spot c cs' p0
   soft:=fun c cs' j p0 QN hj=>by
    rw[pY] at p0
    by_cases hcb:c=b
    ·subst hcb
     rw[bg rfl] at p0;cases p0;rw[o9];exact hf j hj
    ·rw[aR hcb] at p0
     rw[ju hcb];exact h.sep.soft c cs' j p0 QN hj}
theorem aG.AT (h:aG F A w0 φ st tm w) {b:Nat} {cs old:List CE} (hb:aa b st.bx=some old) (xD:r5 b=true) (hl:cs.length=old.length) (hf:Ln F w0 w') (hsz:w.heap.size≤w'.heap.size)
 (hw: ∀k,k<w.heap.size→k≠(φ.β b).block→w'.heap[k]?=w.heap[k]?) (hfz: ∀j,j<cs.length→w'.frozen? ((φ.β b).add j)=false)
 (hc: ∀(j:Nat) (e:CE),cs[j]?=some e→ ∃v,w'.cell? ((φ.β b).add j)=some v∧v.cells= #[v]∧cj st.ob w φ e v):aG F A w0 φ (st.AT b cs) tm w':=by
 obtain⟨b1,b2,b3,b4⟩:=h.sep.box b old hb xD;have stI: ∀k,φ.I k→w'.heap[k]?=w.heap[k]?:=fun k hk=>hw k (h.sep.ro k hk).1 fun e=>b1 (e▸hk)
 have nA: ∀k,A.all k→k≠(φ.β b).block:=fun k hk e=>by
  subst e;have:=h.sep.iW _ hk;rcases b3 with b3|b3
  ·omega
  ·exact this.2 b3
 have stS: ∀d k,d=0∨az st.ob d→φ.S d k→w'.heap[k]?=w.heap[k]?:=fun d k hd hk=>hw k (h.sep.lt h.frm.size hd hk) fun e=>by
  subst e;rcases hd with rfl|hd
  ·rw[h.sep.arg] at hk;exact nA _ hk rfl
  ·exact b2 d hd hk
 have own: ∀o ad n c,az st.ob o→φ.V o= .slice (some ad) n c→φ.S o ad.block:=fun o ad n c ⟨bo,ho⟩ hv=>by
  have hO:=h.obj o bo ho;unfold iZ at hO;rw[hv] at hO
  cases hO with
  |sub _ _ _ _ _ _ u T k hn=>exact(k.own (by unfold OB.m;split<;>simp)).2 ad rfl|>.1
 have hV: ∀o,az st.ob o→ ∀ad n c,φ.V o= .slice (some ad) n c→ ∀i v,w.cell? (ad.add i)=some v→w'.cell? (ad.add i)=some v:=fun o ho ad n c hv i v hcell=>by
  rw[dy (w:=w)]
  ·exact hcell
  ·rw[bO];exact stS o _ (.inr ho) (own o ad n c ho hv)
 have VM: ∀e v,cj st.ob w φ e v→cj st.ob w' φ e v:=fun e v he=>he.stay stI stS hV
 have hE: ∀ds cells v,bS st.ob w φ (.ep ds cells) v→bS st.ob w' φ (.ep ds cells) v:=by
  intro ds cells v ⟨h1,ad,h2,hr,h3⟩;refine⟨h1,ad,h2,hr,fun j tc hj=> ?_⟩;obtain⟨u,h4,h5⟩:=h3 j tc hj
  have W8:cells≠[]:=fun e=>by rw[e] at hj;simp at hj
  have stR: ∀k,rd φ ds k→w'.heap[k]?=w.heap[k]?:=fun k hk=>by
   rcases hk with hk|⟨d,hm,hk⟩
   ·exact stI k hk
   ·exact stS d k (h1 d hm) hk
  exact⟨u,by rw[dy (w:=w) (by rw[bO];exact stR _ (hr W8))];exact h4,h5.move (fun k hk=>⟨hk,stR k hk⟩) (fun hm=>absurd rfl hm)⟩
 have hT: ∀e v,bS st.ob w φ e v→bS st.ob w' φ e v:=fun e v he=>by
  have:=bS.yg (f:=id) (g:=id) rfl VM (fun e v hv he=>bS.stay stI stS hV (fun ad v hc hk=>by rw[dy (w:=w) (hk _ rfl)];exact hc) hE hv he) he
  have hid:rH id id e=e:=by
   have h1:=congrArg TS.tm (o7 ⟨[(0,e)],[],[]⟩);simpa [qg,mapA] using h1
  rw[hid] at this;exact this
 have pY: ∀c,aa c (st.AT b cs).bx=if c=b then some cs else aa c st.bx:=fun c=>cZ _ _ _ _
 have obox: ∀c cs',aa c st.bx=some cs'→c≠b→w'.heap[(φ.β c).block]?=w.heap[(φ.β c).block]?:=fun c cs' p0 hne=>hw _ (h.sep.spot c cs' p0).2.1 (b4 c cs' p0 hne);refine⟨fun i=>hT _ _ (h.tmp i),fun c cs' p0 j e he=> ?_,fun o bo ho=> ?_,?_,hf⟩
 ·rw[pY] at p0
  by_cases hcb:c=b
  ·subst hcb
   rw[bg rfl] at p0;cases p0;obtain⟨v,h1,h3,h2⟩:=hc j e he;exact⟨v,h1,h3,VM _ _ h2⟩
  ·rw[aR hcb] at p0
   obtain⟨v,h1,h3,h2⟩:=h.box c cs' p0 j e he;exact⟨v,by rw[dy (w:=w) (by rw[bO];exact obox c cs' p0 hcb)];exact h1,h3,VM _ _ h2⟩
 ·exact(h.obj o bo ho).move (fun k hk=>⟨hk,stI k hk⟩) fun _ k hk=>stS o k (.inr ⟨bo,ho⟩) hk
 ·have len: ∀c cs',aa c (st.AT b cs).bx=some cs'→ ∃cs0,aa c st.bx=some cs0∧cs'.length=cs0.length:=fun c cs' p0=>by
   rw[pY] at p0
   by_cases hcb:c=b
   ·subst hcb
    rw[bg rfl] at p0;cases p0;exact⟨old,hb,hl⟩
   ·rw[aR hcb] at p0;exact⟨cs',p0,rfl⟩
  have hs:=h.sep.boxes len
  exact {
   arg:=hs.arg,nz:=hs.nz,apart:=hs.apart,read:=hs.read,iW:=hs.iW,box:=hs.box
   fresh:=fun o k ho hk=>⟨fI (hs.fresh o k ho hk).1 hsz,(hs.fresh o k ho hk).2⟩
   ro:=fun k hk=>⟨fI (hs.ro k hk).1 hsz,(hs.ro k hk).2⟩
   spot:=fun c cs' p0=>⟨(hs.spot c cs' p0).1,fI (hs.spot c cs' p0).2.1 hsz,(hs.spot c cs' p0).2.2⟩
   soft:=fun c cs' j p0 QN hj=>by
    obtain⟨cs0,c1,c2⟩:=len c cs' p0
    by_cases hcb:c=b
    ·subst hcb
     rw[pY,bg rfl] at p0;cases p0;exact hfz j hj
    ·rw[gL (w:=w) (by rw[bO];exact obox c cs0 c1 hcb)]
     exact h.sep.soft c cs0 j c1 QN ay}
end Go.T
namespace Go.T
variable {F : Nat → Prop} {A : Arg} {w0 w w' : World} {φ φ' : Fp} {st st' : TS} {tm ya : Array Value}
structure Ext (ob wY:List (Nat×OB)) (φ φ':Fp):Prop where
 look: ∀d b,aa d ob=some b→aa d wY=some b
 I:φ'.I=φ.I
 β:φ'.β=φ.β
 S: ∀d,d=0∨az ob d→φ'.S d=φ.S d
 V: ∀d,az ob d→φ'.V d=φ.V d
section
variable {ob wY : List (Nat × OB)}
theorem Ext.dom (x:Ext ob wY φ φ') {d:Nat} (h:az ob d):az wY d:=let ⟨b,h⟩:=h;⟨b,x.look d b h⟩
theorem Ext.rd (x:Ext ob wY φ φ') {ds:List Nat} (hd: ∀d∈ds,d=0∨az ob d) {k:Nat} (h:T.rd φ ds k):T.rd φ' ds k:=by
 rcases h with h|⟨d,hm,h⟩
 ·exact .inl (by rw[x.I];exact h)
 ·exact .inr ⟨d,hm,by rw[x.S d (hd d hm)];exact h⟩
theorem cj.ext (x:Ext ob wY φ φ') {e:CE} {v:Value} (h:cj ob w φ e v):cj wY w φ' e v:=by
 cases e with
 |ref o cut=>
  obtain⟨b,h1,h2⟩:=h;exact⟨b,x.look o b h1,by rw[x.V o ⟨b,h1⟩];exact h2⟩
 |snap ds loc z rows=>
  obtain⟨h1,h2,h3⟩:=h;refine⟨fun d hm=>(h1 d hm).imp id x.dom,h2.jS fun k hk=>x.rd h1 hk,fun o i f hl=> ?_⟩;obtain⟨a1,b,a2,a3,a4,ad,n,c,a5,a6⟩:=h3 o i f hl;exact⟨a1,b,x.look o b a2,a3,a4,ad,n,c,by rw[x.V o ⟨b,a2⟩];exact a5,a6⟩
 |_=>exact h
theorem iu.ext (x:Ext ob wY φ φ') {c:kH} {v:Value} (h:iu ob w φ c v):iu wY w φ' c v:=by
 cases c with
 |ptr b=>simp only[iu] at h ⊢;rw[x.β];exact h
 |mk a cs=>
  cases a with
  |true=>obtain⟨xs,h1,h2,h3⟩:=h;exact⟨xs,h1,h2,fun j e he=>let ⟨y,h4,h6,h5⟩:=h3 j e he;⟨y,h4,h6,h5.ext x⟩⟩
  |false=>obtain⟨e,h1,h2,h3⟩:=h;exact⟨e,h1,h2,h3.ext x⟩
theorem bS.ext (x:Ext ob wY φ φ') {e:TE} {v:Value} (h:bS ob w φ e v):bS wY w φ' e v:=by
 cases e with
 |v t es=>
  cases t with
  |true=>obtain⟨vs,h1,h2,h3⟩:=h;exact⟨vs,h1,h2,fun j e he=>let ⟨y,h4,h5⟩:=h3 j e he;⟨y,h4,h5.ext x⟩⟩
  |false=>obtain⟨c,h1,h2⟩:=h;exact⟨c,h1,h2.ext x⟩
 |ep ds cells=>
  obtain⟨h1,ad,h2,hr,h3⟩:=h;refine⟨fun d hm=>(h1 d hm).imp id x.dom,ad,h2,fun hc=>x.rd h1 (hr hc),fun j tc hj=> ?_⟩;obtain⟨u,h4,h5⟩:=h3 j tc hj;exact⟨u,h4,h5.jS fun k hk=>x.rd h1 hk⟩
 |er o path i f=>
  obtain⟨b,h1,h2,ad,n,c,h3,h4⟩:=h;exact⟨b,x.look o b h1,h2,ad,n,c,by rw[x.V o ⟨b,h1⟩];exact h3,h4⟩
 |bp b off=>simp only[bS] at h ⊢;rw[x.β];exact h
 |fn f caps=>simp only[bS] at h ⊢;rw[x.β];exact h
 |_=>exact h
end
def Iy:Nat→Nat→List (Nat×OB)→Prop
 |n,m,[]=>n≤m
 |n,m,(i,b)::r=>n≤i∧(b.deep=true∧b.rows=[]∧0<b.z)∧Iy (i+1) m r
theorem Iy.le: ∀{n m:Nat} {l:List (Nat×OB)},Iy n m l→n≤m
 |_,_,[],h=>h
 |_,_,(i,b)::r,h=>by have:=Iy.le h.2.2;have:=h.1;omega
theorem Iy.down {n n' m:Nat} {l:List (Nat×OB)} (h:Iy n m l) (hn:n'≤n):Iy n' m l:=by
 cases l with
 |nil=>exact og hn h
 |cons p r=>obtain⟨i,b⟩:=p;exact⟨og hn h.1,h.2⟩
theorem Iy.app: ∀{n m k:Nat} {l l':List (Nat×OB)},Iy n m l→Iy m k l'→Iy n k (l++l')
 |_,_,_,[],_,h,h'=>h'.down h
 |_,_,_,(i,b)::r,_,h,h'=>⟨h.1,h.2.1,h.2.2.app h'⟩
theorem Iy.mem: ∀{n m:Nat} {l:List (Nat×OB)} {i:Nat} {b:OB},Iy n m l→(i,b)∈l→n≤i∧i<m∧b.deep=true∧b.rows=[]∧0<b.z
 |n,m,(j,b')::r,i,b,h,hm=>by
  rcases cz.1 hm with e|hm
  ·cases e
   have:=h.2.2.le;exact⟨h.1,by omega,h.2.1⟩
  ·obtain⟨h1,h2,h3⟩:=h.2.2.mem hm
   exact⟨by have:=h.1;omega,h2,h3⟩
theorem BY: ∀{n m:Nat} {l:List (Nat×OB)} {ob:List (Nat×OB)},Iy n m l→(∀i b,(i,b)∈l→aa i (gf l ob)=some b)∧ ∀d,d<n→aa d (gf l ob)=aa d ob
 |_,_,[],ob,_=>⟨fun _ _ h=>(by cases h),fun _ _=>rfl⟩
 |n,m,(j,b')::r,ob,h=>by
  obtain⟨h1,h2⟩:=BY (ob:=ob) h.2.2;refine⟨fun i b hm=> ?_,fun d hd=> ?_⟩
  ·simp only[gf,cZ]
   rcases cz.1 hm with e|hm
   ·cases e;rw[bg rfl]
   ·have:=(h.2.2.mem hm).1
    rw[aR ay];exact h1 i b hm
  ·have:=h.1
   simp only[gf,cZ];rw[aR ay];exact h2 d ay
theorem yh: ∀{l:List (Nat×OB)} {ob:List (Nat×OB)} {d:Nat} {b:OB},aa d (gf l ob)=some b→(d,b)∈l∨aa d ob=some b
 |[],_,_,_,h=> .inr h
 |(j,b')::r,ob,d,b,h=>by
  simp only[gf,cZ] at h
  by_cases hd:d=j
  ·rw[bg hd] at h;cases h;subst hd;exact .inl (.head _)
  ·rw[aR hd] at h
   exact(yh h).imp (.tail _) id
def R1:Value:= .slice none 0 0
def opened (N:Nat) (φ:Fp):Fp:={φ with S:=fun d k=>d<N∧φ.S d k,V:=fun d=>if d<N then φ.V d else R1}
section
variable {ob wY : List (Nat × OB)} {N : Nat} (x : Ext ob wY φ (opened N φ))
include x
theorem yj: ∀(cs:List CE) (n:Nat),N≤n→Iy n (eo n cs).2.1 (eo n cs).2.2∧(eo n cs).1.length=cs.length∧
 ((∀i b,(i,b)∈(eo n cs).2.2→aa i wY=some b)→ ∀(j:Nat) (e':CE),(eo n cs).1[j]?=some e'→ ∃e,cs[j]?=some e∧ ∀v,cj ob w φ e v→cj wY w (opened N φ) e' v)
 |[],n,hn=>⟨cc _,rfl,fun _ j e' h=>by simp[eo] at h⟩
 |e::r,n,hn=>by
  have keep: ∀(e:CE),(∀z,Nat.ble 1 z=true→e≠ .nil z)→eo n (e::r)=(e::(eo n r).1,(eo n r).2.1,(eo n r).2.2):=by
   intro e he
   cases e with
   |nil z=>
    simp only[eo]
    cases h:Nat.ble 1 z with
    |true=>exact absurd rfl (he z h)
    |false=>rfl
   |_=>rfl
  by_cases hz: ∃z,Nat.ble 1 z=true∧e= .nil z
  ·obtain⟨z,hz,rfl⟩:=hz
   have heq:eo n (.nil z::r)=(.ref n none::(eo (n+1) r).1,(eo (n+1) r).2.1,(n,⟨true,z,[]⟩)::(eo (n+1) r).2.2):=by simp only[eo,hz]
   rw[heq];obtain⟨h1,h2,h3⟩:=yj r (n+1) ay;refine⟨⟨cc _,⟨rfl,rfl,lV hz⟩,h1⟩,by simp[h2],fun hl j e' he=> ?_⟩
   cases j with
   |zero=>
    simp only[cR,aY] at he;subst he;refine⟨_,rfl,fun v hv=>⟨_,hl n _ (.head _),?_⟩⟩
    show v=if n<N then φ.V n else R1
    rw[aR ay];exact hv.1
   |succ j=>
    simp only[mI] at he ⊢;exact h3 (fun i b hm=>hl i b (.tail _ hm)) j e' he
  ·rw[keep e fun z Rv he=>hz ⟨z,Rv,he⟩]
   obtain⟨h1,h2,h3⟩:=yj r n hn;refine⟨h1,by simp[h2],fun hl j e' he=> ?_⟩
   cases j with
   |zero=>
    simp only[cR,aY] at he;subst he;exact⟨_,rfl,fun v hv=>hv.ext x⟩
   |succ j=>
    simp only[mI] at he ⊢;exact h3 hl j e' he
theorem s9: ∀(cs:List kH) (n:Nat),N≤n→Iy n (dS n cs).2.1 (dS n cs).2.2∧(dS n cs).1.length=cs.length∧
 ((∀i b,(i,b)∈(dS n cs).2.2→aa i wY=some b)→ ∀(j:Nat) (e':kH),(dS n cs).1[j]?=some e'→ ∃e,cs[j]?=some e∧ ∀v,iu ob w φ e v→iu wY w (opened N φ) e' v)
 |[],n,hn=>⟨cc _,rfl,fun _ j e' h=>by simp[dS] at h⟩
 | .ptr b::r,n,hn=>by
   obtain⟨h1,h2,h3⟩:=s9 r n hn;refine⟨h1,by simp[dS,h2],fun hl j e' he=> ?_⟩
   cases j with
   |zero=>
    simp only[dS,cR,aY] at he;subst he;exact⟨_,rfl,fun v hv=>hv.ext x⟩
   |succ j=>
    simp only[dS,mI] at he ⊢;exact h3 hl j e' he
 | .mk a cs::r,n,hn=>by
   obtain⟨g1,g2,g3⟩:=yj (w:=w) x cs n hn;obtain⟨h1,h2,h3⟩:=s9 r (eo n cs).2.1 (og hn g1.le);refine⟨g1.app h1,by simp[dS,h2],fun hl j e' he=> ?_⟩
   cases j with
   |zero=>
    simp only[dS,cR,aY] at he;subst he;refine⟨_,rfl,fun v hv=> ?_⟩;have g4:=g3 fun i b hm=>hl i b (fm _ hm)
    cases a with
    |true=>
     obtain⟨xs,k1,k2,k3⟩:=hv;refine⟨xs,k1,by rw[g2];exact k2,fun j e' he=> ?_⟩;obtain⟨e,k4,k5⟩:=g4 j e' he;obtain⟨y,k6,k8,k7⟩:=k3 j e k4;exact⟨y,k6,k8,k5 y k7⟩
    |false=>
     obtain⟨e,rfl,k2,k3⟩:=hv;have hlen:(eo n [e]).1.length=1:=g2
     obtain⟨e',he'⟩: ∃e',(eo n [e]).1=[e']:=by
      cases hq:(eo n [e]).1 with
      |nil=>rw[hq] at hlen;cases hlen
      |cons y t=>cases t with
       |nil=>exact⟨y,rfl⟩
       |cons _ _=>rw[hq] at hlen;simp at hlen
     obtain⟨e0,k4,k5⟩:=g4 0 e' (by rw[he'];rfl);simp only[cR,aY] at k4;subst k4;exact⟨e',he',k2,k5 v k3⟩
   |succ j=>
    simp only[dS,mI] at he ⊢;exact h3 (fun i b hm=>hl i b (jz _ hm)) j e' he
theorem Mv (e:TE) (n:Nat) (hn:N≤n):Iy n (yf n e).2.1 (yf n e).2.2∧
 ((∀i b,(i,b)∈(yf n e).2.2→aa i wY=some b)→ ∀v,bS ob w φ e v→bS wY w (opened N φ) (yf n e).1 v):=by
 cases e with
 |v t es=>
  obtain⟨h1,h2,h3⟩:=s9 (w:=w) x es n hn;refine⟨h1,fun hl v hv=> ?_⟩;have h4:=h3 hl;simp only[yf]
  cases t with
  |true=>
   obtain⟨vs,k1,k2,k3⟩:=hv;refine⟨vs,k1,by rw[h2];exact k2,fun j e' he=> ?_⟩;obtain⟨e,k4,k5⟩:=h4 j e' he;obtain⟨y,k6,k7⟩:=k3 j e k4;exact⟨y,k6,k5 y k7⟩
  |false=>
   obtain⟨c,rfl,k1⟩:=hv;have hlen:(dS n [c]).1.length=1:=h2
   obtain⟨e',he'⟩: ∃e',(dS n [c]).1=[e']:=by
    cases hq:(dS n [c]).1 with
    |nil=>rw[hq] at hlen;cases hlen
    |cons y t=>cases t with
     |nil=>exact⟨y,rfl⟩
     |cons _ _=>rw[hq] at hlen;simp at hlen
   obtain⟨e0,k4,k5⟩:=h4 0 e' (by rw[he'];rfl);simp only[cR,aY] at k4;subst k4;exact⟨e',he',k5 v k1⟩
 |kb b=>
  refine⟨cc _,fun _ v hv=> ?_⟩;simp only[bS] at hv;subst hv;exact⟨_,rfl,_,rfl,rfl,rfl,trivial⟩
 |_=>exact⟨cc _,fun _ v hv=>hv.ext x⟩
theorem DW: ∀(l:List (Nat×TE)) (n:Nat),N≤n→(∃m,Iy n m (sj n l).2)∧
 ((∀i b,(i,b)∈(sj n l).2→aa i wY=some b)→ ∀(i:Nat) (e':TE),aa i (sj n l).1=some e'→ ∃e,aa i l=some e∧ ∀v,bS ob w φ e v→bS wY w (opened N φ) e' v)
 |[],n,hn=>⟨⟨n,cc _⟩,fun _ i e' h=>by simp[sj,aa] at h⟩
 |(j,e)::r,n,hn=>by
  obtain⟨g1,g2⟩:=Mv (w:=w) x e n hn;obtain⟨⟨m,h1⟩,h2⟩:=DW r (yf n e).2.1 (og hn g1.le);refine⟨⟨m,g1.app h1⟩,fun hl i e' he=> ?_⟩;simp only[sj,aa] at he ⊢
  cases hj:Nat.beq j i with
  |true=>
   rw[hj] at he;simp only[aY] at he;subst he;exact⟨e,rfl,g2 fun i b hm=>hl i b (fm _ hm)⟩
  |false=>
   rw[hj] at he;exact h2 (fun i b hm=>hl i b (jz _ hm)) i e' he
end
theorem IW {n:Nat}: ∀{ob:List (Nat×OB)},IQ n ob=true→ ∀o,az ob o→o<n
 |[],_,o,⟨b,h⟩=>by cases h
 |(i,x)::r,ha,o,⟨b,h⟩=>by
  simp only[IQ] at ha
  cases h1:Nat.ble n i with
  |true=>rw[h1] at ha;cases ha
  |false=>
   rw[h1] at ha;simp only[aa] at h
   cases h2:Nat.beq i o with
   |true=>
    have:=eD h2;subst this
    exact Nat.lt_of_not_le fun h3=>by rw[DI h3] at h1;cases h1
   |false=>rw[h2] at h;exact IW ha o ⟨b,h⟩
theorem aG.IS (h:aG F A w0 φ st tm w): ∃φ',aG F A w0 φ' (IS st) tm w∧φ'.β=φ.β:=by
 unfold T.IS
 cases ha:IQ 900000000 st.ob with
 |false=>exact⟨φ,h,rfl⟩
 |true=>
  have hlt:=IW ha
  have x1: ∀wY,(∀d b,aa d st.ob=some b→aa d wY=some b)→Ext st.ob wY φ (opened 900000000 φ):=fun wY hl=>
   ⟨hl,rfl,rfl,fun d hd=>by
     have:d<900000000:=hd.elim (fun e=>by omega) (hlt d)
     funext k
     simp[opened,this],fun d hd=>bg (hlt d hd)⟩
  obtain⟨⟨m,SD⟩,_⟩:=DW (w:=w) (x1 st.ob fun _ _ h=>h) st.tm 900000000 (cc _);obtain⟨l1,l2⟩:=BY (ob:=st.ob) SD
  have x:Ext st.ob (gf (sj 900000000 st.tm).2 st.ob) φ (opened 900000000 φ):=x1 _ fun d b hd=>by rw[l2 d (hlt d ⟨b,hd⟩)];exact hd
  obtain⟨_,hT⟩:=DW (w:=w) x st.tm 900000000 (cc _);have hT:=hT l1
  have old: ∀d,az (gf (sj 900000000 st.tm).2 st.ob) d→(d<900000000∧az st.ob d)∨900000000≤d:=fun d ⟨b,hd⟩=>by
   rcases yh hd with h1|h1
   ·exact .inr (SD.mem h1).1
   ·exact .inl ⟨hlt d ⟨b,h1⟩,b,h1⟩
  have oldS: ∀d k,az (gf (sj 900000000 st.tm).2 st.ob) d→(opened 900000000 φ).S d k→az st.ob d∧φ.S d k:=fun d k hd hk=>by
   rcases old d hd with h1|h1
   ·exact⟨h1.2,hk.2⟩
   ·exact absurd hk.1 ay
  refine⟨opened 900000000 φ,⟨fun i=> ?_,fun b cs hb j e he=> ?_,fun o b ho=> ?_,?_,h.frm⟩,rfl⟩
  ·show bS (gf (sj 900000000 st.tm).2 st.ob) w (opened 900000000 φ) (match aa i (sj 900000000 st.tm).1 with|some e=>e|none=> .dead) (tm.getD i undef)
   cases hi:aa i (sj 900000000 st.tm).1 with
   |none=>trivial
   |some e'=>
    obtain⟨e,h1,h2⟩:=hT i e' hi;have:=h.tmp i;unfold TS.get at this;rw[h1] at this;exact h2 _ this
  ·obtain⟨v,h1,h3,h2⟩:=h.box b cs hb j e he
   exact⟨v,h1,h3,h2.ext x⟩
  ·unfold iZ
   rcases yh ho with h1|h1
   ·obtain⟨a1,a2,a3,a4,a5⟩:=SD.mem h1
    obtain⟨bd,bz,br⟩:=b;simp only at a3 a4 a5;subst a3 a4;have hv:(opened 900000000 φ).V o=R1:=aR ay;rw[hv]
    refine aj.sub _ _ bz [] none 0 (fun _ _=>default) (fun _ _ _=>False) ⟨cc _,vv _,a5,fun r hr=>(by cases hr),fun hr=>absurd rfl hr,fun _ ha=>(by cases ha),fun _ _ ha=>(by cases ha),
     fun _=>⟨fun _=>rfl,fun _ ha=>(by cases ha)⟩,fun _ _ _ ha=>(by cases ha),fun _ _ _ _ hk=>hk.elim⟩ fun i f tc ht=>absurd rfl (A7 ht)
   ·have hd:=hlt o ⟨b,h1⟩
    have:=h.obj o b h1;unfold iZ at this;rw[x.V o ⟨b,h1⟩,x.S o (.inr ⟨b,h1⟩)];exact this
  ·exact {
    arg:=by rw[x.S 0 (.inl rfl)];exact h.sep.arg
    nz:=fun o ho e=>by
     rcases old o ho with h1|h1
     ·exact h.sep.nz o h1.2 e
     ·omega
    apart:=fun o o' k h1 h2 h3 h4=>h.sep.apart o o' k (oldS o k h1 h3).1 (oldS o' k h2 h4).1 (oldS o k h1 h3).2 (oldS o' k h2 h4).2
    read:=fun o k h1 h2=>h.sep.read o k (oldS o k h1 h2).1 (oldS o k h1 h2).2
    fresh:=fun o k h1 h2=>h.sep.fresh o k (oldS o k h1 h2).1 (oldS o k h1 h2).2
    ro:=h.sep.ro
    iW:=h.sep.iW
    box:=fun b cs hb hw=>by
     obtain⟨a1,a2,a3,a4⟩:=h.sep.box b cs hb hw;exact⟨a1,fun o ho hk=>a2 o (oldS o _ ho hk).1 (oldS o _ ho hk).2,a3,a4⟩
    spot:=h.sep.spot
    soft:=h.sep.soft}
end Go.T
namespace Go.T
variable {F : Nat → Prop} {A : Arg} {w0 w w' : World} {φ φ' : Fp} {st st' : TS} {tm ya : Array Value}
structure DX (n:Nat) (ρ:List (Nat×Nat)):Prop where
 rng: ∀o m,(o,m)∈ρ→1≤m∧m<n∧o≠0
 apart:ρ.Pairwise fun a b=>a.1≠b.1∧a.2≠b.2
theorem fe {α:Type} {o:Nat} {m:α}: ∀{ρ:List (Nat×α)},aa o ρ=some m→(o,m)∈ρ
 |(a,x)::r,h=>by
  simp only[aa] at h
  cases h1:Nat.beq a o with
  |true=>
   rw[h1] at h
   cases h
   have:=eD h1;subst this;exact .head _
  |false=>rw[h1] at h;exact .tail _ (fe h)
theorem nO {α:Type} {o:Nat}: ∀{ρ:List (Nat×α)},aa o ρ=none→ ∀m,(o,m)∉ρ
 |[],_,_=>by simp
 |(a,x)::r,h,m=>by
  simp only[aa] at h
  cases h1:Nat.beq a o with
  |true=>rw[h1] at h;cases h
  |false=>
   rw[h1] at h;intro hm;rcases cz.1 hm with e|hm
   ·cases e;exact lW h1 rfl
   ·exact nO h m hm
theorem vL {n o m:Nat}: ∀{ρ:List (Nat×Nat)},(ρ.Pairwise fun a b=>a.1≠b.1∧a.2≠b.2)→(o,m)∈ρ→aa o ρ=some m
 |(a,x)::r,h,hm=>by
  simp only[aa];rw[List.pairwise_cons] at h;rcases cz.1 hm with e|hm
  ·cases e;rw[vJ]
  ·have:=(h.1 _ hm).1
   rw[beq_false this];exact vL (n:=n) h.2 hm
theorem xb: ∀(l:List Nat) (n:Nat) (ρ:List (Nat×Nat)),1≤n→DX n ρ→ ∃n',DX n' (number l n ρ)∧(∀o m,aa o ρ=some m→aa o (number l n ρ)=some m)∧ ∀o∈l,o≠0→ ∃m,aa o (number l n ρ)=some m
 |[],n,ρ,_,h=>⟨n,h,fun _ _ h=>h,fun _ h=>by cases h⟩
 |o::r,n,ρ,hn,h=>by
  simp only[number]
  cases h0:Nat.beq o 0 with
  |true=>
   obtain⟨n',h1,h2,h3⟩:=xb r n ρ hn h;refine⟨n',h1,h2,fun p hp S7=> ?_⟩;rcases cz.1 hp with e|hp
   ·exact absurd (e.trans (eD h0)) S7
   ·exact h3 p hp S7
  |false=>
   have h0:=lW h0
   cases hl:aa o ρ with
   |some m=>
    obtain⟨n',h1,h2,h3⟩:=xb r n ρ hn h;refine⟨n',h1,h2,fun p hp S7=> ?_⟩;rcases cz.1 hp with e|hp
    ·subst e;exact⟨m,h2 _ _ hl⟩
    ·exact h3 p hp S7
   |none=>
    have hk:DX (n+1) ((o,n)::ρ):=by
     refine⟨fun p m hm=> ?_,List.pairwise_cons.2 ⟨fun a ha=>⟨fun e=> ?_,fun e=> ?_⟩,h.apart⟩⟩
     ·rcases cz.1 hm with e|hm
      ·cases e;exact⟨hn,by omega,h0⟩
      ·have:=h.rng p m hm;exact⟨this.1,by omega,this.2.2⟩
     ·obtain⟨a1,a2⟩:=a
      simp only at e;subst e;exact nO hl a2 ha
     ·obtain⟨a1,a2⟩:=a
      simp only at e;have:=(h.rng a1 a2 ha).2.1;omega
    obtain⟨n',h1,h2,h3⟩:=xb r (n+1) ((o,n)::ρ) ay hk
    have W9:aa o ((o,n)::ρ)=some n:=by simp only[aa,vJ]
    refine⟨n',h1,fun p m hp=>h2 p m ?_,fun p hp S7=> ?_⟩
    ·simp only[aa]
     rw[beq_false fun e=>by subst e;rw[hl] at hp;cases hp];exact hp
    ·rcases cz.1 hp with e|hp
     ·subst e;exact⟨n,h2 _ _ W9⟩
     ·exact h3 p hp S7
theorem Rc {o o' m:Nat}: ∀{ρ:List (Nat×Nat)},(ρ.Pairwise fun a b=>a.1≠b.1∧a.2≠b.2)→(o,m)∈ρ→(o',m)∈ρ→o=o'
 |p::r,h,h1,h2=>by
  rw[List.pairwise_cons] at h;rcases cz.1 h1 with e1|h1
  ·rcases cz.1 h2 with e2|h2
   ·rw[←e1] at e2;cases e2;rfl
   ·exact absurd (by rw[←e1]) (h.1 _ h2).2
  ·rcases cz.1 h2 with e2|h2
   ·exact absurd (by rw[←e2]) (h.1 _ h1).2
   ·exact Rc h.2 h1 h2
def inv (ρ:List (Nat×Nat)) (m:Nat):Nat:=match ρ.find? fun p=>Nat.beq p.2 m with|some p=>p.1|none=>0
theorem inv_eq {n o m:Nat} {ρ:List (Nat×Nat)} (h:DX n ρ) (hl:aa o ρ=some m):inv ρ m=o:=by
 unfold inv;have hm:=fe hl
 cases hf:ρ.find? fun p=>Nat.beq p.2 m with
 |none=>
  have:=List.find?_eq_none.1 hf _ hm;simp at this
 |some p=>
  have h1:=List.mem_of_find?_eq_some hf;have h2:=List.find?_some hf;have h2:=eD h2;simp only;obtain⟨p1,p2⟩:=p;simp only at h2;subst h2;exact Rc h.apart h1 hm
theorem inv_zero {n:Nat} {ρ:List (Nat×Nat)} (h:DX n ρ):inv ρ 0=0:=by
 unfold inv
 cases hf:ρ.find? fun p=>Nat.beq p.2 0 with
 |none=>rfl
 |some p=>
  have h1:=List.mem_of_find?_eq_some hf;have h2:=List.find?_some hf;have h2:=eD h2;obtain⟨p1,p2⟩:=p;have:=(h.rng p1 p2 h1).1;simp only at h2;omega
theorem zp {o m:Nat} {ρ:List (Nat×Nat)} (hl:aa o ρ=some m):AY ρ o=m:=by unfold AY;rw[hl]
theorem Ge {n:Nat} {ρ:List (Nat×Nat)} (h:DX n ρ):AY ρ 0=0:=by
 unfold AY
 cases hl:aa 0 ρ with
 |none=>rfl
 |some m=>exact absurd rfl (h.rng 0 m (fe hl)).2.2
theorem zu {ob:List (Nat×OB)} {m:Nat} {b:OB}: ∀{ρ:List (Nat×Nat)},aa m (oq ob ρ)=some b→ ∃o,(o,m)∈ρ∧aa o ob=some b
 |(o,n)::r,h=>by
  simp only[oq] at h
  cases ho:aa o ob with
  |none=>
   rw[ho] at h;obtain⟨o',h1,h2⟩:=zu h;exact⟨o',.tail _ h1,h2⟩
  |some b'=>
   rw[ho] at h;simp only[cZ] at h
   by_cases hm:m=n
   ·rw[bg hm] at h;cases h;subst hm;exact⟨o,.head _,ho⟩
   ·rw[aR hm] at h
    obtain⟨o',h1,h2⟩:=zu h;exact⟨o',.tail _ h1,h2⟩
theorem IX {ob:List (Nat×OB)} {o m:Nat} {b:OB} (ho:aa o ob=some b): ∀{ρ:List (Nat×Nat)},(ρ.Pairwise fun a b=>a.1≠b.1∧a.2≠b.2)→(o,m)∈ρ→aa m (oq ob ρ)=some b
 |(o',n)::r,h,hm=>by
  rw[List.pairwise_cons] at h;simp only[oq];rcases cz.1 hm with e|hm
  ·cases e
   rw[ho];simp only[cZ,bg]
  ·have h1:=(h.1 _ hm).2
   have ih:=IX ho h.2 hm
   cases ho':aa o' ob with
   |none=>exact ih
   |some b'=>
    simp only[cZ];rw[aR (Ne.symm h1)];exact ih
def Fp.IY (φ:Fp) (ρ:List (Nat×Nat)):Fp:={φ with S:=fun m=>φ.S (inv ρ m),V:=fun m=>φ.V (inv ρ m)}
section
variable {ob : List (Nat × OB)} {n : Nat} {ρ : List (Nat × Nat)} (hρ : DX n ρ)
include hρ
theorem zw {o m:Nat} {b:OB} (hm:aa o ρ=some m) (ho:aa o ob=some b):aa m (oq ob ρ)=some b:=IX ho hρ.apart (fe hm)
theorem NH {o m:Nat} (hm:aa o ρ=some m):(φ.IY ρ).S m=φ.S o:=by show φ.S (inv ρ m)=_;rw[inv_eq hρ hm]
theorem Lq {o m:Nat} (hm:aa o ρ=some m):(φ.IY ρ).V m=φ.V o:=by show φ.V (inv ρ m)=_;rw[inv_eq hρ hm]
theorem NI:(φ.IY ρ).S 0=φ.S 0:=by show φ.S (inv ρ 0)=_;rw[inv_zero hρ]
theorem NJ {ds:List Nat} (hz: ∀d,az ob d→d≠0) (hd: ∀d∈ds,d=0∨az ob d) (hc: ∀o∈ds,o≠0→ ∃m,aa o ρ=some m):
 (∀d∈ds.map (AY ρ),d=0∨az (oq ob ρ) d)∧ ∀k,rd φ ds k→rd (φ.IY ρ) (ds.map (AY ρ)) k:=by
 refine⟨fun d hm=> ?_,fun k hk=> ?_⟩
 ·obtain⟨o,h1,rfl⟩:=List.mem_map.1 hm
  rcases hd o h1 with rfl|h2
  ·exact .inl (Ge hρ)
  ·obtain⟨m,h3⟩:=hc o h1 (hz o h2)
   obtain⟨b,h4⟩:=h2;rw[zp h3];exact .inr ⟨b,zw hρ h3 h4⟩
 ·rcases hk with hk|⟨d,hm,hk⟩
  ·exact .inl hk
  ·refine .inr ⟨AY ρ d,List.mem_map_of_mem hm,?_⟩
   rcases hd d hm with rfl|h2
   ·rw[Ge hρ,NI hρ];exact hk
   ·obtain⟨m,h3⟩:=hc d hm (hz d h2)
    rw[zp h3,NH hρ h3];exact hk
theorem cj.IY (hz: ∀d,az ob d→d≠0) {e:CE} {v:Value} (hc: ∀o∈dM e,o≠0→ ∃m,aa o ρ=some m) (h:cj ob w φ e v):cj (oq ob ρ) w (φ.IY ρ) (zo ρ e) v:=by
 cases e with
 |ref o cut=>
  obtain⟨b,h1,h2⟩:=h;obtain⟨m,h3⟩:=hc o (by simp[dM]) (hz o ⟨b,h1⟩);simp only[zo];rw[zp h3];exact⟨b,zw hρ h3 h1,by rw[Lq hρ h3];exact h2⟩
 |snap ds loc z rows=>
  obtain⟨h1,h2,h3⟩:=h;obtain⟨g1,g2⟩:=NJ hρ (φ:=φ) hz h1 hc;refine⟨g1,h2.jS g2,fun o i f hl=> ?_⟩
  cases loc with
  |none=>cases hl
  |some q=>
   obtain⟨o',i',f'⟩:=q;simp only[aY,ua] at hl;obtain⟨rfl,rfl,rfl⟩:=hl;obtain⟨a1,b,a2,a3,a4,ad,n,c,a5,a6⟩:=h3 o' i' f' rfl;obtain⟨m,a7⟩:=hc o' a1 (hz o' ⟨b,a2⟩);refine⟨List.mem_map_of_mem a1,?_⟩;rw[zp a7];exact⟨b,zw hρ a7 a2,a3,a4,ad,n,c,by rw[Lq hρ a7];exact a5,a6⟩
 |_=>exact h
theorem bS.IY (hz: ∀d,az ob d→d≠0) {e:TE} {v:Value} (hc: ∀o∈rI e,o≠0→ ∃m,aa o ρ=some m) (h:bS ob w φ e v):bS (oq ob ρ) w (φ.IY ρ) (rH (zo ρ) (Nv ρ) e) v:=by
 have comp: ∀(c:kH) (u:Value),(∀o∈eT [c],o≠0→ ∃m,aa o ρ=some m)→iu ob w φ c u→iu (oq ob ρ) w (φ.IY ρ) (o6 (zo ρ) c) u:=by
  intro c u hc h
  cases c with
  |ptr b=>exact h
  |mk a cs=>
   simp only[eT,mH] at hc;have PA: ∀e∈cs,∀o∈dM e,o≠0→ ∃m,aa o ρ=some m:=fun e he o ho=>hc o (List.mem_flatMap.2 ⟨e,he,ho⟩)
   cases a with
   |true=>
    obtain⟨xs,h1,h2,h3⟩:=h;refine⟨xs,h1,by simp[h2],fun j e he=> ?_⟩;rw[gv] at he
    cases h4:cs[j]? with
    |none=>rw[h4] at he;cases he
    |some e0=>
     rw[h4] at he;simp only[ij,aY] at he;subst he;obtain⟨x,hx,hx1,hok⟩:=h3 j e0 h4;exact⟨x,hx,hx1,hok.IY hρ hz (PA e0 (ew h4))⟩
   |false=>
    obtain⟨e,rfl,h2,h3⟩:=h;exact⟨_,rfl,h2,h3.IY hρ hz (PA e cY)⟩
 have dcomp: ∀(es:List kH) (c:kH),c∈es→ ∀o,o∈eT [c]→o∈eT es:=by
  intro es
  induction es with
  |nil=>intro c hc;cases hc
  |cons x r ih=>
   intro c hc o ho;rcases cz.1 hc with rfl|hc
   ·cases c with
    |ptr b=>simp[eT] at ho
    |mk a cs=>
     simp only[eT,mH] at ho;simp only[eT];exact fm _ ho
   ·have:=ih c hc o ho
    cases x with
    |ptr b=>exact this
    |mk a cs=>simp only[eT];exact jz _ this
 cases e with
 |v t es=>
  cases t with
  |true=>
   obtain⟨vs,h1,h2,h3⟩:=h;refine⟨vs,h1,by rw[kU];exact h2,fun k c hk=> ?_⟩;rw[oE] at hk
   cases h4:es[k]? with
   |none=>rw[h4] at hk;cases hk
   |some c0=>
    rw[h4] at hk;simp only[ij,aY] at hk;obtain⟨u,hu,hok⟩:=h3 k c0 h4;exact⟨u,hu,by rw[←hk];exact comp c0 u (fun o ho=>hc o (dcomp es c0 (ew h4) o ho)) hok⟩
  |false=>
   obtain⟨c,rfl,hok⟩:=h;refine⟨o6 (zo ρ) c,?_,comp c v hc hok⟩
   cases c<;>rfl
 |ep ds cells=>
  obtain⟨h1,ad,h2,hr,h3⟩:=h;obtain⟨g1,g2⟩:=NJ hρ (φ:=φ) hz h1 hc;refine⟨g1,ad,h2,fun hne=>g2 _ (hr hne),fun j tc hj=> ?_⟩;obtain⟨u,h4,h5⟩:=h3 j tc hj;exact⟨u,h4,h5.jS g2⟩
 |er o path i f=>
  obtain⟨b,h1,h2,ad,n,c,h3,h4⟩:=h;obtain⟨m,h5⟩:=hc o (by simp[rI]) (hz o ⟨b,h1⟩);show bS (oq ob ρ) w (φ.IY ρ) (.er (AY ρ o) path i f) v;rw[zp h5];exact⟨b,zw hρ h5 h1,h2,ad,n,c,by rw[Lq hρ h5];exact h3,h4⟩
 |_=>exact h
end
theorem aG.canon (h:aG F A w0 φ st tm w): ∃φ',aG F A w0 φ' (canon st) tm w∧φ'.β=φ.β:=by
 obtain⟨n,hρ,_,hall⟩:=xb (RV st) 1 [] (cc _) ⟨fun _ _ h=>(by cases h),List.Pairwise.nil⟩;unfold T.canon Tq;generalize number (RV st) 1 []=ρ at hρ hall;have hz:=h.sep.nz
 have dom: ∀m,az (oq st.ob ρ) m→ ∃o,aa o ρ=some m∧az st.ob o:=fun m ⟨b,hm⟩=>by
  obtain⟨o,h1,h2⟩:=zu hm;exact⟨o,vL (n:=n) hρ.apart h1,b,h2⟩
 have domS: ∀m k,az (oq st.ob ρ) m→(φ.IY ρ).S m k→ ∃o,aa o ρ=some m∧az st.ob o∧φ.S o k:=fun m k hm hk=>by
  obtain⟨o,h1,h2⟩:=dom m hm;rw[NH hρ h1] at hk;exact⟨o,h1,h2,hk⟩
 refine⟨φ.IY ρ,⟨fun i=> ?_,fun b cs hb j e he=> ?_,fun m b hm=> ?_,?_,h.frm⟩,rfl⟩
 ·show bS (oq st.ob ρ) w (φ.IY ρ) (match aa i (mapA (rH (zo ρ) (Nv ρ)) st.tm) with|some e=>e|none=> .dead) (tm.getD i undef)
  rw[mO]
  cases hi:aa i st.tm with
  |none=>trivial
  |some e=>
   have:=h.tmp i;unfold TS.get at this;rw[hi] at this;exact this.IY hρ hz fun o ho T4=>hall o (fm _ (List.mem_flatMap.2 ⟨_,fe hi,ho⟩)) T4
 ·simp only[mO] at hb
  cases h1:aa b st.bx with
  |none=>rw[h1] at hb;cases hb
  |some cs0=>
   rw[h1] at hb;simp only[ij,aY] at hb;subst hb;rw[gv] at he
   cases h2:cs0[j]? with
   |none=>rw[h2] at he;cases he
   |some e0=>
    rw[h2] at he;simp only[ij,aY] at he;subst he;obtain⟨v,h3,h5,h4⟩:=h.box b cs0 h1 j e0 h2;exact⟨v,h3,h5,h4.IY hρ hz fun o ho T4=>hall o (jz _ (List.mem_flatMap.2 ⟨_,fe h1,List.mem_flatMap.2 ⟨e0,ew h2,ho⟩⟩)) T4⟩
 ·obtain⟨o,h1,h2⟩:=zu hm
  have h1:=vL (n:=n) hρ.apart h1;unfold iZ;rw[NH hρ h1,Lq hρ h1];exact h.obj o b h2
 ·have hs:=h.sep.boxes (ei (zo ρ))
  exact {
   arg:=by rw[NI hρ];exact h.sep.arg
   nz:=fun m hm e=>by
    obtain⟨o,h1,_⟩:=dom m hm;have:=(hρ.rng o m (fe h1)).1;omega
   apart:=fun m m' k h1 h2 h3 h4=>by
    obtain⟨o,a1,a2,a3⟩:=domS m k h1 h3;obtain⟨o',b1,b2,b3⟩:=domS m' k h2 h4;have:=h.sep.apart o o' k a2 b2 a3 b3;subst this;rw[a1] at b1;cases b1;rfl
   read:=fun m k h1 h2=>by obtain⟨o,a1,a2,a3⟩:=domS m k h1 h2;exact h.sep.read o k a2 a3
   fresh:=fun m k h1 h2=>by obtain⟨o,a1,a2,a3⟩:=domS m k h1 h2;exact h.sep.fresh o k a2 a3
   ro:=hs.ro
   iW:=hs.iW
   box:=fun b cs hb hw=>by
    obtain⟨a1,a2,a3,a4⟩:=hs.box b cs hb hw;refine⟨a1,fun m hm hk=> ?_,a3,a4⟩;obtain⟨o,c1,c2,c3⟩:=domS m _ hm hk;exact a2 o c2 c3
   spot:=hs.spot
   soft:=hs.soft}
theorem aG.head (h:aG F A w0 φ st tm w) (l:List Nat):Rel F A w0 (IT l st) tm w:=by
 obtain⟨φ1,h1,_⟩:=(h.Ts l).IS;obtain⟨φ2,h2,_⟩:=h1.canon;exact⟨φ2,h2⟩
end Go.T
