import Derived.Below
import Derived.WalkKit
import Derived.Laws.AppendOwn
import Derived.DataElems
namespace Go.T
theorem uE {P Q:Prop} (h:P:=by rfl) (k:Q:=by trivial):P∧Q:=⟨h,k⟩
theorem RE {P:Prop} (h:P:=by first|rfl|(simp;done)|(simp;omega)):P:=h
theorem aB {P:Prop} (h:P:=by omega):P:=h
theorem L0 {P:Prop} (h:P:=by assumption):P:=h
theorem sP {P:Prop} (h:P:=by simp;omega):P:=h
theorem nV {P:Prop} (h:P:=by simp<;>omega):P:=h
theorem dK {P:Prop} (h:P:=by simp):P:=h
theorem RF {P:Prop} (h:P:=by trivial):P:=h
theorem Qj {P:Prop} (h:P:=by rfl):P:=h
abbrev jV:= @Array.getD_eq_getD_getElem?
abbrev kL:= @Array.getElem?_eq_getElem
abbrev z7:= @Array.getElem?_setIfInBounds
abbrev Cj:= @Array.getElem?_toList
abbrev nh:= @Array.length_toList
abbrev cL:= @Bool.and_eq_true
abbrev oO:= @Bool.and_true
abbrev sQ:= @Bool.false_eq_true
abbrev xB:= @Bool.false_or
abbrev oP:= @Bool.not_eq_true'
abbrev z8:= @Bool.not_true
abbrev fC:= @Bool.true_and
abbrev sR:= @Int.ofNat_eq_natCast
abbrev Gs:= @Int.toNat_natCast
abbrev sS:= @List.all_cons
abbrev Aa:= @List.all_nil
abbrev rK:= @List.append_assoc
abbrev kM:= @List.append_nil
abbrev sU:= @List.cons_append
abbrev Ab:= @List.drop_eq_getElem_cons
abbrev lN:= @List.drop_length
abbrev vP:= @List.drop_of_length_le
abbrev rL:= @List.eq_nil_of_length_eq_zero
abbrev EE:= @List.flatten_append
abbrev pZ:= @List.flatten_cons
abbrev xC:= @List.getD_eq_getElem?_getD
abbrev e8:= @List.getElem?_append_left
abbrev fU:= @List.getElem?_append_right
abbrev jh:= @List.getElem?_cons_succ
abbrev bL:= @List.getElem?_cons_zero
abbrev iC:= @List.getElem?_drop
abbrev aN:= @List.getElem?_eq_getElem
abbrev Mt:= @List.getElem?_eq_none
abbrev eF:= @List.getElem?_map
abbrev vQ:= @List.getElem?_take
abbrev p0:= @List.getElem_mem
abbrev cM:= @List.length_append
abbrev dH:= @List.length_cons
abbrev oQ:= @List.length_drop
abbrev Gt:= @List.length_filter_le
abbrev dG:= @List.length_map
abbrev kN:= @List.length_singleton
abbrev gW:= @List.length_take
abbrev xD:= @List.map_append
abbrev Ac:= @List.map_drop
abbrev Ck:= @List.map_take
abbrev dz:= @List.mem_append_left
abbrev fW:= @List.mem_append_right
abbrev bC:= @List.mem_cons
abbrev c7:= @List.mem_of_getElem?
abbrev xE:= @List.mem_of_mem_drop
abbrev vR:= @List.mem_of_mem_take
abbrev eG:= @List.mem_singleton
abbrev lO:= @List.nil_append
abbrev EF:= @List.take_append_drop
abbrev Gu:= @List.take_length
abbrev J6:= @List.take_of_length_le
abbrev lP:= @Nat.add_assoc
abbrev jE:= @Nat.add_mul
abbrev jF:= @Nat.add_zero
abbrev xF:= @Nat.ble_eq_true_of_le
abbrev sV:= @Nat.div_add_mod'
abbrev cX:= @Nat.eq_of_beq_eq_true
abbrev Ae:= @Nat.le_max_left
abbrev iM:= @Nat.le_of_ble_eq_true
abbrev bH:= @Nat.le_refl
abbrev jW:= @Nat.le_trans
abbrev dD:= @Nat.lt_of_lt_of_le
abbrev ni:= @Nat.min
abbrev iD:= @Nat.mul_le_mul_right
abbrev iN:= @Nat.ne_of_beq_eq_false
abbrev oR:= @Nat.sub_self
abbrev xG:= @Nat.succ_mul
abbrev eJ:= @Nat.zero_add
abbrev rM:= @Nat.zero_le
abbrev e9:= @Option.map_some
abbrev aE:= @Option.some.injEq
abbrev oS:= @Prod.mk.injEq
abbrev xH:= @decide_eq_false
abbrev Gv:= @decide_eq_true
abbrev jX:= @exists_eq_left
abbrev kO:= @exists_eq_left'
abbrev aD:= @if_neg
abbrev aO:= @if_pos
abbrev sW:= @of_decide_eq_true
inductive TC where
 |sc (v:Value)
 |sub (s:Nat) (rows:List (List TC))
 |any
 deriving Inhabited
inductive Mode where
 |snap|top|deep
 deriving DecidableEq,Inhabited
inductive CE where
 |sc (v:Value)
 |nil (z:Nat)
 |ref (o:Nat) (cut:Option (Int×Int))
 |snap (ds:List Nat) (loc:Option (Nat×Int×Nat)) (z:Nat) (rows:List (List TC))
 |gone
 deriving Inhabited
inductive gX where
 |mk (agg:Bool) (cs:List CE)
 |ptr (b:Nat)
inductive TE where
 |dead
 |v (tup:Bool) (es:List gX)
 |bp (b off:Nat)
 |ep (ds:List Nat) (cells:List TC)
 |er (o:Nat) (path:Option (Int×Nat)) (i:Int) (f:Nat)
 |fn (f:FuncId) (caps:List Nat)
 |kb (b:Bool)
 deriving Inhabited
structure OB where
 deep:Bool
 z:Nat
 rows:List (List TC)
structure TS where
 tm:List (Nat×TE)
 bx:List (Nat×List CE)
 ob:List (Nat×OB)
inductive TI where
 |int (k:IntKind)
 |bool
 |str
 |slice (e:TypeId)
 |ptr (e:TypeId)
 |struct (fs:List (Nat×TypeId))
 |other
 deriving Inhabited
structure dY where
 ti:TI
 size:Nat
 bytes:Nat
 flat:Bool
 zero:List TC
 eqs:List Nat:=[]
 deriving Inhabited
inductive TV where
 |c (c:TC)
 |ag (cs:List TC)
 |tu (vs:List (Nat×List TC))
 |bx (cs:List TC)
 |fn (f:FuncId) (caps:List (List TC))
inductive aF where
 |borrow|inout (ms:List Mode)|consume (ms:List Mode)
 deriving DecidableEq
def aF.mc:aF→Nat→Mode
 | .borrow,_=> .snap
 | .inout ms,j=>match ms[j]? with|some m=>m|none=> .deep
 | .consume ms,j=>match ms[j]? with|some m=>m|none=> .deep
structure FG where
 ps:List aF
 shares:Bool
 res:List (List Mode)
 frz:Bool:=false
inductive qW where
 |nil
 |op (i:Nat) (fl:List Nat) (r:qW)
 |alt (a b:qW)
structure eZ where
 P:Program
 tt:TypeId→dY
 sig:FuncId→FG
 lr:FuncId→Nat→List Nat
 lb:FuncId→Nat→List Nat
 xz:FuncId→Nat→Option qW
 ext:FuncId→Option (List TV→Option (TV×List TV))
inductive TX where
 |norm|ex (id:Nat)|ret
 deriving DecidableEq
inductive Ev (R:Type) where
 |fail
 |ret (r:R)
 |test (b:Bool) (k:Bool→Ev R)
 |row (rows:List (List TC)) (i:Int) (k:List TC→Ev R)
 |byte (s:ByteArray) (i:Int) (k:Int→Ev R)
 |bytes (rows:List (List TC)) (k:List Int→Ev R)
 |call (f:FuncId) (vs:List TV) (k:TV→List TV→Ev R)
 |loop (f:FuncId) (i:Nat) (c:Code) (st:TS) (k:TX→TS→Ev R)
 |both (a b:Ev R)
@[irreducible] def eD (a b:Int):Bool:=decide (a<b)
@[irreducible] def rG (a b:Int):Bool:=decide (a≤b)
@[irreducible] def eK (a b:Int):Bool:=a==b
@[irreducible] def J7 (a b:Bool):Bool:=a==b
@[irreducible] def Dy (a b:ByteArray):Bool:=a.toList==b.toList
@[irreducible] def Cl (a b:ByteArray):Bool:=Op.bytesLess a.toList b.toList
@[irreducible] def fits (n b:Nat):Bool:=decide (n*b≤140737488355328∧n≤140737488355328)
@[irreducible] def cT (rows:List (List TC)):Bool:=rows.all fun r=>r.all fun c=>match c with| .sc _=>true|_=>false
@[irreducible] def Af (l h n:Int):Bool:=decide (0≤l∧l≤h∧h≤n)
@[irreducible] def rowAt (rows:List (List TC)) (i:Int):Option (List TC):=if 0≤i then rows[i.toNat]? else none
@[irreducible] def uI (s:ByteArray) (i:Int):Option Int:=if 0≤i then(s[i.toNat]?).map fun b=>(b.toNat:Int) else none
@[irreducible] def cF (rows:List (List TC)) (l h:Int):List (List TC):=(rows.take h.toNat).drop l.toNat
@[irreducible] def dL (z:Nat) (rows:List (List TC)) (l h:Int):List (List TC):=rows.take l.toNat++List.replicate (h.toNat-l.toNat) (List.replicate z .any)++rows.drop h.toNat
@[irreducible] def gj (rows ay:List (List TC)):List (List TC):=ay.take rows.length++rows.drop ay.length
@[irreducible] def setRow (rows:List (List TC)) (i:Int) (f:Nat) (cs:List TC):List (List TC):=
  match rows[i.toNat]? with
  |some r=>rows.set i.toNat (r.take f++cs++r.drop (f+cs.length))
  |none=>rows
@[irreducible] def Gw (a b:Int):Int:=if b<a then b else a
@[irreducible] def sX (n:Int):Nat:=n.toNat
@[irreducible] def sY (a b:Int):Int:=a+b
@[irreducible] def Dz (k:IntKind) (a b:Int):Int:=k.wrap (a+b)
@[irreducible] def xI (k:IntKind) (a b:Int):Int:=k.wrap (a-b)
@[irreducible] def DA (k:IntKind) (a b:Int):Int:=k.wrap (a*b)
@[irreducible] def Gx (k:IntKind) (a b:Int):Int:=k.wrap (a.tdiv b)
@[irreducible] def DB (a b:Int):Int:=a.tmod b
@[irreducible] def KR (k:IntKind) (a b:Int):Int:=k.wrap (a*2 ^ (min b.toNat k.bits))
@[irreducible] def FH (k:IntKind) (a b:Int):Int:=a.fdiv (2 ^ (min b.toNat k.bits))
@[irreducible] def p6 (op:BinOp) (k:IntKind) (a b:Int):Int:=Go.bits op k a b
@[irreducible] def vT (k:IntKind) (n:Int):Int:=k.wrap n
@[irreducible] def Mu (a b:ByteArray):ByteArray:=a++b
@[irreducible] def Mv (s:ByteArray) (l h:Int):ByteArray:=s.extract l.toNat h.toNat
def kG:List (List TC)→Option (List Int)
 |[]=>some []
 |[.sc (.int .u8 n)]::r=>(kG r).map fun ns=>n::ns
 |_=>none
@[irreducible] def nj (rows:List (List TC)):Option (List Int):=kG rows
@[irreducible] def Cm (ns:List Int):ByteArray:=⟨(ns.map fun n:Int=>UInt8.ofNat n.toNat).toArray⟩
@[irreducible] def rN (s:ByteArray):List (List TC):=s.data.toList.map fun b=>[TC.sc (.int .u8 b.toNat)]
abbrev one (c:CE):TE:= .v false [.mk false [c]]
abbrev S (v:Value):TE:=one (.sc v)
def ei (o:Nat):List Nat→Bool
 |[]=>false
 |a::r=>match Nat.beq a o with|true=>true|false=>ei o r
def Cn (o:Nat):List Nat→List Nat
 |[]=>[]
 |a::r=>match Nat.beq a o with|true=>Cn o r|false=>a::Cn o r
def jY:List Nat→List Nat→Bool
 |[],_=>false
 |a::r,l=>match ei a l with|true=>true|false=>jY r l
section
variable {α : Type}
def aa (i:Nat):List (Nat×α)→Option α
 |[]=>none
 |(j,e)::r=>match Nat.beq j i with|true=>some e|false=>aa i r
def fP (i:Nat) (e:α):List (Nat×α)→List (Nat×α)
 |[]=>[(i,e)]
 |(j,e')::r=>match Nat.beq j i with
  |true=>(i,e)::r
  |false=>match Nat.ble i j with
   |true=>(i,e)::(j,e')::r
   |false=>(j,e')::fP i e r
def gY (i:Nat):List (Nat×α)→List (Nat×α)
 |[]=>[]
 |(j,e)::r=>match Nat.beq j i with|true=>gY i r|false=>(j,e)::gY i r
def mapA (f:α→α):List (Nat×α)→List (Nat×α)
 |[]=>[]
 |(j,e)::r=>(j,f e)::mapA f r
end
def TS.get (st:TS) (i:Nat):TE:=match aa i st.tm with|some e=>e|none=> .dead
def TS.set (st:TS) (i:Nat) (e:TE):TS:=⟨fP i e st.tm,st.bx,st.ob⟩
def TS.uJ (st:TS) (i:Nat) (cs:List CE):TS:=⟨st.tm,fP i cs st.bx,st.ob⟩
def TS.KS (st:TS) (i:Nat) (o:OB):TS:=⟨st.tm,st.bx,fP i o st.ob⟩
def ej (f:CE→CE):List gX→List gX
 |[]=>[]
 | .mk a cs::r=> .mk a (cs.map f)::ej f r
 | .ptr b::r=> .ptr b::ej f r
def mQ (f:CE→CE) (g:TE→TE):TE→TE
 | .v tup es=> .v tup (ej f es)
 |e=>g e
def lQ (f:CE→CE) (g:TE→TE) (h:List (Nat×OB)→List (Nat×OB)) (st:TS):TS:=
 ⟨mapA (mQ f g) st.tm,mapA (List.map f) st.bx,h st.ob⟩
def cr:CE→List Nat
 | .ref o _=>[o]
 | .snap d _ _ _=>d
 |_=>[]
def dg:List gX→List Nat
 |[]=>[]
 | .mk _ cs::r=>cs.flatMap cr++dg r
 | .ptr _::r=>dg r
def mR:TE→List Nat
 | .v _ es=>dg es
 | .ep d _=>d
 | .er o _ _ _=>[o]
 |_=>[]
def Ag (o:Nat) (e:CE):CE:=match ei o (cr e) with|true=> .gone|false=>e
def EG (o:Nat):TE→TE
 | .ep d cells=>match ei o d with|true=> .dead|false=> .ep d cells
 | .er p path i f=>match Nat.beq p o with|true=> .dead|false=> .er p path i f
 |e=>e
def fD (o:Nat) (st:TS):TS:=lQ (Ag o) (EG o) (gY o) st
def DC (o:Nat) (e:CE):CE:=match e with
 | .snap d l z rows=>match ei o d with|true=> .gone|false=> .snap d l z rows
 |e=>e
def A8 (o:Nat):TE→TE
 | .ep d cells=>match ei o d with|true=> .dead|false=> .ep d cells
 | .er p (some q) i f=>match Nat.beq p o with|true=> .dead|false=> .er p (some q) i f
 |e=>e
def jQ (o:Nat) (b:OB) (st:TS):TS:=lQ (DC o) (A8 o) (fP o b) st
def Co (cut:Option (Int×Int)) (rows:List (List TC)):List (List TC):=match cut with
 |none=>rows
 |some (l,h)=>cF rows l h
def KT (o:Nat) (l:Option (Nat×Int×Nat)):Option (Nat×Int×Nat):=match l with
 |some (p,i,f)=>match Nat.beq p o with|true=>none|false=>some (p,i,f)
 |none=>none
def xh (o:Nat) (b:OB) (e:CE):CE:=match e with
 | .ref p cut=>match Nat.beq p o with|true=> .snap [] none b.z (Co cut b.rows)|false=> .ref p cut
 | .snap d l z rows=> .snap (Cn o d) (KT o l) z rows
 |e=>e
def A9 (o:Nat):TE→TE
 | .ep d cells=> .ep (Cn o d) cells
 | .er p path i f=>match Nat.beq p o with|true=> .dead|false=> .er p path i f
 |e=>e
def lR (st:TS) (o:Nat):TS:=match aa o st.ob with
 |some b=>lQ (xh o b) (A9 o) (gY o) st
 |none=>st
def p7 (o:Nat) (b:OB) (st:TS):TS:=(fD o st).KS o b
def dM:List (Nat×OB)→List (Nat×OB)→List (Nat×OB)
 |[],ob=>ob
 |(i,b)::r,ob=>fP i b (dM r ob)
def ji {α:Type}:List (Nat×α)→List Nat
 |[]=>[]
 |(o,_)::r=>o::ji r
def qX (l:List Nat) (e:CE):CE:=match e with
 | .snap d l' z rows=>match jY d l with|true=> .gone|false=> .snap d l' z rows
 |e=>e
def nW (l:List Nat):TE→TE
 | .ep d cells=>match jY d l with|true=> .dead|false=> .ep d cells
 | .er p (some q) i f=>match ei p l with|true=> .dead|false=> .er p (some q) i f
 |e=>e
def jR (W:List (Nat×OB)) (st:TS):TS:=match W with
 |[]=>st
 |W=>lQ (qX (ji W)) (nW (ji W)) (dM W) st
section
variable {Z : Type}
def fL {α:Type} (f:α→(α→Z)→Z):List α→(List α→Z)→Z
 |[],K=>K []
 |a::r,K=>f a fun a'=>fL f r fun r'=>K (a'::r')
def fB (b:Bool) (K:Bool→Z):Z:=match b with|true=>K true|false=>K false
def fN (n:Nat) (K:Nat→Z):Z:=K n
def J8 (p:Option (Int×Nat)) (K:Option (Int×Nat)→Z):Z:=match p with|none=>K none|some (a,b)=>K (some (a,b))
def Mw (p:Option (Int×Int)) (K:Option (Int×Int)→Z):Z:=match p with|none=>K none|some (a,b)=>K (some (a,b))
def PE (p:Option (Nat×Int×Nat)) (K:Option (Nat×Int×Nat)→Z):Z:=match p with|none=>K none|some (a,b,c)=>K (some (a,b,c))
def fV (v:Value) (K:Value→Z):Z:=match v with
 | .int k n=>K (.int k n)
 | .bool b=>K (.bool b)
 | .string s=>K (.string s)
 |v=>K v
def Mx (c:TC) (K:TC→Z):Z:=match c with| .sc v=>fV v fun v=>K (.sc v)| .sub z rows=>K (.sub z rows)| .any=>K .any
def NO (e:CE) (K:CE→Z):Z:=match e with
 | .sc v=>fV v fun v=>K (.sc v)
 | .nil z=>K (.nil z)
 | .ref o cut=>Mw cut fun cut=>K (.ref o cut)
 | .snap d l z rows=>fL fN d fun d=>PE l fun l=>K (.snap d l z rows)
 | .gone=>K .gone
def Gy (c:gX) (K:gX→Z):Z:=match c with
 | .mk a cs=>fB a fun a=>fL NO cs fun cs=>K (.mk a cs)
 | .ptr b=>K (.ptr b)
def Oo (e:TE) (K:TE→Z):Z:=match e with
 | .dead=>K .dead
 | .v tup es=>fB tup fun tup=>fL Gy es fun es=>K (.v tup es)
 | .bp b off=>K (.bp b off)
 | .ep d cells=>fL fN d fun d=>fL Mx cells fun cells=>K (.ep d cells)
 | .er r path i f=>J8 path fun path=>K (.er r path i f)
 | .fn f caps=>K (.fn f caps)
 | .kb b=>fB b fun b=>K (.kb b)
def Oq (b:OB) (K:OB→Z):Z:=match b with|⟨d,z,rows⟩=>fB d fun d=>K ⟨d,z,rows⟩
def Gz (cs:List TC) (K:List TC→Z):Z:=fL Mx cs K
def KU (v:TV) (K:TV→Z):Z:=match v with
 | .c c=>Mx c fun c=>K (.c c)
 | .ag cs=>Gz cs fun cs=>K (.ag cs)
 | .tu vs=>fL (fun p K=>match p with|(i,cs)=>Gz cs fun cs=>K (i,cs)) vs fun vs=>K (.tu vs)
 | .bx cs=>Gz cs fun cs=>K (.bx cs)
 | .fn f caps=>K (.fn f caps)
def FI (st:TS) (K:TS→Z):Z:=
 fL (fun p K=>match p with|(i,e)=>Oo e fun e=>K (i,e)) st.tm fun tm=>
 fL (fun p K=>match p with|(i,cs)=>fL NO cs fun cs=>K (i,cs)) st.bx fun bx=>
 fL (fun p K=>match p with|(i,b)=>Oq b fun b=>K (i,b)) st.ob fun ob=>K ⟨tm,bx,ob⟩
end
def fQ (st:TS):CE→Option (Nat×List (List TC))
 | .nil z=>some (z,[])
 | .ref o cut=>match aa o st.ob with|some ⟨_,z,rows⟩=>some (z,Co cut rows)|none=>none
 | .snap _ _ z rows=>some (z,rows)
 |_=>none
def nX (st:TS) (e:CE):Option TC:=match e with
 | .sc v=>some (.sc v)
 |e=>match fQ st e with|some (z,rows)=>some (.sub z rows)|none=>none
def ke (st:TS):List CE→Option (List TC)
 |[]=>some []
 |e::r=>match nX st e,ke st r with
  |some c,some cs=>some (c::cs)
  |_,_=>none
def Ba (c:TC):CE:=match c with| .sc v=> .sc v| .sub z _=> .nil z| .any=> .gone
section
variable (C : eZ)
def Bb (ty:TypeId):Value→TE
 | .slice none 0 0=>match(C.tt ty).ti with
   | .slice e=>one (.nil (C.tt e).size)
   |_=> .dead
 | .int k n=>S (.int k n)
 | .bool b=> .kb b
 | .string s=>S (.string s)
 |_=> .dead
def iO (st:TS) (ty:TypeId):Operand→TE
 | .tmp i=>st.get i
 | .const v=>Bb C ty v
 | .func f=> .fn f []
 | .global _=> .dead
def GA:TE→Option Value
 | .v false [.mk false [.sc v]]=>some v
 | .kb b=>some (.bool b)
 |_=>none
def asInt:TE→Option Int
 | .v false [.mk false [.sc (.int _ n)]]=>some n
 |_=>none
def lJ:TE→Option CE
 | .v false [.mk false [e]]=>some e
 | .kb b=>some (.sc (.bool b))
 |_=>none
def qY:TE→Option (List CE)
 | .v false [.mk _ cs]=>some cs
 | .kb b=>some [.sc (.bool b)]
 |_=>none
def GB (op:BinOp):Value→Value→Option Value
 | .int k a,.int k' b=>
   match op with
   | .shl=>if 0≤b then some (.int k (KR k a b)) else none
   | .shr=>if 0≤b then some (.int k (FH k a b)) else none
   |_=>if k=k' then
    match op with
    | .add=>some (.int k (Dz k a b))
    | .sub=>some (.int k (xI k a b))
    | .mul=>some (.int k (DA k a b))
    | .and=>some (.int k (p6 .and k a b))
    | .or=>some (.int k (p6 .or k a b))
    | .xor=>some (.int k (p6 .xor k a b))
    | .eql=>some (.bool (eK a b))
    | .neq=>some (.bool (!eK a b))
    | .lss=>some (.bool (eD a b))
    | .leq=>some (.bool (rG a b))
    | .gtr=>some (.bool (eD b a))
    | .geq=>some (.bool (rG b a))
    |_=>none
    else none
 | .string a,.string b=>match op with
   | .eql=>some (.bool (Dy a b))
   | .neq=>some (.bool (!Dy a b))
   | .lss=>some (.bool (Cl a b))
   | .leq=>some (.bool (Cl a b||Dy a b))
   | .gtr=>some (.bool (!(Cl a b||Dy a b)))
   | .geq=>some (.bool (!Cl a b))
   |_=>none
 |_,_=>none
def lS:List Nat→List CE→List CE→Option Bool
 |[],[],[]=>some true
 |1::ks,.sc (.int k a)::r,.sc (.int k' b)::r'=>if k=k' then(match lS ks r r' with|some q=>some (eK a b&&q)|none=>none) else none
 |2::ks,.sc (.bool a)::r,.sc (.bool b)::r'=>match lS ks r r' with|some q=>some (J7 a b&&q)|none=>none
 |3::ks,.sc (.string a)::r,.sc (.string b)::r'=>match lS ks r r' with|some q=>some (Dy a b&&q)|none=>none
 |_,_,_=>none
def sZ (t:TypeId):Bool:=match(C.tt t).ti with| .struct _=>true|_=>false
def gZ (t:TypeId) (f:Nat):Option (Nat×TypeId):=match(C.tt t).ti with| .struct fs=>fs[f]?|_=>none
def IZ (t:TypeId) (f:Nat):TypeId:=match gZ C t f with|some (_,ft)=>ft|none=>0
def mS (t:TypeId):Option TypeId:=match(C.tt t).ti with| .slice e=>some e|_=>none
def KV (ds:List Nat) (loc:Option (Nat×Int×Nat)) (j:Nat) (c:TC):CE:=
 match c with
 | .sc v=> .sc v
 | .sub z rows=> .snap ds (match loc with|some (o,i,f)=>some (o,i,f+j)|none=>none) z rows
 | .any=> .gone
def nY (ds:List Nat) (loc:Option (Nat×Int×Nat)):Nat→List TC→List CE
 |_,[]=>[]
 |j,c::r=>KV ds loc j c::nY ds loc (j+1) r
def known (i:dY):Bool:=match i.ti with| .other=>false|_=>true
def mT (i:dY):Bool:=match i.ti with| .other=>false| .ptr _=>false|_=>true
def GC (t:TypeId) (xs:List CE):TE:= .v false [.mk (sZ C t) xs]
variable {R : Type}
def rO (t:TypeId) (xs:List CE) (K:TE→Ev R):Ev R:=match known (C.tt t),Nat.beq xs.length (C.tt t).size with
 |true,true=>K (GC C t xs)
 |_,_=> .fail
def Bc (e:TypeId) (z:Nat):Bool:=match known (C.tt e) with|true=>Nat.beq z (C.tt e).size|false=>false
def EH (st:TS) (o:Nat) (path:Option (Int×Nat)) (i:Int) (f:Nat) (K:List TC→Ev R):Ev R:=
 match aa o st.ob with
 |some ⟨_,_,rows⟩=>match path with
  |none=> .row rows i fun row=>K (row.drop f)
  |some (i0,f0)=> .row rows i0 fun row0=>match row0[f0]? with
   |some (.sub _ g9)=> .row g9 i fun row=>K (row.drop f)
   |_=> .fail
 |none=> .fail
def rP (st:TS) (t:TypeId) (e:TE) (K:TE→Ev R):Ev R:=
 match e with
 | .bp b off=>match aa b st.bx with
   |some cs=>rO C t ((cs.drop off).take (C.tt t).size) K
   |none=> .fail
 | .ep ds cells=>rO C t (nY ds none 0 (cells.take (C.tt t).size)) K
 | .er o path i f=>EH st o path i f fun cells=>
     rO C t (nY [o] (match path with|none=>some (o,i,f)|some _=>none) 0 (cells.take (C.tt t).size)) K
 |_=> .fail
def nZ (t:TypeId):List (Nat×TE)→List CE→Option (List CE)
 |[],cs=>some cs
 |(f,e)::r,cs=>match gZ C t f,qY e with
  |some (off,ft),some c=>match Nat.beq c.length (C.tt ft).size with
   |true=>nZ t r (cs.take off++c++cs.drop (off+c.length))
   |false=>none
  |_,_=>none
def xj (st:TS):List Operand→Option (List Nat)
 |[]=>some []
 |x::r=>match iO C st 0 x,xj st r with
  | .bp b 0,some bs=>some (b::bs)
  |_,_=>none
def bound (st:TS) (d:Int):Option Operand→Option Int
 |none=>some d
 |some a=>asInt (iO C st 0 a)
def plain:TE→TE
 | .kb b=>S (.bool b)
 |e=>e
def GD (e:CE) (l h:Int):CE:=match e with
 | .nil z=> .nil z
 | .ref o none=> .ref o (some (l,h))
 | .ref o (some (a,_))=> .ref o (some (sY a l,sY a h))
 | .snap ds _ z rows=> .snap ds none z (cF rows l h)
 |e=>e
def GF (e:CE) (n:Int) (cells:List TC):TE:=match e with
 | .ref o none=> .er o none n 0
 | .ref o (some _)=> .ep [o] cells
 | .snap _ (some (o,i,f)) _ _=> .er o (some (i,f)) n 0
 | .snap ds none _ _=> .ep ds cells
 |_=> .dead
def xk (t:TypeId):Bool:=match(C.tt t).ti with| .bool=>true|_=>false
def KW (bt:Bool) (op:BinOp) (a b:Value) (K:TE→Ev R):Ev R:=match op,a,b with
 | .eql,.bool p,.bool q=>match bt with|true=>K (S (.bool (J7 p q)))|false=> .fail
 | .neq,.bool p,.bool q=>match bt with|true=>K (S (.bool (!J7 p q)))|false=> .fail
 | .rem,.int k p,.int k' q=>if k=k' then .test (eK q 0) fun z=>match z with
     |false=>K (S (.int k (DB p q)))
     |true=> .fail
   else .fail
 | .quo,.int k p,.int k' q=>if k=k' then .test (eK q 0) fun z=>match z with
     |false=>K (S (.int k (Gx k p q)))
     |true=> .fail
   else .fail
 | .add,.string p,.string q=> .test (fits (p.size+q.size) 1) fun z=>match z with
   |true=>K (S (.string (Mu p q)))
   |false=> .fail
 |_,_,_=>match GB op a b with
  |some v=>K (S v)
  |none=> .fail
def KX (st:TS) (t:TypeId) (e:CE) (K:Value→Ev R):Ev R:=match(C.tt t).ti,e with
 | .str,.sc (.string s)=>K (.int .i64 s.size)
 | .slice _,e=>match fQ st e with
   |some (_,rows)=>K (.int .i64 rows.length)
   |none=> .fail
 |_,_=> .fail
def cY (st:TS) (o:Oper) (K:TE→Ev R):Ev R:=
 match o.op with
 | .move x=>K (iO C st o.type x)
 | .assign x=>K (iO C st o.type x)
 | .pick c a b=>match iO C st o.type c with
   | .kb p=>match p with
     |true=>K (iO C st o.type a)
     |false=>K (iO C st o.type b)
   |_=> .fail
 | .load t a=>rP C st t (iO C st 0 a) K
 | .nilCheck x=>match iO C st 0 x with
   | .bp b off=>K (.bp b off)
   | .ep d c=>K (.ep d c)
   | .er r p i f=>K (.er r p i f)
   |_=> .fail
 | .binOp op t x y _=>match plain (iO C st t x),plain (iO C st t y) with
   | .v false [.mk false [.sc a]],.v false [.mk false [.sc b]]=>KW (xk C t) op a b K
   | .v false [.mk true xs],.v false [.mk true ys]=>match known (C.tt t),(C.tt t).eqs with
     |false,_=> .fail
     |true,[]=> .fail
     |true,k::ks=>match op,lS (k::ks) xs ys with
      | .eql,some b=>K (S (.bool b))
      | .neq,some b=>K (S (.bool (!b)))
      |_,_=> .fail
   |_,_=> .fail
 | .unOp op _ x=>match op,iO C st o.type x with
   | .not,.kb b=>match b with|true=>K (.kb false)|false=>K (.kb true)
   | .not,.v false [.mk false [.sc (.bool b)]]=>K (S (.bool (!b)))
   | .neg,.v false [.mk false [.sc (.int k n)]]=>K (S (.int k (xI k 0 n)))
   |_,_=> .fail
 | .convert src dst x=>match(C.tt dst).ti,(C.tt src).ti,iO C st src x with
   | .int k,.int _,.v false [.mk false [.sc (.int _ n)]]=>K (S (.int k (vT k n)))
   | .str,.str,.v false [.mk false [.sc (.string s)]]=>K (S (.string s))
   | .str,.slice et,.v false [.mk false [e]]=>match(C.tt et).ti,fQ st e with
     | .int .u8,some (_,rows)=> .bytes rows fun ns=>K (S (.string (Cm ns)))
     |_,_=> .fail
   |_,_,_=> .fail
 | .fieldAddr s x f=>match gZ C s f,iO C st 0 x with
   |some (off,_),.bp b o=>K (.bp b (o+off))
   |some (off,_),.ep d cells=>K (.ep d (cells.drop off))
   |some (off,_),.er r p i g=>K (.er r p i (g+off))
   |_,_=> .fail
 | .field t x f=>match gZ C t f,iO C st t x with
   |some (off,ft),.v false [.mk true cs]=>rO C ft ((cs.drop off).take (C.tt ft).size) K
   |_,_=> .fail
 | .indexAddr t x i=>match mS C t,lJ (iO C st t x),asInt (iO C st 0 i) with
   |some et,some e,some n=>match fQ st e with
    |some (z,rows)=>match Bc C et z with
     |true=> .row rows n fun cells=>K (GF e n cells)
     |false=> .fail
    |none=> .fail
   |_,_,_=> .fail
 | .index t x i=>match(C.tt t).ti,GA (iO C st t x),asInt (iO C st 0 i) with
   | .str,some (.string s),some n=> .byte s n fun b=>K (S (.int .u8 b))
   |_,_,_=> .fail
 | .slice t x lo hi mx=>match mx,(C.tt t).ti,lJ (iO C st t x) with
   |none,.str,some (.sc (.string s))=>match bound C st 0 lo,bound C st s.size hi with
    |some l,some h=> .test (Af l h s.size) fun z=>match z with
     |true=>K (S (.string (Mv s l h)))
     |false=> .fail
    |_,_=> .fail
   |none,.slice et,some e=>match fQ st e with
    |some (z,rows)=>match Bc C et z,bound C st 0 lo,bound C st rows.length hi with
     |true,some l,some h=> .test (Af l h rows.length) fun b=>match b with
      |true=>K (one (GD e l h))
      |false=> .fail
     |_,_,_=> .fail
    |none=> .fail
   |_,_,_=> .fail
 | .extract x i=>match iO C st 0 x with
   | .v true es=>match es[i]? with
     |some (.mk a cs)=>K (.v false [.mk a cs])
     |some (.ptr b)=>K (.bp b 0)
     |none=> .fail
   |_=> .fail
 | .build t ps=>match sZ C t,nZ C t (ps.toList.map fun p=>(p.1,iO C st (IZ C t p.1) p.2)) ((C.tt t).zero.map Ba) with
   |true,some cs=>K (.v false [.mk true cs])
   |_,_=> .fail
 | .makeFunc fn first caps=>match fn,first.toList,xj C st caps.toList with
   | .func f,[],some bs=>K (.fn f bs)
   |_,_,_=> .fail
 | .call {callee:= .builtin .len,args,argTypes}=>match args.toList,argTypes.toList with
   |[x],[t]=>match lJ (iO C st t x) with
    |some e=>KX C st t e fun v=>K (S v)
    |none=> .fail
   |_,_=> .fail
 | .call {callee:= .builtin .min,args,argTypes}=>match args.toList,argTypes.toList with
   |[x,y],t::_=>match GA (iO C st t x),asInt (iO C st t y) with
    |some (.int k a),some b=>K (S (.int k (Gw a b)))
    |_,_=> .fail
   |_,_=> .fail
 |_=> .fail
def gl (e:CE) (st:TS):Option (TC×TS×Bool):=
 match e with
 | .sc v=>some (.sc v,st,true)
 | .nil z=>some (.sub z [],st,true)
 | .ref o cut=>match aa o st.ob with
   |some ⟨d,z,rows⟩=>some (.sub z (Co cut rows),fD o st,d)
   |none=>none
 | .snap [] _ z rows=>some (.sub z rows,st,false)
 |_=>none
def xJ:List CE→TS→Option (List TC×TS×Bool)
 |[],st=>some ([],st,true)
 |e::r,st=>match gl e st with
  |some (c,bD,d1)=>match xJ r bD with
   |some (cs,gf,d2)=>some (c::cs,gf,d1&&d2)
   |none=>none
  |none=>none
def rowsOf (st:TS) (ty:TypeId):List (Nat×Operand)→Nat→Option (List (List TC)×TS×Bool)
 |[],_=>some ([],st,true)
 |(i,x)::r,n=>match Nat.beq i n,qY (iO C st ty x) with
  |true,some cs=>match Nat.beq cs.length (C.tt ty).size,xJ cs st with
   |true,some (cs',bD,d1)=>match rowsOf bD ty r (n+1) with
    |some (rs,gf,d2)=>some (cs'::rs,gf,d1&&d2)
    |none=>none
   |_,_=>none
  |_,_=>none
def jf (d k j:Nat):Nat:=1000+400*d+20*k+j
def KY (b j:Nat):Nat:=1000000000+100*b+j
def ng (b:Nat):Bool:=match Nat.ble 200000 b with|true=>Nat.ble 300000 b|false=>true
def J9 (b:Nat):gX→Bool
 | .ptr c=>Nat.beq c b
 | .mk _ _=>false
def xK (b:Nat):TE→Bool
 | .bp c _=>Nat.beq c b
 | .fn _ caps=>ei b caps
 | .v _ es=>es.any (J9 b)
 |_=>false
def Ah (b:Nat) (st:TS):TS:=⟨mapA (fun e=>match xK b e with|true=> .dead|false=>e) st.tm,gY b st.bx,st.ob⟩
def uK (b:Nat) (cs:List CE) (st:TS):TS:=(Ah b st).uJ b cs
def setCells (f:Nat) (cs:List TC) (rows:List (List TC)) (i:Int):List (List TC):=setRow rows i f cs
def xL (o:Nat) (e:CE):CE:=match e with
 | .snap d (some (p,i,f)) z rows=>match Nat.beq p o with|true=> .snap [] none z rows|false=> .snap d (some (p,i,f)) z rows
 |e=>e
def Ka (o:Nat):TE→TE
 | .er p (some q) i f=>match Nat.beq p o with|true=> .dead|false=> .er p (some q) i f
 |e=>e
def zz (b:OB):OB:=⟨false,b.z,b.rows⟩
def nk (o:Nat) (st:TS):TS:=match aa o st.ob with
 |some b=>lQ (xL o) (Ka o) (fP o (zz b)) st
 |none=>st
def DD (o:Nat):List CE→Bool
 |[]=>false
 | .snap _ (some (p,_,_)) _ _::r=>match Nat.beq p o with|true=>true|false=>DD o r
 |_::r=>DD o r
def ta (o:Nat) (path:Option (Int×Nat)) (i:Int) (f:Nat) (cs:List CE) (st:TS) (K:TS→Ev R):Ev R:=
 match xJ cs st with
 |some (ts,bD,d1)=>match aa o bD.ob with
  |some ⟨d,z,rows⟩=>match path with
   |none=> .row rows i fun row=>match Nat.ble (f+ts.length) row.length with
    |true=>K (jR [(o,⟨d&&d1,z,setRow rows i f ts⟩)] bD)
    |false=> .fail
   |some (i0,f0)=>match d,d1 with
    |true,true=> .row rows i0 fun row0=>match row0[f0]? with
     |some (.sub z1 g9)=> .row g9 i fun row=>match Nat.ble (f+ts.length) row.length with
      |true=>K (jR [(o,⟨true,z,setRow rows i0 f0 [.sub z1 (setRow g9 i f ts)]⟩)] bD)
      |false=> .fail
     |_=> .fail
    |_,_=> .fail
  |none=> .fail
 |none=> .fail
def xm:List CE→Bool
 |[]=>false
 | .gone::_=>true
 |_::r=>xm r
def xM (b off:Nat) (cs:List CE) (st:TS):Option TS:=
 match aa b st.bx with
 |some old=>match ng b&& !xm cs,Nat.ble (off+cs.length) old.length with
  |true,true=>some (st.uJ b (old.take off++cs++old.drop (off+cs.length)))
  |_,_=>none
 |none=>none
def mU (st:TS) (e:CE):Option (Option Nat×Nat×Bool×List (List TC)):=
 match e with
 | .nil z=>some (none,z,true,[])
 | .ref o cut=>match aa o st.ob with
   |some ⟨d,z,rows⟩=>some (some o,z,d,Co cut rows)
   |none=>none
 |_=>none
def fX (o:Option Nat) (st:TS):TS:=match o with|some o=>fD o st|none=>st
def lK (d:Nat) (b:OB) (st:TS):TS:=(p7 (jf d 0 0) b st).set d (one (.ref (jf d 0 0) none))
def uL (e:TypeId) (z:Nat):Bool:=match mT (C.tt e) with|true=>Nat.beq z (C.tt e).size|false=>false
def si (g o':Nat) (b:OB) (l h:Int) (st:TS):TS:=p7 g ⟨true,1,[]⟩ (jQ o' ⟨b.deep,b.z,dL b.z b.rows l h⟩ st)
def DE (d:Nat) (o:Option Nat) (dp:Bool) (cx:CE) (st:TS):Option (Nat×List (List TC)×TS):=match cx with
 | .ref o' (some (l,h))=>match dp,aa o' st.ob,(match o with|some o=>Nat.beq o o'||Nat.beq o (jf d 1 0)|none=>false)||Nat.beq o' (jf d 1 0) with
   |true,some ⟨true,z,rows⟩,false=>some (z,cF rows l h,fD (jf d 1 0) (fX o (si (jf d 1 0) o' ⟨true,z,rows⟩ l h st)))
   |_,_,_=>none
 |_=>none
def GG (st:TS) (cx:CE):Option (Nat×List (List TC)):=match cx with
 | .ref o' cut=>match aa o' st.ob with
   |some ⟨false,z,rows⟩=>some (z,Co cut rows)
   |_=>none
 |_=>none
def EI (st:TS) (d:Nat) (t t':TypeId) (s:TE) (x:TE) (K:TS→Ev R):Ev R:=
 match mS C t,lJ s,lJ x with
 |some e,some cs,some cx=>match mU st cs,(C.tt t').ti with
  |some (o,z,dp,rows),.str=>match uL C e z,Nat.beq z 1,cx with
   |true,true,.sc (.string b)=> .test (fits (rows.length+b.size) (C.tt e).bytes) fun q=>match q with
    |true=>K (lK d ⟨dp,z,rows++rN b⟩ (fX o st))
    |false=> .fail
   |_,_,_=> .fail
  |some (o,z,dp,rows),.slice _=>match uL C e z with
   |false=> .fail
   |true=>match(C.tt e).flat with
     |true=>match fQ st cx with
      |some (z',ay)=>match Nat.beq z z' with
       |true=> .test (cT ay&&fits (rows.length+ay.length) (C.tt e).bytes) fun q=>match q with
        |true=>K (lK d ⟨dp,z,rows++ay⟩ (fX o st))
        |false=> .fail
       |false=> .fail
      |none=> .fail
     |false=>match DE d o dp cx st with
      |some (z',ay,bD)=>match Nat.beq z z' with
        |true=> .test (fits (rows.length+ay.length) (C.tt e).bytes) fun q=>match q with
         |true=>K (lK d ⟨dp,z,rows++ay⟩ bD)
         |false=> .fail
        |false=> .fail
      |none=>match GG st cx with
       |some (z',ay)=>match Nat.beq z z' with
        |true=> .test (fits (rows.length+ay.length) (C.tt e).bytes) fun q=>match q with
         |true=>K (lK d ⟨false,z,rows++ay⟩ (fX o st))
         |false=> .fail
        |false=> .fail
       |none=>match gl cx (fX o st) with
       |some (.sub z' ay,bD,d1)=>match Nat.beq z z' with
        |true=> .test (fits (rows.length+ay.length) (C.tt e).bytes) fun q=>match q with
         |true=>K (lK d ⟨dp&&d1,z,rows++ay⟩ bD)
         |false=> .fail
        |false=> .fail
       |_=> .fail
  |_,_=> .fail
 |_,_,_=> .fail
def Kb (st:TS) (d:Option Nat) (t:TypeId) (s:TE) (x:TE) (K:TS→Ev R):Ev R:=
 match mS C t,lJ s,lJ x with
 |some e,some (.ref o none),some cx=>match aa o st.ob,fQ st cx,mT (C.tt e) with
  |some ⟨true,z,rows⟩,some (z',ay),true=>match Nat.beq z z'&&Nat.beq z (C.tt e).size with
   |true=> .test (cT ay) fun q=>match q with
    |true=>match d with
     |some d=>K ((jQ o ⟨true,z,gj rows ay⟩ st).set d (one (.sc (.int .i64 (Int.ofNat (ni ay.length rows.length))))))
     |none=>K (jQ o ⟨true,z,gj rows ay⟩ st)
    |false=> .fail
   |false=> .fail
  |_,_,_=> .fail
 |_,_,_=> .fail
def Bd (st:TS):List Nat→Option (List (List TC))
 |[]=>some []
 |b::r=>match aa b st.bx with
  |some cs=>match ke st cs,Bd st r with
   |some c,some cs=>some (c::cs)
   |_,_=>none
  |none=>none
def GH (st:TS) (e:TE) (K:TV→Ev R):Ev R:=
 match e with
 | .v false [.mk a cs]=>match ke st cs with
   |some ts=>match a,ts with
    |true,ts=>K (.ag ts)
    |false,[c]=>K (.c c)
    |_,_=> .fail
   |none=> .fail
 | .kb b=>K (.c (.sc (.bool b)))
 | .bp b off=>match aa b st.bx with
   |some cs=>match ke st (cs.drop off) with
    |some ts=>K (.bx ts)
    |none=> .fail
   |none=> .fail
 | .ep _ (c::cells)=>K (.bx (c::cells))
 | .er r p i f=>EH st r p i f fun cells=>match cells with
   |[]=> .fail
   |c::cells=>K (.bx (c::cells))
 | .fn f caps=>match Bd st caps with
   |some xs=>K (.fn f xs)
   |none=> .fail
 |_=> .fail
def Cp (st:TS):List TE→(List TV→Ev R)→Ev R
 |[],K=>K []
 |e::r,K=>GH st e fun v=>Cp st r fun vs=>K (v::vs)
def oc (st:TS) (b:Nat):List Nat:=match aa b st.bx with
 |some cs=>(2*b+1)::(cs.flatMap cr).map (2* ·)
 |none=>[2*b+1]
def iP (st:TS):TE→List Nat
 | .v _ es=>(dg es).map (2* ·)
 | .ep d _=>d.map (2* ·)
 | .er o _ _ _=>[2*o]
 | .bp b _=>oc st b
 | .fn _ caps=>caps.flatMap (oc st)
 |_=>[]
def lT (st:TS) (o:Nat):Bool:=match aa o st.ob with|some ⟨true,_,_⟩=>true|_=>false
def uM (st:TS) (o:Nat):Bool:=match aa o st.ob with|some ⟨false,_,_⟩=>true|_=>false
def iQ (st:TS) (c:Bool):List Mode→List CE→Option (List Nat)
 |_,[]=>some []
 |ms,e::r=>match iQ st c (ms.drop 1) r with
  |some l=>match ms.headD .deep,e with
   |_,.sc _=>some l
   |_,.nil _=>some l
   | .snap,.snap [] none _ _=>some l
   | .snap,_=>none
   | .top,.ref o none=>match uM st o with|true=>some ((2*o)::l)|false=>none
   | .top,_=>none
   |_,.ref o none=>match lT st o with|true=>some ((2*o)::l)|false=>none
   |_,.ref o (some _)=>match c,lT st o with|true,true=>some ((2*o)::l)|_,_=>none
   |_,.snap _ (some (o,_,_)) _ _=>match c,lT st o with|false,true=>some ((2*o)::l)|_,_=>none
   |_,_=>none
  |none=>none
def iu (st:TS) (c:Bool) (ms:List Mode) (e:TE):Option (List Nat):=match e with
 | .v false [.mk _ cs]=>match c,ms with|true,ms=>iQ st true ms cs|false,[]=>iQ st false [] cs|_,_=>none
 | .bp b 0=>match c,ng b,aa b st.bx with
   |false,true,some cs=>match iQ st true ms cs with
    |some l=>some ((2*b+1)::l)
    |none=>none
   |_,_,_=>none
 |_=>none
def aF.ms:aF→List Mode
 | .inout ms=>ms
 | .consume ms=>ms
 |_=>[]
def sj:List Nat→Bool
 |[]=>true
 |a::r=>match ei a r with|true=>false|false=>sj r
def oe (st:TS):List aF→List TE→Option (List Nat×List Nat)
 |[],[]=>some ([],[])
 |p::ps,e::es=>match oe st ps es with
  |some (own,rd)=>match p with
   | .borrow=>some (own,iP st e++rd)
   | .inout ms=>match iu st false ms e with|some l=>some (l++own,rd)|none=>none
   | .consume ms=>match iu st true ms e with|some l=>some (l++own,rd)|none=>none
  |none=>none
 |_,_=>none
def kf:List CE→TS→TS
 |[],st=>st
 | .ref o _::r,st=>kf r (fD o st)
 |_::r,st=>kf r st
def jj (st:TS) (e:CE) (c:TC):Option (List (Nat×OB)):=
 match e,c with
 | .sc _,.sc _=>some []
 | .nil _,.sub _ []=>some []
 | .ref o none,.sub z rows=>match aa o st.ob with
   |some ⟨true,z0,_⟩=>match Nat.beq z z0 with|true=>some [(o,⟨true,z,rows⟩)]|false=>none
   |_=>none
 | .snap _ (some (o,i,f)) z0 _,.sub z' ay=>match aa o st.ob,Nat.beq z' z0 with
   |some ⟨true,z,rows⟩,true=>some [(o,⟨true,z,setRow rows i f [.sub z' ay]⟩)]
   |_,_=>none
 |_,_=>none
def xo (st:TS):List CE→List TC→Option (List (Nat×OB))
 |[],[]=>some []
 |e::r,c::cs=>match jj st e c,xo st r cs with
  |some a,some b=>some (a++b)
  |_,_=>none
 |_,_=>none
def aI (f:Nat→Nat):List Mode→Nat→List TC→TS→List CE×TS
 |_,_,[],st=>([],st)
 |ms,j,c::cs,st=>match c with
  | .sc v=>match aI f (ms.drop 1) (j+1) cs st with|(r,st')=>(.sc v::r,st')
  | .sub z rows=>match ms.headD .snap with
    | .snap=>match aI f (ms.drop 1) (j+1) cs st with|(r,st')=>(.snap [] none z rows::r,st')
    | .top=>match aI f (ms.drop 1) (j+1) cs (p7 (f j) ⟨false,z,rows⟩ st) with|(r,st')=>(.ref (f j) none::r,st')
    | .deep=>match aI f (ms.drop 1) (j+1) cs (p7 (f j) ⟨true,z,rows⟩ st) with|(r,st')=>(.ref (f j) none::r,st')
  | .any=>match aI f (ms.drop 1) (j+1) cs st with|(r,st')=>(.gone::r,st')
def jG (gV:TS):List aF→List TE→TS→TS
 |p::ps,e::es,st=>match p,e with
  | .consume _,.v false [.mk _ cs]=>jG gV ps es (kf cs st)
  | .inout _,.bp b _=>match aa b gV.bx with
    |some cs=>jG gV ps es ⟨(kf cs st).tm,gY b (kf cs st).bx,(kf cs st).ob⟩
    |none=>jG gV ps es st
  |_,_=>jG gV ps es st
 |_,_,st=>st
def kg (st:TS):List aF→List TE→List TV→Option (List (Nat×OB)×List (Nat×List Mode×List TC))
 |p::ps,e::es,fs=>match p with
  | .inout ms=>match e,fs with
    | .v false [.mk false [e]],.c c::fs=>match jj st e c,kg st ps es fs with
      |some a,some (b,bs)=>some (a++b,bs)
      |_,_=>none
    | .v false [.mk true cs],.ag ts::fs=>match xo st cs ts,kg st ps es fs with
      |some a,some (b,bs)=>some (a++b,bs)
      |_,_=>none
    | .bp b 0,.bx ts::fs=>match aa b st.bx,kg st ps es fs with
      |some cs,some (a,bs)=>match Nat.beq cs.length ts.length with|true=>some (a,(b,ms,ts)::bs)|false=>none
      |_,_=>none
    |_,_=>none
  |_=>kg st ps es fs
 |[],[],[]=>some ([],[])
 |_,_,_=>none
def Cq:List Mode→List TC→List Mode
 |_,[]=>[]
 |ms,_::r=>(match ms.headD .deep with| .snap=> .snap|_=> .deep)::Cq (ms.drop 1) r
def td:List (Nat×List Mode×List TC)→TS→TS
 |[],st=>st
 |(b,ms,ts)::r,st=>match aI (KY b) (Cq ms ts) 0 ts st with
  |(cs,st')=>td r (st'.uJ b cs)
def jk (st:TS):List Nat→TS
 |[]=>st
 |o::r=>jk (lR st o) r
def p8 (st:TS):TE→List Nat
 | .bp b _=>match aa b st.bx with|some cs=>cs.flatMap cr|none=>[]
 | .fn _ caps=>caps.flatMap fun b=>match aa b st.bx with|some cs=>cs.flatMap cr|none=>[]
 |e=>mR e
def borrowed (st:TS):List aF→List TE→List Nat
 | .borrow::ps,e::es=>p8 st e++borrowed st ps es
 |_::ps,_::es=>borrowed st ps es
 |_,_=>[]
def ki (d k:Nat):Nat:=400000+20*d+k
def cO (d:Nat):Nat→List (List Mode)→List (Nat×List TC)→TS→List gX×TS
 |_,_,[],st=>([],st)
 |k,ms,(a,cs)::r,st=>match aI (jf d k) (ms.headD []) 0 cs st with
  |(cs',st')=>match Nat.beq a 2 with
   |true=>match cO d (k+1) (ms.drop 1) r (uK (ki d k) cs' st') with
    |(es,vJ)=>(.ptr (ki d k)::es,vJ)
   |false=>match cO d (k+1) (ms.drop 1) r st' with
    |(es,vJ)=>(.mk (Nat.beq a 1) cs'::es,vJ)
def qZ:List (Nat×List TC)→Bool
 |[]=>true
 |(_,cs)::r=>match Nat.ble cs.length 20 with|true=>qZ r|false=>false
def GI (d:Nat) (ms:List (List Mode)) (v:TV) (st:TS):Option TS:=
 match v with
 | .c c=>match aI (jf d 0) (ms.headD []) 0 [c] st with|(cs,st')=>some (st'.set d (.v false [.mk false cs]))
 | .ag cs=>match aI (jf d 0) (ms.headD []) 0 cs st with|(cs,st')=>some (st'.set d (.v false [.mk true cs]))
 | .tu vs=>match qZ vs with
   |true=>match cO d 0 ms vs st with|(es,st')=>some (st'.set d (.v true es))
   |false=>none
 | .bx cs=>match aI (jf d 0) (ms.headD []) 0 cs st with|(cs',st')=>some ((uK (ki d 0) cs' st').set d (.bp (ki d 0) 0))
 |_=>none
def lU:TV→Bool
 | .c _=>true
 | .ag cs=>Nat.ble cs.length 16
 | .bx cs=>Nat.ble cs.length 16
 | .fn _ caps=>Nat.ble caps.length 900
 | .tu _=>false
def g6:List TV→Bool
 |[]=>true
 |v::r=>match lU v with|true=>g6 r|false=>false
def kP (vs:List TV):Bool:=match Nat.ble vs.length 50 with|true=>g6 vs|false=>false
def p9 (sh:Bool) (st:TS) (ps:List aF) (es:List TE):TS:=match sh with
 |true=>jk (jG st ps es st) (borrowed st ps es)
 |false=>jG st ps es st
def gD:List Mode→List TC→Bool
 |_,[]=>true
 |ms,.sc _::r=>gD (ms.drop 1) r
 |ms,.sub _ _::r=>match ms.headD .snap with| .deep=>gD (ms.drop 1) r|_=>false
 |ms,.any::r=>match ms.headD .snap with| .deep=>gD (ms.drop 1) r|_=>false
def xp:List (List Mode)→List (Nat×List TC)→Bool
 |_,[]=>true
 |ms,(_,cs)::r=>match gD (ms.headD []) cs with|true=>xp (ms.drop 1) r|false=>false
def EJ (ms:List (List Mode)):TV→Bool
 | .c c=>gD (ms.headD []) [c]
 | .ag cs=>gD (ms.headD []) cs
 | .bx cs=>gD (ms.headD []) cs
 | .tu vs=>xp ms vs
 | .fn _ _=>false
def Be:List aF→Bool
 |[]=>true
 | .inout (_::_)::_=>false
 |_::r=>Be r
def GJ:List aF→Bool
 |[]=>true
 | .inout (_::_)::_=>false
 | .consume (_::_)::_=>false
 |_::r=>GJ r
def DF (g:FG) (r:TV):Bool:=match g.shares with
 |true=>true
 |false=>match Be g.ps with|true=>EJ g.res r|false=>false
def tf (d:Option Tmp) (f:FuncId) (es:List TE) (st:TS) (K:TS→Ev R):Ev R:=
 match oe st (C.sig f).ps es with
 |some (own,rd)=>match sj own,jY own rd,(C.sig f).shares&&ei 0 rd with
  |true,false,false=>Cp st es fun vs=>match kP vs with
   |true=> .call f vs fun r fs=>match DF (C.sig f) r with
    |false=> .fail
    |true=>match kg st (C.sig f).ps es fs with
     |some (W,B)=>FI (td B (jR W (p9 (C.sig f).shares st (C.sig f).ps es))) fun gf=>match d with
      |some d=>match GI d (C.sig f).res r gf with
       |some st4=>K st4
       |none=> .fail
      |none=>K gf
     |none=> .fail
   |false=> .fail
  |_,_,_=> .fail
 |none=> .fail
def tg (st:TS):List Operand→List TypeId→List TE
 |x::xs,t::ts=>iO C st t x::tg st xs ts
 |_,_=>[]
def Ai (st:TS) (o:Oper) (K:TS→Ev R):Ev R:=match o.dst with
 |some d=>cY C st o fun e=>K (st.set d e)
 |none=> .fail
def gm (st:TS) (o:Oper) (K:TS→Ev R):Ev R:=
 match o.op with
 | .alloc t=>match o.dst,mT (C.tt t) with
   |some d,true=>match ng d with
    |true=>K ((uK d ((C.tt t).zero.map Ba) st).set d (.bp d 0))
    |false=> .fail
   |_,_=> .fail
 | .box t x=>match o.dst,qY (iO C st t x) with
   |some d,some cs=>match ng d with
    |true=>K ((uK d cs st).set d (.bp d 0))
    |false=> .fail
   |_,_=> .fail
 | .store t a x=>match o.dst,known (C.tt t),qY (iO C st t x) with
   |none,true,some cs=>match Nat.beq cs.length (C.tt t).size,iO C st 0 a with
    |true,.bp b off=>match xM b off cs st with
     |some st'=>K st'
     |none=> .fail
    |true,.er r none i f=>match DD r cs with
     |true=>ta r none i f (cs.map (xL r)) (nk r st) K
     |false=>ta r none i f cs st K
    |true,.er r p i f=>ta r p i f cs st K
    |_,_=> .fail
   |_,_,_=> .fail
 | .buildSlice t n ps=>match o.dst,mS C t with
   |some d,some e=>match Nat.beq n ps.size&&Nat.ble (n*(C.tt e).size) 16777216&&mT (C.tt e),rowsOf C st e ps.toList 0 with
    |true,some (rs,st',dp)=>K (lK d ⟨dp,(C.tt e).size,rs⟩ st')
    |_,_=> .fail
   |_,_=> .fail
 | .makeSlice t l c=>match o.dst,mS C t,asInt (iO C st 3 l),asInt (iO C st 3 c) with
   |some d,some e,some n,some n'=> .test (mT (C.tt e)&&eK n n'&&rG 0 n&&fits (sX n) (C.tt e).bytes) fun z=>match z with
    |true=>K (lK d ⟨true,(C.tt e).size,List.replicate (sX n) (C.tt e).zero⟩ st)
    |false=> .fail
   |_,_,_,_=> .fail
 | .convert src dst x=>match(C.tt dst).ti,(C.tt src).ti with
   | .slice et,.str=>match o.dst,(C.tt et).ti,GA (iO C st src x) with
     |some d,.int .u8,some (.string s)=> .test (fits s.size 1) fun z=>match z with
      |true=>K (lK d ⟨true,1,rN s⟩ st)
      |false=> .fail
     |_,_,_=> .fail
   |_,_=>Ai C st o K
 | .call {callee:= .builtin .append,args,argTypes}=>match o.dst,args.toList,argTypes.toList with
   |some d,[s,x],[t,t']=>EI C st d t t' (iO C st t s) (iO C st t' x) K
   |_,_,_=> .fail
 | .call {callee:= .builtin .copy,args,argTypes}=>match args.toList,argTypes.toList with
   |[s,x],[t,t']=>Kb C st o.dst t (iO C st t s) (iO C st t' x) K
   |_,_=> .fail
 | .call {callee:= .value (.func f),args,argTypes}=>match Nat.beq args.toList.length argTypes.toList.length with
   |true=>tf C o.dst f (tg C st args.toList argTypes.toList) st K
   |false=> .fail
 | .call {callee:= .value (.tmp i),args,argTypes}=>match Nat.beq args.toList.length argTypes.toList.length with
   |true=>match st.get i with
    | .fn f caps=>tf C o.dst f (tg C st args.toList argTypes.toList++caps.map fun b=> .bp b 0) st K
    |_=> .fail
   |false=> .fail
 |_=>Ai C st o K
def Bf (st:TS) (b:Nat):List Nat:=match aa b st.bx with
 |some cs=>(2*b+1)::(cs.flatMap cr).map (2* ·)
 |none=>[2*b+1]
def qa (st:TS):TE→List Nat
 | .v _ es=>(dg es).map (2* ·)
 | .bp b _=>Bf st b
 |_=>[]
def iw (st:TS):List aF→List TE→List Nat
 | .borrow::ps,_::es=>iw st ps es
 |_::ps,e::es=>qa st e++iw st ps es
 |_,_=>[]
def writes (st:TS) (o:Oper):List Nat:=match o.op with
 | .store _ a _=>match iO C st 0 a with
   | .bp b _=>[2*b+1]
   | .er o _ _ _=>[2*o]
   |_=>[]
 | .call {callee:= .builtin .append,args,argTypes}=>match args.toList,argTypes.toList with
   |s::_,t::_=>(mR (iO C st t s)).map (2* ·)
   |_,_=>[]
 | .call {callee:= .builtin .copy,args,argTypes}=>match args.toList,argTypes.toList with
   |s::_,t::_=>(mR (iO C st t s)).map (2* ·)
   |_,_=>[]
 | .call {callee:= .value (.func f),args,argTypes}=>iw st (C.sig f).ps (tg C st args.toList argTypes.toList)
 | .call {callee:= .value (.tmp i),args,argTypes}=>match st.get i with
   | .fn f caps=>iw st (C.sig f).ps (tg C st args.toList argTypes.toList++caps.map fun b=> .bp b 0)
   |_=>[]
 |_=>[]
def GK (st:TS) (o:Oper):Option (List Nat):=match o.op with
 | .load _ a=>match iO C st 0 a with
   | .bp b _=>match aa b st.bx with
     |some _=>some [2*b+1]
     |none=>none
   | .ep d (_::_)=>some (d.map (2* ·))
   | .er o none _ _=>some [2*o]
   | .er o (some _) _ _=>match aa o st.ob with
     |some ⟨true,_,_⟩=>some [2*o]
     |_=>none
   |_=>none
 |_=>none
def Kd (ops:Array Oper) (st:TS) (o:Oper):Bool:=match o.guard with
 |none=>false
 |some (j,want)=>match ops[j]? with
  |some oj=>match oj.dst with
   |some t=>match st.get t with
    | .kb b=>match b,want with
      |true,false=>true
      |false,true=>true
      |_,_=>false
    | .v true []=>true
    |_=>false
   |none=>false
  |none=>false
def qb (ops:Array Oper) (st:TS) (o:Oper):List Nat→Bool
 |[]=>true
 |l::r=>match ops[l]? with
  |some ol=>match Kd ops st ol with
   |true=>qb ops st o r
   |false=>match GK C st ol with
    |some rd=>match jY rd (writes C st o) with|true=>false|false=>qb ops st o r
    |none=>false
  |none=>false
def th:List Mode→List CE→List Nat
 |_,[]=>[]
 |ms,e::r=>match ms.headD .deep,e with
  | .snap,.ref o none=>o::th (ms.drop 1) r
  |_,_=>th (ms.drop 1) r
def Aj (st:TS):List aF→List TE→List Nat
 |p::ps,e::es=>match p,e with
  | .inout (m::ms),.bp b _=>match aa b st.bx with
    |some cs=>th (m::ms) cs++Aj st ps es
    |none=>Aj st ps es
  | .consume (m::ms),.v false [.mk _ cs]=>th (m::ms) cs++Aj st ps es
  |_,_=>Aj st ps es
 |_,_=>[]
def xN:List CE→List Nat
 |[]=>[]
 | .ref o _::r=>o::xN r
 |_::r=>xN r
def uN:List gX→List Nat
 |[]=>[]
 | .mk _ cs::r=>xN cs++uN r
 |_::r=>uN r
def EK (st:TS) (e:TypeId):List (Nat×Operand)→List Nat
 |[]=>[]
 |(_,x)::r=>match iO C st e x with
  | .v _ es=>uN es++EK st e r
  |_=>EK st e r
def KZ (fx:List Nat) (st:TS) (o:Oper):TS:=match o.op with
 | .buildSlice t _ ps=>match ei 777777 fx,mS C t with
   |true,some e=>jk st (EK C st e ps.toList)
   |_,_=>st
 | .call {callee:= .value (.func f),args,argTypes}=>match GJ (C.sig f).ps with
   |true=>st
   |false=>jk st (Aj st (C.sig f).ps (tg C st args.toList argTypes.toList))
 |_=>st
def Cr (fx fl:List Nat) (ops:Array Oper) (st:TS) (o:Oper) (K:TS→Ev R):Ev R:=FI (KZ C fx st o) fun st=>match qb C ops st o fl with
 |true=>gm C st o K
 |false=> .fail
def Cs (st:TS) (o:Oper) (K:TS→Ev R):Ev R:=match o.dst with
 |some d=>K (st.set d (.v true []))
 |none=>K st
def DG (fx fl:List Nat) (ops:Array Oper) (st:TS) (o:Oper) (b want:Bool) (K:TS→Ev R):Ev R:=
 match b,want with
 |true,true=>Cr C fx fl ops st o K
 |false,false=>Cr C fx fl ops st o K
 |_,_=>Cs st o K
def EL (fx:List Nat) (o:Oper):Bool:=match o.dst with|some d=> !ei d fx|none=>true
def guarded (fx fl:List Nat) (ops:Array Oper) (st:TS) (o:Oper) (K:TS→Ev R):Ev R:=
 match EL fx o with
 |false=> .fail
 |true=>match o.guard with
  |none=>Cr C fx fl ops st o K
  |some (j,want)=>match ops[j]? with
   |some oj=>match oj.dst with
    |some t=>match st.get t with
     | .kb b=>DG C fx fl ops st o b want K
     | .v false [.mk false [.sc (.bool b)]]=> .test b fun b=>DG C fx fl ops (st.set t (.kb b)) o b want K
     | .v true []=>Cs st o K
     |_=> .fail
    |none=> .fail
   |none=> .fail
def oT {α:Type} (l:List Nat):List (Nat×α)→List (Nat×α)
 |[]=>[]
 |(i,e)::r=>match ei i l with|true=>(i,e)::oT l r|false=>oT l r
def Bg (fx:List Nat) (l:List Nat) (ops:Array Oper):List Oper→TS→(TS→Ev R)→Ev R
 |[],st,K=>FI ⟨oT l st.tm,st.bx,st.ob⟩ K
 |o::r,st,K=>guarded C fx [] ops st o fun st'=>FI st' fun st'=>Bg fx l ops r st' K
def iR (fx:List Nat) (l:List Nat) (ops:Array Oper):qW→TS→(TS→Ev R)→Ev R
 | .nil,st,K=>FI ⟨oT l st.tm,st.bx,st.ob⟩ K
 | .op i fl r,st,K=>match ops[i]? with
   |some o=>guarded C fx fl ops st o fun st'=>FI st' fun st'=>iR fx l ops r st' K
   |none=> .fail
 | .alt a b,st,K=> .both (iR fx l ops a st K) (iR fx l ops b st K)
def lV (l:List Nat):List (Nat×List CE)→List (Nat×List CE)
 |[]=>[]
 |(i,cs)::r=>match Nat.ble 100000 i with
  |true=>(i,cs)::lV l r
  |false=>match ei i l with|true=>(i,cs)::lV l r|false=>lV l r
def cR (n:Nat):List CE→List CE×Nat×List (Nat×OB)
 |[]=>([],n,[])
 | .nil z::r=>match Nat.ble 1 z with
   |true=>match cR (n+1) r with|(cs,m,obs)=>(.ref n none::cs,m,(n,⟨true,z,[]⟩)::obs)
   |false=>match cR n r with|(cs,m,obs)=>(.nil z::cs,m,obs)
 |e::r=>match cR n r with|(cs,m,obs)=>(e::cs,m,obs)
def cz (n:Nat):List gX→List gX×Nat×List (Nat×OB)
 |[]=>([],n,[])
 | .mk a cs::r=>match cR n cs with
   |(cs',m,o1)=>match cz m r with|(es,m',o2)=>(.mk a cs'::es,m',o1++o2)
 | .ptr b::r=>match cz n r with|(es,m,o2)=>(.ptr b::es,m,o2)
def sk (n:Nat) (e:TE):TE×Nat×List (Nat×OB):=match e with
 | .v tup es=>match cz n es with|(es',m,o)=>(.v tup es',m,o)
 | .kb b=>(S (.bool b),n,[])
 |e=>(e,n,[])
def nq (n:Nat):List (Nat×TE)→List (Nat×TE)×List (Nat×OB)
 |[]=>([],[])
 |(i,e)::r=>match sk n e with
  |(e',m,o1)=>match nq m r with|(r',o2)=>((i,e')::r',o1++o2)
def Ct (n:Nat):List (Nat×OB)→Bool
 |[]=>true
 |(i,_)::r=>match Nat.ble n i with|true=>false|false=>Ct n r
def Cu (st:TS):TS:=match Ct 900000000 st.ob with
 |true=>match nq 900000000 st.tm with|(tm,obs)=>⟨tm,st.bx,dM obs st.ob⟩
 |false=>st
def K0 (st:TS):List Nat:=(st.tm.flatMap fun p=>mR p.2)++st.bx.flatMap fun p=>p.2.flatMap cr
def number:List Nat→Nat→List (Nat×Nat)→List (Nat×Nat)
 |[],_,ρ=>ρ
 |o::r,n,ρ=>match Nat.beq o 0 with
  |true=>number r n ρ
  |false=>match aa o ρ with
   |some _=>number r n ρ
   |none=>number r (n+1) ((o,n)::ρ)
def uO (ρ:List (Nat×Nat)) (o:Nat):Nat:=match aa o ρ with|some n=>n|none=>0
def tj (ρ:List (Nat×Nat)):CE→CE
 | .ref o cut=> .ref (uO ρ o) cut
 | .snap d l z rows=> .snap (d.map (uO ρ)) (match l with|some (o,i,f)=>some (uO ρ o,i,f)|none=>none) z rows
 |e=>e
def GL (ρ:List (Nat×Nat)):TE→TE
 | .ep d cells=> .ep (d.map (uO ρ)) cells
 | .er o p i f=> .er (uO ρ o) p i f
 |e=>e
def jZ (ob:List (Nat×OB)):List (Nat×Nat)→List (Nat×OB)
 |[]=>[]
 |(o,n)::r=>match aa o ob with|some b=>fP n b (jZ ob r)|none=>jZ ob r
def My (ρ:List (Nat×Nat)) (st:TS):TS:=⟨mapA (mQ (tj ρ) (GL ρ)) st.tm,mapA (List.map (tj ρ)) st.bx,jZ st.ob ρ⟩
def canon (st:TS):TS:=My (number (K0 st) 1 []) st
def Cv (l:List Nat) (st:TS):TS:=canon (Cu ⟨oT l st.tm,lV l st.bx,st.ob⟩)
def run (fx:List Nat) (f:FuncId):Nat→Code→TS→(TX→TS→Ev R)→Ev R
 |_,.skip,st,K=>K .norm st
 |_,.region id ops draw,st,K=>match draw with
  |false=>Bg C fx (C.lr f id) ops ops.toList st (K .norm)
  |true=>match C.xz f id with
   |some l=>iR C fx (C.lr f id) ops l st (K .norm)
   |none=> .fail
 |i,.seq a b,st,K=>run fx f i a st fun x st'=>match x with
  | .norm=>run fx f i b st' K
  |x=>K x st'
 |i,.cond c a b,st,K=>match iO C st 0 c with
  | .kb p=>match p with
    |true=>run fx f i a st K
    |false=>run fx f i b st K
  | .v false [.mk false [.sc (.bool p)]]=> .test p fun p=>match p with
    |true=>run fx f i a st K
    |false=>run fx f i b st K
  |_=> .fail
 |_,.block id body,st,K=>run fx f id body st fun x st'=>match x with
  | .ex id'=>match Nat.beq id' id with|true=>K .norm st'|false=>K (.ex id') st'
  |x=>K x st'
 |i,.loop body,st,K=>FI (Cv (C.lb f i) st) fun st=> .loop f i body st K
 |_,.exit id,st,K=>K (.ex id) st
 |_,.ret,st,K=>K .ret st
 |_,_,_,_=> .fail
def GM:Mode→Bool
 | .deep=>true
 |_=>false
def bw (sh:Bool) (p:aF) (n:Nat):Nat→List TC→List CE×List (Nat×OB)
 |_,[]=>([],[])
 |j,c::r=>match bw sh p n (j+1) r with
  |(es,obs)=>match c with
   | .sc v=>(.sc v::es,obs)
   | .sub z rows=>match p.mc j with
     | .snap=>(.snap (match sh with|true=>[]|false=>[0]) none z rows::es,obs)
     |m=>(.ref (n+j) none::es,(n+j,⟨GM m,z,rows⟩)::obs)
   | .any=>(.gone::es,obs)
def uP (sh:Bool) (i:Nat):List (List TC)→List (Nat×List CE)
 |[]=>[]
 |c::r=>(i,(bw sh .borrow 0 0 c).1)::uP sh (i+1) r
def nr (p:aF) (i:Nat):Nat:=match p with| .borrow=>200000+1000*i|_=>100000+1000*i
def init (sh:Bool) (ps:List aF) (i:Nat):List TV→TS
 |[]=>⟨[],[],[]⟩
 |v::r=>match init sh (ps.drop 1) (i+1) r with
  |⟨tm,bx,ob⟩=>match v with
   | .c c=>match bw sh (ps.headD .borrow) (500+16*i) 0 [c] with|(cs,o)=>⟨(i,.v false [.mk false cs])::tm,bx,o++ob⟩
   | .ag cs=>match bw sh (ps.headD .borrow) (500+16*i) 0 cs with|(cs,o)=>⟨(i,.v false [.mk true cs])::tm,bx,o++ob⟩
   | .bx cs=>match bw sh (ps.headD .borrow) (500+16*i) 0 cs with
     |(cs,o)=>⟨(i,.bp (nr (ps.headD .borrow) i) 0)::tm,(nr (ps.headD .borrow) i,cs)::bx,o++ob⟩
   | .fn f caps=>⟨(i,.fn f (List.range' (200000+1000*i+1) caps.length))::tm,uP sh (200000+1000*i+1) caps++bx,ob⟩
   | .tu _=>⟨tm,bx,ob⟩
def DH (m:Mode) (e:CE) (deep:Bool):Bool:=match m,e with
 |_,.sc _=>true
 | .snap,_=>true
 |_,.nil _=>true
 | .top,.ref _ _=>true
 | .deep,.ref _ _=>deep
 |_,_=>false
def qc:List Mode→List CE→TS→Option (List TC×TS)
 |_,[],st=>some ([],st)
 |ms,e::r,st=>match gl e st with
  |some (c,st',d)=>match DH (ms.headD .snap) e d with
   |true=>match qc (ms.drop 1) r st' with
    |some (cs,vJ)=>some (c::cs,vJ)
    |none=>none
   |false=>none
  |none=>none
def eL:List Mode→List CE→TS→Option (List TC×TS)
 |_,[],st=>some ([],st)
 |ms,e::r,st=>match ms.headD .deep,e with
  | .snap,e=>match gl e st with
    |some (c,st',_)=>match eL (ms.drop 1) r st' with
     |some (cs,vJ)=>some (c::cs,vJ)
     |none=>none
    |none=>none
  |_,.sc v=>match eL (ms.drop 1) r st with
   |some (cs,st')=>some (.sc v::cs,st')
   |none=>none
  |_,.nil z=>match eL (ms.drop 1) r st with
   |some (cs,st')=>some (.sub z []::cs,st')
   |none=>none
  |_,.ref o none=>match aa o st.ob with
   |some ⟨true,z,rows⟩=>match eL (ms.drop 1) r (fD o st) with
    |some (cs,st')=>some (.sub z rows::cs,st')
    |none=>none
   |_=>none
  |_,_=>none
def K1 (a:Bool):Nat:=match a with|true=>1|false=>0
def EM (st:TS) (r:ResultVar) (K:TE→Ev R):Ev R:=match r with
 | .tmp t=>K (st.get t)
 | .cell a t=>rP C st t (st.get a) K
def xO:List (List Mode)→List ResultVar→TS→(List (Nat×List TC)→TS→Ev R)→Ev R
 |_,[],st,K=>K [] st
 |ms,r::rs,st,K=>EM C st r fun e=>match e with
  | .v false [.mk a cs]=>match qc (ms.headD []) cs st with
    |some (ts,st')=>xO (ms.drop 1) rs st' fun vs vJ=>K ((K1 a,ts)::vs) vJ
    |none=> .fail
  | .kb b=>xO (ms.drop 1) rs st fun vs vJ=>K ((0,[.sc (.bool b)])::vs) vJ
  | .bp b 0=>match ng b,aa b st.bx with
    |true,some cs=>match qc (ms.headD []) cs ⟨st.tm,gY b st.bx,st.ob⟩ with
     |some (ts,st')=>xO (ms.drop 1) rs st' fun vs vJ=>K ((2,ts)::vs) vJ
     |none=> .fail
    |_,_=> .fail
  |_=> .fail
def Cw:List aF→Nat→TS→Option (List TV)
 |[],_,_=>some []
 |p::ps,i,st=>match p with
  | .inout ms=>match ms,st.get i with
    |[],.v false [.mk false [e]]=>match eL [] [e] st with
     |some ([c],st')=>match Cw ps (i+1) st' with
      |some vs=>some (.c c::vs)
      |none=>none
     |_=>none
    |[],.v false [.mk true cs]=>match eL [] cs st with
     |some (ts,st')=>match Cw ps (i+1) st' with
      |some vs=>some (.ag ts::vs)
      |none=>none
     |none=>none
    |ms,.bp b 0=>match ng b,aa b st.bx with
     |true,some cs=>match eL ms cs st with
      |some (ts,st')=>match Cw ps (i+1) st' with
       |some vs=>some (.bx ts::vs)
       |none=>none
      |none=>none
     |_,_=>none
    |_,_=>none
  |_=>Cw ps (i+1) st
def uQ:List (Nat×List TC)→TV
 |[(0,[c])]=> .c c
 |[(1,cs)]=> .ag cs
 |[(2,cs)]=> .bx cs
 |vs=> .tu vs
def uR:List aF→Nat→List Nat
 |[],_=>[]
 | .inout _::r,i=>i::uR r (i+1)
 |_::r,i=>uR r (i+1)
def xP (g:FG):List Nat:=match g.frz with|true=>777777::uR g.ps 0|false=>uR g.ps 0
def GN (g:FG) (rs:List ResultVar) (x:TX) (st:TS):Ev (TV×List TV):=match x with
 | .ex _=> .fail
 |_=>xO C g.res rs st fun rs st'=>match Cw g.ps 0 st' with
  |some fs=>KU (uQ rs) fun r=>fL KU fs fun fs=> .ret (r,fs)
  |none=> .fail
def qd (g:FG) (vs:List TV):TS:=init true g.ps 0 vs
def body (f:FuncId) (vs:List TV):Ev (TV×List TV):=
 match C.P.funcs[f]? with
 |none=> .fail
 |some fn=>match fn.body with
  |none=> .fail
  |some c=>FI (qd (C.sig f) vs) fun st=>run C (xP (C.sig f)) f 0 c st (GN C (C.sig f) fn.results.toList)
end
abbrev Cf:=FuncId→List TV→TV→List TV→Prop
abbrev Lp:=FuncId→Nat→Code→TS→(TX→TS→Prop)→Prop
def Ev.holds {R:Type} (cf:Cf) (lp:Lp) (Q:R→Prop):Ev R→Prop
 | .fail=>False
 | .ret r=>Q r
 | .test b k=>(k b).holds cf lp Q
 | .row rows i k=> ∃c,rowAt rows i=some c∧(k c).holds cf lp Q
 | .byte s i k=> ∃b,uI s i=some b∧(k b).holds cf lp Q
 | .bytes rows k=> ∃ns,nj rows=some ns∧(k ns).holds cf lp Q
 | .call f vs k=> ∃r fs,cf f vs r fs∧(k r fs).holds cf lp Q
 | .loop f i c st k=>lp f i c st fun x st'=>(k x st').holds cf lp Q
 | .both a b=> ∃r,a.holds cf lp (fun r'=>r'=r)∧b.holds cf lp (fun r'=>r'=r)∧Q r
section
variable (C : eZ)
def Ak (x:TX) (st:TS):Ev (TX×TS):= .ret (x,st)
def iter (cf:Cf) (lp:Lp) (fx:List Nat) (f i:Nat) (c:Code) (Q:TX→TS→Prop):Nat→TS→Prop
 |0,_=>False
 |n+1,st=>(run C fx f i c st Ak).holds cf lp fun p=>match p with
   |(.norm,st')=>FI (Cv (C.lb f i) st') fun st'=>iter cf lp fx f i c Q n st'
   |(x,st')=>Q x st'
def DI (cf:Cf) (k:Nat) (fx:List Nat):Nat→Lp
 |0=>fun _ _ _ _ _=>False
 |n+1=>fun f i c st Q=>iter C cf (DI cf k fx n) fx f i c Q k st
def dw:Nat→Cf
 |0=>fun _ _ _ _=>False
 |k+1=>fun f vs r fs=>match C.ext f with
  |some p=>p vs=some (r,fs)
  |none=>(body C f vs).holds (dw k) (DI C (dw k) k (xP (C.sig f)) 4) fun p=>p=(r,fs)
end
end Go.T
set_option linter.all false
namespace Go.T
inductive An where
 |b (x:Bool)
 |row (c:List TC)
 |n (i:Int)
 |ns (l:List Int)
 |call (r:TV) (fs:List TV)
 |loop (x:TX) (st:TS)
inductive Qr where
 |test (b x:Bool)
 |row (rows:List (List TC)) (i:Int) (c:List TC)
 |byte (s:ByteArray) (i b:Int)
 |bytes (rows:List (List TC)) (ns:List Int)
 |call (f:FuncId) (vs:List TV) (r:TV) (fs:List TV)
 |loop (f:FuncId) (i:Nat) (c:Code) (st:TS) (x:TX) (st':TS)
def Ev.trace {R:Type}:Ev R→List An→List Qr→Option (R×List Qr)
 | .fail,_,_=>none
 | .ret r,as,qs=>match as with|[]=>some (r,qs)|_=>none
 | .test b k,as,qs=>match as with| .b x::as=>(k x).trace as (.test b x::qs)|_=>none
 | .row rows i k,as,qs=>match as with| .row c::as=>(k c).trace as (.row rows i c::qs)|_=>none
 | .byte s i k,as,qs=>match as with| .n b::as=>(k b).trace as (.byte s i b::qs)|_=>none
 | .bytes rows k,as,qs=>match as with| .ns l::as=>(k l).trace as (.bytes rows l::qs)|_=>none
 | .call f vs k,as,qs=>match as with| .call r fs::as=>fL KU vs fun vs=>(k r fs).trace as (.call f vs r fs::qs)|_=>none
 | .loop f i c st k,as,qs=>match as with| .loop x st'::as=>(k x st').trace as (.loop f i c st x st'::qs)|_=>none
 | .both _ _,_,_=>none
def Qr.ok (cf:Cf) (lp:Lp):Qr→Prop
 | .test b x=>b=x
 | .row rows i c=>rowAt rows i=some c
 | .byte s i b=>uI s i=some b
 | .bytes rows ns=>nj rows=some ns
 | .call f vs r fs=>cf f vs r fs
 | .loop f i c st x st'=>lp f i c st fun x1 bD=>x1=x∧bD=st'
section
variable {Z : Type}
theorem kQ {α:Type} {f:α→(α→Z)→Z} (h: ∀a K,f a K=K a): ∀(l:List α) (K:List α→Z),fL f l K=K l
 |[],K=>rfl
 |a::r,K=>by simp only[fL,h,kQ h r]
theorem GO (b:Bool) (K:Bool→Z):fB b K=K b:=by cases b<;>rfl
theorem GP (b:Nat) (K:Nat→Z):fN b K=K b:=rfl
theorem GQ (p:Option (Int×Nat)) (K:Option (Int×Nat)→Z):J8 p K=K p:=by cases p<;>rfl
theorem I0 (p:Option (Int×Int)) (K:Option (Int×Int)→Z):Mw p K=K p:=by cases p<;>rfl
theorem K2 (p:Option (Nat×Int×Nat)) (K:Option (Nat×Int×Nat)→Z):PE p K=K p:=by cases p<;>rfl
theorem Ke (v:Value) (K:Value→Z):fV v K=K v:=by cases v<;>rfl
theorem Bh (c:TC) (K:TC→Z):Mx c K=K c:=by cases c<;>simp only[Mx,Ke]
theorem GR (e:CE) (K:CE→Z):NO e K=K e:=by
 cases e<;>simp only[NO,Ke,I0,K2,kQ GP]
theorem GS (c:gX) (K:gX→Z):Gy c K=K c:=by cases c<;>simp only[Gy,GO,kQ GR]
theorem K3 (e:TE) (K:TE→Z):Oo e K=K e:=by
 cases e<;>simp only[Oo,GO,kQ GS,kQ GP,kQ Bh,GQ]
theorem K4 (b:OB) (K:OB→Z):Oq b K=K b:=by cases b;simp only[Oq,GO]
theorem GU (v:TV) (K:TV→Z):KU v K=K v:=by
 cases v<;>simp only[KU,Gz,Bh,kQ Bh]
 rw[kQ (fun a K=>by cases a;simp only[Gz,kQ Bh])]
theorem iT (st:TS) (K:TS→Z):FI st K=K st:=by
 cases st;simp only[FI]
 rw[kQ (fun a K=>by cases a;simp only[K3]),kQ (fun a K=>by cases a;simp only[kQ GR]),kQ (fun a K=>by cases a;simp only[K4])]
end
theorem cj {R:Type} {cf cf':Cf} {lp lp':Lp} (hc: ∀f vs r fs,cf f vs r fs→cf' f vs r fs) (uD: ∀f i c st (Q Q':TX→TS→Prop),(∀x s,Q x s→Q' x s)→lp f i c st Q→lp' f i c st Q') {Q Q':R→Prop} (hQ: ∀r,Q r→Q' r):
 ∀(e:Ev R),e.holds cf lp Q→e.holds cf' lp' Q'
 | .fail,h=>h
 | .ret r,h=>hQ r h
 | .test b k,h=>cj hc uD hQ (k b) h
 | .row rows i k,⟨c,h1,h2⟩=>⟨c,h1,cj hc uD hQ (k c) h2⟩
 | .byte rows i k,⟨c,h1,h2⟩=>⟨c,h1,cj hc uD hQ (k c) h2⟩
 | .bytes rows k,⟨c,h1,h2⟩=>⟨c,h1,cj hc uD hQ (k c) h2⟩
 | .call f vs k,⟨r,fs,h1,h2⟩=>⟨r,fs,hc _ _ _ _ h1,cj hc uD hQ (k r fs) h2⟩
 | .loop f i c st k,h=>uD _ _ _ _ _ _ (fun x s hxs=>cj hc uD hQ (k x s) hxs) h
 | .both a b,⟨r,h1,h2,h3⟩=>⟨r,cj hc uD (fun _ h=>h) a h1,cj hc uD (fun _ h=>h) b h2,hQ r h3⟩
section
variable {C : eZ}
theorem q0 {cf cf':Cf} {lp lp':Lp} (hc: ∀f vs r fs,cf f vs r fs→cf' f vs r fs) (uD: ∀f i c st (Q Q':TX→TS→Prop),(∀x s,Q x s→Q' x s)→lp f i c st Q→lp' f i c st Q')
 {fx:List Nat} {f i:Nat} {c:Code} {Q Q':TX→TS→Prop} (hQ: ∀x s,Q x s→Q' x s): ∀(n n':Nat),n≤n'→ ∀(st:TS),iter C cf lp fx f i c Q n st→iter C cf' lp' fx f i c Q' n' st
 |0,_,_,_,h=>h.elim
 |n+1,0,hn,_,_=>absurd hn aB
 |n+1,n'+1,hn,st,h=>by
  refine cj hc uD (fun p hp=> ?_) _ h;obtain⟨x,s⟩:=p
  cases x with
  |norm=>
   simp only at hp ⊢;rw[iT] at hp ⊢;exact q0 hc uD hQ n n' aB _ hp
  |ex id=>exact hQ _ _ hp
  |ret=>exact hQ _ _ hp
theorem g7 {cf cf':Cf} (hc: ∀f vs r fs,cf f vs r fs→cf' f vs r fs) {k k':Nat} (hk:k≤k') {fx:List Nat}: ∀(n:Nat) (f i:Nat) (c:Code) (st:TS) (Q Q':TX→TS→Prop),(∀x s,Q x s→Q' x s)→
 DI C cf k fx n f i c st Q→DI C cf' k' fx n f i c st Q'
 |0,_,_,_,_,_,_,_,h=>h.elim
 |n+1,f,i,c,st,Q,Q',hQ,h=>q0 hc (g7 hc hk n) hQ k k' hk st h
theorem qe: ∀(k:Nat) (f:FuncId) (vs:List TV) (r:TV) (fs:List TV),dw C k f vs r fs→dw C (k+1) f vs r fs
 |0,_,_,_,_,h=>h.elim
 |k+1,f,vs,r,fs,h=>by
  unfold dw at h ⊢
  cases hx:C.ext f with
  |some p=>rw[hx] at h;exact h
  |none=>rw[hx] at h;exact cj (qe k) (g7 (qe k) (Nat.le_succ k) 4) (fun _ h=>h) _ h
theorem DJ {k:Nat} {f:FuncId} {vs:List TV} {r:TV} {fs:List TV} (hx:C.ext f=none) (h:(body C f vs).holds (dw C k) (DI C (dw C k) k (xP (C.sig f)) 4) fun p=>p=(r,fs)):dw C (k+1) f vs r fs:=by
 unfold dw;rw[hx];exact h
theorem FJ {k:Nat} {f:FuncId} {vs:List TV} {r:TV} {fs:List TV} {p:List TV→Option (TV×List TV)} (hx:C.ext f=some p) (h:p vs=some (r,fs)):dw C (k+1) f vs r fs:=by
 unfold dw;rw[hx];exact h
theorem fo {k k':Nat} (hk:k≤k') {f:FuncId} {vs:List TV} {r:TV} {fs:List TV} (h:dw C k f vs r fs):dw C k' f vs r fs:=by
 induction hk with
 |refl=>exact h
 |step _ ih=>exact qe _ _ _ _ _ ih
def uS (C:eZ) (k:Nat) (fx:List Nat) (n:Nat) (f i:Nat) (c:Code) (m:Nat) (st:TS) (x:TX) (st':TS):Prop:=
 iter C (dw C k) (DI C (dw C k) k fx n) fx f i c (fun x1 bD=>x1=x∧bD=st') m st
theorem uS.ok {k:Nat} {fx:List Nat} {n f i:Nat} {c:Code} {m:Nat} {st:TS} {x:TX} {st':TS} (h:uS C k fx n f i c m st x st') (hm:m≤k):(Qr.loop f i c st x st').ok (dw C k) (DI C (dw C k) k fx (n+1)):=
 q0 (fun _ _ _ _ h=>h) (g7 (fun _ _ _ _ h=>h) (bH _) n) (fun _ _ h=>h) m k hm st h
end
end Go.T
namespace Go.T
def lW (rows:List (List TC)) (i f:Nat):Option TC:=(rows[i]?).bind fun r=>r[f]?
def wE:Value→Prop
 | .int _ _=>True
 | .bool _=>True
 | .string _=>True
 | .slice _ _ _=>True
 |_=>False
def Mode.nx:Mode→Mode
 | .deep=> .deep
 |_=> .snap
structure Mz (w:World) (R:Nat→Prop) (m:Mode) (S:Nat→Prop) (z:Nat) (rows:List (List TC)) (A:Option Addr) (c:Nat) (u:Nat→Nat→Value) (T:Nat→Nat→Nat→Prop):Prop where
 len:rows.length≤c
 cap:c≤maxLen
 z0:0<z
 width: ∀r∈rows,r.length=z
 addr:rows≠[]→ ∃ad,A=some ad
 cell: ∀ad,A=some ad→ ∀i f tc,lW rows i f=some tc→w.cell? (ad.add (i*z+f))=some (u i f)
 read:m= .snap→ ∀ad,A=some ad→rows≠[]→R ad.block
 own:m≠ .snap→(A=none→c=0)∧ ∀ad,A=some ad→S ad.block∧ad.spot=none∧
  ∀j,j<c*z→(∃x,w.cell? ⟨ad.block,ad.off+j,none⟩=some x)∧w.frozen? ⟨ad.block,ad.off+j,none⟩=false
 soft:m≠ .snap→1<z→ ∀ad,A=some ad→ ∀i,w.frozen? ⟨ad.block,i,none⟩=false
 gU:m= .deep→ ∀i f k,T i f k→S k∧(∀ad,A=some ad→k≠ad.block)∧ ∀i' f',T i' f' k→i'=i∧f'=f
inductive ah (w:World) (R:Nat→Prop):Mode→(Nat→Prop)→TC→Value→Prop
 |sc (m:Mode) (S:Nat→Prop) (v:Value) (h:wE v):ah w R m S (.sc v) v
 |sub (m:Mode) (S:Nat→Prop) (z:Nat) (rows:List (List TC)) (A:Option Addr) (c:Nat) (u:Nat→Nat→Value) (T:Nat→Nat→Nat→Prop)
   (h:Mz w R m S z rows A c u T) (hn: ∀i f tc,lW rows i f=some tc→ah w R m.nx (T i f) tc (u i f)):
   ah w R m S (.sub z rows) (.slice A rows.length c)
 |any (m:Mode) (S:Nat→Prop) (v:Value) (h:v.oneCell'=true∧v.cells= #[v]):ah w R m S .any v
variable {w w' : World} {R R' S S' : Nat → Prop} {m : Mode} {c : TC} {v : Value}
theorem uT {rows:List (List TC)} {i f:Nat} {tc:TC} (h:lW rows i f=some tc):rows≠[]:=by
 rintro rfl;simp[lW] at h
theorem ck {w w':World} {a:Addr} (h:w'.heap[a.block]?=w.heap[a.block]?):w'.cell? a=w.cell? a:=by
 unfold World.cell?;rw[h]
theorem ek {w w':World} {a:Addr} (h:w'.heap[a.block]?=w.heap[a.block]?):w'.frozen? a=w.frozen? a:=by
 unfold World.frozen?;rw[h]
theorem aP (a:Addr) (n:Nat):(a.add n).block=a.block:=by unfold Addr.add;split<;>rfl
theorem ah.mono (h:ah w R m S c v) (hS: ∀k,S k→S' k):ah w R m S' c v:=by
 cases h with
 |any _ _ _ h=>exact .any _ _ _ h
 |sc _ _ _ h=>exact .sc _ _ _ h
 |sub _ _ z rows A c u T h hn=>
  refine .sub _ _ z rows A c u T {h with own:=fun hm=>⟨(h.own hm).1,fun ad ha=>⟨hS _ ((h.own hm).2 ad ha).1,((h.own hm).2 ad ha).2⟩⟩,gU:=fun hm i f k hk=>⟨hS _ (h.gU hm i f k hk).1,(h.gU hm i f k hk).2⟩} hn
theorem kj {m:Mode} (h:m.nx≠ .snap):m= .deep:=by cases m<;>simp_all [Mode.nx]
theorem ah.move (h:ah w R m S c v):(∀k,R k→R' k∧w'.heap[k]?=w.heap[k]?)→(m≠ .snap→ ∀k,S k→w'.heap[k]?=w.heap[k]?)→ah w' R' m S c v:=by
 induction h with
 |any _ _ _ h=>exact fun _ _=> .any _ _ _ h
 |sc _ _ _ h=>exact fun _ _=> .sc _ _ _ h
 |sub m S z rows A c u T h hn ih=>
  intro hR hS;refine .sub _ _ z rows A c u T {h with cell:= ?_,read:= ?_,own:= ?_,soft:=fun hm h1 ad ha i=>by rw[ek (w:=w) (a:=⟨ad.block,i,none⟩) (hS hm _ ((h.own hm).2 ad ha).1)];exact h.soft hm h1 ad ha i} fun i f tc ht=>ih i f tc ht hR fun hm k hk=> ?_
  ·intro ad ha i f tc ht
   rw[ck (w:=w)]
   ·exact h.cell ad ha i f tc ht
   ·rw[aP]
    by_cases hm:m= .snap
    ·exact(hR _ (h.read hm ad ha (uT ht))).2
    ·exact hS hm _ ((h.own hm).2 ad ha).1
  ·exact fun hm ad ha hne=>(hR _ (h.read hm ad ha hne)).1
  ·intro hm
   refine⟨(h.own hm).1,fun ad ha=>⟨((h.own hm).2 ad ha).1,((h.own hm).2 ad ha).2.1,fun j hj=> ?_⟩⟩;have hb:=hS hm _ ((h.own hm).2 ad ha).1;obtain⟨⟨x,hx⟩,hf⟩:=((h.own hm).2 ad ha).2.2 j hj;exact⟨⟨x,by rw[ck (w:=w) (by exact hb)];exact hx⟩,by rw[ek (w:=w) (by exact hb)];exact hf⟩
  ·have:=kj hm
   subst this;exact hS dK k (h.gU rfl i f k hk).1
theorem ah.freeze (h:ah w R m S c v):(∀k,R k→R' k)→(m≠ .snap→ ∀k,S k→R' k)→ah w R' .snap S' c v:=by
 induction h generalizing S' with
 |any _ _ _ h=>exact fun _ _=> .any _ _ _ h
 |sc _ _ _ h=>exact fun _ _=> .sc _ _ _ h
 |sub m S z rows A c u T h hn ih=>
  intro hR hS;refine .sub _ _ z rows A c u (fun _ _ _=>False) {h with read:= ?_,own:=fun hm=>absurd rfl hm,soft:=fun hm=>absurd rfl hm,gU:=fun hm=>by cases hm} fun i f tc ht=>ih i f tc ht hR fun hm k hk=> ?_
  ·intro _ ad ha hne
   by_cases hm:m= .snap
   ·exact hR _ (h.read hm ad ha hne)
   ·exact hS hm _ ((h.own hm).2 ad ha).1
  ·have:=kj hm
   subst this;exact hS dK k (h.gU rfl i f k hk).1
theorem ah.gP (h:ah w R .snap S c v) (hR: ∀k,R k→R' k):ah w R' .snap S' c v:=h.freeze hR fun h=>absurd rfl h
end Go.T
namespace Go.T
theorem dN {o:Nat}: ∀{l:List Nat},ei o l=true↔o∈l
 |[]=>by simp[ei]
 |a::r=>by
  simp only[ei,bC]
  cases h:Nat.beq a o with
  |true=>simp[cX h]
  |false=>simp only[dN (l:=r)];have:=iN h;simp[Ne.symm this]
theorem bI {o:Nat} {l:List Nat}:ei o l=false↔o∉l:=by
 rw[←dN];simp
theorem nt {o d:Nat}: ∀{l:List Nat},d∈Cn o l↔d∈l∧d≠o
 |[]=>by simp[Cn]
 |a::r=>by
  simp only[Cn]
  cases h:Nat.beq a o with
  |true=>
   have h1:=cX h;subst h1;simp only[nt (l:=r),bC];exact⟨fun⟨x,y⟩=>⟨.inr x,y⟩,fun⟨x,y⟩=>⟨x.resolve_left y,y⟩⟩
  |false=>
   have h1:=iN h;simp only[bC,nt (l:=r)]
   constructor
   ·rintro(rfl|⟨x,y⟩)
    ·exact⟨.inl rfl,h1⟩
    ·exact⟨.inr x,y⟩
   ·rintro⟨rfl|x,y⟩
    ·exact .inl rfl
    ·exact .inr ⟨x,y⟩
theorem iE {a:List Nat} {l:List Nat} (h:jY a l=false) {x:Nat} (hx:x∈a):x∉l:=by
 induction a with
 |nil=>cases hx
 |cons y r ih=>
  simp only[jY] at h
  cases h1:ei y l with
  |true=>rw[h1] at h;cases h
  |false=>
   rw[h1] at h;rcases bC.1 hx with rfl|hx
   ·exact bI.1 h1
   ·exact ih h hx
theorem beq_false {a b:Nat} (h:a≠b):Nat.beq a b=false:=by
 cases h1:Nat.beq a b with
 |true=>exact absurd (cX h1) h
 |false=>rfl
theorem qf (a:Nat):Nat.beq a a=true:=by simp
section
variable {α β : Type}
theorem bX (i j:Nat) (e:α): ∀(l:List (Nat×α)),aa j (fP i e l)=if j=i then some e else aa j l
 |[]=>by
  simp only[fP,aa]
  by_cases h:j=i
  ·subst h;simp
  ·rw[beq_false (Ne.symm h),aD h]
 |(a,x)::r=>by
  have ih:=bX i j e r;simp only[fP]
  cases h1:Nat.beq a i with
  |true=>
   have h1:=cX h1;subst h1;simp only[aa]
   by_cases h:j=a
   ·subst h;simp
   ·rw[beq_false (Ne.symm h),aD h]
  |false=>
   have h1:=iN h1
   cases h2:Nat.ble i a with
   |true=>
    simp only[aa]
    by_cases h:j=i
    ·subst h;simp
    ·rw[beq_false (Ne.symm h),aD h]
   |false=>
    simp only[aa]
    by_cases h3:a=j
    ·subst h3;rw[qf,aD h1]
    ·rw[beq_false h3];exact ih
theorem dh (i j:Nat): ∀(l:List (Nat×α)),aa j (gY i l)=if j=i then none else aa j l
 |[]=>by simp[gY,aa]
 |(a,x)::r=>by
  have ih:=dh i j r;simp only[gY]
  cases h1:Nat.beq a i with
  |true=>
   have h1:=cX h1;subst h1;simp only[aa,ih]
   by_cases h:j=a
   ·simp[h]
   ·rw[beq_false (Ne.symm h)]
  |false=>
   have h1:=iN h1;simp only[aa]
   by_cases h3:a=j
   ·subst h3;rw[qf,aD h1]
   ·rw[beq_false h3];exact ih
theorem jl (f:α→α) (j:Nat): ∀(l:List (Nat×α)),aa j (mapA f l)=(aa j l).map f
 |[]=>rfl
 |(a,x)::r=>by
  simp only[mapA,aa]
  cases Nat.beq a j with
  |true=>rfl
  |false=>exact jl f j r
theorem xQ (l:List Nat) (j:Nat): ∀(m:List (Nat×α)),aa j (oT l m)=if j∈l then aa j m else none
 |[]=>by simp[oT,aa]
 |(a,x)::r=>by
  have ih:=xQ l j r;simp only[oT]
  cases h1:ei a l with
  |true=>
   have h1:=dN.1 h1;simp only[aa]
   by_cases h:a=j
   ·subst h;rw[qf,aO h1]
   ·rw[beq_false h];exact ih
  |false=>
   have h1:=bI.1 h1;simp only[aa,ih]
   by_cases h:a=j
   ·subst h;rw[aD h1,aD h1]
   ·rw[beq_false h]
end
structure Fp where
 I:Nat→Prop
 S:Nat→Nat→Prop
 V:Nat→Value
 β:Nat→Addr
def rd (φ:Fp) (ds:List Nat) (k:Nat):Prop:=φ.I k∨ ∃d,d∈ds∧φ.S d k
abbrev uF:Nat→Prop:=fun _=>False
def OB.m (b:OB):Mode:=if b.deep then .deep else .top
def fE (w:World) (φ:Fp) (o:Nat) (b:OB):Prop:=ah w φ.I b.m (φ.S o) (.sub b.z b.rows) (φ.V o)
def oU (z n:Nat) (l h:Int) (V v:Value):Prop:=
 0≤l∧l≤h∧h≤n∧ ∃A A' c,V= .slice A n c∧v= .slice A' (h.toNat-l.toNat) (c-l.toNat)∧(c≠l.toNat→A'=A.map fun a=>a.add (l.toNat*z))∧(A=none→A'=none)∧
  ∀ad,A=some ad→ ∃ad',A'=some ad'∧ad'.block=ad.block∧(ad.spot=none→ad'.spot=none)
def aj (ob:List (Nat×OB)) (d:Nat):Prop:= ∃b,aa d ob=some b
def EN (ob:List (Nat×OB)) (w:World) (φ:Fp) (z:Nat) (rows:List (List TC)) (v:Value) (o:Nat) (i:Int) (f:Nat):Prop:=
 ∃b,aa o ob=some b∧0≤i∧lW b.rows i.toNat f=some (.sub z rows)∧ ∃ad n c,φ.V o= .slice (some ad) n c∧w.cell? (ad.add (i.toNat*b.z+f))=some v
def bh (ob:List (Nat×OB)) (w:World) (φ:Fp) (e:CE) (v:Value):Prop:=
 match e with
 | .sc x=>v=x∧wE x
 | .nil z=>v= .slice none 0 0∧0<z
 | .ref o cut=> ∃b,aa o ob=some b∧match cut with
   |none=>v=φ.V o
   |some (l,h)=>oU b.z b.rows.length l h (φ.V o) v
 | .snap ds loc z rows=>(∀d∈ds,d=0∨aj ob d)∧ah w (rd φ ds) .snap uF (.sub z rows) v∧ ∀o i f,loc=some (o,i,f)→o∈ds∧EN ob w φ z rows v o i f
 | .gone=>True
def eM (ob:List (Nat×OB)) (w:World) (φ:Fp) (c:gX) (u:Value):Prop:=
 match c with
 | .mk true cs=> ∃xs:Array Value,u= .agg xs∧xs.size=cs.length∧ ∀(j:Nat) (e:CE),cs[j]?=some e→ ∃x,xs[j]?=some x∧x.cells= #[x]∧bh ob w φ e x
 | .mk false cs=> ∃e,cs=[e]∧u.cells= #[u]∧bh ob w φ e u
 | .ptr b=>u= .pointer (some (φ.β b))
def aV (ob:List (Nat×OB)) (w:World) (φ:Fp) (e:TE) (v:Value):Prop:=
 match e with
 | .dead=>True
 | .v true es=> ∃vs:Array Value,v= .tuple vs∧vs.size=es.length∧ ∀(k:Nat) (c:gX),es[k]?=some c→ ∃u,vs[k]?=some u∧eM ob w φ c u
 | .v false es=> ∃c,es=[c]∧eM ob w φ c v
 | .bp b off=>v= .pointer (some ((φ.β b).add off))
 | .ep ds cells=>(∀d∈ds,d=0∨aj ob d)∧ ∃ad,v= .pointer (some ad)∧(cells≠[]→rd φ ds ad.block)∧ ∀(j:Nat) (tc:TC),cells[j]?=some tc→ ∃u,w.cell? (ad.add j)=some u∧ah w (rd φ ds) .snap uF tc u
 | .er o path i f=> ∃b,aa o ob=some b∧0≤i∧ ∃ad n c,φ.V o= .slice (some ad) n c∧match path with
   |none=>v= .pointer (some (ad.add (i.toNat*b.z+f)))
   |some (i0,f0)=>0≤i0∧ ∃z1 g9,lW b.rows i0.toNat f0=some (.sub z1 g9)∧ ∃ad1 n1 c1,w.cell? (ad.add (i0.toNat*b.z+f0))=some (.slice (some ad1) n1 c1)∧
    v= .pointer (some (ad1.add (i.toNat*z1+f)))
 | .fn f caps=>v= .func (.func f) #[] (caps.map fun b=>Value.pointer (some (φ.β b))).toArray
 | .kb b=>v= .bool b
structure EO (F:Nat→Prop) (w0 w:World):Prop where
 os:w.os=w0.os
 tape:w.tape=w0.tape
 output:w.output=w0.output
 size:w0.heap.size≤w.heap.size
 block: ∀k,k<w0.heap.size→ ¬F k→w.heap[k]?=w0.heap[k]?
structure Arg where
 all:Nat→Prop
 sh:Nat→Prop
structure Sep (F:Nat→Prop) (A:Arg) (w0 w:World) (φ:Fp) (bx:List (Nat×List CE)) (ob:List (Nat×OB)):Prop where
 arg:φ.S 0=A.all
 nz: ∀o,aj ob o→o≠0
 apart: ∀o o' k,aj ob o→aj ob o'→φ.S o k→φ.S o' k→o=o'
 read: ∀o k,aj ob o→φ.S o k→ ¬φ.I k
 fresh: ∀o k,aj ob o→φ.S o k→k<w.heap.size∧(w0.heap.size≤k∨F k)
 ro: ∀k,φ.I k→k<w.heap.size∧(w0.heap.size≤k∨F k∨A.sh k)
 fA: ∀k,A.all k→k<w0.heap.size∧ ¬F k
 box: ∀b cs,aa b bx=some cs→ng b=true→ ¬φ.I (φ.β b).block∧(∀o,aj ob o→ ¬φ.S o (φ.β b).block)∧(w0.heap.size≤(φ.β b).block∨F (φ.β b).block)∧
  ∀b' cs',aa b' bx=some cs'→b'≠b→(φ.β b').block≠(φ.β b).block
 spot: ∀b cs,aa b bx=some cs→(ng b=true→(φ.β b).spot=none)∧(φ.β b).block<w.heap.size∧(ng b=false→A.all (φ.β b).block)
 soft: ∀b cs j,aa b bx=some cs→ng b=true→j<cs.length→w.frozen? ((φ.β b).add j)=false
structure an (F:Nat→Prop) (A:Arg) (w0:World) (φ:Fp) (st:TS) (tm:Array Value) (w:World):Prop where
 tmp: ∀i,aV st.ob w φ (st.get i) (tm.getD i undef)
 box: ∀b cs,aa b st.bx=some cs→ ∀(j:Nat) (e:CE),cs[j]?=some e→ ∃v,w.cell? ((φ.β b).add j)=some v∧v.cells= #[v]∧bh st.ob w φ e v
 obj: ∀o b,aa o st.ob=some b→fE w φ o b
 sep:Sep F A w0 w φ st.bx st.ob
 frm:EO F w0 w
def Rel (F:Nat→Prop) (A:Arg) (w0:World) (st:TS) (tm:Array Value) (w:World):Prop:= ∃φ,an F A w0 φ st tm w
section
variable {ob qT : List (Nat × OB)} {w w' : World} {φ φ' : Fp} {f : CE → CE} {g : TE → TE}
def kR (f:CE→CE):gX→gX
 | .mk a cs=> .mk a (cs.map f)
 | .ptr b=> .ptr b
theorem kk (f:CE→CE): ∀(es:List gX) (k:Nat),(ej f es)[k]?=(es[k]?).map (kR f)
 |[],_=>by simp[ej]
 | .mk a cs::r,0=>by simp[ej,kR]
 | .ptr b::r,0=>by simp[ej,kR]
 | .mk a cs::r,k+1=>by simp[ej,kk f r k]
 | .ptr b::r,k+1=>by simp[ej,kk f r k]
theorem hJ (f:CE→CE): ∀(es:List gX),(ej f es).length=es.length
 |[]=>rfl
 | .mk a cs::r=>by simp[ej,hJ f r]
 | .ptr b::r=>by simp[ej,hJ f r]
theorem eM.sn (hβ:φ'.β=φ.β) (hc: ∀e v,bh ob w φ e v→bh qT w' φ' (f e) v) {c:gX} {u:Value} (h:eM ob w φ c u):
 eM qT w' φ' (kR f c) u:=by
 cases c with
 |ptr b=>simp only[eM,kR] at h ⊢;rw[hβ];exact h
 |mk a cs=>
  cases a with
  |true=>
   obtain⟨xs,h1,h2,h3⟩:=h;refine⟨xs,h1,by simp[h2],fun j e he=> ?_⟩;rw[eF] at he
   cases h4:cs[j]? with
   |none=>rw[h4] at he;cases he
   |some e0=>
    rw[h4] at he;simp only[e9,aE] at he;subst he;obtain⟨x,hx,hx1,hok⟩:=h3 j e0 h4;exact⟨x,hx,hx1,hc _ _ hok⟩
  |false=>
   obtain⟨e,rfl,h2,h3⟩:=h;exact⟨f e,rfl,h2,hc _ _ h3⟩
theorem aV.sn (hβ:φ'.β=φ.β) (hc: ∀e v,bh ob w φ e v→bh qT w' φ' (f e) v) (ht: ∀e v,(∀t es,e≠ .v t es)→aV ob w φ e v→aV qT w' φ' (g e) v) {e:TE} {v:Value} (h:aV ob w φ e v):
 aV qT w' φ' (mQ f g e) v:=by
 by_cases hv: ∃t es,e= .v t es
 ·obtain⟨tup,es,rfl⟩:=hv
  cases tup with
  |true=>
   obtain⟨vs,h1,h2,h3⟩:=h;refine⟨vs,h1,by rw[hJ];exact h2,fun k c hk=> ?_⟩;rw[kk] at hk
   cases h4:es[k]? with
   |none=>rw[h4] at hk;cases hk
   |some c0=>
    rw[h4] at hk;simp only[e9,aE] at hk;obtain⟨u,hu,hok⟩:=h3 k c0 h4;exact⟨u,hu,by rw[←hk];exact hok.sn hβ hc⟩
  |false=>
   obtain⟨c,rfl,hok⟩:=h;refine⟨_,?_,hok.sn hβ hc⟩
   cases c<;>rfl
 ·have h1:mQ f g e=g e:=by cases e<;>first|rfl|exact absurd ⟨_,_,rfl⟩ hv
  rw[h1];exact ht e v (fun t es he=>hv ⟨t,es,he⟩) h
end
theorem get_map (f:CE→CE) (g:TE→TE) (h:List (Nat×OB)→List (Nat×OB)) (hd:g .dead= .dead) (st:TS) (i:Nat):(lQ f g h st).get i=mQ f g (st.get i):=by
 unfold TS.get lQ;simp only[jl]
 cases aa i st.tm with
 |none=>exact hd.symm
 |some e=>rfl
variable {F : Nat → Prop} {A : Arg} {w0 w w' : World} {φ φ' : Fp} {st st' : TS} {tm r9 : Array Value}
theorem an.sn (h:an F A w0 φ st tm w) {f:CE→CE} {g:TE→TE} {k:List (Nat×OB)→List (Nat×OB)} (hd:g .dead= .dead) (hβ:φ'.β=φ.β)
 (hc: ∀e v,bh st.ob w φ e v→bh (k st.ob) w' φ' (f e) v) (ht: ∀e v,(∀t es,e≠ .v t es)→aV st.ob w φ e v→aV (k st.ob) w' φ' (g e) v)
 (hw: ∀b cs,aa b st.bx=some cs→ ∀j,j<cs.length→w'.cell? ((φ.β b).add j)=w.cell? ((φ.β b).add j))
 (ho: ∀o b,aa o (k st.ob)=some b→fE w' φ' o b) (hs:Sep F A w0 w' φ' (mapA (List.map f) st.bx) (k st.ob)) (hf:EO F w0 w'):an F A w0 φ' (lQ f g k st) tm w' where
 tmp i:=by rw[get_map f g k hd];exact(h.tmp i).sn hβ hc ht
 box b cs hb j e he:=by
  simp only[lQ,jl] at hb
  cases h1:aa b st.bx with
  |none=>rw[h1] at hb;cases hb
  |some cs0=>
   rw[h1] at hb;simp only[e9,aE] at hb;subst hb;rw[eF] at he
   cases h2:cs0[j]? with
   |none=>rw[h2] at he;cases he
   |some e0=>
    rw[h2] at he;simp only[e9,aE] at he;subst he;obtain⟨v,hv,h1c,hok⟩:=h.box b cs0 h1 j e0 h2;refine⟨v,?_,h1c,hc _ _ hok⟩;rw[hβ,hw b cs0 h1 j (List.getElem?_eq_some_iff.1 h2).1];exact hv
 obj:=ho
 sep:=hs
 frm:=hf
theorem Sep.boxes {bx bx':List (Nat×List CE)} {ob:List (Nat×OB)} (h:Sep F A w0 w φ bx ob) (hb: ∀b cs',aa b bx'=some cs'→ ∃cs,aa b bx=some cs∧cs'.length=cs.length):Sep F A w0 w φ bx' ob where
 arg:=h.arg
 nz:=h.nz
 apart:=h.apart
 read:=h.read
 fresh:=h.fresh
 ro:=h.ro
 fA:=h.fA
 box b cs' hl hw:=by
  obtain⟨cs,h1,_⟩:=hb b cs' hl;obtain⟨a1,a2,a3,a4⟩:=h.box b cs h1 hw;refine⟨a1,a2,a3,fun b' B8 hl' hne=> ?_⟩;obtain⟨cs2,h2,_⟩:=hb b' B8 hl';exact a4 b' cs2 h2 hne
 spot b cs' hl:=by obtain⟨cs,h1,_⟩:=hb b cs' hl;exact h.spot b cs h1
 soft b cs' j hl hw hj:=by obtain⟨cs,h1,h2⟩:=hb b cs' hl;exact h.soft b cs j h1 hw aB
theorem cP (f:CE→CE) {bx:List (Nat×List CE)}: ∀b cs',aa b (mapA (List.map f) bx)=some cs'→ ∃cs,aa b bx=some cs∧cs'.length=cs.length:=by
 intro b cs' h;rw[jl] at h
 cases h1:aa b bx with
 |none=>rw[h1] at h;cases h
 |some cs=>
  rw[h1] at h;simp only[e9,aE] at h;exact⟨cs,rfl,by rw[←h];simp⟩
theorem Sep.lt {bx:List (Nat×List CE)} {ob:List (Nat×OB)} (h:Sep F A w0 w φ bx ob) (hs:w0.heap.size≤w.heap.size) {d:Nat} (hd:d=0∨aj ob d) {k:Nat} (hk:φ.S d k):k<w.heap.size:=by
 rcases hd with rfl|hd
 ·rw[h.arg] at hk;exact dD (h.fA k hk).1 hs
 ·exact(h.fresh d k hd hk).1
theorem Sep.K5 {bx:List (Nat×List CE)} {ob:List (Nat×OB)} (h:Sep F A w0 w φ bx ob) (hs:w0.heap.size≤w.heap.size) {ds:List Nat} (hd: ∀d∈ds,d=0∨aj ob d) {k:Nat} (hk:rd φ ds k):k<w.heap.size:=by
 rcases hk with hk|⟨d,hm,hk⟩
 ·exact(h.ro k hk).1
 ·exact h.lt hs (hd d hm) hk
structure gn (w w':World):Prop where
 os:w'.os=w.os
 tape:w'.tape=w.tape
 output:w'.output=w.output
 size:w.heap.size≤w'.heap.size
 block: ∀k,k<w.heap.size→w'.heap[k]?=w.heap[k]?
theorem gn.refl (w:World):gn w w:=⟨rfl,rfl,rfl,bH _,fun _ _=>rfl⟩
theorem gn.alloc (w:World) (o:Obj):gn w (w.alloc o):=⟨rfl,rfl,rfl,by simp,fun k hk=>heap_alloc_old w o hk⟩
theorem gn.drew (w:World):gn w w.drew:=⟨rfl,rfl,rfl,bH _,fun _ _=>rfl⟩
theorem gn.trans {a b c:World} (h:gn a b) (k:gn b c):gn a c:=
 ⟨k.os.trans h.os,k.tape.trans h.tape,k.output.trans h.output,jW h.size k.size,fun i hi=>(k.block i (dD hi h.size)).trans (h.block i hi)⟩
theorem EO.DK (h:EO F w0 w) (g:gn w w'):EO F w0 w':=
 ⟨g.os.trans h.os,g.tape.trans h.tape,g.output.trans h.output,jW h.size g.size,fun k hk hf=>(g.block k (dD hk h.size)).trans (h.block k hk hf)⟩
theorem gn.cell (g:gn w w') {a:Addr} {v:Value} (h:w.cell? a=some v):w'.cell? a=some v:=by
 rw[ck (w:=w) (g.block _ (World.block_lt_of_cell? w a h))];exact h
theorem gn.EP (g:gn w w') {a:Addr} (h:a.block<w.heap.size):w'.cell? a=w.cell? a:=ck (g.block _ h)
theorem bh.stay {ob:List (Nat×OB)} (hI: ∀k,φ.I k→w'.heap[k]?=w.heap[k]?) (hS: ∀d k,d=0∨aj ob d→φ.S d k→w'.heap[k]?=w.heap[k]?)
 (hV: ∀o,aj ob o→ ∀ad n c,φ.V o= .slice (some ad) n c→ ∀i v,w.cell? (ad.add i)=some v→w'.cell? (ad.add i)=some v) {e:CE} {v:Value} (h:bh ob w φ e v):bh ob w' φ e v:=by
 cases e with
 |snap ds loc z rows=>
  obtain⟨h1,h2,h3⟩:=h;refine⟨h1,h2.move (fun k hk=>⟨hk,?_⟩) (fun hm=>absurd rfl hm),fun o i f hl=>⟨(h3 o i f hl).1,?_⟩⟩
  ·rcases hk with hk|⟨d,hd,hk⟩
   ·exact hI k hk
   ·exact hS d k (h1 d hd) hk
  ·obtain⟨b,a1,a2,a3,ad,n,c,a4,a5⟩:=(h3 o i f hl).2
   exact⟨b,a1,a2,a3,ad,n,c,a4,hV o ⟨b,a1⟩ ad n c a4 _ _ a5⟩
 |_=>exact h
theorem aV.stay {ob:List (Nat×OB)} (hI: ∀k,φ.I k→w'.heap[k]?=w.heap[k]?) (hS: ∀d k,d=0∨aj ob d→φ.S d k→w'.heap[k]?=w.heap[k]?)
 (hV: ∀o,aj ob o→ ∀ad n c,φ.V o= .slice (some ad) n c→ ∀i v,w.cell? (ad.add i)=some v→w'.cell? (ad.add i)=some v)
 (hA: ∀ad v,w.cell? ad=some v→(∀k,ad.block=k→w'.heap[k]?=w.heap[k]?)→w'.cell? ad=some v) (hE: ∀ds cells v,aV ob w φ (.ep ds cells) v→aV ob w' φ (.ep ds cells) v) {e:TE} {v:Value} (hv: ∀t es,e≠ .v t es)
 (h:aV ob w φ e v):aV ob w' φ e v:=by
 cases e with
 |v t es=>exact absurd rfl (hv t es)
 |ep ds cells=>exact hE ds cells v h
 |er o path i f=>
  obtain⟨b,h1,h2,ad,n,c,h3,h4⟩:=h;refine⟨b,h1,h2,ad,n,c,h3,?_⟩
  cases path with
  |none=>exact h4
  |some q=>
   obtain⟨i0,f0⟩:=q;obtain⟨a1,z1,g9,a2,ad1,n1,c1,a3,a4⟩:=h4;exact⟨a1,z1,g9,a2,ad1,n1,c1,hV o ⟨b,h1⟩ ad n c h3 _ _ a3,a4⟩
 |_=>exact h
theorem kT (st:TS):lQ id id id st=st:=by
 have h1: ∀(es:List gX),ej id es=es:=by
  intro es
  induction es with
  |nil=>rfl
  |cons c r ih=>cases c<;>simp[ej,ih]
 have h2: ∀e:TE,mQ id id e=e:=by
  intro e;cases e<;>first|rfl|(simp only[mQ,h1])
 have h3: ∀{α:Type} (f:α→α) (hf: ∀a,f a=a) (l:List (Nat×α)),mapA f l=l:=by
  intro α f hf l
  induction l with
  |nil=>rfl
  |cons a r ih=>obtain⟨j,x⟩:=a;simp only[mapA,hf,ih]
 unfold lQ;rw[h3 _ h2,h3 _ (fun l=>List.map_id l)]
 rfl
theorem Sep.DK {bx:List (Nat×List CE)} {ob:List (Nat×OB)} (h:Sep F A w0 w φ bx ob) (g:gn w w'):Sep F A w0 w' φ bx ob where
 arg:=h.arg
 nz:=h.nz
 apart:=h.apart
 read:=h.read
 fresh o k ho hk:=⟨dD (h.fresh o k ho hk).1 g.size,(h.fresh o k ho hk).2⟩
 ro k hk:=⟨dD (h.ro k hk).1 g.size,(h.ro k hk).2⟩
 fA:=h.fA
 box:=h.box
 spot b cs hb:=⟨(h.spot b cs hb).1,dD (h.spot b cs hb).2.1 g.size,(h.spot b cs hb).2.2⟩
 soft b cs j hb hw hj:=by
  rw[ek (w:=w) (g.block _ (by rw[aP];exact(h.spot b cs hb).2.1))];exact h.soft b cs j hb hw hj
theorem an.DK (h:an F A w0 φ st tm w) (g:gn w w'):an F A w0 φ st tm w':=by
 have hI: ∀k,φ.I k→w'.heap[k]?=w.heap[k]?:=fun k hk=>g.block k (h.sep.ro k hk).1;have hS: ∀d k,d=0∨aj st.ob d→φ.S d k→w'.heap[k]?=w.heap[k]?:=fun d k hd hk=>g.block k (h.sep.lt h.frm.size hd hk)
 have hE: ∀ds cells v,aV st.ob w φ (.ep ds cells) v→aV st.ob w' φ (.ep ds cells) v:=by
  intro ds cells v ⟨h1,ad,h2,hr,h3⟩;refine⟨h1,ad,h2,hr,fun j tc hj=> ?_⟩;obtain⟨u,h4,h5⟩:=h3 j tc hj;exact⟨u,g.cell h4,h5.move (fun k hk=>⟨hk,g.block k (h.sep.K5 h.frm.size h1 hk)⟩) (fun hm=>absurd rfl hm)⟩
 have:=h.sn (f:=id) (g:=id) (k:=id) (φ':=φ) (w':=w') rfl rfl (fun e v he=>he.stay hI hS (fun o ho ad n c hv i v hc=>g.cell hc))
  (fun e v hv he=>aV.stay hI hS (fun o ho ad n c hv i v hc=>g.cell hc) (fun ad v hc _=>g.cell hc) hE hv he)
  (fun b cs hb j hj=>g.EP (by rw[aP];exact(h.sep.spot b cs hb).2.1))
  (fun o b hb=>(h.obj o b hb).move (fun k hk=>⟨hk,hI k hk⟩) (fun _ k hk=>hS o k (.inr ⟨b,hb⟩) hk))
  (by
    have h3:mapA (List.map (id:CE→CE)) st.bx=st.bx:=by
     have:=congrArg TS.bx (kT st);exact this
    rw[h3]
    exact h.sep.DK g) (h.frm.DK g)
 rw[kT] at this;exact this
end Go.T
namespace Go.T
variable {F : Nat → Prop} {A : Arg} {w0 w w' : World} {φ φ' : Fp} {st st' : TS} {tm r9 : Array Value}
theorem getD_set_ne (tm:Array Value) (d i:Nat) (v x:Value) (h:i≠d):(tm.setIfInBounds d v).getD i x=tm.getD i x:=by
 simp only[jV,z7];rw[aD fun h'=>h h'.symm]
theorem zA (tm:Array Value) (d:Nat) (v x:Value) (h:d<tm.size):(tm.setIfInBounds d v).getD d x=v:=by
 simp only[jV,z7];simp[h]
theorem Bi (st:TS) (d i:Nat) (e:TE):(st.set d e).get i=if i=d then e else st.get i:=by
 unfold TS.get TS.set;simp only[bX]
 by_cases h:i=d
 ·simp[h]
 ·simp[h]
theorem an.zC (h:an F A w0 φ st tm w) {d:Nat} {e:TE} {v:Value} (hd:d<tm.size) (ht:aV st.ob w φ e v):an F A w0 φ (st.set d e) (tm.setIfInBounds d v) w where
 tmp i:=by
  rw[Bi]
  by_cases hi:i=d
  ·subst hi;rw[aO rfl,zA _ _ _ _ hd];exact ht
  ·rw[aD hi,getD_set_ne _ _ _ _ _ hi];exact h.tmp i
 box:=h.box
 obj:=h.obj
 sep:=h.sep
 frm:=h.frm
theorem an.I1 (h:an F A w0 φ st tm w) {d:Nat} {e:TE} (ht:aV st.ob w φ e (tm.getD d undef)):an F A w0 φ (st.set d e) tm w where
 tmp i:=by
  rw[Bi]
  by_cases hi:i=d
  ·subst hi;rw[aO rfl];exact ht
  ·rw[aD hi];exact h.tmp i
 box:=h.box
 obj:=h.obj
 sep:=h.sep
 frm:=h.frm
theorem Sep.sub {bx:List (Nat×List CE)} {ob qT:List (Nat×OB)} (h:Sep F A w0 w φ bx ob) (hd: ∀o,aj qT o→aj ob o):Sep F A w0 w φ bx qT where
 arg:=h.arg
 nz o ho:=h.nz o (hd o ho)
 apart o o' k h1 h2:=h.apart o o' k (hd o h1) (hd o' h2)
 read o k ho:=h.read o k (hd o ho)
 fresh o k ho:=h.fresh o k (hd o ho)
 ro:=h.ro
 fA:=h.fA
 box b cs hb hw:=by
  obtain⟨a1,a2,a3,a4⟩:=h.box b cs hb hw;exact⟨a1,fun o ho=>a2 o (hd o ho),a3,a4⟩
 spot:=h.spot
 soft:=h.soft
theorem fH {o d:Nat} {ob:List (Nat×OB)}:aj (gY o ob) d↔d≠o∧aj ob d:=by
 unfold aj;rw[dh]
 by_cases h:d=o
 ·simp[h]
 ·simp[h]
theorem kU {o d:Nat} {ob:List (Nat×OB)} (h:d≠o):aa d (gY o ob)=aa d ob:=by rw[dh,aD h]
theorem bh.kill {o:Nat} {ob:List (Nat×OB)} {e:CE} {v:Value} (h:bh ob w φ e v):bh (gY o ob) w φ (Ag o e) v:=by
 unfold Ag
 cases hd:ei o (cr e) with
 |true=>trivial
 |false=>
  have hd:=bI.1 hd
  cases e with
  |ref p cut=>
   simp only[cr,eG] at hd;obtain⟨b,h1,h2⟩:=h;exact⟨b,by rw[kU (Ne.symm hd)];exact h1,h2⟩
  |snap ds loc z rows=>
   simp only[cr] at hd;obtain⟨h1,h2,h3⟩:=h;refine⟨fun d hm=> ?_,h2,fun p i f hl=> ?_⟩
   ·rcases h1 d hm with h|h
    ·exact .inl h
    ·exact .inr (fH.2 ⟨fun e=>hd (e▸hm),h⟩)
   ·obtain⟨a1,b,a2,a3⟩:=h3 p i f hl
    have hp:p≠o:=fun e=>by subst e;exact hd a1
    exact⟨a1,b,by rw[kU hp];exact a2,a3⟩
  |_=>exact h
theorem aV.kill {o:Nat} {ob:List (Nat×OB)} {e:TE} {v:Value} (hv: ∀t es,e≠ .v t es) (h:aV ob w φ e v):aV (gY o ob) w φ (EG o e) v:=by
 cases e with
 |v t es=>exact absurd rfl (hv t es)
 |ep ds cells=>
  simp only[EG]
  cases hd:ei o ds with
  |true=>trivial
  |false=>
   have hd:=bI.1 hd;obtain⟨h1,h2⟩:=h;refine⟨fun d hm=> ?_,h2⟩;rcases h1 d hm with h|h
   ·exact .inl h
   ·exact .inr (fH.2 ⟨fun e=>hd (e▸hm),h⟩)
 |er p path i f=>
  simp only[EG]
  cases hd:Nat.beq p o with
  |true=>trivial
  |false=>
   have hd:=iN hd;obtain⟨b,h1,h2⟩:=h;exact⟨b,by rw[kU hd];exact h1,h2⟩
 |_=>exact h
theorem an.fD (h:an F A w0 φ st tm w) (o:Nat):an F A w0 φ (fD o st) tm w:=by
 refine h.sn (φ':=φ) rfl rfl (fun e v he=>he.kill) (fun e v hv he=>he.kill hv) (fun _ _ _ _ _=>rfl) (fun p b hb=> ?_) ?_ h.frm
 ·rw[dh] at hb
  split at hb
  ·cases hb
  ·exact h.obj p b hb
 ·exact(h.sep.boxes (cP _)).sub fun d hd=>(fH.1 hd).2
theorem dJ {o d:Nat}:aj (T.fD o st).ob d↔d≠o∧aj st.ob d:=fH
theorem Al {o d:Nat} (h:d≠o):aa d (T.fD o st).ob=aa d st.ob:=kU h
def Fp.more (φ:Fp) (X:Nat→Prop):Fp:={φ with I:=fun k=>φ.I k∨X k}
theorem Bj {X:Nat→Prop} {ds:List Nat} {k:Nat} (h:rd φ ds k):rd (φ.more X) ds k:=h.imp .inl id
theorem ah.gq {R R' S:Nat→Prop} {m:Mode} {c:TC} {v:Value} (h:ah w R m S c v) (hR: ∀k,R k→R' k):ah w R' m S c v:=
 h.move (fun k hk=>⟨hR k hk,rfl⟩) fun _ _ _=>rfl
theorem bh.more {X:Nat→Prop} {ob:List (Nat×OB)} {e:CE} {v:Value} (h:bh ob w φ e v):bh ob w (φ.more X) e v:=by
 cases e with
 |snap ds loc z rows=>
  obtain⟨h1,h2,h3⟩:=h;exact⟨h1,h2.gq fun k hk=>Bj hk,h3⟩
 |_=>exact h
theorem aV.more {X:Nat→Prop} {ob:List (Nat×OB)} {e:TE} {v:Value} (hv: ∀t es,e≠ .v t es) (h:aV ob w φ e v):aV ob w (φ.more X) e v:=by
 cases e with
 |v t es=>exact absurd rfl (hv t es)
 |ep ds cells=>
  obtain⟨h1,ad,h2,hr,h3⟩:=h;refine⟨h1,ad,h2,fun hc=>Bj (hr hc),fun j tc hj=> ?_⟩;obtain⟨u,h4,h5⟩:=h3 j tc hj;exact⟨u,h4,h5.gq fun k hk=>Bj hk⟩
 |_=>exact h
theorem uU (st:TS):mapA (List.map (id:CE→CE)) st.bx=st.bx:=congrArg TS.bx (kT st)
theorem an.more (h:an F A w0 φ st tm w) {X:Nat→Prop} (hX: ∀k,X k→k<w.heap.size∧(w0.heap.size≤k∨F k∨A.sh k)) (hS: ∀k o,X k→aj st.ob o→ ¬φ.S o k)
 (hB: ∀b cs,aa b st.bx=some cs→ng b=true→ ¬X (φ.β b).block):an F A w0 (φ.more X) st tm w:=by
 have:=h.sn (f:=id) (g:=id) (k:=id) (φ':=φ.more X) (w':=w) rfl rfl (fun e v he=>he.more) (fun e v hv he=>he.more hv) (fun _ _ _ _ _=>rfl)
  (fun o b hb=>(h.obj o b hb).gq fun k hk=> .inl hk)
  (by
    rw[uU]
    exact {
     arg:=h.sep.arg,nz:=h.sep.nz,apart:=h.sep.apart,fresh:=h.sep.fresh,fA:=h.sep.fA,spot:=h.sep.spot,soft:=h.sep.soft
     read:=fun o k ho hk hI=>hI.elim (h.sep.read o k ho hk) fun hx=>hS k o hx ho hk
     ro:=fun k hk=>hk.elim (h.sep.ro k) (hX k)
     box:=fun b cs hb hw=>by
      obtain⟨a1,a2,a3,a4⟩:=h.sep.box b cs hb hw
      exact⟨fun hI=>hI.elim a1 (hB b cs hb hw),a2,a3,a4⟩}) h.frm
 rw[kT] at this;exact this
def Fp.add (φ:Fp) (o:Nat) (X:Nat→Prop) (v:Value):Fp:={φ with S:=fun d k=>if d=o then X k else φ.S d k,V:=fun d=>if d=o then v else φ.V d}
theorem Bk {o:Nat} {X:Nat→Prop} {v:Value} {ds:List Nat} (hd:o∉ds) {k:Nat} (h:rd φ ds k):rd (φ.add o X v) ds k:=by
 rcases h with h|⟨d,hm,h⟩
 ·exact .inl h
 ·refine .inr ⟨d,hm,?_⟩
  show(if d=o then X k else φ.S d k)
  have hp:d≠o:=fun e=>by subst e;exact hd hm
  rw[aD hp];exact h
theorem j5 {o d:Nat} {X:Nat→Prop} {v:Value} (h:d≠o) {k:Nat}:(φ.add o X v).S d k=φ.S d k:=aD h
theorem GV {o d:Nat} {X:Nat→Prop} {v:Value} (h:d≠o):(φ.add o X v).V d=φ.V d:=aD h
theorem dA {o d:Nat} {b:OB} {ob:List (Nat×OB)}:aj (fP o b ob) d↔d=o∨aj ob d:=by
 unfold aj;rw[bX]
 by_cases h:d=o
 ·simp[h]
 ·simp[h]
theorem eo {o d:Nat} {b:OB} {ob:List (Nat×OB)} (h:d≠o):aa d (fP o b ob)=aa d ob:=by rw[bX,aD h]
theorem eE {o:Nat} {b:OB} {ob:List (Nat×OB)}:aa o (fP o b ob)=some b:=by rw[bX,aO rfl]
theorem bh.add {o:Nat} {b:OB} {X:Nat→Prop} {V:Value} {ob:List (Nat×OB)} (h0:o≠0) (hn: ¬aj ob o) {e:CE} {v:Value} (h:bh ob w φ e v):bh (fP o b ob) w (φ.add o X V) e v:=by
 cases e with
 |ref p cut=>
  obtain⟨b',h1,h2⟩:=h;have hp:p≠o:=fun e=>hn ⟨b',e▸h1⟩;refine⟨b',by rw[eo hp];exact h1,?_⟩;rw[GV hp];exact h2
 |snap ds loc z rows=>
  obtain⟨h1,h2,h3⟩:=h;have hd:o∉ds:=fun hm=>(h1 o hm).elim h0 hn;refine⟨fun d hm=>(h1 d hm).imp id fun h=>dA.2 (.inr h),h2.gq fun k hk=>Bk hd hk,fun p i f hl=>⟨(h3 p i f hl).1,?_⟩⟩;obtain⟨a1,b',a2,a3,a4,ad,n,c,a5,a6⟩:=h3 p i f hl;have hp:p≠o:=fun e=>hn ⟨b',e▸a2⟩;exact⟨b',by rw[eo hp];exact a2,a3,a4,ad,n,c,by rw[GV hp];exact a5,a6⟩
 |_=>exact h
theorem aV.add {o:Nat} {b:OB} {X:Nat→Prop} {V:Value} {ob:List (Nat×OB)} (h0:o≠0) (hn: ¬aj ob o) {e:TE} {v:Value} (hv: ∀t es,e≠ .v t es) (h:aV ob w φ e v):
 aV (fP o b ob) w (φ.add o X V) e v:=by
 cases e with
 |v t es=>exact absurd rfl (hv t es)
 |ep ds cells=>
  obtain⟨h1,ad,h2,hr,h3⟩:=h;have hd:o∉ds:=fun hm=>(h1 o hm).elim h0 hn;refine⟨fun d hm=>(h1 d hm).imp id fun h=>dA.2 (.inr h),ad,h2,fun hc=>Bk hd (hr hc),fun j tc hj=> ?_⟩;obtain⟨u,h4,h5⟩:=h3 j tc hj;exact⟨u,h4,h5.gq fun k hk=>Bk hd hk⟩
 |er p path i f=>
  obtain⟨b',h1,h2,ad,n,c,h3,h4⟩:=h;have hp:p≠o:=fun e=>hn ⟨b',e▸h1⟩;exact⟨b',by rw[eo hp];exact h1,h2,ad,n,c,by rw[GV hp];exact h3,h4⟩
 |_=>exact h
theorem I2 (st:TS) (o:Nat) (b:OB):st.KS o b=lQ id id (fP o b) st:=by
 have h:=kT st;unfold lQ at h ⊢;have h1:=congrArg TS.tm h;have h2:=congrArg TS.bx h;simp only at h1 h2;rw[h1,h2];rfl
theorem an.add (h:an F A w0 φ st tm w) {o:Nat} {b:OB} {X:Nat→Prop} {v:Value} (h0:o≠0) (hn: ¬aj st.ob o) (hc:ah w φ.I b.m X (.sub b.z b.rows) v)
 (hX: ∀k,X k→k<w.heap.size∧(w0.heap.size≤k∨F k)) (hI: ∀k,X k→ ¬φ.I k) (hS: ∀k d,X k→aj st.ob d→ ¬φ.S d k)
 (hB: ∀b cs,aa b st.bx=some cs→ng b=true→ ¬X (φ.β b).block):an F A w0 (φ.add o X v) (st.KS o b) tm w:=by
 rw[I2];refine h.sn (φ':=φ.add o X v) (w':=w) rfl rfl (fun e u he=>he.add h0 hn) (fun e u hv he=>he.add h0 hn hv) (fun _ _ _ _ _=>rfl) (fun p b' hb=> ?_) ?_ h.frm
 ·unfold fE
  by_cases hp:p=o
  ·subst hp
   rw[eE] at hb
   cases hb
   show ah w φ.I b.m (fun k=>if p=p then X k else φ.S p k) (.sub b.z b.rows) (if p=p then v else φ.V p);simp only[if_true];exact hc
  ·rw[eo hp] at hb
   have:=h.obj p b' hb;unfold fE at this;show ah w φ.I b'.m (fun k=>if p=o then X k else φ.S p k) (.sub b'.z b'.rows) (if p=o then v else φ.V p);simp only[aD hp];exact this
 ·rw[uU]
  exact {
   arg:=by
    show(fun k=>if 0=o then X k else φ.S 0 k)=A.all;simp only[aD (Ne.symm h0)];exact h.sep.arg
   nz:=fun d hd=>(dA.1 hd).elim (fun e=>e▸h0) (h.sep.nz d)
   apart:=fun d d' k h1 h2 h3 h4=>by
    by_cases e1:d=o
    ·by_cases e2:d'=o
     ·rw[e1,e2]
     ·subst e1
      rw[j5 e2] at h4
      have h3:X k:=by have IQ:(if d=d then X k else φ.S d k):=h3;simpa using IQ
      exact absurd h4 (hS k d' h3 ((dA.1 h2).resolve_left e2))
    ·rw[j5 e1] at h3
     by_cases e2:d'=o
     ·subst e2
      have h4:X k:=by have Qx:(if d'=d' then X k else φ.S d' k):=h4;simpa using Qx
      exact absurd h3 (hS k d h4 ((dA.1 h1).resolve_left e1))
     ·rw[j5 e2] at h4
      exact h.sep.apart d d' k ((dA.1 h1).resolve_left e1) ((dA.1 h2).resolve_left e2) h3 h4
   read:=fun d k hd hk=>by
    by_cases e1:d=o
    ·subst e1
     have hk:X k:=by have hk':(if d=d then X k else φ.S d k):=hk;simpa using hk'
     exact hI k hk
    ·rw[j5 e1] at hk
     exact h.sep.read d k ((dA.1 hd).resolve_left e1) hk
   fresh:=fun d k hd hk=>by
    by_cases e1:d=o
    ·subst e1
     have hk:X k:=by have hk':(if d=d then X k else φ.S d k):=hk;simpa using hk'
     exact hX k hk
    ·rw[j5 e1] at hk
     exact h.sep.fresh d k ((dA.1 hd).resolve_left e1) hk
   ro:=h.sep.ro
   fA:=h.sep.fA
   box:=fun b' cs hb hw=>by
    obtain⟨a1,a2,a3,a4⟩:=h.sep.box b' cs hb hw;refine⟨a1,fun d hd hk=> ?_,a3,a4⟩
    by_cases e1:d=o
    ·subst e1
     have hk:X (φ.β b').block:=by have hk':(if d=d then X (φ.β b').block else φ.S d (φ.β b').block):=hk;simpa using hk'
     exact hB b' cs hb hw hk
    ·rw[j5 e1] at hk
     exact a2 d ((dA.1 hd).resolve_left e1) hk
   spot:=h.sep.spot
   soft:=h.sep.soft}
theorem an.p7 (h:an F A w0 φ st tm w) {o:Nat} {b:OB} {X:Nat→Prop} {v:Value} (h0:o≠0) (hc:ah w φ.I b.m X (.sub b.z b.rows) v)
 (hX: ∀k,X k→k<w.heap.size∧(w0.heap.size≤k∨F k)) (hI: ∀k,X k→ ¬φ.I k) (hS: ∀k d,X k→d≠o→aj st.ob d→ ¬φ.S d k)
 (hB: ∀b cs,aa b st.bx=some cs→ng b=true→ ¬X (φ.β b).block):an F A w0 (φ.add o X v) (T.p7 o b st) tm w:=
 (h.fD o).add h0 (fun hd=>(dJ.1 hd).1 rfl) hc hX hI (fun k d hx hd=>hS k d hx (dJ.1 hd).1 (dJ.1 hd).2)
   fun b cs hb hw=>by
    obtain⟨cs0,h1,_⟩:=cP _ b cs hb;exact hB b cs0 h1 hw
end Go.T
namespace Go.T
variable {F : Nat → Prop} {A : Arg} {w0 w w' : World} {φ φ' : Fp} {st st' : TS} {tm r9 : Array Value}
attribute [local semireducible] cF in
theorem og (rows:List (List TC)) (l h:Int):cF rows l h=(rows.take h.toNat).drop l.toNat:=rfl
theorem xR {rows:List (List TC)} {l h:Int} (h2:h≤rows.length):(cF rows l h).length=h.toNat-l.toNat:=by
 rw[og,oQ,gW]
 have:h.toNat≤rows.length:=by omega
 omega
theorem Bl {rows:List (List TC)} {l h:Int} {i f:Nat} {tc:TC} (ht:lW (cF rows l h) i f=some tc):lW rows (i+l.toNat) f=some tc∧i+l.toNat<h.toNat:=by
 unfold lW at ht ⊢;rw[og,iC,vQ] at ht
 by_cases hi:l.toNat+i<h.toNat
 ·rw[aO hi] at ht
  rw[Nat.add_comm];exact⟨ht,hi⟩
 ·rw[aD hi] at ht;cases ht
theorem qg {a:Addr} (n:Nat) (h:a.spot=none):(a.add n).spot=none:=by unfold Addr.add;split<;>simp[h]
theorem ko {a:Addr} (n:Nat) (h:a.spot=none):a.add n=⟨a.block,a.off+n,none⟩:=by
 unfold Addr.add;split
 ·subst n;cases a;simp_all
 ·rfl
theorem ah.cut {R S:Nat→Prop} {m:Mode} {z:Nat} {rows:List (List TC)} {V v:Value} {l h:Int} (k:ah w R m S (.sub z rows) V) (hc:oU z rows.length l h V v):
 ah w R m S (.sub z (cF rows l h)) v:=by
 cases k with
 |sub _ _ _ _ A c u T k hn=>
  obtain⟨h0,h1,h2,A1,A',c1,e1,rfl,e2,e3,e4⟩:=hc
  cases e1
  have hlen:=xR (rows:=rows) (l:=l) h2
  have hle:h.toNat≤rows.length:=by omega
  rw[←hlen];have hcl:=k.len
  have hne: ∀i f tc,lW (cF rows l h) i f=some tc→c≠l.toNat:=fun i f tc ht=>by
   have:=(Bl ht).2;omega
  refine .sub _ _ _ _ A' (c-l.toNat) (fun i f=>u (i+l.toNat) f) (fun i f=>T (i+l.toNat) f) ?_ fun i f tc ht=>hn _ _ _ (Bl ht).1
  have hb: ∀ad',A'=some ad'→ ∃ad,A=some ad∧ad'.block=ad.block∧(ad.spot=none→ad'.spot=none):=fun ad' ha=>by
   cases hA:A with
   |none=>rw[e3 hA] at ha;cases ha
   |some ad=>
    obtain⟨ad2,b1,b2,b3⟩:=e4 ad hA;rw[b1] at ha;cases ha;exact⟨ad,rfl,b2,b3⟩
  have hnm:rows=[]→cF rows l h=[]:=fun e=>by rw[og,e];simp
  refine⟨by omega,jW (Nat.sub_le _ _) k.cap,k.z0,fun r hr=>k.width r ?_,fun hr=> ?_,fun ad' ha i f tc ht=> ?_,fun hm ad' ha hr=> ?_,fun hm=>⟨fun ha=> ?_,fun ad' ha=> ?_⟩,fun hm Gj ad' ha i=> ?_,fun hm i f q hq=> ?_⟩
  ·rw[og] at hr
   exact vR (xE hr)
  ·obtain⟨ad,ha⟩:=k.addr fun e=>hr (hnm e)
   obtain⟨ad',b1,_⟩:=e4 ad ha;exact⟨ad',b1⟩
  ·obtain⟨ad,hA,_⟩:=hb ad' ha
   have:=e2 (hne i f tc ht);rw[hA] at this;simp only[e9] at this;rw[this] at ha
   cases ha
   rw[Addr.add_add];have:=k.cell ad hA _ _ _ (Bl ht).1;rw[jE] at this;rw[show l.toNat*z+(i*z+f)=i*z+l.toNat*z+f by omega];exact this
  ·obtain⟨ad,hA,b1,_⟩:=hb ad' ha
   rw[b1];exact k.read hm ad hA fun e=>hr (hnm e)
  ·cases hA:A with
   |none=>rw[(k.own hm).1 hA];omega
   |some ad=>obtain⟨ad2,b1,_⟩:=e4 ad hA;rw[b1] at ha;cases ha
  ·obtain⟨ad,hA,b1,b2⟩:=hb ad' ha
   obtain⟨a1,a2,a3⟩:=(k.own hm).2 ad hA;refine⟨by rw[b1];exact a1,b2 a2,fun j hj=> ?_⟩
   have OY:c≠l.toNat:=fun e=>by rw[e] at hj;simp at hj
   have:=e2 OY;rw[hA] at this;simp only[e9] at this;rw[this] at ha
   cases ha
   rw[ko _ a2];simp only;rw[lP];refine a3 _ ?_
   have:l.toNat*z+(c-l.toNat)*z≤c*z:=by
    rw[←jE];exact iD _ aB
   omega
  ·obtain⟨ad,hA,b1,b2⟩:=hb ad' ha
   rw[b1];exact k.soft hm Gj ad hA i
  ·obtain⟨a1,a2,a3⟩:=k.gU hm _ _ _ hq
   refine⟨a1,fun ad' ha=> ?_,fun i' f' zn=> ?_⟩
   ·obtain⟨ad,hA,b1,_⟩:=hb ad' ha
    rw[b1];exact a2 ad hA
   ·obtain⟨c1,c2⟩:=a3 _ _ zn
    exact⟨by omega,c2⟩
theorem fE.cut {o:Nat} {b:OB} (h:fE w φ o b) {cut:Option (Int×Int)} {v:Value} (hc:match(generalizing:=false) cut with|none=>v=φ.V o|some (l,h)=>oU b.z b.rows.length l h (φ.V o) v):
 ah w φ.I b.m (φ.S o) (.sub b.z (Co cut b.rows)) v:=by
 cases cut with
 |none=>simp only at hc;rw[hc];exact h
 |some q=>obtain⟨l,h1⟩:=q;exact ah.cut h hc
theorem FK {o:Nat} {l:Option (Nat×Int×Nat)} {p:Nat} {i:Int} {f:Nat} (h:KT o l=some (p,i,f)):l=some (p,i,f)∧p≠o:=by
 unfold KT at h
 cases l with
 |none=>cases h
 |some q=>
  obtain⟨a,b,c⟩:=q;simp only at h
  cases h1:Nat.beq a o with
  |true=>rw[h1] at h;cases h
  |false=>rw[h1] at h;cases h;exact⟨rfl,iN h1⟩
theorem DL {o:Nat} {ds:List Nat} {k:Nat} (h:rd φ ds k):rd (φ.more (φ.S o)) (Cn o ds) k:=by
 rcases h with h|⟨d,hd,h⟩
 ·exact .inl (.inl h)
 ·by_cases e:d=o
  ·subst e;exact .inl (.inr h)
  ·exact .inr ⟨d,nt.2 ⟨hd,e⟩,h⟩
theorem bh.freeze {o:Nat} {b:OB} {ob:List (Nat×OB)} (hb:aa o ob=some b) (hO:fE w φ o b) {e:CE} {v:Value} (h:bh ob w φ e v):bh (gY o ob) w (φ.more (φ.S o)) (xh o b e) v:=by
 cases e with
 |ref p cut=>
  obtain⟨b',h1,h2⟩:=h;simp only[xh]
  cases hd:Nat.beq p o with
  |true=>
   have:=cX hd;subst this;rw[hb] at h1;cases h1;refine And.intro (fun d hm=>by cases hm) (And.intro ?_ (fun _ _ _ hl=>by cases hl));exact(hO.cut h2).freeze (fun k hk=> .inl (.inl hk)) fun _ k hk=> .inl (.inr hk)
  |false=>
   have:=iN hd;exact⟨b',by rw[kU this];exact h1,h2⟩
 |snap ds loc z rows=>
  obtain⟨h1,h2,h3⟩:=h;refine⟨fun d hm=> ?_,h2.gq fun k hk=>DL hk,fun p i f hl=> ?_⟩
  ·obtain⟨a1,a2⟩:=nt.1 hm
   exact(h1 d a1).imp id fun h=>fH.2 ⟨a2,h⟩
  ·obtain⟨a1,a2⟩:=FK hl
   obtain⟨a3,b',a4,a5⟩:=h3 p i f a1;exact⟨nt.2 ⟨a3,a2⟩,b',by rw[kU a2];exact a4,a5⟩
 |_=>exact h
theorem aV.freeze {o:Nat} {ob:List (Nat×OB)} {e:TE} {v:Value} (hv: ∀t es,e≠ .v t es) (h:aV ob w φ e v):aV (gY o ob) w (φ.more (φ.S o)) (A9 o e) v:=by
 cases e with
 |v t es=>exact absurd rfl (hv t es)
 |ep ds cells=>
  obtain⟨h1,ad,h2,hr,h3⟩:=h;refine⟨fun d hm=> ?_,ad,h2,fun hc=>DL (hr hc),fun j tc hj=> ?_⟩
  ·obtain⟨a1,a2⟩:=nt.1 hm
   exact(h1 d a1).imp id fun h=>fH.2 ⟨a2,h⟩
  ·obtain⟨u,h4,h5⟩:=h3 j tc hj
   exact⟨u,h4,h5.gq fun k hk=>DL hk⟩
 |er p path i f=>
  simp only[A9]
  cases hd:Nat.beq p o with
  |true=>trivial
  |false=>
   obtain⟨b,h1,h2⟩:=h;exact⟨b,by rw[kU (iN hd)];exact h1,h2⟩
 |_=>exact h
theorem an.lR (h:an F A w0 φ st tm w) (o:Nat): ∃φ',an F A w0 φ' (lR st o) tm w∧φ'.β=φ.β∧φ'.V=φ.V∧φ'.S=φ.S∧ ∀k,φ'.I k↔φ.I k∨(aj st.ob o∧φ.S o k):=by
 unfold T.lR
 cases hb:aa o st.ob with
 |none=>exact⟨φ,h,rfl,rfl,rfl,fun k=>⟨.inl,fun hk=>hk.elim id fun⟨⟨b,hb'⟩,_⟩=>by rw[hb] at hb';cases hb'⟩⟩
 |some b=>
  refine⟨φ.more (φ.S o),h.sn (φ':=φ.more (φ.S o)) (w':=w) rfl rfl (fun e v he=>he.freeze hb (h.obj o b hb)) (fun e v hv he=>he.freeze hv) (fun _ _ _ _ _=>rfl) (fun p b' hp=> ?_) ?_ h.frm,rfl,rfl,rfl,fun k=>⟨fun hk=>hk.imp id fun hk=>⟨⟨b,hb⟩,hk⟩,fun hk=>hk.imp id fun hk=>hk.2⟩⟩
  ·rw[dh] at hp
   split at hp
   ·cases hp
   ·exact(h.obj p b' hp).gq fun k hk=> .inl hk
  ·have hs:=(h.sep.boxes (cP (xh o b))).sub (qT:=gY o st.ob) fun d hd=>(fH.1 hd).2
   have hin:aj st.ob o:=⟨b,hb⟩
   exact {
    arg:=hs.arg,nz:=hs.nz,apart:=hs.apart,fresh:=hs.fresh,fA:=hs.fA,spot:=hs.spot,soft:=hs.soft
    read:=fun p k hp hk hI=>by
     obtain⟨a1,a2⟩:=fH.1 hp;rcases hI with hI|hI
     ·exact h.sep.read p k a2 hk hI
     ·exact a1 (h.sep.apart p o k a2 hin hk hI)
    ro:=fun k hk=>hk.elim (h.sep.ro k) fun hk=>⟨(h.sep.fresh o k hin hk).1,(h.sep.fresh o k hin hk).2.imp id .inl⟩
    box:=fun b' cs hb' hw=>by
     obtain⟨a1,a2,a3,a4⟩:=hs.box b' cs hb' hw;obtain⟨cs0,c1,_⟩:=cP _ b' cs hb'
     exact⟨fun hI=>hI.elim a1 ((h.sep.box b' cs0 c1 hw).2.1 o hin),a2,a3,a4⟩}
theorem an.jQ (h:an F A w0 φ st tm w) {o:Nat} {b b':OB} {X:Nat→Prop} (hb:aa o st.ob=some b) (hz:b'.z=b.z) (hl:b'.rows.length=b.rows.length)
 (hc:ah w' φ.I b'.m X (.sub b'.z b'.rows) (φ.V o)) (hf:EO F w0 w') (hsz:w.heap.size≤w'.heap.size) (hw: ∀k,k<w.heap.size→ ¬φ.S o k→w'.heap[k]?=w.heap[k]?)
 (hX: ∀k,X k→k<w'.heap.size∧(w0.heap.size≤k∨F k)) (hI: ∀k,X k→ ¬φ.I k) (hS: ∀k d,X k→d≠o→aj st.ob d→ ¬φ.S d k)
 (hB: ∀b cs,aa b st.bx=some cs→ng b=true→ ¬X (φ.β b).block):an F A w0 (φ.add o X (φ.V o)) (jQ o b' st) tm w':=by
 have hin:aj st.ob o:=⟨b,hb⟩;have h0:o≠0:=h.sep.nz o hin
 have hV:(φ.add o X (φ.V o)).V=φ.V:=by
  funext d
  show(if d=o then φ.V o else φ.V d)=φ.V d
  split
  ·subst_vars;rfl
  ·rfl
 have gM: ∀d,aj (fP o b' st.ob) d↔aj st.ob d:=fun d=>by
  rw[dA];exact⟨fun h=>h.elim (fun e=>e▸hin) id,.inr⟩
 have stI: ∀k,φ.I k→w'.heap[k]?=w.heap[k]?:=fun k hk=>hw k (h.sep.ro k hk).1 fun hs=>h.sep.read o k hin hs hk
 have stS: ∀d k,d≠o→d=0∨aj st.ob d→φ.S d k→w'.heap[k]?=w.heap[k]?:=fun d k hne hd hk=>hw k (h.sep.lt h.frm.size hd hk) fun hs=>by
  rcases hd with rfl|hd
  ·rw[h.sep.arg] at hk
   have:=h.sep.fA k hk;rcases (h.sep.fresh o k hin hs).2 with h3|h3
   ·omega
   ·exact this.2 h3
  ·exact hne (h.sep.apart d o k hd hin hk hs)
 have stR: ∀ds k,o∉ds→(∀d∈ds,d=0∨aj st.ob d)→rd φ ds k→rd (φ.add o X (φ.V o)) ds k∧w'.heap[k]?=w.heap[k]?:=fun ds k hn hd hk=>by
  refine⟨Bk hn hk,?_⟩;rcases hk with hk|⟨d,hm,hk⟩
  ·exact stI k hk
  ·exact stS d k (fun e=>by subst e;exact hn hm) (hd d hm) hk
 have stV: ∀p b1 ad n c i f tc u,p≠o→aa p st.ob=some b1→φ.V p= .slice (some ad) n c→lW b1.rows i f=some tc→w.cell? (ad.add (i*b1.z+f))=some u→w'.cell? (ad.add (i*b1.z+f))=some u:=by
  intro p b1 ad n c i f tc u hne hp hv ht hcell;have hO:=h.obj p b1 hp;unfold fE at hO;rw[hv] at hO
  have hS:φ.S p ad.block:=by
   cases hO with
   |sub _ _ _ _ _ _ u T k hn=>exact(k.own (by unfold OB.m;split<;>simp)).2 ad rfl|>.1
  rw[ck (w:=w)]
  ·exact hcell
  ·rw[aP];exact stS p _ hne (.inr ⟨b1,hp⟩) hS
 have cbox: ∀p cs,aa p st.bx=some cs→w'.heap[(φ.β p).block]?=w.heap[(φ.β p).block]?:=fun p cs hp=>by
  obtain⟨a1,a2,a3⟩:=h.sep.spot p cs hp;refine hw _ a2 fun hs=> ?_
  cases rI:ng p with
  |true=>exact(h.sep.box p cs hp rI).2.1 o hin hs
  |false=>
   have:=h.sep.fA _ (a3 rI);rcases (h.sep.fresh o _ hin hs).2 with h3|h3
   ·omega
   ·exact this.2 h3
 refine h.sn (φ':=φ.add o X (φ.V o)) rfl rfl (fun e v he=> ?_) (fun e v hv he=> ?_) (fun p cs hp j hj=> ?_) (fun p b1 hp=> ?_) ?_ hf
 ·cases e with
  |ref p cut=>
   obtain⟨b1,h1,h2⟩:=he
   by_cases hp:p=o
   ·subst hp
    rw[hb] at h1;cases h1;refine⟨b',eE,?_⟩;rw[hV]
    cases cut with
    |none=>exact h2
    |some q=>obtain⟨l,r⟩:=q;simp only at h2 ⊢;rw[hz,hl];exact h2
   ·exact⟨b1,by rw[eo hp];exact h1,by rw[hV];exact h2⟩
  |snap ds loc z rows=>
   simp only[DC]
   cases hd:ei o ds with
   |true=>trivial
   |false=>
    have hd:=bI.1 hd;obtain⟨h1,h2,h3⟩:=he;refine⟨fun d hm=>(h1 d hm).imp id (gM d).2,h2.move (fun k hk=>stR ds k hd h1 hk) (fun hm=>absurd rfl hm),fun p i f hl=> ?_⟩;obtain⟨a1,b1,a2,a3,a4,ad,n,c,a5,a6⟩:=h3 p i f hl
    have hp:p≠o:=fun e=>by subst e;exact hd a1
    refine⟨a1,b1,by rw[eo hp];exact a2,a3,a4,ad,n,c,by rw[hV];exact a5,stV p b1 ad n c _ _ _ _ hp a2 a5 a4 a6⟩
  |_=>exact he
 ·cases e with
  |v t es=>exact absurd rfl (hv t es)
  |ep ds cells=>
   simp only[A8]
   cases hd:ei o ds with
   |true=>trivial
   |false=>
    have hd:=bI.1 hd;obtain⟨h1,ad,h2,hr,h3⟩:=he;refine⟨fun d hm=>(h1 d hm).imp id (gM d).2,ad,h2,fun hc=>(stR ds _ hd h1 (hr hc)).1,fun j tc hj=> ?_⟩;obtain⟨u,h4,h5⟩:=h3 j tc hj
    have hc:cells≠[]:=fun e=>by rw[e] at hj;simp at hj
    exact⟨u,by rw[ck (w:=w) (by rw[aP];exact(stR ds _ hd h1 (hr hc)).2)];exact h4,h5.move (fun k hk=>stR ds k hd h1 hk) (fun hm=>absurd rfl hm)⟩
  |er p path i f=>
   obtain⟨b1,h1,h2,ad,n,c,h3,h4⟩:=he
   cases path with
   |none=>
    simp only[A8]
    by_cases hp:p=o
    ·subst hp
     rw[hb] at h1;cases h1;exact⟨b',eE,h2,ad,n,c,by rw[hV];exact h3,by rw[hz];exact h4⟩
    ·exact⟨b1,by rw[eo hp];exact h1,h2,ad,n,c,by rw[hV];exact h3,h4⟩
   |some q=>
    obtain⟨i0,f0⟩:=q;simp only[A8]
    cases hd:Nat.beq p o with
    |true=>trivial
    |false=>
     have hp:=iN hd;obtain⟨a1,z1,g9,a2,ad1,n1,c1,a3,a4⟩:=h4;exact⟨b1,by rw[eo hp];exact h1,h2,ad,n,c,by rw[hV];exact h3,a1,z1,g9,a2,ad1,n1,c1,stV p b1 ad n c _ _ _ _ hp h1 h3 a2 a3,a4⟩
  |_=>exact he
 ·exact ck (by rw[aP];exact cbox p cs hp)
 ·unfold fE
  by_cases B9:p=o
  ·subst B9
   rw[eE] at hp;cases hp;rw[hV];show ah w' φ.I b'.m (fun k=>if p=p then X k else φ.S p k) (.sub b'.z b'.rows) (φ.V p);simp only[if_true];exact hc
  ·rw[eo B9] at hp
   rw[hV];show ah w' φ.I b1.m (fun k=>if p=o then X k else φ.S p k) (.sub b1.z b1.rows) (φ.V p);simp only[aD B9];exact(h.obj p b1 hp).move (fun k hk=>⟨hk,stI k hk⟩) fun _ k hk=>stS p k B9 (.inr ⟨b1,hp⟩) hk
 ·have hs:=h.sep.boxes (cP (DC o))
  have self: ∀k,(φ.add o X (φ.V o)).S o k→X k:=fun k hk=>by
   have hk':(if o=o then X k else φ.S o k):=hk;simpa using hk'
  exact {
   arg:=by
    show(fun k=>if 0=o then X k else φ.S 0 k)=A.all;simp only[aD (Ne.symm h0)];exact h.sep.arg
   nz:=fun d hd=>h.sep.nz d ((gM d).1 hd)
   apart:=fun d d' k h1 h2 h3 h4=>by
    have i1:=(gM d).1 h1;have i2:=(gM d').1 h2
    by_cases e1:d=o
    ·subst e1
     by_cases e2:d'=d
     ·exact e2.symm
     ·rw[j5 e2] at h4;exact absurd h4 (hS k d' (self k h3) e2 i2)
    ·rw[j5 e1] at h3
     by_cases e2:d'=o
     ·subst e2;exact absurd h3 (hS k d (self k h4) e1 i1)
     ·rw[j5 e2] at h4;exact h.sep.apart d d' k i1 i2 h3 h4
   read:=fun d k hd hk=>by
    have hd:=(gM d).1 hd
    by_cases e1:d=o
    ·subst e1;exact hI k (self k hk)
    ·rw[j5 e1] at hk;exact h.sep.read d k hd hk
   fresh:=fun d k hd hk=>by
    have hd:=(gM d).1 hd
    by_cases e1:d=o
    ·subst e1;exact hX k (self k hk)
    ·rw[j5 e1] at hk
     exact⟨dD (h.sep.fresh d k hd hk).1 hsz,(h.sep.fresh d k hd hk).2⟩
   ro:=fun k hk=>⟨dD (h.sep.ro k hk).1 hsz,(h.sep.ro k hk).2⟩
   fA:=h.sep.fA
   box:=fun p cs hp rI=>by
    obtain⟨cs0,c1,_⟩:=cP _ p cs hp;obtain⟨a1,a2,a3,a4⟩:=hs.box p cs hp rI;refine⟨a1,fun d hd hk=> ?_,a3,a4⟩;have hd:=(gM d).1 hd
    by_cases e1:d=o
    ·subst e1;exact hB p cs0 c1 rI (self _ hk)
    ·rw[j5 e1] at hk;exact a2 d hd hk
   spot:=fun p cs hp=>⟨(hs.spot p cs hp).1,dD (hs.spot p cs hp).2.1 hsz,(hs.spot p cs hp).2.2⟩
   soft:=fun p cs j hp rI hj=>by
    obtain⟨cs0,c1,c2⟩:=cP _ p cs hp;rw[ek (w:=w) (by rw[aP];exact cbox p cs0 c1)]
    exact h.sep.soft p cs0 j c1 rI aB}
end Go.T
namespace Go.T
variable {F : Nat → Prop} {A : Arg} {w0 w w' : World} {φ φ' : Fp} {st st' : TS} {tm r9 : Array Value}
theorem an.less (h:an F A w0 φ st tm w) (ht: ∀i,st'.get i= .dead∨st'.get i=st.get i) (hb: ∀b cs,aa b st'.bx=some cs→aa b st.bx=some cs) (ho:st'.ob=st.ob):an F A w0 φ st' tm w where
 tmp i:=by
  rw[ho];rcases ht i with h1|h1
  ·rw[h1];trivial
  ·rw[h1];exact h.tmp i
 box b cs h1:=by rw[ho];exact h.box b cs (hb b cs h1)
 obj:=by rw[ho];exact h.obj
 sep:=by rw[ho];exact h.sep.boxes fun b cs h1=>⟨cs,hb b cs h1,rfl⟩
 frm:=h.frm
theorem Cx (st:TS) (l:List Nat) (bx:List (Nat×List CE)) (ob:List (Nat×OB)) (i:Nat):(⟨oT l st.tm,bx,ob⟩:TS).get i= .dead∨(⟨oT l st.tm,bx,ob⟩:TS).get i=st.get i:=by
 unfold TS.get;simp only[xQ]
 by_cases h:i∈l
 ·right;rw[aO h]
 ·left;rw[aD h]
theorem an.keep (h:an F A w0 φ st tm w) (l:List Nat):an F A w0 φ ⟨oT l st.tm,st.bx,st.ob⟩ tm w:=
 h.less (Cx st l st.bx st.ob) (fun _ _ h=>h) rfl
theorem xS (l:List Nat) (j:Nat): ∀(m:List (Nat×List CE)) (cs:List CE),aa j (lV l m)=some cs→aa j m=some cs
 |[],cs,h=>by simp[lV,aa] at h
 |(a,x)::r,cs,h=>by
  have ih:=xS l j r cs
  have key:aa j ((a,x)::lV l r)=some cs→aa j ((a,x)::r)=some cs:=fun h=>by
   simp only[aa] at h ⊢
   cases h1:Nat.beq a j with
   |true=>rw[h1] at h;exact h
   |false=>rw[h1] at h;exact ih h
  have skip:(100000≤a→False)→a∉l→aa j (lV l r)=some cs→aa j ((a,x)::r)=some cs:=fun h1 h2 h=>by
   simp only[aa]
   cases h3:Nat.beq a j with
   |false=>exact ih h
   |true=>
    exfalso
    have h3:=cX h3;subst h3
    have: ∀(m:List (Nat×List CE)),aa a (lV l m)=none:=by
     intro m
     induction m with
     |nil=>rfl
     |cons p r ih=>
      obtain⟨c,y⟩:=p;simp only[lV]
      have hk: ∀(hc:c≠a),aa a ((c,y)::lV l r)=none:=fun hc=>by
       simp only[aa,beq_false hc];exact ih
      split
      ·rename_i h4
       exact hk fun e=>h1 (by subst e;exact iM h4)
      ·split
       ·rename_i h5
        exact hk fun e=>h2 (by subst e;exact dN.1 h5)
       ·exact ih
    rw[this] at h;cases h
  simp only[lV] at h
  split at h
  ·exact key h
  ·rename_i h4
   split at h
   ·exact key h
   ·rename_i h5
    exact skip (fun h6=>by rw[xF h6] at h4;cases h4) (bI.1 h5) h
theorem an.MA (h:an F A w0 φ st tm w) (l:List Nat):an F A w0 φ ⟨oT l st.tm,lV l st.bx,st.ob⟩ tm w:=
 h.less (Cx st l (lV l st.bx) st.ob) (fun b cs hb=>xS l b st.bx cs hb) rfl
theorem FL {b:Nat} {ob:List (Nat×OB)} {β:Nat→Addr} (hβ: ∀c,c≠b→β c=φ.β c) {e:TE} {v:Value} (hn:xK b e=false) (h:aV ob w φ e v):aV ob w {φ with β:=β} e v:=by
 have Kx: ∀(c:gX) (u:Value),J9 b c=false→eM ob w φ c u→eM ob w {φ with β:=β} c u:=by
  intro c u hc h
  cases c with
  |ptr c=>
   simp only[eM] at h ⊢;rw[hβ c (iN hc)];exact h
  |mk a cs=>cases a<;>exact h
 cases e with
 |v t es=>
  simp only[xK,List.any_eq_false] at hn
  cases t with
  |true=>
   obtain⟨vs,h1,h2,h3⟩:=h;refine⟨vs,h1,h2,fun k c hk=> ?_⟩;obtain⟨u,h4,h5⟩:=h3 k c hk;exact⟨u,h4,Kx c u (by simpa using hn c (c7 hk)) h5⟩
  |false=>
   obtain⟨c,rfl,h3⟩:=h;exact⟨c,rfl,Kx c v (by simpa using hn c dK) h3⟩
 |bp c off=>
  simp only[aV] at h ⊢;rw[hβ c (iN hn)];exact h
 |fn f caps=>
  simp only[aV] at h ⊢;rw[h];have hn:=bI.1 hn
  congr 2
  refine List.map_congr_left fun c hc=> ?_;rw[hβ c fun e=>by subst e;exact hn hc]
 |_=>exact h
theorem Am (b:Nat) (st:TS) (i:Nat):(Ah b st).get i=if xK b (st.get i)=true then .dead else st.get i:=by
 unfold TS.get Ah;simp only[jl]
 cases aa i st.tm with
 |none=>simp
 |some e=>
  simp only[e9]
  cases xK b e<;>simp
theorem an.Ah (h:an F A w0 φ st tm w) (b:Nat):an F A w0 φ (Ah b st) tm w:=by
 refine h.less (fun i=> ?_) (fun c cs hc=> ?_) rfl
 ·rw[Am];split<;>simp
 ·have:aa c (gY b st.bx)=some cs:=hc
  rw[dh] at this
  split at this
  ·cases this
  ·exact this
def Fp.box (φ:Fp) (b:Nat) (ad:Addr):Fp:={φ with β:=fun c=>if c=b then ad else φ.β c}
theorem kV {b:Nat} {ad:Addr}:(φ.box b ad).β b=ad:=aO rfl
theorem fR {b c:Nat} {ad:Addr} (h:c≠b):(φ.box b ad).β c=φ.β c:=aD h
theorem an.uK (h:an F A w0 φ st tm w) {b:Nat} {cs:List CE} {ad:Addr} (hw:ng b=true) (hs:ad.spot=none) (hlt:ad.block<w.heap.size) (hS: ∀o,aj st.ob o→ ¬φ.S o ad.block)
 (hI: ¬φ.I ad.block) (hF:w0.heap.size≤ad.block∨F ad.block) (hB: ∀b' cs',aa b' st.bx=some cs'→b'≠b→(φ.β b').block≠ad.block)
 (hc: ∀(j:Nat) (e:CE),cs[j]?=some e→ ∃v,w.cell? (ad.add j)=some v∧v.cells= #[v]∧bh st.ob w φ e v) (hf: ∀j,j<cs.length→w.frozen? (ad.add j)=false):an F A w0 (φ.box b ad) (uK b cs st) tm w:=by
 have lG: ∀c,aa c (T.uK b cs st).bx=if c=b then some cs else aa c st.bx:=fun c=>by
  show aa c (fP b cs (gY b st.bx))=_;rw[bX,dh]
  by_cases hc:c=b<;>simp[hc]
 refine⟨fun i=> ?_,fun c cs' lI j e he=> ?_,h.obj,?_,h.frm⟩
 ·show aV st.ob w (φ.box b ad) ((T.Ah b st).get i) (tm.getD i undef)
  rw[Am]
  split
  ·trivial
  ·rename_i hn
   exact FL (fun c hc=>fR hc) (by simpa using hn) (h.tmp i)
 ·rw[lG] at lI
  by_cases hcb:c=b
  ·subst hcb
   rw[aO rfl] at lI;cases lI;rw[kV];exact hc j e he
  ·rw[aD hcb] at lI
   rw[fR hcb];exact h.box c cs' lI j e he
 ·exact {
   arg:=h.sep.arg,nz:=h.sep.nz,apart:=h.sep.apart,read:=h.sep.read,fresh:=h.sep.fresh,ro:=h.sep.ro,fA:=h.sep.fA
   box:=fun c cs' lI JS=>by
    rw[lG] at lI
    by_cases hcb:c=b
    ·subst hcb
     rw[kV];refine⟨hI,hS,hF,fun b' B8 hb' hne=> ?_⟩;rw[lG,aD hne] at hb';rw[fR hne];exact hB b' B8 hb' hne
    ·rw[aD hcb] at lI
     rw[fR hcb];obtain⟨a1,a2,a3,a4⟩:=h.sep.box c cs' lI JS;refine⟨a1,a2,a3,fun b' B8 hb' hne=> ?_⟩;rw[lG] at hb'
     by_cases hb2:b'=b
     ·subst hb2
      rw[kV];exact fun e=>hB c cs' lI hcb e.symm
     ·rw[aD hb2] at hb'
      rw[fR hb2];exact a4 b' B8 hb' hne
   spot:=fun c cs' lI=>by
    rw[lG] at lI
    by_cases hcb:c=b
    ·subst hcb
     rw[kV];exact⟨fun _=>hs,hlt,fun e=>by rw[hw] at e;cases e⟩
    ·rw[aD hcb] at lI
     rw[fR hcb];exact h.sep.spot c cs' lI
   soft:=fun c cs' j lI JS hj=>by
    rw[lG] at lI
    by_cases hcb:c=b
    ·subst hcb
     rw[aO rfl] at lI;cases lI;rw[kV];exact hf j hj
    ·rw[aD hcb] at lI
     rw[fR hcb];exact h.sep.soft c cs' j lI JS hj}
theorem an.uJ (h:an F A w0 φ st tm w) {b:Nat} {cs old:List CE} (hb:aa b st.bx=some old) (rI:ng b=true) (hl:cs.length=old.length) (hf:EO F w0 w') (hsz:w.heap.size≤w'.heap.size)
 (hw: ∀k,k<w.heap.size→k≠(φ.β b).block→w'.heap[k]?=w.heap[k]?) (hfz: ∀j,j<cs.length→w'.frozen? ((φ.β b).add j)=false)
 (hc: ∀(j:Nat) (e:CE),cs[j]?=some e→ ∃v,w'.cell? ((φ.β b).add j)=some v∧v.cells= #[v]∧bh st.ob w φ e v):an F A w0 φ (st.uJ b cs) tm w':=by
 obtain⟨b1,b2,b3,b4⟩:=h.sep.box b old hb rI;have stI: ∀k,φ.I k→w'.heap[k]?=w.heap[k]?:=fun k hk=>hw k (h.sep.ro k hk).1 fun e=>b1 (e▸hk)
 have nA: ∀k,A.all k→k≠(φ.β b).block:=fun k hk e=>by
  subst e;have:=h.sep.fA _ hk;rcases b3 with b3|b3
  ·omega
  ·exact this.2 b3
 have stS: ∀d k,d=0∨aj st.ob d→φ.S d k→w'.heap[k]?=w.heap[k]?:=fun d k hd hk=>hw k (h.sep.lt h.frm.size hd hk) fun e=>by
  subst e;rcases hd with rfl|hd
  ·rw[h.sep.arg] at hk;exact nA _ hk rfl
  ·exact b2 d hd hk
 have own: ∀o ad n c,aj st.ob o→φ.V o= .slice (some ad) n c→φ.S o ad.block:=fun o ad n c ⟨bo,ho⟩ hv=>by
  have hO:=h.obj o bo ho;unfold fE at hO;rw[hv] at hO
  cases hO with
  |sub _ _ _ _ _ _ u T k hn=>exact(k.own (by unfold OB.m;split<;>simp)).2 ad rfl|>.1
 have hV: ∀o,aj st.ob o→ ∀ad n c,φ.V o= .slice (some ad) n c→ ∀i v,w.cell? (ad.add i)=some v→w'.cell? (ad.add i)=some v:=fun o ho ad n c hv i v hcell=>by
  rw[ck (w:=w)]
  ·exact hcell
  ·rw[aP];exact stS o _ (.inr ho) (own o ad n c ho hv)
 have OZ: ∀e v,bh st.ob w φ e v→bh st.ob w' φ e v:=fun e v he=>he.stay stI stS hV
 have hE: ∀ds cells v,aV st.ob w φ (.ep ds cells) v→aV st.ob w' φ (.ep ds cells) v:=by
  intro ds cells v ⟨h1,ad,h2,hr,h3⟩;refine⟨h1,ad,h2,hr,fun j tc hj=> ?_⟩;obtain⟨u,h4,h5⟩:=h3 j tc hj
  have Qy:cells≠[]:=fun e=>by rw[e] at hj;simp at hj
  have stR: ∀k,rd φ ds k→w'.heap[k]?=w.heap[k]?:=fun k hk=>by
   rcases hk with hk|⟨d,hm,hk⟩
   ·exact stI k hk
   ·exact stS d k (h1 d hm) hk
  exact⟨u,by rw[ck (w:=w) (by rw[aP];exact stR _ (hr Qy))];exact h4,h5.move (fun k hk=>⟨hk,stR k hk⟩) (fun hm=>absurd rfl hm)⟩
 have hT: ∀e v,aV st.ob w φ e v→aV st.ob w' φ e v:=fun e v he=>by
  have:=aV.sn (f:=id) (g:=id) rfl OZ (fun e v hv he=>aV.stay stI stS hV (fun ad v hc hk=>by rw[ck (w:=w) (hk _ rfl)];exact hc) hE hv he) he
  have hid:mQ id id e=e:=by
   have h1:=congrArg TS.tm (kT ⟨[(0,e)],[],[]⟩);simpa [lQ,mapA] using h1
  rw[hid] at this;exact this
 have lG: ∀c,aa c (st.uJ b cs).bx=if c=b then some cs else aa c st.bx:=fun c=>bX _ _ _ _
 have obox: ∀c cs',aa c st.bx=some cs'→c≠b→w'.heap[(φ.β c).block]?=w.heap[(φ.β c).block]?:=fun c cs' lI hne=>hw _ (h.sep.spot c cs' lI).2.1 (b4 c cs' lI hne);refine⟨fun i=>hT _ _ (h.tmp i),fun c cs' lI j e he=> ?_,fun o bo ho=> ?_,?_,hf⟩
 ·rw[lG] at lI
  by_cases hcb:c=b
  ·subst hcb
   rw[aO rfl] at lI;cases lI;obtain⟨v,h1,h3,h2⟩:=hc j e he;exact⟨v,h1,h3,OZ _ _ h2⟩
  ·rw[aD hcb] at lI
   obtain⟨v,h1,h3,h2⟩:=h.box c cs' lI j e he;exact⟨v,by rw[ck (w:=w) (by rw[aP];exact obox c cs' lI hcb)];exact h1,h3,OZ _ _ h2⟩
 ·exact(h.obj o bo ho).move (fun k hk=>⟨hk,stI k hk⟩) fun _ k hk=>stS o k (.inr ⟨bo,ho⟩) hk
 ·have len: ∀c cs',aa c (st.uJ b cs).bx=some cs'→ ∃cs0,aa c st.bx=some cs0∧cs'.length=cs0.length:=fun c cs' lI=>by
   rw[lG] at lI
   by_cases hcb:c=b
   ·subst hcb
    rw[aO rfl] at lI;cases lI;exact⟨old,hb,hl⟩
   ·rw[aD hcb] at lI;exact⟨cs',lI,rfl⟩
  have hs:=h.sep.boxes len
  exact {
   arg:=hs.arg,nz:=hs.nz,apart:=hs.apart,read:=hs.read,fA:=hs.fA,box:=hs.box
   fresh:=fun o k ho hk=>⟨dD (hs.fresh o k ho hk).1 hsz,(hs.fresh o k ho hk).2⟩
   ro:=fun k hk=>⟨dD (hs.ro k hk).1 hsz,(hs.ro k hk).2⟩
   spot:=fun c cs' lI=>⟨(hs.spot c cs' lI).1,dD (hs.spot c cs' lI).2.1 hsz,(hs.spot c cs' lI).2.2⟩
   soft:=fun c cs' j lI JS hj=>by
    obtain⟨cs0,c1,c2⟩:=len c cs' lI
    by_cases hcb:c=b
    ·subst hcb
     rw[lG,aO rfl] at lI;cases lI;exact hfz j hj
    ·rw[ek (w:=w) (by rw[aP];exact obox c cs0 c1 hcb)]
     exact h.sep.soft c cs0 j c1 JS aB}
end Go.T
namespace Go.T
variable {F : Nat → Prop} {A : Arg} {w0 w w' : World} {φ φ' : Fp} {st st' : TS} {tm r9 : Array Value}
structure Ext (ob qT:List (Nat×OB)) (φ φ':Fp):Prop where
 look: ∀d b,aa d ob=some b→aa d qT=some b
 I:φ'.I=φ.I
 β:φ'.β=φ.β
 S: ∀d,d=0∨aj ob d→φ'.S d=φ.S d
 V: ∀d,aj ob d→φ'.V d=φ.V d
section
variable {ob qT : List (Nat × OB)}
theorem Ext.dom (x:Ext ob qT φ φ') {d:Nat} (h:aj ob d):aj qT d:=let ⟨b,h⟩:=h;⟨b,x.look d b h⟩
theorem Ext.rd (x:Ext ob qT φ φ') {ds:List Nat} (hd: ∀d∈ds,d=0∨aj ob d) {k:Nat} (h:T.rd φ ds k):T.rd φ' ds k:=by
 rcases h with h|⟨d,hm,h⟩
 ·exact .inl (by rw[x.I];exact h)
 ·exact .inr ⟨d,hm,by rw[x.S d (hd d hm)];exact h⟩
theorem bh.ext (x:Ext ob qT φ φ') {e:CE} {v:Value} (h:bh ob w φ e v):bh qT w φ' e v:=by
 cases e with
 |ref o cut=>
  obtain⟨b,h1,h2⟩:=h;exact⟨b,x.look o b h1,by rw[x.V o ⟨b,h1⟩];exact h2⟩
 |snap ds loc z rows=>
  obtain⟨h1,h2,h3⟩:=h;refine⟨fun d hm=>(h1 d hm).imp id x.dom,h2.gq fun k hk=>x.rd h1 hk,fun o i f hl=> ?_⟩;obtain⟨a1,b,a2,a3,a4,ad,n,c,a5,a6⟩:=h3 o i f hl;exact⟨a1,b,x.look o b a2,a3,a4,ad,n,c,by rw[x.V o ⟨b,a2⟩];exact a5,a6⟩
 |_=>exact h
theorem eM.ext (x:Ext ob qT φ φ') {c:gX} {v:Value} (h:eM ob w φ c v):eM qT w φ' c v:=by
 cases c with
 |ptr b=>simp only[eM] at h ⊢;rw[x.β];exact h
 |mk a cs=>
  cases a with
  |true=>obtain⟨xs,h1,h2,h3⟩:=h;exact⟨xs,h1,h2,fun j e he=>let ⟨y,h4,h6,h5⟩:=h3 j e he;⟨y,h4,h6,h5.ext x⟩⟩
  |false=>obtain⟨e,h1,h2,h3⟩:=h;exact⟨e,h1,h2,h3.ext x⟩
theorem aV.ext (x:Ext ob qT φ φ') {e:TE} {v:Value} (h:aV ob w φ e v):aV qT w φ' e v:=by
 cases e with
 |v t es=>
  cases t with
  |true=>obtain⟨vs,h1,h2,h3⟩:=h;exact⟨vs,h1,h2,fun j e he=>let ⟨y,h4,h5⟩:=h3 j e he;⟨y,h4,h5.ext x⟩⟩
  |false=>obtain⟨c,h1,h2⟩:=h;exact⟨c,h1,h2.ext x⟩
 |ep ds cells=>
  obtain⟨h1,ad,h2,hr,h3⟩:=h;refine⟨fun d hm=>(h1 d hm).imp id x.dom,ad,h2,fun hc=>x.rd h1 (hr hc),fun j tc hj=> ?_⟩;obtain⟨u,h4,h5⟩:=h3 j tc hj;exact⟨u,h4,h5.gq fun k hk=>x.rd h1 hk⟩
 |er o path i f=>
  obtain⟨b,h1,h2,ad,n,c,h3,h4⟩:=h;exact⟨b,x.look o b h1,h2,ad,n,c,by rw[x.V o ⟨b,h1⟩];exact h3,h4⟩
 |bp b off=>simp only[aV] at h ⊢;rw[x.β];exact h
 |fn f caps=>simp only[aV] at h ⊢;rw[x.β];exact h
 |_=>exact h
end
def Ce:Nat→Nat→List (Nat×OB)→Prop
 |n,m,[]=>n≤m
 |n,m,(i,b)::r=>n≤i∧(b.deep=true∧b.rows=[]∧0<b.z)∧Ce (i+1) m r
theorem Ce.le: ∀{n m:Nat} {l:List (Nat×OB)},Ce n m l→n≤m
 |_,_,[],h=>h
 |_,_,(i,b)::r,h=>by have:=Ce.le h.2.2;have:=h.1;omega
theorem Ce.down {n n' m:Nat} {l:List (Nat×OB)} (h:Ce n m l) (hn:n'≤n):Ce n' m l:=by
 cases l with
 |nil=>exact jW hn h
 |cons p r=>obtain⟨i,b⟩:=p;exact⟨jW hn h.1,h.2⟩
theorem Ce.app: ∀{n m k:Nat} {l l':List (Nat×OB)},Ce n m l→Ce m k l'→Ce n k (l++l')
 |_,_,_,[],_,h,h'=>h'.down h
 |_,_,_,(i,b)::r,_,h,h'=>⟨h.1,h.2.1,h.2.2.app h'⟩
theorem Ce.mem: ∀{n m:Nat} {l:List (Nat×OB)} {i:Nat} {b:OB},Ce n m l→(i,b)∈l→n≤i∧i<m∧b.deep=true∧b.rows=[]∧0<b.z
 |n,m,(j,b')::r,i,b,h,hm=>by
  rcases bC.1 hm with e|hm
  ·cases e
   have:=h.2.2.le;exact⟨h.1,by omega,h.2.1⟩
  ·obtain⟨h1,h2,h3⟩:=h.2.2.mem hm
   exact⟨by have:=h.1;omega,h2,h3⟩
theorem vU: ∀{n m:Nat} {l:List (Nat×OB)} {ob:List (Nat×OB)},Ce n m l→(∀i b,(i,b)∈l→aa i (dM l ob)=some b)∧ ∀d,d<n→aa d (dM l ob)=aa d ob
 |_,_,[],ob,_=>⟨fun _ _ h=>(by cases h),fun _ _=>rfl⟩
 |n,m,(j,b')::r,ob,h=>by
  obtain⟨h1,h2⟩:=vU (ob:=ob) h.2.2;refine⟨fun i b hm=> ?_,fun d hd=> ?_⟩
  ·simp only[dM,bX]
   rcases bC.1 hm with e|hm
   ·cases e;rw[aO rfl]
   ·have:=(h.2.2.mem hm).1
    rw[aD aB];exact h1 i b hm
  ·have:=h.1
   simp only[dM,bX];rw[aD aB];exact h2 d aB
theorem so: ∀{l:List (Nat×OB)} {ob:List (Nat×OB)} {d:Nat} {b:OB},aa d (dM l ob)=some b→(d,b)∈l∨aa d ob=some b
 |[],_,_,_,h=> .inr h
 |(j,b')::r,ob,d,b,h=>by
  simp only[dM,bX] at h
  by_cases hd:d=j
  ·rw[aO hd] at h;cases h;subst hd;exact .inl (.head _)
  ·rw[aD hd] at h
   exact(so h).imp (.tail _) id
def K6:Value:= .slice none 0 0
def opened (N:Nat) (φ:Fp):Fp:={φ with S:=fun d k=>d<N∧φ.S d k,V:=fun d=>if d<N then φ.V d else K6}
section
variable {ob qT : List (Nat × OB)} {N : Nat} (x : Ext ob qT φ (opened N φ))
include x
theorem sq: ∀(cs:List CE) (n:Nat),N≤n→Ce n (cR n cs).2.1 (cR n cs).2.2∧(cR n cs).1.length=cs.length∧
 ((∀i b,(i,b)∈(cR n cs).2.2→aa i qT=some b)→ ∀(j:Nat) (e':CE),(cR n cs).1[j]?=some e'→ ∃e,cs[j]?=some e∧ ∀v,bh ob w φ e v→bh qT w (opened N φ) e' v)
 |[],n,hn=>⟨bH _,rfl,fun _ j e' h=>by simp[cR] at h⟩
 |e::r,n,hn=>by
  have keep: ∀(e:CE),(∀z,Nat.ble 1 z=true→e≠ .nil z)→cR n (e::r)=(e::(cR n r).1,(cR n r).2.1,(cR n r).2.2):=by
   intro e he
   cases e with
   |nil z=>
    simp only[cR]
    cases h:Nat.ble 1 z with
    |true=>exact absurd rfl (he z h)
    |false=>rfl
   |_=>rfl
  by_cases hz: ∃z,Nat.ble 1 z=true∧e= .nil z
  ·obtain⟨z,hz,rfl⟩:=hz
   have heq:cR n (.nil z::r)=(.ref n none::(cR (n+1) r).1,(cR (n+1) r).2.1,(n,⟨true,z,[]⟩)::(cR (n+1) r).2.2):=by simp only[cR,hz]
   rw[heq];obtain⟨h1,h2,h3⟩:=sq r (n+1) aB;refine⟨⟨bH _,⟨rfl,rfl,iM hz⟩,h1⟩,by simp[h2],fun hl j e' he=> ?_⟩
   cases j with
   |zero=>
    simp only[bL,aE] at he;subst he;refine⟨_,rfl,fun v hv=>⟨_,hl n _ (.head _),?_⟩⟩
    show v=if n<N then φ.V n else K6
    rw[aD aB];exact hv.1
   |succ j=>
    simp only[jh] at he ⊢;exact h3 (fun i b hm=>hl i b (.tail _ hm)) j e' he
  ·rw[keep e fun z Ky he=>hz ⟨z,Ky,he⟩]
   obtain⟨h1,h2,h3⟩:=sq r n hn;refine⟨h1,by simp[h2],fun hl j e' he=> ?_⟩
   cases j with
   |zero=>
    simp only[bL,aE] at he;subst he;exact⟨_,rfl,fun v hv=>hv.ext x⟩
   |succ j=>
    simp only[jh] at he ⊢;exact h3 hl j e' he
theorem oh: ∀(cs:List gX) (n:Nat),N≤n→Ce n (cz n cs).2.1 (cz n cs).2.2∧(cz n cs).1.length=cs.length∧
 ((∀i b,(i,b)∈(cz n cs).2.2→aa i qT=some b)→ ∀(j:Nat) (e':gX),(cz n cs).1[j]?=some e'→ ∃e,cs[j]?=some e∧ ∀v,eM ob w φ e v→eM qT w (opened N φ) e' v)
 |[],n,hn=>⟨bH _,rfl,fun _ j e' h=>by simp[cz] at h⟩
 | .ptr b::r,n,hn=>by
   obtain⟨h1,h2,h3⟩:=oh r n hn;refine⟨h1,by simp[cz,h2],fun hl j e' he=> ?_⟩
   cases j with
   |zero=>
    simp only[cz,bL,aE] at he;subst he;exact⟨_,rfl,fun v hv=>hv.ext x⟩
   |succ j=>
    simp only[cz,jh] at he ⊢;exact h3 hl j e' he
 | .mk a cs::r,n,hn=>by
   obtain⟨g1,g2,g3⟩:=sq (w:=w) x cs n hn;obtain⟨h1,h2,h3⟩:=oh r (cR n cs).2.1 (jW hn g1.le);refine⟨g1.app h1,by simp[cz,h2],fun hl j e' he=> ?_⟩
   cases j with
   |zero=>
    simp only[cz,bL,aE] at he;subst he;refine⟨_,rfl,fun v hv=> ?_⟩;have g4:=g3 fun i b hm=>hl i b (dz _ hm)
    cases a with
    |true=>
     obtain⟨xs,k1,k2,k3⟩:=hv;refine⟨xs,k1,by rw[g2];exact k2,fun j e' he=> ?_⟩;obtain⟨e,k4,k5⟩:=g4 j e' he;obtain⟨y,k6,k8,k7⟩:=k3 j e k4;exact⟨y,k6,k8,k5 y k7⟩
    |false=>
     obtain⟨e,rfl,k2,k3⟩:=hv;have hlen:(cR n [e]).1.length=1:=g2
     obtain⟨e',he'⟩: ∃e',(cR n [e]).1=[e']:=by
      cases hq:(cR n [e]).1 with
      |nil=>rw[hq] at hlen;cases hlen
      |cons y t=>cases t with
       |nil=>exact⟨y,rfl⟩
       |cons _ _=>rw[hq] at hlen;simp at hlen
     obtain⟨e0,k4,k5⟩:=g4 0 e' (by rw[he'];rfl);simp only[bL,aE] at k4;subst k4;exact⟨e',he',k2,k5 v k3⟩
   |succ j=>
    simp only[cz,jh] at he ⊢;exact h3 (fun i b hm=>hl i b (fW _ hm)) j e' he
theorem FM (e:TE) (n:Nat) (hn:N≤n):Ce n (sk n e).2.1 (sk n e).2.2∧
 ((∀i b,(i,b)∈(sk n e).2.2→aa i qT=some b)→ ∀v,aV ob w φ e v→aV qT w (opened N φ) (sk n e).1 v):=by
 cases e with
 |v t es=>
  obtain⟨h1,h2,h3⟩:=oh (w:=w) x es n hn;refine⟨h1,fun hl v hv=> ?_⟩;have h4:=h3 hl;simp only[sk]
  cases t with
  |true=>
   obtain⟨vs,k1,k2,k3⟩:=hv;refine⟨vs,k1,by rw[h2];exact k2,fun j e' he=> ?_⟩;obtain⟨e,k4,k5⟩:=h4 j e' he;obtain⟨y,k6,k7⟩:=k3 j e k4;exact⟨y,k6,k5 y k7⟩
  |false=>
   obtain⟨c,rfl,k1⟩:=hv;have hlen:(cz n [c]).1.length=1:=h2
   obtain⟨e',he'⟩: ∃e',(cz n [c]).1=[e']:=by
    cases hq:(cz n [c]).1 with
    |nil=>rw[hq] at hlen;cases hlen
    |cons y t=>cases t with
     |nil=>exact⟨y,rfl⟩
     |cons _ _=>rw[hq] at hlen;simp at hlen
   obtain⟨e0,k4,k5⟩:=h4 0 e' (by rw[he'];rfl);simp only[bL,aE] at k4;subst k4;exact⟨e',he',k5 v k1⟩
 |kb b=>
  refine⟨bH _,fun _ v hv=> ?_⟩;simp only[aV] at hv;subst hv;exact⟨_,rfl,_,rfl,rfl,rfl,trivial⟩
 |_=>exact⟨bH _,fun _ v hv=>hv.ext x⟩
theorem xT: ∀(l:List (Nat×TE)) (n:Nat),N≤n→(∃m,Ce n m (nq n l).2)∧
 ((∀i b,(i,b)∈(nq n l).2→aa i qT=some b)→ ∀(i:Nat) (e':TE),aa i (nq n l).1=some e'→ ∃e,aa i l=some e∧ ∀v,aV ob w φ e v→aV qT w (opened N φ) e' v)
 |[],n,hn=>⟨⟨n,bH _⟩,fun _ i e' h=>by simp[nq,aa] at h⟩
 |(j,e)::r,n,hn=>by
  obtain⟨g1,g2⟩:=FM (w:=w) x e n hn;obtain⟨⟨m,h1⟩,h2⟩:=xT r (sk n e).2.1 (jW hn g1.le);refine⟨⟨m,g1.app h1⟩,fun hl i e' he=> ?_⟩;simp only[nq,aa] at he ⊢
  cases hj:Nat.beq j i with
  |true=>
   rw[hj] at he;simp only[aE] at he;subst he;exact⟨e,rfl,g2 fun i b hm=>hl i b (dz _ hm)⟩
  |false=>
   rw[hj] at he;exact h2 (fun i b hm=>hl i b (fW _ hm)) i e' he
end
theorem Cy {n:Nat}: ∀{ob:List (Nat×OB)},Ct n ob=true→ ∀o,aj ob o→o<n
 |[],_,o,⟨b,h⟩=>by cases h
 |(i,x)::r,ha,o,⟨b,h⟩=>by
  simp only[Ct] at ha
  cases h1:Nat.ble n i with
  |true=>rw[h1] at ha;cases ha
  |false=>
   rw[h1] at ha;simp only[aa] at h
   cases h2:Nat.beq i o with
   |true=>
    have:=cX h2;subst this
    exact Nat.lt_of_not_le fun h3=>by rw[xF h3] at h1;cases h1
   |false=>rw[h2] at h;exact Cy ha o ⟨b,h⟩
theorem an.Cu (h:an F A w0 φ st tm w): ∃φ',an F A w0 φ' (Cu st) tm w∧φ'.β=φ.β:=by
 unfold T.Cu
 cases ha:Ct 900000000 st.ob with
 |false=>exact⟨φ,h,rfl⟩
 |true=>
  have hlt:=Cy ha
  have x1: ∀qT,(∀d b,aa d st.ob=some b→aa d qT=some b)→Ext st.ob qT φ (opened 900000000 φ):=fun qT hl=>
   ⟨hl,rfl,rfl,fun d hd=>by
     have:d<900000000:=hd.elim (fun e=>by omega) (hlt d)
     funext k
     simp[opened,this],fun d hd=>aO (hlt d hd)⟩
  obtain⟨⟨m,LF⟩,_⟩:=xT (w:=w) (x1 st.ob fun _ _ h=>h) st.tm 900000000 (bH _);obtain⟨l1,l2⟩:=vU (ob:=st.ob) LF
  have x:Ext st.ob (dM (nq 900000000 st.tm).2 st.ob) φ (opened 900000000 φ):=x1 _ fun d b hd=>by rw[l2 d (hlt d ⟨b,hd⟩)];exact hd
  obtain⟨_,hT⟩:=xT (w:=w) x st.tm 900000000 (bH _);have hT:=hT l1
  have old: ∀d,aj (dM (nq 900000000 st.tm).2 st.ob) d→(d<900000000∧aj st.ob d)∨900000000≤d:=fun d ⟨b,hd⟩=>by
   rcases so hd with h1|h1
   ·exact .inr (LF.mem h1).1
   ·exact .inl ⟨hlt d ⟨b,h1⟩,b,h1⟩
  have oldS: ∀d k,aj (dM (nq 900000000 st.tm).2 st.ob) d→(opened 900000000 φ).S d k→aj st.ob d∧φ.S d k:=fun d k hd hk=>by
   rcases old d hd with h1|h1
   ·exact⟨h1.2,hk.2⟩
   ·exact absurd hk.1 aB
  refine⟨opened 900000000 φ,⟨fun i=> ?_,fun b cs hb j e he=> ?_,fun o b ho=> ?_,?_,h.frm⟩,rfl⟩
  ·show aV (dM (nq 900000000 st.tm).2 st.ob) w (opened 900000000 φ) (match aa i (nq 900000000 st.tm).1 with|some e=>e|none=> .dead) (tm.getD i undef)
   cases hi:aa i (nq 900000000 st.tm).1 with
   |none=>trivial
   |some e'=>
    obtain⟨e,h1,h2⟩:=hT i e' hi;have:=h.tmp i;unfold TS.get at this;rw[h1] at this;exact h2 _ this
  ·obtain⟨v,h1,h3,h2⟩:=h.box b cs hb j e he
   exact⟨v,h1,h3,h2.ext x⟩
  ·unfold fE
   rcases so ho with h1|h1
   ·obtain⟨a1,a2,a3,a4,a5⟩:=LF.mem h1
    obtain⟨bd,bz,br⟩:=b;simp only at a3 a4 a5;subst a3 a4;have hv:(opened 900000000 φ).V o=K6:=aD aB;rw[hv]
    refine ah.sub _ _ bz [] none 0 (fun _ _=>default) (fun _ _ _=>False) ⟨bH _,rM _,a5,fun r hr=>(by cases hr),fun hr=>absurd rfl hr,fun _ ha=>(by cases ha),fun _ _ ha=>(by cases ha),
     fun _=>⟨fun _=>rfl,fun _ ha=>(by cases ha)⟩,fun _ _ _ ha=>(by cases ha),fun _ _ _ _ hk=>hk.elim⟩ fun i f tc ht=>absurd rfl (uT ht)
   ·have hd:=hlt o ⟨b,h1⟩
    have:=h.obj o b h1;unfold fE at this;rw[x.V o ⟨b,h1⟩,x.S o (.inr ⟨b,h1⟩)];exact this
  ·exact {
    arg:=by rw[x.S 0 (.inl rfl)];exact h.sep.arg
    nz:=fun o ho e=>by
     rcases old o ho with h1|h1
     ·exact h.sep.nz o h1.2 e
     ·omega
    apart:=fun o o' k h1 h2 h3 h4=>h.sep.apart o o' k (oldS o k h1 h3).1 (oldS o' k h2 h4).1 (oldS o k h1 h3).2 (oldS o' k h2 h4).2
    read:=fun o k h1 h2=>h.sep.read o k (oldS o k h1 h2).1 (oldS o k h1 h2).2
    fresh:=fun o k h1 h2=>h.sep.fresh o k (oldS o k h1 h2).1 (oldS o k h1 h2).2
    ro:=h.sep.ro
    fA:=h.sep.fA
    box:=fun b cs hb hw=>by
     obtain⟨a1,a2,a3,a4⟩:=h.sep.box b cs hb hw;exact⟨a1,fun o ho hk=>a2 o (oldS o _ ho hk).1 (oldS o _ ho hk).2,a3,a4⟩
    spot:=h.sep.spot
    soft:=h.sep.soft}
end Go.T
namespace Go.T
variable {F : Nat → Prop} {A : Arg} {w0 w w' : World} {φ φ' : Fp} {st st' : TS} {tm r9 : Array Value}
structure xU (n:Nat) (ρ:List (Nat×Nat)):Prop where
 rng: ∀o m,(o,m)∈ρ→1≤m∧m<n∧o≠0
 apart:ρ.Pairwise fun a b=>a.1≠b.1∧a.2≠b.2
theorem dx {α:Type} {o:Nat} {m:α}: ∀{ρ:List (Nat×α)},aa o ρ=some m→(o,m)∈ρ
 |(a,x)::r,h=>by
  simp only[aa] at h
  cases h1:Nat.beq a o with
  |true=>
   rw[h1] at h
   cases h
   have:=cX h1;subst this;exact .head _
  |false=>rw[h1] at h;exact .tail _ (dx h)
theorem jS {α:Type} {o:Nat}: ∀{ρ:List (Nat×α)},aa o ρ=none→ ∀m,(o,m)∉ρ
 |[],_,_=>by simp
 |(a,x)::r,h,m=>by
  simp only[aa] at h
  cases h1:Nat.beq a o with
  |true=>rw[h1] at h;cases h
  |false=>
   rw[h1] at h;intro hm;rcases bC.1 hm with e|hm
   ·cases e;exact iN h1 rfl
   ·exact jS h m hm
theorem qh {n o m:Nat}: ∀{ρ:List (Nat×Nat)},(ρ.Pairwise fun a b=>a.1≠b.1∧a.2≠b.2)→(o,m)∈ρ→aa o ρ=some m
 |(a,x)::r,h,hm=>by
  simp only[aa];rw[List.pairwise_cons] at h;rcases bC.1 hm with e|hm
  ·cases e;rw[qf]
  ·have:=(h.1 _ hm).1
   rw[beq_false this];exact qh (n:=n) h.2 hm
theorem q7: ∀(l:List Nat) (n:Nat) (ρ:List (Nat×Nat)),1≤n→xU n ρ→ ∃n',xU n' (number l n ρ)∧(∀o m,aa o ρ=some m→aa o (number l n ρ)=some m)∧ ∀o∈l,o≠0→ ∃m,aa o (number l n ρ)=some m
 |[],n,ρ,_,h=>⟨n,h,fun _ _ h=>h,fun _ h=>by cases h⟩
 |o::r,n,ρ,hn,h=>by
  simp only[number]
  cases h0:Nat.beq o 0 with
  |true=>
   obtain⟨n',h1,h2,h3⟩:=q7 r n ρ hn h;refine⟨n',h1,h2,fun p hp Mf=> ?_⟩;rcases bC.1 hp with e|hp
   ·exact absurd (e.trans (cX h0)) Mf
   ·exact h3 p hp Mf
  |false=>
   have h0:=iN h0
   cases hl:aa o ρ with
   |some m=>
    obtain⟨n',h1,h2,h3⟩:=q7 r n ρ hn h;refine⟨n',h1,h2,fun p hp Mf=> ?_⟩;rcases bC.1 hp with e|hp
    ·subst e;exact⟨m,h2 _ _ hl⟩
    ·exact h3 p hp Mf
   |none=>
    have hk:xU (n+1) ((o,n)::ρ):=by
     refine⟨fun p m hm=> ?_,List.pairwise_cons.2 ⟨fun a ha=>⟨fun e=> ?_,fun e=> ?_⟩,h.apart⟩⟩
     ·rcases bC.1 hm with e|hm
      ·cases e;exact⟨hn,by omega,h0⟩
      ·have:=h.rng p m hm;exact⟨this.1,by omega,this.2.2⟩
     ·obtain⟨a1,a2⟩:=a
      simp only at e;subst e;exact jS hl a2 ha
     ·obtain⟨a1,a2⟩:=a
      simp only at e;have:=(h.rng a1 a2 ha).2.1;omega
    obtain⟨n',h1,h2,h3⟩:=q7 r (n+1) ((o,n)::ρ) aB hk
    have Qz:aa o ((o,n)::ρ)=some n:=by simp only[aa,qf]
    refine⟨n',h1,fun p m hp=>h2 p m ?_,fun p hp Mf=> ?_⟩
    ·simp only[aa]
     rw[beq_false fun e=>by subst e;rw[hl] at hp;cases hp];exact hp
    ·rcases bC.1 hp with e|hp
     ·subst e;exact⟨n,h2 _ _ Qz⟩
     ·exact h3 p hp Mf
theorem Kf {o o' m:Nat}: ∀{ρ:List (Nat×Nat)},(ρ.Pairwise fun a b=>a.1≠b.1∧a.2≠b.2)→(o,m)∈ρ→(o',m)∈ρ→o=o'
 |p::r,h,h1,h2=>by
  rw[List.pairwise_cons] at h;rcases bC.1 h1 with e1|h1
  ·rcases bC.1 h2 with e2|h2
   ·rw[←e1] at e2;cases e2;rfl
   ·exact absurd (by rw[←e1]) (h.1 _ h2).2
  ·rcases bC.1 h2 with e2|h2
   ·exact absurd (by rw[←e2]) (h.1 _ h1).2
   ·exact Kf h.2 h1 h2
def inv (ρ:List (Nat×Nat)) (m:Nat):Nat:=match ρ.find? fun p=>Nat.beq p.2 m with|some p=>p.1|none=>0
theorem inv_eq {n o m:Nat} {ρ:List (Nat×Nat)} (h:xU n ρ) (hl:aa o ρ=some m):inv ρ m=o:=by
 unfold inv;have hm:=dx hl
 cases hf:ρ.find? fun p=>Nat.beq p.2 m with
 |none=>
  have:=List.find?_eq_none.1 hf _ hm;simp at this
 |some p=>
  have h1:=List.mem_of_find?_eq_some hf;have h2:=List.find?_some hf;have h2:=cX h2;simp only;obtain⟨p1,p2⟩:=p;simp only at h2;subst h2;exact Kf h.apart h1 hm
theorem inv_zero {n:Nat} {ρ:List (Nat×Nat)} (h:xU n ρ):inv ρ 0=0:=by
 unfold inv
 cases hf:ρ.find? fun p=>Nat.beq p.2 0 with
 |none=>rfl
 |some p=>
  have h1:=List.mem_of_find?_eq_some hf;have h2:=List.find?_some hf;have h2:=cX h2;obtain⟨p1,p2⟩:=p;have:=(h.rng p1 p2 h1).1;simp only at h2;omega
theorem tq {o m:Nat} {ρ:List (Nat×Nat)} (hl:aa o ρ=some m):uO ρ o=m:=by unfold uO;rw[hl]
theorem Ao {n:Nat} {ρ:List (Nat×Nat)} (h:xU n ρ):uO ρ 0=0:=by
 unfold uO
 cases hl:aa 0 ρ with
 |none=>rfl
 |some m=>exact absurd rfl (h.rng 0 m (dx hl)).2.2
theorem tw {ob:List (Nat×OB)} {m:Nat} {b:OB}: ∀{ρ:List (Nat×Nat)},aa m (jZ ob ρ)=some b→ ∃o,(o,m)∈ρ∧aa o ob=some b
 |(o,n)::r,h=>by
  simp only[jZ] at h
  cases ho:aa o ob with
  |none=>
   rw[ho] at h;obtain⟨o',h1,h2⟩:=tw h;exact⟨o',.tail _ h1,h2⟩
  |some b'=>
   rw[ho] at h;simp only[bX] at h
   by_cases hm:m=n
   ·rw[aO hm] at h;cases h;subst hm;exact⟨o,.head _,ho⟩
   ·rw[aD hm] at h
    obtain⟨o',h1,h2⟩:=tw h;exact⟨o',.tail _ h1,h2⟩
theorem Cz {ob:List (Nat×OB)} {o m:Nat} {b:OB} (ho:aa o ob=some b): ∀{ρ:List (Nat×Nat)},(ρ.Pairwise fun a b=>a.1≠b.1∧a.2≠b.2)→(o,m)∈ρ→aa m (jZ ob ρ)=some b
 |(o',n)::r,h,hm=>by
  rw[List.pairwise_cons] at h;simp only[jZ];rcases bC.1 hm with e|hm
  ·cases e
   rw[ho];simp only[bX,aO]
  ·have h1:=(h.1 _ hm).2
   have ih:=Cz ho h.2 hm
   cases ho':aa o' ob with
   |none=>exact ih
   |some b'=>
    simp only[bX];rw[aD (Ne.symm h1)];exact ih
def Fp.CA (φ:Fp) (ρ:List (Nat×Nat)):Fp:={φ with S:=fun m=>φ.S (inv ρ m),V:=fun m=>φ.V (inv ρ m)}
section
variable {ob : List (Nat × OB)} {n : Nat} {ρ : List (Nat × Nat)} (hρ : xU n ρ)
include hρ
theorem tC {o m:Nat} {b:OB} (hm:aa o ρ=some m) (ho:aa o ob=some b):aa m (jZ ob ρ)=some b:=Cz ho hρ.apart (dx hm)
theorem GW {o m:Nat} (hm:aa o ρ=some m):(φ.CA ρ).S m=φ.S o:=by show φ.S (inv ρ m)=_;rw[inv_eq hρ hm]
theorem ER {o m:Nat} (hm:aa o ρ=some m):(φ.CA ρ).V m=φ.V o:=by show φ.V (inv ρ m)=_;rw[inv_eq hρ hm]
theorem GX:(φ.CA ρ).S 0=φ.S 0:=by show φ.S (inv ρ 0)=_;rw[inv_zero hρ]
theorem GY {ds:List Nat} (hz: ∀d,aj ob d→d≠0) (hd: ∀d∈ds,d=0∨aj ob d) (hc: ∀o∈ds,o≠0→ ∃m,aa o ρ=some m):
 (∀d∈ds.map (uO ρ),d=0∨aj (jZ ob ρ) d)∧ ∀k,rd φ ds k→rd (φ.CA ρ) (ds.map (uO ρ)) k:=by
 refine⟨fun d hm=> ?_,fun k hk=> ?_⟩
 ·obtain⟨o,h1,rfl⟩:=List.mem_map.1 hm
  rcases hd o h1 with rfl|h2
  ·exact .inl (Ao hρ)
  ·obtain⟨m,h3⟩:=hc o h1 (hz o h2)
   obtain⟨b,h4⟩:=h2;rw[tq h3];exact .inr ⟨b,tC hρ h3 h4⟩
 ·rcases hk with hk|⟨d,hm,hk⟩
  ·exact .inl hk
  ·refine .inr ⟨uO ρ d,List.mem_map_of_mem hm,?_⟩
   rcases hd d hm with rfl|h2
   ·rw[Ao hρ,GX hρ];exact hk
   ·obtain⟨m,h3⟩:=hc d hm (hz d h2)
    rw[tq h3,GW hρ h3];exact hk
theorem bh.CA (hz: ∀d,aj ob d→d≠0) {e:CE} {v:Value} (hc: ∀o∈cr e,o≠0→ ∃m,aa o ρ=some m) (h:bh ob w φ e v):bh (jZ ob ρ) w (φ.CA ρ) (tj ρ e) v:=by
 cases e with
 |ref o cut=>
  obtain⟨b,h1,h2⟩:=h;obtain⟨m,h3⟩:=hc o (by simp[cr]) (hz o ⟨b,h1⟩);simp only[tj];rw[tq h3];exact⟨b,tC hρ h3 h1,by rw[ER hρ h3];exact h2⟩
 |snap ds loc z rows=>
  obtain⟨h1,h2,h3⟩:=h;obtain⟨g1,g2⟩:=GY hρ (φ:=φ) hz h1 hc;refine⟨g1,h2.gq g2,fun o i f hl=> ?_⟩
  cases loc with
  |none=>cases hl
  |some q=>
   obtain⟨o',i',f'⟩:=q;simp only[aE,oS] at hl;obtain⟨rfl,rfl,rfl⟩:=hl;obtain⟨a1,b,a2,a3,a4,ad,n,c,a5,a6⟩:=h3 o' i' f' rfl;obtain⟨m,a7⟩:=hc o' a1 (hz o' ⟨b,a2⟩);refine⟨List.mem_map_of_mem a1,?_⟩;rw[tq a7];exact⟨b,tC hρ a7 a2,a3,a4,ad,n,c,by rw[ER hρ a7];exact a5,a6⟩
 |_=>exact h
theorem aV.CA (hz: ∀d,aj ob d→d≠0) {e:TE} {v:Value} (hc: ∀o∈mR e,o≠0→ ∃m,aa o ρ=some m) (h:aV ob w φ e v):aV (jZ ob ρ) w (φ.CA ρ) (mQ (tj ρ) (GL ρ) e) v:=by
 have comp: ∀(c:gX) (u:Value),(∀o∈dg [c],o≠0→ ∃m,aa o ρ=some m)→eM ob w φ c u→eM (jZ ob ρ) w (φ.CA ρ) (kR (tj ρ) c) u:=by
  intro c u hc h
  cases c with
  |ptr b=>exact h
  |mk a cs=>
   simp only[dg,kM] at hc;have IS: ∀e∈cs,∀o∈cr e,o≠0→ ∃m,aa o ρ=some m:=fun e he o ho=>hc o (List.mem_flatMap.2 ⟨e,he,ho⟩)
   cases a with
   |true=>
    obtain⟨xs,h1,h2,h3⟩:=h;refine⟨xs,h1,by simp[h2],fun j e he=> ?_⟩;rw[eF] at he
    cases h4:cs[j]? with
    |none=>rw[h4] at he;cases he
    |some e0=>
     rw[h4] at he;simp only[e9,aE] at he;subst he;obtain⟨x,hx,hx1,hok⟩:=h3 j e0 h4;exact⟨x,hx,hx1,hok.CA hρ hz (IS e0 (c7 h4))⟩
   |false=>
    obtain⟨e,rfl,h2,h3⟩:=h;exact⟨_,rfl,h2,h3.CA hρ hz (IS e dK)⟩
 have dcomp: ∀(es:List gX) (c:gX),c∈es→ ∀o,o∈dg [c]→o∈dg es:=by
  intro es
  induction es with
  |nil=>intro c hc;cases hc
  |cons x r ih=>
   intro c hc o ho;rcases bC.1 hc with rfl|hc
   ·cases c with
    |ptr b=>simp[dg] at ho
    |mk a cs=>
     simp only[dg,kM] at ho;simp only[dg];exact dz _ ho
   ·have:=ih c hc o ho
    cases x with
    |ptr b=>exact this
    |mk a cs=>simp only[dg];exact fW _ this
 cases e with
 |v t es=>
  cases t with
  |true=>
   obtain⟨vs,h1,h2,h3⟩:=h;refine⟨vs,h1,by rw[hJ];exact h2,fun k c hk=> ?_⟩;rw[kk] at hk
   cases h4:es[k]? with
   |none=>rw[h4] at hk;cases hk
   |some c0=>
    rw[h4] at hk;simp only[e9,aE] at hk;obtain⟨u,hu,hok⟩:=h3 k c0 h4;exact⟨u,hu,by rw[←hk];exact comp c0 u (fun o ho=>hc o (dcomp es c0 (c7 h4) o ho)) hok⟩
  |false=>
   obtain⟨c,rfl,hok⟩:=h;refine⟨kR (tj ρ) c,?_,comp c v hc hok⟩
   cases c<;>rfl
 |ep ds cells=>
  obtain⟨h1,ad,h2,hr,h3⟩:=h;obtain⟨g1,g2⟩:=GY hρ (φ:=φ) hz h1 hc;refine⟨g1,ad,h2,fun hne=>g2 _ (hr hne),fun j tc hj=> ?_⟩;obtain⟨u,h4,h5⟩:=h3 j tc hj;exact⟨u,h4,h5.gq g2⟩
 |er o path i f=>
  obtain⟨b,h1,h2,ad,n,c,h3,h4⟩:=h;obtain⟨m,h5⟩:=hc o (by simp[mR]) (hz o ⟨b,h1⟩);show aV (jZ ob ρ) w (φ.CA ρ) (.er (uO ρ o) path i f) v;rw[tq h5];exact⟨b,tC hρ h5 h1,h2,ad,n,c,by rw[ER hρ h5];exact h3,h4⟩
 |_=>exact h
end
theorem an.canon (h:an F A w0 φ st tm w): ∃φ',an F A w0 φ' (canon st) tm w∧φ'.β=φ.β:=by
 obtain⟨n,hρ,_,hall⟩:=q7 (K0 st) 1 [] (bH _) ⟨fun _ _ h=>(by cases h),List.Pairwise.nil⟩;unfold T.canon My;generalize number (K0 st) 1 []=ρ at hρ hall;have hz:=h.sep.nz
 have dom: ∀m,aj (jZ st.ob ρ) m→ ∃o,aa o ρ=some m∧aj st.ob o:=fun m ⟨b,hm⟩=>by
  obtain⟨o,h1,h2⟩:=tw hm;exact⟨o,qh (n:=n) hρ.apart h1,b,h2⟩
 have domS: ∀m k,aj (jZ st.ob ρ) m→(φ.CA ρ).S m k→ ∃o,aa o ρ=some m∧aj st.ob o∧φ.S o k:=fun m k hm hk=>by
  obtain⟨o,h1,h2⟩:=dom m hm;rw[GW hρ h1] at hk;exact⟨o,h1,h2,hk⟩
 refine⟨φ.CA ρ,⟨fun i=> ?_,fun b cs hb j e he=> ?_,fun m b hm=> ?_,?_,h.frm⟩,rfl⟩
 ·show aV (jZ st.ob ρ) w (φ.CA ρ) (match aa i (mapA (mQ (tj ρ) (GL ρ)) st.tm) with|some e=>e|none=> .dead) (tm.getD i undef)
  rw[jl]
  cases hi:aa i st.tm with
  |none=>trivial
  |some e=>
   have:=h.tmp i;unfold TS.get at this;rw[hi] at this;exact this.CA hρ hz fun o ho Na=>hall o (dz _ (List.mem_flatMap.2 ⟨_,dx hi,ho⟩)) Na
 ·simp only[jl] at hb
  cases h1:aa b st.bx with
  |none=>rw[h1] at hb;cases hb
  |some cs0=>
   rw[h1] at hb;simp only[e9,aE] at hb;subst hb;rw[eF] at he
   cases h2:cs0[j]? with
   |none=>rw[h2] at he;cases he
   |some e0=>
    rw[h2] at he;simp only[e9,aE] at he;subst he;obtain⟨v,h3,h5,h4⟩:=h.box b cs0 h1 j e0 h2;exact⟨v,h3,h5,h4.CA hρ hz fun o ho Na=>hall o (fW _ (List.mem_flatMap.2 ⟨_,dx h1,List.mem_flatMap.2 ⟨e0,c7 h2,ho⟩⟩)) Na⟩
 ·obtain⟨o,h1,h2⟩:=tw hm
  have h1:=qh (n:=n) hρ.apart h1;unfold fE;rw[GW hρ h1,ER hρ h1];exact h.obj o b h2
 ·have hs:=h.sep.boxes (cP (tj ρ))
  exact {
   arg:=by rw[GX hρ];exact h.sep.arg
   nz:=fun m hm e=>by
    obtain⟨o,h1,_⟩:=dom m hm;have:=(hρ.rng o m (dx h1)).1;omega
   apart:=fun m m' k h1 h2 h3 h4=>by
    obtain⟨o,a1,a2,a3⟩:=domS m k h1 h3;obtain⟨o',b1,b2,b3⟩:=domS m' k h2 h4;have:=h.sep.apart o o' k a2 b2 a3 b3;subst this;rw[a1] at b1;cases b1;rfl
   read:=fun m k h1 h2=>by obtain⟨o,a1,a2,a3⟩:=domS m k h1 h2;exact h.sep.read o k a2 a3
   fresh:=fun m k h1 h2=>by obtain⟨o,a1,a2,a3⟩:=domS m k h1 h2;exact h.sep.fresh o k a2 a3
   ro:=hs.ro
   fA:=hs.fA
   box:=fun b cs hb hw=>by
    obtain⟨a1,a2,a3,a4⟩:=hs.box b cs hb hw;refine⟨a1,fun m hm hk=> ?_,a3,a4⟩;obtain⟨o,c1,c2,c3⟩:=domS m _ hm hk;exact a2 o c2 c3
   spot:=hs.spot
   soft:=hs.soft}
theorem an.head (h:an F A w0 φ st tm w) (l:List Nat):Rel F A w0 (Cv l st) tm w:=by
 obtain⟨φ1,h1,_⟩:=(h.MA l).Cu;obtain⟨φ2,h2,_⟩:=h1.canon;exact⟨φ2,h2⟩
end Go.T
