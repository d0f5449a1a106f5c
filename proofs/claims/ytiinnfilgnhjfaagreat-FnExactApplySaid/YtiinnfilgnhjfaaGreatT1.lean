import Derived.Below
import Derived.WalkKit
import Derived.Laws.AppendOwn
import Derived.DataElems
namespace Go.T
theorem c7 {P Q:Prop} (h:P:=by rfl) (k:Q:=by trivial):P∧Q:=⟨h,k⟩
theorem cF {P:Prop} (h:P:=by first|rfl|(simp;done)|(simp;omega)):P:=h
theorem an {P:Prop} (h:P:=by omega):P:=h
theorem eg {P:Prop} (h:P:=by assumption):P:=h
theorem fj {P:Prop} (h:P:=by simp;omega):P:=h
theorem rV {P:Prop} (h:P:=by simp<;>omega):P:=h
theorem dh {P:Prop} (h:P:=by simp):P:=h
theorem zYt {P:Prop} (h:P:=by trivial):P:=h
theorem zYr {P:Prop} (h:P:=by rfl):P:=h
abbrev ze:= @Array.getD_eq_getD_getElem?
abbrev zf:= @Array.getElem?_eq_getElem
abbrev ZH:= @Array.getElem?_setIfInBounds
abbrev UR:= @Array.getElem?_toList
abbrev Ab:= @Array.length_toList
abbrev fk:= @Bool.and_eq_true
abbrev j7:= @Bool.and_true
abbrev MM:= @Bool.false_eq_true
abbrev IL:= @Bool.false_or
abbrev F0:= @Bool.not_eq_true'
abbrev Bu:= @Bool.not_true
abbrev dB:= @Bool.true_and
abbrev pO:= @Int.ofNat_eq_natCast
abbrev mT:= @Int.toNat_natCast
abbrev qu:= @List.all_cons
abbrev qS:= @List.all_nil
abbrev Ac:= @List.append_assoc
abbrev qv:= @List.append_nil
abbrev Rb:= @List.cons_append
abbrev KT:= @List.drop_eq_getElem_cons
abbrev eK:= @List.drop_length
abbrev Rc:= @List.drop_of_length_le
abbrev DK:= @List.eq_nil_of_length_eq_zero
abbrev ZI:= @List.flatten_append
abbrev Ae:= @List.flatten_cons
abbrev wG:= @List.getD_eq_getElem?_getD
abbrev nw:= @List.getElem?_append_left
abbrev pP:= @List.getElem?_append_right
abbrev yg:= @List.getElem?_cons_succ
abbrev gT:= @List.getElem?_cons_zero
abbrev uw:= @List.getElem?_drop
abbrev cw:= @List.getElem?_eq_getElem
abbrev US:= @List.getElem?_eq_none
abbrev mm:= @List.getElem?_map
abbrev DL:= @List.getElem?_take
abbrev DM:= @List.getElem_mem
abbrev cM:= @List.length_append
abbrev gn:= @List.length_cons
abbrev jd:= @List.length_drop
abbrev ZJ:= @List.length_filter_le
abbrev ct:= @List.length_map
abbrev Re:= @List.length_modify
abbrev gX:= @List.length_singleton
abbrev fu:= @List.length_take
abbrev ux:= @List.map_append
abbrev DN:= @List.map_drop
abbrev IM:= @List.map_take
abbrev mo:= @List.mem_append_left
abbrev r9:= @List.mem_append_right
abbrev gj:= @List.mem_cons
abbrev iV:= @List.mem_of_getElem?
abbrev zg:= @List.mem_of_mem_drop
abbrev Bv:= @List.mem_of_mem_take
abbrev qw:= @List.mem_singleton
abbrev xy:= @List.nil_append
abbrev MN:= @List.take_append_drop
abbrev Rf:= @List.take_append_of_le_length
abbrev we:= @List.take_length
abbrev MO:= @List.take_of_length_le
abbrev ny:= @Nat.add_assoc
abbrev wH:= @Nat.add_eq
abbrev uN:= @Nat.add_mul
abbrev xz:= @Nat.add_zero
abbrev UT:= @Nat.ble_eq_true_of_le
abbrev MP:= @Nat.div_add_mod'
abbrev kD:= @Nat.eq_of_beq_eq_true
abbrev IN:= @Nat.le_max_left
abbrev wI:= @Nat.le_of_ble_eq_true
abbrev de:= @Nat.le_refl
abbrev uO:= @Nat.le_trans
abbrev mq:= @Nat.lt_of_lt_of_le
abbrev sP:= @Nat.min
abbrev qx:= @Nat.mul_le_mul_right
abbrev wJ:= @Nat.ne_of_beq_eq_false
abbrev qT:= @Nat.sub_self
abbrev Bw:= @Nat.succ_mul
abbrev nB:= @Nat.zero_add
abbrev F1:= @Nat.zero_le
abbrev pQ:= @Option.map_some
abbrev aY:= @Option.some.injEq
abbrev Bx:= @Prod.mk.injEq
abbrev fO:= @decide_eq_false
abbrev gq:= @decide_eq_true
abbrev dN:= @exists_eq_left
abbrev dA:= @exists_eq_left'
abbrev aF:= @if_neg
abbrev aJ:= @if_pos
abbrev yh:= @of_decide_eq_true
inductive TC where
 |sc (v:Value)
 |sub (s:Nat) (rows:List (List TC))
 |any
 deriving Inhabited
inductive Mode where
 |snap|top|deep
 deriving DecidableEq,Inhabited
inductive CE where
 |sc (v:Value)
 |nil (z:Nat)
 |ref (o:Nat) (cut:Option (Int×Int))
 |snap (ds:List Nat) (loc:Option (Nat×Int×Nat)) (z:Nat) (rows:List (List TC))
 |gone
 deriving Inhabited
inductive vH where
 |mk (agg:Bool) (cs:List CE)
 |ptr (b:Nat)
inductive TE where
 |dead
 |v (tup:Bool) (es:List vH)
 |bp (b off:Nat)
 |ep (ds:List Nat) (cells:List TC)
 |er (o:Nat) (path:Option (Int×Nat)) (i:Int) (f:Nat)
 |fn (f:FuncId) (caps:List Nat)
 |kb (b:Bool)
 deriving Inhabited
structure OB where
 deep:Bool
 z:Nat
 rows:List (List TC)
structure TS where
 tm:List (Nat×TE)
 bx:List (Nat×List CE)
 ob:List (Nat×OB)
inductive TI where
 |int (k:IntKind)
 |bool
 |str
 |slice (e:TypeId)
 |ptr (e:TypeId)
 |struct (fs:List (Nat×TypeId))
 |other
 deriving Inhabited
structure nT where
 ti:TI
 size:Nat
 bytes:Nat
 flat:Bool
 zero:List TC
 eqs:List Nat:=[]
 deriving Inhabited
inductive TV where
 |c (c:TC)
 |ag (cs:List TC)
 |tu (vs:List (Nat×List TC))
 |bx (cs:List TC)
 |fn (f:FuncId) (caps:List (List TC))
inductive cz where
 |borrow|inout (ms:List Mode)|consume
 deriving DecidableEq
def cz.mc:cz→Nat→Mode
 | .borrow,_=> .snap
 | .inout ms,j=>match ms[j]? with|some .snap=> .snap|_=> .deep
 | .consume,_=> .deep
structure Sig where
 ps:List cz
 shares:Bool
 res:List (List Mode)
inductive Kk where
 |nil
 |op (i:Nat) (fl:List Nat) (r:Kk)
 |alt (a b:Kk)
structure pU where
 P:Program
 tt:TypeId→nT
 sig:FuncId→Sig
 lr:FuncId→Nat→List Nat
 lb:FuncId→Nat→List Nat
 UM:FuncId→Nat→Option Kk
 ext:FuncId→Option (List TV→Option (TV×List TV))
inductive TX where
 |norm|ex (id:Nat)|ret
 deriving DecidableEq
inductive Ev (R:Type) where
 |fail
 |ret (r:R)
 |test (b:Bool) (k:Bool→Ev R)
 |row (rows:List (List TC)) (i:Int) (k:List TC→Ev R)
 |byte (s:ByteArray) (i:Int) (k:Int→Ev R)
 |bytes (rows:List (List TC)) (k:List Int→Ev R)
 |call (f:FuncId) (vs:List TV) (k:TV→List TV→Ev R)
 |loop (f:FuncId) (i:Nat) (c:Code) (st:TS) (k:TX→TS→Ev R)
 |both (a b:Ev R)
@[irreducible] def bG (a b:Int):Bool:=decide (a<b)
@[irreducible] def nv (a b:Int):Bool:=decide (a≤b)
@[irreducible] def bO (a b:Int):Bool:=a==b
@[irreducible] def eqB (a b:Bool):Bool:=a==b
@[irreducible] def uL (a b:ByteArray):Bool:=a.toList==b.toList
@[irreducible] def RM (a b:ByteArray):Bool:=Op.bytesLess a.toList b.toList
@[irreducible] def fits (n b:Nat):Bool:=decide (n*b≤140737488355328∧n≤140737488355328)
@[irreducible] def bT (rows:List (List TC)):Bool:=rows.all fun r=>r.all fun c=>match c with| .sc _=>true|_=>false
@[irreducible] def gH (l h n:Int):Bool:=decide (0≤l∧l≤h∧h≤n)
@[irreducible] def rowAt (rows:List (List TC)) (i:Int):Option (List TC):=if 0≤i then rows[i.toNat]? else none
@[irreducible] def xD (s:ByteArray) (i:Int):Option Int:=if 0≤i then(s[i.toNat]?).map fun b=>(b.toNat:Int) else none
@[irreducible] def aE (rows:List (List TC)) (l h:Int):List (List TC):=(rows.take h.toNat).drop l.toNat
@[irreducible] def kV (z:Nat) (rows:List (List TC)) (l h:Int):List (List TC):=rows.take l.toNat++List.replicate (h.toNat-l.toNat) (List.replicate z .any)++rows.drop h.toNat
@[irreducible] def sQ (rows bJ:List (List TC)):List (List TC):=bJ.take rows.length++rows.drop bJ.length
@[irreducible] def setRow (rows:List (List TC)) (i:Int) (f:Nat) (cs:List TC):List (List TC):=
  match rows[i.toNat]? with
  |some r=>rows.set i.toNat (r.take f++cs++r.drop (f+cs.length))
  |none=>rows
@[irreducible] def RN (a b:Int):Int:=if b<a then b else a
@[irreducible] def uE (n:Int):Nat:=n.toNat
@[irreducible] def UU (a b:Int):Int:=a+b
@[irreducible] def aek (k:IntKind) (a b:Int):Int:=k.wrap (a+b)
@[irreducible] def UW (k:IntKind) (a b:Int):Int:=k.wrap (a-b)
@[irreducible] def ael (k:IntKind) (a b:Int):Int:=k.wrap (a*b)
@[irreducible] def jm (k:IntKind) (a b:Int):Int:=k.wrap (a.tdiv b)
@[irreducible] def Dh (a b:Int):Int:=a.tmod b
@[irreducible] def am0 (k:IntKind) (a b:Int):Int:=k.wrap (a*2 ^ (min b.toNat k.bits))
@[irreducible] def ao6 (k:IntKind) (a b:Int):Int:=a.fdiv (2 ^ (min b.toNat k.bits))
@[irreducible] def aem (op:BinOp) (k:IntKind) (a b:Int):Int:=Go.bits op k a b
@[irreducible] def zh (k:IntKind) (n:Int):Int:=k.wrap n
@[irreducible] def Xt (a b:ByteArray):ByteArray:=a++b
@[irreducible] def ao7 (s:ByteArray) (l h:Int):ByteArray:=s.extract l.toNat h.toNat
def zW:List (List TC)→Option (List Int)
 |[]=>some []
 |[.sc (.int .u8 n)]::r=>(zW r).map fun ns=>n::ns
 |_=>none
@[irreducible] def wK (rows:List (List TC)):Option (List Int):=zW rows
@[irreducible] def IP (ns:List Int):ByteArray:=⟨(ns.map fun n:Int=>UInt8.ofNat n.toNat).toArray⟩
@[irreducible] def KU (s:ByteArray):List (List TC):=s.data.toList.map fun b=>[TC.sc (.int .u8 b.toNat)]
abbrev one (c:CE):TE:= .v false [.mk false [c]]
abbrev S (v:Value):TE:=one (.sc v)
def pI (o:Nat):List Nat→Bool
 |[]=>false
 |a::r=>match Nat.beq a o with|true=>true|false=>pI o r
def acf (o:Nat):List Nat→List Nat
 |[]=>[]
 |a::r=>match Nat.beq a o with|true=>acf o r|false=>a::acf o r
def zi:List Nat→List Nat→Bool
 |[],_=>false
 |a::r,l=>match pI a l with|true=>true|false=>zi r l
section
variable {α : Type}
def az (i:Nat):List (Nat×α)→Option α
 |[]=>none
 |(j,e)::r=>match Nat.beq j i with|true=>some e|false=>az i r
def rW (i:Nat) (e:α):List (Nat×α)→List (Nat×α)
 |[]=>[(i,e)]
 |(j,e')::r=>match Nat.beq j i with
  |true=>(i,e)::r
  |false=>match Nat.ble i j with
   |true=>(i,e)::(j,e')::r
   |false=>(j,e')::rW i e r
def uP (i:Nat):List (Nat×α)→List (Nat×α)
 |[]=>[]
 |(j,e)::r=>match Nat.beq j i with|true=>uP i r|false=>(j,e)::uP i r
def mapA (f:α→α):List (Nat×α)→List (Nat×α)
 |[]=>[]
 |(j,e)::r=>(j,f e)::mapA f r
end
def TS.get (st:TS) (i:Nat):TE:=match az i st.tm with|some e=>e|none=> .dead
def TS.set (st:TS) (i:Nat) (e:TE):TS:=⟨rW i e st.tm,st.bx,st.ob⟩
def TS.OH (st:TS) (i:Nat) (cs:List CE):TS:=⟨st.tm,rW i cs st.bx,st.ob⟩
def TS.am1 (st:TS) (i:Nat) (o:OB):TS:=⟨st.tm,st.bx,rW i o st.ob⟩
def oy (f:CE→CE):List vH→List vH
 |[]=>[]
 | .mk a cs::r=> .mk a (cs.map f)::oy f r
 | .ptr b::r=> .ptr b::oy f r
def Di (f:CE→CE) (g:TE→TE):TE→TE
 | .v tup es=> .v tup (oy f es)
 |e=>g e
def By (f:CE→CE) (g:TE→TE) (h:List (Nat×OB)→List (Nat×OB)) (st:TS):TS:=
 ⟨mapA (Di f g) st.tm,mapA (List.map f) st.bx,h st.ob⟩
def iX:CE→List Nat
 | .ref o _=>[o]
 | .snap d _ _ _=>d
 |_=>[]
def kW:List vH→List Nat
 |[]=>[]
 | .mk _ cs::r=>cs.flatMap iX++kW r
 | .ptr _::r=>kW r
def Dj:TE→List Nat
 | .v _ es=>kW es
 | .ep d _=>d
 | .er o _ _ _=>[o]
 |_=>[]
def ZK (o:Nat) (e:CE):CE:=match pI o (iX e) with|true=> .gone|false=>e
def afE (o:Nat):TE→TE
 | .ep d cells=>match pI o d with|true=> .dead|false=> .ep d cells
 | .er p path i f=>match Nat.beq p o with|true=> .dead|false=> .er p path i f
 |e=>e
def qU (o:Nat) (st:TS):TS:=By (ZK o) (afE o) (uP o) st
def aen (o:Nat) (e:CE):CE:=match e with
 | .snap d l z rows=>match pI o d with|true=> .gone|false=> .snap d l z rows
 |e=>e
def aaz (o:Nat):TE→TE
 | .ep d cells=>match pI o d with|true=> .dead|false=> .ep d cells
 | .er p (some q) i f=>match Nat.beq p o with|true=> .dead|false=> .er p (some q) i f
 |e=>e
def yI (o:Nat) (b:OB) (st:TS):TS:=By (aen o) (aaz o) (rW o b) st
def acg (cut:Option (Int×Int)) (rows:List (List TC)):List (List TC):=match cut with
 |none=>rows
 |some (l,h)=>aE rows l h
def am2 (o:Nat) (l:Option (Nat×Int×Nat)):Option (Nat×Int×Nat):=match l with
 |some (p,i,f)=>match Nat.beq p o with|true=>none|false=>some (p,i,f)
 |none=>none
def Uy (o:Nat) (b:OB) (e:CE):CE:=match e with
 | .ref p cut=>match Nat.beq p o with|true=> .snap [] none b.z (acg cut b.rows)|false=> .ref p cut
 | .snap d l z rows=> .snap (acf o d) (am2 o l) z rows
 |e=>e
def aaA (o:Nat):TE→TE
 | .ep d cells=> .ep (acf o d) cells
 | .er p path i f=>match Nat.beq p o with|true=> .dead|false=> .er p path i f
 |e=>e
def Bz (st:TS) (o:Nat):TS:=match az o st.ob with
 |some b=>By (Uy o b) (aaA o) (uP o) st
 |none=>st
def IQ (o:Nat) (b:OB) (st:TS):TS:=(qU o st).am1 o b
def nC:List (Nat×OB)→List (Nat×OB)→List (Nat×OB)
 |[],ob=>ob
 |(i,b)::r,ob=>rW i b (nC r ob)
def xA {α:Type}:List (Nat×α)→List Nat
 |[]=>[]
 |(o,_)::r=>o::xA r
def Kl (l:List Nat) (e:CE):CE:=match e with
 | .snap d l' z rows=>match zi d l with|true=> .gone|false=> .snap d l' z rows
 |e=>e
def E2 (l:List Nat):TE→TE
 | .ep d cells=>match zi d l with|true=> .dead|false=> .ep d cells
 | .er p (some q) i f=>match pI p l with|true=> .dead|false=> .er p (some q) i f
 |e=>e
def yJ (W:List (Nat×OB)) (st:TS):TS:=match W with
 |[]=>st
 |W=>By (Kl (xA W)) (E2 (xA W)) (nC W) st
section
variable {Z : Type}
def fL {α:Type} (f:α→(α→Z)→Z):List α→(List α→Z)→Z
 |[],K=>K []
 |a::r,K=>f a fun a'=>fL f r fun r'=>K (a'::r')
def fB (b:Bool) (K:Bool→Z):Z:=match b with|true=>K true|false=>K false
def fN (n:Nat) (K:Nat→Z):Z:=K n
def ams (p:Option (Int×Nat)) (K:Option (Int×Nat)→Z):Z:=match p with|none=>K none|some (a,b)=>K (some (a,b))
def ao8 (p:Option (Int×Int)) (K:Option (Int×Int)→Z):Z:=match p with|none=>K none|some (a,b)=>K (some (a,b))
def fAt (p:Option (Nat×Int×Nat)) (K:Option (Nat×Int×Nat)→Z):Z:=match p with|none=>K none|some (a,b,c)=>K (some (a,b,c))
def fV (v:Value) (K:Value→Z):Z:=match v with
 | .int k n=>K (.int k n)
 | .bool b=>K (.bool b)
 | .string s=>K (.string s)
 |v=>K v
def fTC (c:TC) (K:TC→Z):Z:=match c with| .sc v=>fV v fun v=>K (.sc v)| .sub z rows=>K (.sub z rows)| .any=>K .any
def fCE (e:CE) (K:CE→Z):Z:=match e with
 | .sc v=>fV v fun v=>K (.sc v)
 | .nil z=>K (.nil z)
 | .ref o cut=>ao8 cut fun cut=>K (.ref o cut)
 | .snap d l z rows=>fL fN d fun d=>fAt l fun l=>K (.snap d l z rows)
 | .gone=>K .gone
def ah1 (c:vH) (K:vH→Z):Z:=match c with
 | .mk a cs=>fB a fun a=>fL fCE cs fun cs=>K (.mk a cs)
 | .ptr b=>K (.ptr b)
def fTE (e:TE) (K:TE→Z):Z:=match e with
 | .dead=>K .dead
 | .v tup es=>fB tup fun tup=>fL ah1 es fun es=>K (.v tup es)
 | .bp b off=>K (.bp b off)
 | .ep d cells=>fL fN d fun d=>fL fTC cells fun cells=>K (.ep d cells)
 | .er r path i f=>ams path fun path=>K (.er r path i f)
 | .fn f caps=>K (.fn f caps)
 | .kb b=>fB b fun b=>K (.kb b)
def fOB (b:OB) (K:OB→Z):Z:=match b with|⟨d,z,rows⟩=>fB d fun d=>K ⟨d,z,rows⟩
def ah2 (cs:List TC) (K:List TC→Z):Z:=fL fTC cs K
def fTV (v:TV) (K:TV→Z):Z:=match v with
 | .c c=>fTC c fun c=>K (.c c)
 | .ag cs=>ah2 cs fun cs=>K (.ag cs)
 | .tu vs=>fL (fun p K=>match p with|(i,cs)=>ah2 cs fun cs=>K (i,cs)) vs fun vs=>K (.tu vs)
 | .bx cs=>ah2 cs fun cs=>K (.bx cs)
 | .fn f caps=>K (.fn f caps)
def fTS (st:TS) (K:TS→Z):Z:=
 fL (fun p K=>match p with|(i,e)=>fTE e fun e=>K (i,e)) st.tm fun tm=>
 fL (fun p K=>match p with|(i,cs)=>fL fCE cs fun cs=>K (i,cs)) st.bx fun bx=>
 fL (fun p K=>match p with|(i,b)=>fOB b fun b=>K (i,b)) st.ob fun ob=>K ⟨tm,bx,ob⟩
end
def sR (st:TS):CE→Option (Nat×List (List TC))
 | .nil z=>some (z,[])
 | .ref o cut=>match az o st.ob with|some ⟨_,z,rows⟩=>some (z,acg cut rows)|none=>none
 | .snap _ _ z rows=>some (z,rows)
 |_=>none
def IS (st:TS) (e:CE):Option TC:=match e with
 | .sc v=>some (.sc v)
 |e=>match sR st e with|some (z,rows)=>some (.sub z rows)|none=>none
def zw (st:TS):List CE→Option (List TC)
 |[]=>some []
 |e::r=>match IS st e,zw st r with
  |some c,some cs=>some (c::cs)
  |_,_=>none
def aaB (c:TC):CE:=match c with| .sc v=> .sc v| .sub z _=> .nil z| .any=> .gone
section
variable (C : pU)
def aaC (ty:TypeId):Value→TE
 | .slice none 0 0=>match(C.tt ty).ti with
   | .slice e=>one (.nil (C.tt e).size)
   |_=> .dead
 | .int k n=>S (.int k n)
 | .bool b=> .kb b
 | .string s=>S (.string s)
 |_=> .dead
def xq (st:TS) (ty:TypeId):Operand→TE
 | .tmp i=>st.get i
 | .const v=>aaC C ty v
 | .func f=> .fn f []
 | .global _=> .dead
def ah3:TE→Option Value
 | .v false [.mk false [.sc v]]=>some v
 | .kb b=>some (.bool b)
 |_=>none
def asInt:TE→Option Int
 | .v false [.mk false [.sc (.int _ n)]]=>some n
 |_=>none
def Bq:TE→Option CE
 | .v false [.mk false [e]]=>some e
 | .kb b=>some (.sc (.bool b))
 |_=>none
def Km:TE→Option (List CE)
 | .v false [.mk _ cs]=>some cs
 | .kb b=>some [.sc (.bool b)]
 |_=>none
def ah4 (op:BinOp):Value→Value→Option Value
 | .int k a,.int k' b=>
   match op with
   | .shl=>if 0≤b then some (.int k (am0 k a b)) else none
   | .shr=>if 0≤b then some (.int k (ao6 k a b)) else none
   |_=>if k=k' then
    match op with
    | .add=>some (.int k (aek k a b))
    | .sub=>some (.int k (UW k a b))
    | .mul=>some (.int k (ael k a b))
    | .and=>some (.int k (aem .and k a b))
    | .or=>some (.int k (aem .or k a b))
    | .xor=>some (.int k (aem .xor k a b))
    | .eql=>some (.bool (bO a b))
    | .neq=>some (.bool (!bO a b))
    | .lss=>some (.bool (bG a b))
    | .leq=>some (.bool (nv a b))
    | .gtr=>some (.bool (bG b a))
    | .geq=>some (.bool (nv b a))
    |_=>none
    else none
 | .string a,.string b=>match op with
   | .eql=>some (.bool (uL a b))
   | .neq=>some (.bool (!uL a b))
   | .lss=>some (.bool (RM a b))
   | .leq=>some (.bool (RM a b||uL a b))
   | .gtr=>some (.bool (!(RM a b||uL a b)))
   | .geq=>some (.bool (!RM a b))
   |_=>none
 |_,_=>none
def BA:List Nat→List CE→List CE→Option Bool
 |[],[],[]=>some true
 |1::ks,.sc (.int k a)::r,.sc (.int k' b)::r'=>if k=k' then(match BA ks r r' with|some q=>some (bO a b&&q)|none=>none) else none
 |2::ks,.sc (.bool a)::r,.sc (.bool b)::r'=>match BA ks r r' with|some q=>some (eqB a b&&q)|none=>none
 |3::ks,.sc (.string a)::r,.sc (.string b)::r'=>match BA ks r r' with|some q=>some (uL a b&&q)|none=>none
 |_,_,_=>none
def MQ (t:TypeId):Bool:=match(C.tt t).ti with| .struct _=>true|_=>false
def uQ (t:TypeId) (f:Nat):Option (Nat×TypeId):=match(C.tt t).ti with| .struct fs=>fs[f]?|_=>none
def akI (t:TypeId) (f:Nat):TypeId:=match uQ C t f with|some (_,ft)=>ft|none=>0
def E3 (t:TypeId):Option TypeId:=match(C.tt t).ti with| .slice e=>some e|_=>none
def am4 (ds:List Nat) (loc:Option (Nat×Int×Nat)) (j:Nat) (c:TC):CE:=
 match c with
 | .sc v=> .sc v
 | .sub z rows=> .snap ds (match loc with|some (o,i,f)=>some (o,i,f+j)|none=>none) z rows
 | .any=> .gone
def E4 (ds:List Nat) (loc:Option (Nat×Int×Nat)):Nat→List TC→List CE
 |_,[]=>[]
 |j,c::r=>am4 ds loc j c::E4 ds loc (j+1) r
def known (i:nT):Bool:=match i.ti with| .other=>false|_=>true
def Dk (i:nT):Bool:=match i.ti with| .other=>false| .ptr _=>false|_=>true
def ah5 (t:TypeId) (xs:List CE):TE:= .v false [.mk (MQ C t) xs]
variable {R : Type}
def KV (t:TypeId) (xs:List CE) (K:TE→Ev R):Ev R:=match known (C.tt t),Nat.beq xs.length (C.tt t).size with
 |true,true=>K (ah5 C t xs)
 |_,_=> .fail
def aaD (e:TypeId) (z:Nat):Bool:=match known (C.tt e) with|true=>Nat.beq z (C.tt e).size|false=>false
def afF (st:TS) (o:Nat) (path:Option (Int×Nat)) (i:Int) (f:Nat) (K:List TC→Ev R):Ev R:=
 match az o st.ob with
 |some ⟨_,_,rows⟩=>match path with
  |none=> .row rows i fun row=>K (row.drop f)
  |some (i0,f0)=> .row rows i0 fun row0=>match row0[f0]? with
   |some (.sub _ u6)=> .row u6 i fun row=>K (row.drop f)
   |_=> .fail
 |none=> .fail
def KW (st:TS) (t:TypeId) (e:TE) (K:TE→Ev R):Ev R:=
 match e with
 | .bp b off=>match az b st.bx with
   |some cs=>KV C t ((cs.drop off).take (C.tt t).size) K
   |none=> .fail
 | .ep ds cells=>KV C t (E4 ds none 0 (cells.take (C.tt t).size)) K
 | .er o path i f=>afF st o path i f fun cells=>
     KV C t (E4 [o] (match path with|none=>some (o,i,f)|some _=>none) 0 (cells.take (C.tt t).size)) K
 |_=> .fail
def E5 (t:TypeId):List (Nat×TE)→List CE→Option (List CE)
 |[],cs=>some cs
 |(f,e)::r,cs=>match uQ C t f,Km e with
  |some (off,ft),some c=>match Nat.beq c.length (C.tt ft).size with
   |true=>E5 t r (cs.take off++c++cs.drop (off+c.length))
   |false=>none
  |_,_=>none
def Uz (st:TS):List Operand→Option (List Nat)
 |[]=>some []
 |x::r=>match xq C st 0 x,Uz st r with
  | .bp b 0,some bs=>some (b::bs)
  |_,_=>none
def bound (st:TS) (d:Int):Option Operand→Option Int
 |none=>some d
 |some a=>asInt (xq C st 0 a)
def plain:TE→TE
 | .kb b=>S (.bool b)
 |e=>e
def ah6 (e:CE) (l h:Int):CE:=match e with
 | .nil z=> .nil z
 | .ref o none=> .ref o (some (l,h))
 | .ref o (some (a,_))=> .ref o (some (UU a l,UU a h))
 | .snap ds _ z rows=> .snap ds none z (aE rows l h)
 |e=>e
def ah7 (e:CE) (n:Int) (cells:List TC):TE:=match e with
 | .ref o none=> .er o none n 0
 | .ref o (some _)=> .ep [o] cells
 | .snap _ (some (o,i,f)) _ _=> .er o (some (i,f)) n 0
 | .snap ds none _ _=> .ep ds cells
 |_=> .dead
def UA (t:TypeId):Bool:=match(C.tt t).ti with| .bool=>true|_=>false
def am5 (bt:Bool) (op:BinOp) (a b:Value) (K:TE→Ev R):Ev R:=match op,a,b with
 | .eql,.bool p,.bool q=>match bt with|true=>K (S (.bool (eqB p q)))|false=> .fail
 | .neq,.bool p,.bool q=>match bt with|true=>K (S (.bool (!eqB p q)))|false=> .fail
 | .rem,.int k p,.int k' q=>if k=k' then .test (bO q 0) fun z=>match z with
     |false=>K (S (.int k (Dh p q)))
     |true=> .fail
   else .fail
 | .quo,.int k p,.int k' q=>if k=k' then .test (bO q 0) fun z=>match z with
     |false=>K (S (.int k (jm k p q)))
     |true=> .fail
   else .fail
 | .add,.string p,.string q=> .test (fits (p.size+q.size) 1) fun z=>match z with
   |true=>K (S (.string (Xt p q)))
   |false=> .fail
 |_,_,_=>match ah4 op a b with
  |some v=>K (S v)
  |none=> .fail
def am6 (st:TS) (t:TypeId) (e:CE) (K:Value→Ev R):Ev R:=match(C.tt t).ti,e with
 | .str,.sc (.string s)=>K (.int .i64 s.size)
 | .slice _,e=>match sR st e with
   |some (_,rows)=>K (.int .i64 rows.length)
   |none=> .fail
 |_,_=> .fail
def kE (st:TS) (o:Oper) (K:TE→Ev R):Ev R:=
 match o.op with
 | .move x=>K (xq C st o.type x)
 | .assign x=>K (xq C st o.type x)
 | .pick c a b=>match xq C st o.type c with
   | .kb p=>match p with
     |true=>K (xq C st o.type a)
     |false=>K (xq C st o.type b)
   |_=> .fail
 | .load t a=>KW C st t (xq C st 0 a) K
 | .nilCheck x=>match xq C st 0 x with
   | .bp b off=>K (.bp b off)
   | .ep d c=>K (.ep d c)
   | .er r p i f=>K (.er r p i f)
   |_=> .fail
 | .binOp op t x y _=>match plain (xq C st t x),plain (xq C st t y) with
   | .v false [.mk false [.sc a]],.v false [.mk false [.sc b]]=>am5 (UA C t) op a b K
   | .v false [.mk true xs],.v false [.mk true ys]=>match known (C.tt t),(C.tt t).eqs with
     |false,_=> .fail
     |true,[]=> .fail
     |true,k::ks=>match op,BA (k::ks) xs ys with
      | .eql,some b=>K (S (.bool b))
      | .neq,some b=>K (S (.bool (!b)))
      |_,_=> .fail
   |_,_=> .fail
 | .unOp op _ x=>match op,xq C st o.type x with
   | .not,.kb b=>match b with|true=>K (.kb false)|false=>K (.kb true)
   | .not,.v false [.mk false [.sc (.bool b)]]=>K (S (.bool (!b)))
   | .neg,.v false [.mk false [.sc (.int k n)]]=>K (S (.int k (UW k 0 n)))
   |_,_=> .fail
 | .convert src dst x=>match(C.tt dst).ti,(C.tt src).ti,xq C st src x with
   | .int k,.int _,.v false [.mk false [.sc (.int _ n)]]=>K (S (.int k (zh k n)))
   | .str,.str,.v false [.mk false [.sc (.string s)]]=>K (S (.string s))
   | .str,.slice et,.v false [.mk false [e]]=>match(C.tt et).ti,sR st e with
     | .int .u8,some (_,rows)=> .bytes rows fun ns=>K (S (.string (IP ns)))
     |_,_=> .fail
   |_,_,_=> .fail
 | .fieldAddr s x f=>match uQ C s f,xq C st 0 x with
   |some (off,_),.bp b o=>K (.bp b (o+off))
   |some (off,_),.ep d cells=>K (.ep d (cells.drop off))
   |some (off,_),.er r p i g=>K (.er r p i (g+off))
   |_,_=> .fail
 | .field t x f=>match uQ C t f,xq C st t x with
   |some (off,ft),.v false [.mk true cs]=>KV C ft ((cs.drop off).take (C.tt ft).size) K
   |_,_=> .fail
 | .indexAddr t x i=>match E3 C t,Bq (xq C st t x),asInt (xq C st 0 i) with
   |some et,some e,some n=>match sR st e with
    |some (z,rows)=>match aaD C et z with
     |true=> .row rows n fun cells=>K (ah7 e n cells)
     |false=> .fail
    |none=> .fail
   |_,_,_=> .fail
 | .index t x i=>match(C.tt t).ti,ah3 (xq C st t x),asInt (xq C st 0 i) with
   | .str,some (.string s),some n=> .byte s n fun b=>K (S (.int .u8 b))
   |_,_,_=> .fail
 | .slice t x lo hi mx=>match mx,(C.tt t).ti,Bq (xq C st t x) with
   |none,.str,some (.sc (.string s))=>match bound C st 0 lo,bound C st s.size hi with
    |some l,some h=> .test (gH l h s.size) fun z=>match z with
     |true=>K (S (.string (ao7 s l h)))
     |false=> .fail
    |_,_=> .fail
   |none,.slice et,some e=>match sR st e with
    |some (z,rows)=>match aaD C et z,bound C st 0 lo,bound C st rows.length hi with
     |true,some l,some h=> .test (gH l h rows.length) fun b=>match b with
      |true=>K (one (ah6 e l h))
      |false=> .fail
     |_,_,_=> .fail
    |none=> .fail
   |_,_,_=> .fail
 | .extract x i=>match xq C st 0 x with
   | .v true es=>match es[i]? with
     |some (.mk a cs)=>K (.v false [.mk a cs])
     |some (.ptr b)=>K (.bp b 0)
     |none=> .fail
   |_=> .fail
 | .build t ps=>match MQ C t,E5 C t (ps.toList.map fun p=>(p.1,xq C st (akI C t p.1) p.2)) ((C.tt t).zero.map aaB) with
   |true,some cs=>K (.v false [.mk true cs])
   |_,_=> .fail
 | .makeFunc fn first caps=>match fn,first.toList,Uz C st caps.toList with
   | .func f,[],some bs=>K (.fn f bs)
   |_,_,_=> .fail
 | .call {callee:= .builtin .len,args,argTypes}=>match args.toList,argTypes.toList with
   |[x],[t]=>match Bq (xq C st t x) with
    |some e=>am6 C st t e fun v=>K (S v)
    |none=> .fail
   |_,_=> .fail
 | .call {callee:= .builtin .min,args,argTypes}=>match args.toList,argTypes.toList with
   |[x,y],t::_=>match ah3 (xq C st t x),asInt (xq C st t y) with
    |some (.int k a),some b=>K (S (.int k (RN a b)))
    |_,_=> .fail
   |_,_=> .fail
 |_=> .fail
def sU (e:CE) (st:TS):Option (TC×TS×Bool):=
 match e with
 | .sc v=>some (.sc v,st,true)
 | .nil z=>some (.sub z [],st,true)
 | .ref o cut=>match az o st.ob with
   |some ⟨d,z,rows⟩=>some (.sub z (acg cut rows),qU o st,d)
   |none=>none
 | .snap [] _ z rows=>some (.sub z rows,st,false)
 |_=>none
def UX:List CE→TS→Option (List TC×TS×Bool)
 |[],st=>some ([],st,true)
 |e::r,st=>match sU e st with
  |some (c,fR,d1)=>match UX r fR with
   |some (cs,sK,d2)=>some (c::cs,sK,d1&&d2)
   |none=>none
  |none=>none
def rowsOf (st:TS) (ty:TypeId):List (Nat×Operand)→Nat→Option (List (List TC)×TS×Bool)
 |[],_=>some ([],st,true)
 |(i,x)::r,n=>match Nat.beq i n,Km (xq C st ty x) with
  |true,some cs=>match Nat.beq cs.length (C.tt ty).size,UX cs st with
   |true,some (cs',fR,d1)=>match rowsOf fR ty r (n+1) with
    |some (rs,sK,d2)=>some (cs'::rs,sK,d1&&d2)
    |none=>none
   |_,_=>none
  |_,_=>none
def xu (d k j:Nat):Nat:=1000+400*d+20*k+j
def bid (b j:Nat):Nat:=1000000000+100*b+j
def DJ (b:Nat):Bool:=match Nat.ble 200000 b with|true=>Nat.ble 300000 b|false=>true
def amt (b:Nat):vH→Bool
 | .ptr c=>Nat.beq c b
 | .mk _ _=>false
def UY (b:Nat):TE→Bool
 | .bp c _=>Nat.beq c b
 | .fn _ caps=>pI b caps
 | .v _ es=>es.any (amt b)
 |_=>false
def ZL (b:Nat) (st:TS):TS:=⟨mapA (fun e=>match UY b e with|true=> .dead|false=>e) st.tm,uP b st.bx,st.ob⟩
def OI (b:Nat) (cs:List CE) (st:TS):TS:=(ZL b st).OH b cs
def setCells (f:Nat) (cs:List TC) (rows:List (List TC)) (i:Int):List (List TC):=setRow rows i f cs
def UZ (o:Nat) (e:CE):CE:=match e with
 | .snap d (some (p,i,f)) z rows=>match Nat.beq p o with|true=> .snap [] none z rows|false=> .snap d (some (p,i,f)) z rows
 |e=>e
def amu (o:Nat):TE→TE
 | .er p (some q) i f=>match Nat.beq p o with|true=> .dead|false=> .er p (some q) i f
 |e=>e
def Xu (b:OB):OB:=⟨false,b.z,b.rows⟩
def DO (o:Nat) (st:TS):TS:=match az o st.ob with
 |some b=>By (UZ o) (amu o) (rW o (Xu b)) st
 |none=>st
def aeo (o:Nat):List CE→Bool
 |[]=>false
 | .snap _ (some (p,_,_)) _ _::r=>match Nat.beq p o with|true=>true|false=>aeo o r
 |_::r=>aeo o r
def MR (o:Nat) (path:Option (Int×Nat)) (i:Int) (f:Nat) (cs:List CE) (st:TS) (K:TS→Ev R):Ev R:=
 match UX cs st with
 |some (ts,fR,d1)=>match az o fR.ob with
  |some ⟨d,z,rows⟩=>match path with
   |none=> .row rows i fun row=>match Nat.ble (f+ts.length) row.length with
    |true=>K (yJ [(o,⟨d&&d1,z,setRow rows i f ts⟩)] fR)
    |false=> .fail
   |some (i0,f0)=>match d,d1 with
    |true,true=> .row rows i0 fun row0=>match row0[f0]? with
     |some (.sub z1 u6)=> .row u6 i fun row=>match Nat.ble (f+ts.length) row.length with
      |true=>K (yJ [(o,⟨true,z,setRow rows i0 f0 [.sub z1 (setRow u6 i f ts)]⟩)] fR)
      |false=> .fail
     |_=> .fail
    |_,_=> .fail
  |none=> .fail
 |none=> .fail
def UB:List CE→Bool
 |[]=>false
 | .gone::_=>true
 |_::r=>UB r
def U0 (b off:Nat) (cs:List CE) (st:TS):Option TS:=
 match az b st.bx with
 |some old=>match DJ b&& !UB cs,Nat.ble (off+cs.length) old.length with
  |true,true=>some (st.OH b (old.take off++cs++old.drop (off+cs.length)))
  |_,_=>none
 |none=>none
def Dl (st:TS) (e:CE):Option (Option Nat×Nat×Bool×List (List TC)):=
 match e with
 | .nil z=>some (none,z,true,[])
 | .ref o cut=>match az o st.ob with
   |some ⟨d,z,rows⟩=>some (some o,z,d,acg cut rows)
   |none=>none
 |_=>none
def sg (o:Option Nat) (st:TS):TS:=match o with|some o=>qU o st|none=>st
def Br (d:Nat) (b:OB) (st:TS):TS:=(IQ (xu d 0 0) b st).set d (one (.ref (xu d 0 0) none))
def OJ (e:TypeId) (z:Nat):Bool:=match Dk (C.tt e) with|true=>Nat.beq z (C.tt e).size|false=>false
def Lr (g o':Nat) (b:OB) (l h:Int) (st:TS):TS:=IQ g ⟨true,1,[]⟩ (yI o' ⟨b.deep,b.z,kV b.z b.rows l h⟩ st)
def aep (d:Nat) (o:Option Nat) (dp:Bool) (cx:CE) (st:TS):Option (Nat×List (List TC)×TS):=match cx with
 | .ref o' (some (l,h))=>match dp,az o' st.ob,(match o with|some o=>Nat.beq o o'||Nat.beq o (xu d 1 0)|none=>false)||Nat.beq o' (xu d 1 0) with
   |true,some ⟨true,z,rows⟩,false=>some (z,aE rows l h,qU (xu d 1 0) (sg o (Lr (xu d 1 0) o' ⟨true,z,rows⟩ l h st)))
   |_,_,_=>none
 |_=>none
def ah8 (st:TS) (cx:CE):Option (Nat×List (List TC)):=match cx with
 | .ref o' cut=>match az o' st.ob with
   |some ⟨false,z,rows⟩=>some (z,acg cut rows)
   |_=>none
 |_=>none
def afG (st:TS) (d:Nat) (t t':TypeId) (s:TE) (x:TE) (K:TS→Ev R):Ev R:=
 match E3 C t,Bq s,Bq x with
 |some e,some cs,some cx=>match Dl st cs,(C.tt t').ti with
  |some (o,z,dp,rows),.str=>match OJ C e z,Nat.beq z 1,cx with
   |true,true,.sc (.string b)=> .test (fits (rows.length+b.size) (C.tt e).bytes) fun q=>match q with
    |true=>K (Br d ⟨dp,z,rows++KU b⟩ (sg o st))
    |false=> .fail
   |_,_,_=> .fail
  |some (o,z,dp,rows),.slice _=>match OJ C e z with
   |false=> .fail
   |true=>match(C.tt e).flat with
     |true=>match sR st cx with
      |some (z',bJ)=>match Nat.beq z z' with
       |true=> .test (bT bJ&&fits (rows.length+bJ.length) (C.tt e).bytes) fun q=>match q with
        |true=>K (Br d ⟨dp,z,rows++bJ⟩ (sg o st))
        |false=> .fail
       |false=> .fail
      |none=> .fail
     |false=>match aep d o dp cx st with
      |some (z',bJ,fR)=>match Nat.beq z z' with
        |true=> .test (fits (rows.length+bJ.length) (C.tt e).bytes) fun q=>match q with
         |true=>K (Br d ⟨dp,z,rows++bJ⟩ fR)
         |false=> .fail
        |false=> .fail
      |none=>match ah8 st cx with
       |some (z',bJ)=>match Nat.beq z z' with
        |true=> .test (fits (rows.length+bJ.length) (C.tt e).bytes) fun q=>match q with
         |true=>K (Br d ⟨false,z,rows++bJ⟩ (sg o st))
         |false=> .fail
        |false=> .fail
       |none=>match sU cx (sg o st) with
       |some (.sub z' bJ,fR,d1)=>match Nat.beq z z' with
        |true=> .test (fits (rows.length+bJ.length) (C.tt e).bytes) fun q=>match q with
         |true=>K (Br d ⟨dp&&d1,z,rows++bJ⟩ fR)
         |false=> .fail
        |false=> .fail
       |_=> .fail
  |_,_=> .fail
 |_,_,_=> .fail
def amv (st:TS) (d:Option Nat) (t:TypeId) (s:TE) (x:TE) (K:TS→Ev R):Ev R:=
 match E3 C t,Bq s,Bq x with
 |some e,some (.ref o none),some cx=>match az o st.ob,sR st cx,Dk (C.tt e) with
  |some ⟨true,z,rows⟩,some (z',bJ),true=>match Nat.beq z z'&&Nat.beq z (C.tt e).size with
   |true=> .test (bT bJ) fun q=>match q with
    |true=>match d with
     |some d=>K ((yI o ⟨true,z,sQ rows bJ⟩ st).set d (one (.sc (.int .i64 (Int.ofNat (sP bJ.length rows.length))))))
     |none=>K (yI o ⟨true,z,sQ rows bJ⟩ st)
    |false=> .fail
   |false=> .fail
  |_,_,_=> .fail
 |_,_,_=> .fail
def aaE (st:TS):List Nat→Option (List (List TC))
 |[]=>some []
 |b::r=>match az b st.bx with
  |some cs=>match zw st cs,aaE st r with
   |some c,some cs=>some (c::cs)
   |_,_=>none
  |none=>none
def ah9 (st:TS) (e:TE) (K:TV→Ev R):Ev R:=
 match e with
 | .v false [.mk a cs]=>match zw st cs with
   |some ts=>match a,ts with
    |true,ts=>K (.ag ts)
    |false,[c]=>K (.c c)
    |_,_=> .fail
   |none=> .fail
 | .kb b=>K (.c (.sc (.bool b)))
 | .bp b off=>match az b st.bx with
   |some cs=>match zw st (cs.drop off) with
    |some ts=>K (.bx ts)
    |none=> .fail
   |none=> .fail
 | .ep _ (c::cells)=>K (.bx (c::cells))
 | .er r p i f=>afF st r p i f fun cells=>match cells with
   |[]=> .fail
   |c::cells=>K (.bx (c::cells))
 | .fn f caps=>match aaE st caps with
   |some xs=>K (.fn f xs)
   |none=> .fail
 |_=> .fail
def ach (st:TS):List TE→(List TV→Ev R)→Ev R
 |[],K=>K []
 |e::r,K=>ah9 st e fun v=>ach st r fun vs=>K (v::vs)
def E6 (st:TS) (b:Nat):List Nat:=match az b st.bx with
 |some cs=>(2*b+1)::(cs.flatMap iX).map (2* ·)
 |none=>[2*b+1]
def wL (st:TS):TE→List Nat
 | .v _ es=>(kW es).map (2* ·)
 | .ep d _=>d.map (2* ·)
 | .er o _ _ _=>[2*o]
 | .bp b _=>E6 st b
 | .fn _ caps=>caps.flatMap (E6 st)
 |_=>[]
def DP (st:TS) (o:Nat):Bool:=match az o st.ob with|some ⟨true,_,_⟩=>true|_=>false
def zx (st:TS) (c:Bool):List Mode→List CE→Option (List Nat)
 |_,[]=>some []
 |ms,e::r=>match zx st c (ms.drop 1) r with
  |some l=>match ms.headD .deep,e with
   |_,.sc _=>some l
   |_,.nil _=>some l
   | .snap,.snap [] none _ _=>some l
   | .snap,_=>none
   |_,.ref o none=>match DP st o with|true=>some ((2*o)::l)|false=>none
   |_,.ref o (some _)=>match c,DP st o with|true,true=>some ((2*o)::l)|_,_=>none
   |_,.snap _ (some (o,_,_)) _ _=>match c,DP st o with|false,true=>some ((2*o)::l)|_,_=>none
   |_,_=>none
  |none=>none
def vJ (st:TS) (c:Bool) (ms:List Mode) (e:TE):Option (List Nat):=match e with
 | .v false [.mk _ cs]=>match ms with|[]=>zx st c [] cs|_=>none
 | .bp b 0=>match c,DJ b,az b st.bx with
   |false,true,some cs=>match zx st true ms cs with
    |some l=>some ((2*b+1)::l)
    |none=>none
   |_,_,_=>none
 |_=>none
def cz.ms:cz→List Mode
 | .inout ms=>ms
 |_=>[]
def Ls:List Nat→Bool
 |[]=>true
 |a::r=>match pI a r with|true=>false|false=>Ls r
def E7 (st:TS):List cz→List TE→Option (List Nat×List Nat)
 |[],[]=>some ([],[])
 |p::ps,e::es=>match E7 st ps es with
  |some (own,rd)=>match p with
   | .borrow=>some (own,wL st e++rd)
   | .inout ms=>match vJ st false ms e with|some l=>some (l++own,rd)|none=>none
   | .consume=>match vJ st true [] e with|some l=>some (l++own,rd)|none=>none
  |none=>none
 |_,_=>none
def zy:List CE→TS→TS
 |[],st=>st
 | .ref o _::r,st=>zy r (qU o st)
 |_::r,st=>zy r st
def xE (st:TS) (e:CE) (c:TC):Option (List (Nat×OB)):=
 match e,c with
 | .sc _,.sc _=>some []
 | .nil _,.sub _ []=>some []
 | .ref o none,.sub z rows=>match az o st.ob with
   |some ⟨true,z0,_⟩=>match Nat.beq z z0 with|true=>some [(o,⟨true,z,rows⟩)]|false=>none
   |_=>none
 | .snap _ (some (o,i,f)) z0 _,.sub z' bJ=>match az o st.ob,Nat.beq z' z0 with
   |some ⟨true,z,rows⟩,true=>some [(o,⟨true,z,setRow rows i f [.sub z' bJ]⟩)]
   |_,_=>none
 |_,_=>none
def UC (st:TS):List CE→List TC→Option (List (Nat×OB))
 |[],[]=>some []
 |e::r,c::cs=>match xE st e c,UC st r cs with
  |some a,some b=>some (a++b)
  |_,_=>none
 |_,_=>none
def cR (f:Nat→Nat):List Mode→Nat→List TC→TS→List CE×TS
 |_,_,[],st=>([],st)
 |ms,j,c::cs,st=>match c with
  | .sc v=>match cR f (ms.drop 1) (j+1) cs st with|(r,st')=>(.sc v::r,st')
  | .sub z rows=>match ms.headD .snap with
    | .snap=>match cR f (ms.drop 1) (j+1) cs st with|(r,st')=>(.snap [] none z rows::r,st')
    | .top=>match cR f (ms.drop 1) (j+1) cs (IQ (f j) ⟨false,z,rows⟩ st) with|(r,st')=>(.ref (f j) none::r,st')
    | .deep=>match cR f (ms.drop 1) (j+1) cs (IQ (f j) ⟨true,z,rows⟩ st) with|(r,st')=>(.ref (f j) none::r,st')
  | .any=>match cR f (ms.drop 1) (j+1) cs st with|(r,st')=>(.gone::r,st')
def yj (uM:TS):List cz→List TE→TS→TS
 |p::ps,e::es,st=>match p,e with
  | .consume,.v false [.mk _ cs]=>yj uM ps es (zy cs st)
  | .inout _,.bp b _=>match az b uM.bx with
    |some cs=>yj uM ps es ⟨(zy cs st).tm,uP b (zy cs st).bx,(zy cs st).ob⟩
    |none=>yj uM ps es st
  |_,_=>yj uM ps es st
 |_,_,st=>st
def zz (st:TS):List cz→List TE→List TV→Option (List (Nat×OB)×List (Nat×List Mode×List TC))
 |p::ps,e::es,fs=>match p with
  | .inout ms=>match e,fs with
    | .v false [.mk false [e]],.c c::fs=>match xE st e c,zz st ps es fs with
      |some a,some (b,bs)=>some (a++b,bs)
      |_,_=>none
    | .v false [.mk true cs],.ag ts::fs=>match UC st cs ts,zz st ps es fs with
      |some a,some (b,bs)=>some (a++b,bs)
      |_,_=>none
    | .bp b 0,.bx ts::fs=>match az b st.bx,zz st ps es fs with
      |some cs,some (a,bs)=>match Nat.beq cs.length ts.length with|true=>some (a,(b,ms,ts)::bs)|false=>none
      |_,_=>none
    |_,_=>none
  |_=>zz st ps es fs
 |[],[],[]=>some ([],[])
 |_,_,_=>none
def bms:List Mode→List TC→List Mode
 |_,[]=>[]
 |ms,_::r=>(match ms.headD .deep with| .snap=> .snap|_=> .deep)::bms (ms.drop 1) r
def MS:List (Nat×List Mode×List TC)→TS→TS
 |[],st=>st
 |(b,ms,ts)::r,st=>match cR (bid b) (bms ms ts) 0 ts st with
  |(cs,st')=>MS r (st'.OH b cs)
def DQ (st:TS):List Nat→TS
 |[]=>st
 |o::r=>DQ (Bz st o) r
def IT (st:TS):TE→List Nat
 | .bp b _=>match az b st.bx with|some cs=>cs.flatMap iX|none=>[]
 | .fn _ caps=>caps.flatMap fun b=>match az b st.bx with|some cs=>cs.flatMap iX|none=>[]
 |e=>Dj e
def borrowed (st:TS):List cz→List TE→List Nat
 | .borrow::ps,e::es=>IT st e++borrowed st ps es
 |_::ps,_::es=>borrowed st ps es
 |_,_=>[]
def zA (d k:Nat):Nat:=400000+20*d+k
def jN (d:Nat):Nat→List (List Mode)→List (Nat×List TC)→TS→List vH×TS
 |_,_,[],st=>([],st)
 |k,ms,(a,cs)::r,st=>match cR (xu d k) (ms.headD []) 0 cs st with
  |(cs',st')=>match Nat.beq a 2 with
   |true=>match jN d (k+1) (ms.drop 1) r (OI (zA d k) cs' st') with
    |(es,Q7)=>(.ptr (zA d k)::es,Q7)
   |false=>match jN d (k+1) (ms.drop 1) r st' with
    |(es,Q7)=>(.mk (Nat.beq a 1) cs'::es,Q7)
def Kn:List (Nat×List TC)→Bool
 |[]=>true
 |(_,cs)::r=>match Nat.ble cs.length 20 with|true=>Kn r|false=>false
def aia (d:Nat) (ms:List (List Mode)) (v:TV) (st:TS):Option TS:=
 match v with
 | .c c=>match cR (xu d 0) (ms.headD []) 0 [c] st with|(cs,st')=>some (st'.set d (.v false [.mk false cs]))
 | .ag cs=>match cR (xu d 0) (ms.headD []) 0 cs st with|(cs,st')=>some (st'.set d (.v false [.mk true cs]))
 | .tu vs=>match Kn vs with
   |true=>match jN d 0 ms vs st with|(es,st')=>some (st'.set d (.v true es))
   |false=>none
 | .bx cs=>match cR (xu d 0) (ms.headD []) 0 cs st with|(cs',st')=>some ((OI (zA d 0) cs' st').set d (.bp (zA d 0) 0))
 |_=>none
def BC:TV→Bool
 | .c _=>true
 | .ag cs=>Nat.ble cs.length 16
 | .bx cs=>Nat.ble cs.length 16
 | .fn _ caps=>Nat.ble caps.length 900
 | .tu _=>false
def uR:List TV→Bool
 |[]=>true
 |v::r=>match BC v with|true=>uR r|false=>false
def Af (vs:List TV):Bool:=match Nat.ble vs.length 50 with|true=>uR vs|false=>false
def IU (sh:Bool) (st:TS) (ps:List cz) (es:List TE):TS:=match sh with
 |true=>DQ (yj st ps es st) (borrowed st ps es)
 |false=>yj st ps es st
def tL:List Mode→List TC→Bool
 |_,[]=>true
 |ms,.sc _::r=>tL (ms.drop 1) r
 |ms,.sub _ _::r=>match ms.headD .snap with| .deep=>tL (ms.drop 1) r|_=>false
 |ms,.any::r=>match ms.headD .snap with| .deep=>tL (ms.drop 1) r|_=>false
def UD:List (List Mode)→List (Nat×List TC)→Bool
 |_,[]=>true
 |ms,(_,cs)::r=>match tL (ms.headD []) cs with|true=>UD (ms.drop 1) r|false=>false
def afH (ms:List (List Mode)):TV→Bool
 | .c c=>tL (ms.headD []) [c]
 | .ag cs=>tL (ms.headD []) cs
 | .bx cs=>tL (ms.headD []) cs
 | .tu vs=>UD ms vs
 | .fn _ _=>false
def aaF:List cz→Bool
 |[]=>true
 | .inout (_::_)::_=>false
 |_::r=>aaF r
def aeq (g:Sig) (r:TV):Bool:=match g.shares with
 |true=>true
 |false=>match aaF g.ps with|true=>afH g.res r|false=>false
def MT (d:Option Tmp) (f:FuncId) (es:List TE) (st:TS) (K:TS→Ev R):Ev R:=
 match E7 st (C.sig f).ps es with
 |some (own,rd)=>match Ls own,zi own rd,(C.sig f).shares&&pI 0 rd with
  |true,false,false=>ach st es fun vs=>match Af vs with
   |true=> .call f vs fun r fs=>match aeq (C.sig f) r with
    |false=> .fail
    |true=>match zz st (C.sig f).ps es fs with
     |some (W,B)=>fTS (MS B (yJ W (IU (C.sig f).shares st (C.sig f).ps es))) fun sK=>match d with
      |some d=>match aia d (C.sig f).res r sK with
       |some st4=>K st4
       |none=> .fail
      |none=>K sK
     |none=> .fail
   |false=> .fail
  |_,_,_=> .fail
 |none=> .fail
def OK (st:TS):List Operand→List TypeId→List TE
 |x::xs,t::ts=>xq C st t x::OK st xs ts
 |_,_=>[]
def ZM (st:TS) (o:Oper) (K:TS→Ev R):Ev R:=match o.dst with
 |some d=>kE C st o fun e=>K (st.set d e)
 |none=> .fail
def sV (st:TS) (o:Oper) (K:TS→Ev R):Ev R:=
 match o.op with
 | .alloc t=>match o.dst,Dk (C.tt t) with
   |some d,true=>match DJ d with
    |true=>K ((OI d ((C.tt t).zero.map aaB) st).set d (.bp d 0))
    |false=> .fail
   |_,_=> .fail
 | .box t x=>match o.dst,Km (xq C st t x) with
   |some d,some cs=>match DJ d with
    |true=>K ((OI d cs st).set d (.bp d 0))
    |false=> .fail
   |_,_=> .fail
 | .store t a x=>match o.dst,known (C.tt t),Km (xq C st t x) with
   |none,true,some cs=>match Nat.beq cs.length (C.tt t).size,xq C st 0 a with
    |true,.bp b off=>match U0 b off cs st with
     |some st'=>K st'
     |none=> .fail
    |true,.er r none i f=>match aeo r cs with
     |true=>MR r none i f (cs.map (UZ r)) (DO r st) K
     |false=>MR r none i f cs st K
    |true,.er r p i f=>MR r p i f cs st K
    |_,_=> .fail
   |_,_,_=> .fail
 | .buildSlice t n ps=>match o.dst,E3 C t with
   |some d,some e=>match Nat.beq n ps.size&&Nat.ble (n*(C.tt e).size) 16777216&&Dk (C.tt e),rowsOf C st e ps.toList 0 with
    |true,some (rs,st',dp)=>K (Br d ⟨dp,(C.tt e).size,rs⟩ st')
    |_,_=> .fail
   |_,_=> .fail
 | .makeSlice t l c=>match o.dst,E3 C t,asInt (xq C st 3 l),asInt (xq C st 3 c) with
   |some d,some e,some n,some n'=> .test (Dk (C.tt e)&&bO n n'&&nv 0 n&&fits (uE n) (C.tt e).bytes) fun z=>match z with
    |true=>K (Br d ⟨true,(C.tt e).size,List.replicate (uE n) (C.tt e).zero⟩ st)
    |false=> .fail
   |_,_,_,_=> .fail
 | .convert src dst x=>match(C.tt dst).ti,(C.tt src).ti with
   | .slice et,.str=>match o.dst,(C.tt et).ti,ah3 (xq C st src x) with
     |some d,.int .u8,some (.string s)=> .test (fits s.size 1) fun z=>match z with
      |true=>K (Br d ⟨true,1,KU s⟩ st)
      |false=> .fail
     |_,_,_=> .fail
   |_,_=>ZM C st o K
 | .call {callee:= .builtin .append,args,argTypes}=>match o.dst,args.toList,argTypes.toList with
   |some d,[s,x],[t,t']=>afG C st d t t' (xq C st t s) (xq C st t' x) K
   |_,_,_=> .fail
 | .call {callee:= .builtin .copy,args,argTypes}=>match args.toList,argTypes.toList with
   |[s,x],[t,t']=>amv C st o.dst t (xq C st t s) (xq C st t' x) K
   |_,_=> .fail
 | .call {callee:= .value (.func f),args,argTypes}=>match Nat.beq args.toList.length argTypes.toList.length with
   |true=>MT C o.dst f (OK C st args.toList argTypes.toList) st K
   |false=> .fail
 | .call {callee:= .value (.tmp i),args,argTypes}=>match Nat.beq args.toList.length argTypes.toList.length with
   |true=>match st.get i with
    | .fn f caps=>MT C o.dst f (OK C st args.toList argTypes.toList++caps.map fun b=> .bp b 0) st K
    |_=> .fail
   |false=> .fail
 |_=>ZM C st o K
def aaG (st:TS) (b:Nat):List Nat:=match az b st.bx with
 |some cs=>(2*b+1)::(cs.flatMap iX).map (2* ·)
 |none=>[2*b+1]
def IV (st:TS):TE→List Nat
 | .v _ es=>(kW es).map (2* ·)
 | .bp b _=>aaG st b
 |_=>[]
def vK (st:TS):List cz→List TE→List Nat
 | .borrow::ps,_::es=>vK st ps es
 |_::ps,e::es=>IV st e++vK st ps es
 |_,_=>[]
def writes (st:TS) (o:Oper):List Nat:=match o.op with
 | .store _ a _=>match xq C st 0 a with
   | .bp b _=>[2*b+1]
   | .er o _ _ _=>[2*o]
   |_=>[]
 | .call {callee:= .builtin .append,args,argTypes}=>match args.toList,argTypes.toList with
   |s::_,t::_=>(Dj (xq C st t s)).map (2* ·)
   |_,_=>[]
 | .call {callee:= .builtin .copy,args,argTypes}=>match args.toList,argTypes.toList with
   |s::_,t::_=>(Dj (xq C st t s)).map (2* ·)
   |_,_=>[]
 | .call {callee:= .value (.func f),args,argTypes}=>vK st (C.sig f).ps (OK C st args.toList argTypes.toList)
 | .call {callee:= .value (.tmp i),args,argTypes}=>match st.get i with
   | .fn f caps=>vK st (C.sig f).ps (OK C st args.toList argTypes.toList++caps.map fun b=> .bp b 0)
   |_=>[]
 |_=>[]
def aib (st:TS) (o:Oper):Option (List Nat):=match o.op with
 | .load _ a=>match xq C st 0 a with
   | .bp b _=>match az b st.bx with
     |some _=>some [2*b+1]
     |none=>none
   | .ep d (_::_)=>some (d.map (2* ·))
   | .er o none _ _=>some [2*o]
   | .er o (some _) _ _=>match az o st.ob with
     |some ⟨true,_,_⟩=>some [2*o]
     |_=>none
   |_=>none
 |_=>none
def amw (ops:Array Oper) (st:TS) (o:Oper):Bool:=match o.guard with
 |none=>false
 |some (j,want)=>match ops[j]? with
  |some oj=>match oj.dst with
   |some t=>match st.get t with
    | .kb b=>match b,want with
      |true,false=>true
      |false,true=>true
      |_,_=>false
    | .v true []=>true
    |_=>false
   |none=>false
  |none=>false
def IW (ops:Array Oper) (st:TS) (o:Oper):List Nat→Bool
 |[]=>true
 |l::r=>match ops[l]? with
  |some ol=>match amw ops st ol with
   |true=>IW ops st o r
   |false=>match aib C st ol with
    |some rd=>match zi rd (writes C st o) with|true=>false|false=>IW ops st o r
    |none=>false
  |none=>false
def acj (fl:List Nat) (ops:Array Oper) (st:TS) (o:Oper) (K:TS→Ev R):Ev R:=match IW C ops st o fl with
 |true=>sV C st o K
 |false=> .fail
def ack (st:TS) (o:Oper) (K:TS→Ev R):Ev R:=match o.dst with
 |some d=>K (st.set d (.v true []))
 |none=>K st
def aer (fl:List Nat) (ops:Array Oper) (st:TS) (o:Oper) (b want:Bool) (K:TS→Ev R):Ev R:=
 match b,want with
 |true,true=>acj C fl ops st o K
 |false,false=>acj C fl ops st o K
 |_,_=>ack st o K
def afI (fx:List Nat) (o:Oper):Bool:=match o.dst with|some d=> !pI d fx|none=>true
def guarded (fx fl:List Nat) (ops:Array Oper) (st:TS) (o:Oper) (K:TS→Ev R):Ev R:=
 match afI fx o with
 |false=> .fail
 |true=>match o.guard with
  |none=>acj C fl ops st o K
  |some (j,want)=>match ops[j]? with
   |some oj=>match oj.dst with
    |some t=>match st.get t with
     | .kb b=>aer C fl ops st o b want K
     | .v false [.mk false [.sc (.bool b)]]=> .test b fun b=>aer C fl ops (st.set t (.kb b)) o b want K
     | .v true []=>ack st o K
     |_=> .fail
    |none=> .fail
   |none=> .fail
def F2 {α:Type} (l:List Nat):List (Nat×α)→List (Nat×α)
 |[]=>[]
 |(i,e)::r=>match pI i l with|true=>(i,e)::F2 l r|false=>F2 l r
def aaH (fx:List Nat) (l:List Nat) (ops:Array Oper):List Oper→TS→(TS→Ev R)→Ev R
 |[],st,K=>fTS ⟨F2 l st.tm,st.bx,st.ob⟩ K
 |o::r,st,K=>guarded C fx [] ops st o fun st'=>fTS st' fun st'=>aaH fx l ops r st' K
def wM (fx:List Nat) (l:List Nat) (ops:Array Oper):Kk→TS→(TS→Ev R)→Ev R
 | .nil,st,K=>fTS ⟨F2 l st.tm,st.bx,st.ob⟩ K
 | .op i fl r,st,K=>match ops[i]? with
   |some o=>guarded C fx fl ops st o fun st'=>fTS st' fun st'=>wM fx l ops r st' K
   |none=> .fail
 | .alt a b,st,K=> .both (wM fx l ops a st K) (wM fx l ops b st K)
def BD (l:List Nat):List (Nat×List CE)→List (Nat×List CE)
 |[]=>[]
 |(i,cs)::r=>match Nat.ble 100000 i with
  |true=>(i,cs)::BD l r
  |false=>match pI i l with|true=>(i,cs)::BD l r|false=>BD l r
def jY (n:Nat):List CE→List CE×Nat×List (Nat×OB)
 |[]=>([],n,[])
 | .nil z::r=>match Nat.ble 1 z with
   |true=>match jY (n+1) r with|(cs,m,obs)=>(.ref n none::cs,m,(n,⟨true,z,[]⟩)::obs)
   |false=>match jY n r with|(cs,m,obs)=>(.nil z::cs,m,obs)
 |e::r=>match jY n r with|(cs,m,obs)=>(e::cs,m,obs)
def jk (n:Nat):List vH→List vH×Nat×List (Nat×OB)
 |[]=>([],n,[])
 | .mk a cs::r=>match jY n cs with
   |(cs',m,o1)=>match jk m r with|(es,m',o2)=>(.mk a cs'::es,m',o1++o2)
 | .ptr b::r=>match jk n r with|(es,m,o2)=>(.ptr b::es,m,o2)
def Lt (n:Nat) (e:TE):TE×Nat×List (Nat×OB):=match e with
 | .v tup es=>match jk n es with|(es',m,o)=>(.v tup es',m,o)
 | .kb b=>(S (.bool b),n,[])
 |e=>(e,n,[])
def DR (n:Nat):List (Nat×TE)→List (Nat×TE)×List (Nat×OB)
 |[]=>([],[])
 |(i,e)::r=>match Lt n e with
  |(e',m,o1)=>match DR m r with|(r',o2)=>((i,e')::r',o1++o2)
def acm (n:Nat):List (Nat×OB)→Bool
 |[]=>true
 |(i,_)::r=>match Nat.ble n i with|true=>false|false=>acm n r
def acn (st:TS):TS:=match acm 900000000 st.ob with
 |true=>match DR 900000000 st.tm with|(tm,obs)=>⟨tm,st.bx,nC obs st.ob⟩
 |false=>st
def am8 (st:TS):List Nat:=(st.tm.flatMap fun p=>Dj p.2)++st.bx.flatMap fun p=>p.2.flatMap iX
def number:List Nat→Nat→List (Nat×Nat)→List (Nat×Nat)
 |[],_,ρ=>ρ
 |o::r,n,ρ=>match Nat.beq o 0 with
  |true=>number r n ρ
  |false=>match az o ρ with
   |some _=>number r n ρ
   |none=>number r (n+1) ((o,n)::ρ)
def OL (ρ:List (Nat×Nat)) (o:Nat):Nat:=match az o ρ with|some n=>n|none=>0
def MU (ρ:List (Nat×Nat)):CE→CE
 | .ref o cut=> .ref (OL ρ o) cut
 | .snap d l z rows=> .snap (d.map (OL ρ)) (match l with|some (o,i,f)=>some (OL ρ o,i,f)|none=>none) z rows
 |e=>e
def aic (ρ:List (Nat×Nat)):TE→TE
 | .ep d cells=> .ep (d.map (OL ρ)) cells
 | .er o p i f=> .er (OL ρ o) p i f
 |e=>e
def zj (ob:List (Nat×OB)):List (Nat×Nat)→List (Nat×OB)
 |[]=>[]
 |(o,n)::r=>match az o ob with|some b=>rW n b (zj ob r)|none=>zj ob r
def apa (ρ:List (Nat×Nat)) (st:TS):TS:=⟨mapA (Di (MU ρ) (aic ρ)) st.tm,mapA (List.map (MU ρ)) st.bx,zj st.ob ρ⟩
def canon (st:TS):TS:=apa (number (am8 st) 1 []) st
def aco (l:List Nat) (st:TS):TS:=canon (acn ⟨F2 l st.tm,BD l st.bx,st.ob⟩)
def run (fx:List Nat) (f:FuncId):Nat→Code→TS→(TX→TS→Ev R)→Ev R
 |_,.skip,st,K=>K .norm st
 |_,.region id ops draw,st,K=>match draw with
  |false=>aaH C fx (C.lr f id) ops ops.toList st (K .norm)
  |true=>match C.UM f id with
   |some l=>wM C fx (C.lr f id) ops l st (K .norm)
   |none=> .fail
 |i,.seq a b,st,K=>run fx f i a st fun x st'=>match x with
  | .norm=>run fx f i b st' K
  |x=>K x st'
 |i,.cond c a b,st,K=>match xq C st 0 c with
  | .kb p=>match p with
    |true=>run fx f i a st K
    |false=>run fx f i b st K
  | .v false [.mk false [.sc (.bool p)]]=> .test p fun p=>match p with
    |true=>run fx f i a st K
    |false=>run fx f i b st K
  |_=> .fail
 |_,.block id body,st,K=>run fx f id body st fun x st'=>match x with
  | .ex id'=>match Nat.beq id' id with|true=>K .norm st'|false=>K (.ex id') st'
  |x=>K x st'
 |i,.loop body,st,K=>fTS (aco (C.lb f i) st) fun st=> .loop f i body st K
 |_,.exit id,st,K=>K (.ex id) st
 |_,.ret,st,K=>K .ret st
 |_,_,_,_=> .fail
def fT (sh:Bool) (p:cz) (n:Nat):Nat→List TC→List CE×List (Nat×OB)
 |_,[]=>([],[])
 |j,c::r=>match fT sh p n (j+1) r with
  |(es,obs)=>match c with
   | .sc v=>(.sc v::es,obs)
   | .sub z rows=>match p.mc j with
     | .snap=>(.snap (match sh with|true=>[]|false=>[0]) none z rows::es,obs)
     |_=>(.ref (n+j) none::es,(n+j,⟨true,z,rows⟩)::obs)
   | .any=>(.gone::es,obs)
def OM (sh:Bool) (i:Nat):List (List TC)→List (Nat×List CE)
 |[]=>[]
 |c::r=>(i,(fT sh .borrow 0 0 c).1)::OM sh (i+1) r
def DS (p:cz) (i:Nat):Nat:=match p with| .borrow=>200000+1000*i|_=>100000+1000*i
def init (sh:Bool) (ps:List cz) (i:Nat):List TV→TS
 |[]=>⟨[],[],[]⟩
 |v::r=>match init sh (ps.drop 1) (i+1) r with
  |⟨tm,bx,ob⟩=>match v with
   | .c c=>match fT sh (ps.headD .borrow) (500+16*i) 0 [c] with|(cs,o)=>⟨(i,.v false [.mk false cs])::tm,bx,o++ob⟩
   | .ag cs=>match fT sh (ps.headD .borrow) (500+16*i) 0 cs with|(cs,o)=>⟨(i,.v false [.mk true cs])::tm,bx,o++ob⟩
   | .bx cs=>match fT sh (ps.headD .borrow) (500+16*i) 0 cs with
     |(cs,o)=>⟨(i,.bp (DS (ps.headD .borrow) i) 0)::tm,(DS (ps.headD .borrow) i,cs)::bx,o++ob⟩
   | .fn f caps=>⟨(i,.fn f (List.range' (200000+1000*i+1) caps.length))::tm,OM sh (200000+1000*i+1) caps++bx,ob⟩
   | .tu _=>⟨tm,bx,ob⟩
def aes (m:Mode) (e:CE) (deep:Bool):Bool:=match m,e with
 |_,.sc _=>true
 | .snap,_=>true
 |_,.nil _=>true
 | .top,.ref _ _=>true
 | .deep,.ref _ _=>deep
 |_,_=>false
def IX:List Mode→List CE→TS→Option (List TC×TS)
 |_,[],st=>some ([],st)
 |ms,e::r,st=>match sU e st with
  |some (c,st',d)=>match aes (ms.headD .snap) e d with
   |true=>match IX (ms.drop 1) r st' with
    |some (cs,Q7)=>some (c::cs,Q7)
    |none=>none
   |false=>none
  |none=>none
def p9:List Mode→List CE→TS→Option (List TC×TS)
 |_,[],st=>some ([],st)
 |ms,e::r,st=>match ms.headD .deep,e with
  | .snap,e=>match sU e st with
    |some (c,st',_)=>match p9 (ms.drop 1) r st' with
     |some (cs,Q7)=>some (c::cs,Q7)
     |none=>none
    |none=>none
  |_,.sc v=>match p9 (ms.drop 1) r st with
   |some (cs,st')=>some (.sc v::cs,st')
   |none=>none
  |_,.nil z=>match p9 (ms.drop 1) r st with
   |some (cs,st')=>some (.sub z []::cs,st')
   |none=>none
  |_,.ref o none=>match az o st.ob with
   |some ⟨true,z,rows⟩=>match p9 (ms.drop 1) r (qU o st) with
    |some (cs,st')=>some (.sub z rows::cs,st')
    |none=>none
   |_=>none
  |_,_=>none
def am9 (a:Bool):Nat:=match a with|true=>1|false=>0
def afJ (st:TS) (r:ResultVar) (K:TE→Ev R):Ev R:=match r with
 | .tmp t=>K (st.get t)
 | .cell a t=>KW C st t (st.get a) K
def U1:List (List Mode)→List ResultVar→TS→(List (Nat×List TC)→TS→Ev R)→Ev R
 |_,[],st,K=>K [] st
 |ms,r::rs,st,K=>afJ C st r fun e=>match e with
  | .v false [.mk a cs]=>match IX (ms.headD []) cs st with
    |some (ts,st')=>U1 (ms.drop 1) rs st' fun vs Q7=>K ((am9 a,ts)::vs) Q7
    |none=> .fail
  | .kb b=>U1 (ms.drop 1) rs st fun vs Q7=>K ((0,[.sc (.bool b)])::vs) Q7
  | .bp b 0=>match DJ b,az b st.bx with
    |true,some cs=>match IX (ms.headD []) cs ⟨st.tm,uP b st.bx,st.ob⟩ with
     |some (ts,st')=>U1 (ms.drop 1) rs st' fun vs Q7=>K ((2,ts)::vs) Q7
     |none=> .fail
    |_,_=> .fail
  |_=> .fail
def acp:List cz→Nat→TS→Option (List TV)
 |[],_,_=>some []
 |p::ps,i,st=>match p with
  | .inout ms=>match ms,st.get i with
    |[],.v false [.mk false [e]]=>match p9 [] [e] st with
     |some ([c],st')=>match acp ps (i+1) st' with
      |some vs=>some (.c c::vs)
      |none=>none
     |_=>none
    |[],.v false [.mk true cs]=>match p9 [] cs st with
     |some (ts,st')=>match acp ps (i+1) st' with
      |some vs=>some (.ag ts::vs)
      |none=>none
     |none=>none
    |ms,.bp b 0=>match DJ b,az b st.bx with
     |true,some cs=>match p9 ms cs st with
      |some (ts,st')=>match acp ps (i+1) st' with
       |some vs=>some (.bx ts::vs)
       |none=>none
      |none=>none
     |_,_=>none
    |_,_=>none
  |_=>acp ps (i+1) st
def ON:List (Nat×List TC)→TV
 |[(0,[c])]=> .c c
 |[(1,cs)]=> .ag cs
 |[(2,cs)]=> .bx cs
 |vs=> .tu vs
def yK:List cz→Nat→List Nat
 |[],_=>[]
 | .inout _::r,i=>i::yK r (i+1)
 |_::r,i=>yK r (i+1)
def aid (g:Sig) (rs:List ResultVar) (x:TX) (st:TS):Ev (TV×List TV):=match x with
 | .ex _=> .fail
 |_=>U1 C g.res rs st fun rs st'=>match acp g.ps 0 st' with
  |some fs=>fTV (ON rs) fun r=>fL fTV fs fun fs=> .ret (r,fs)
  |none=> .fail
def IY (g:Sig) (vs:List TV):TS:=init true g.ps 0 vs
def body (f:FuncId) (vs:List TV):Ev (TV×List TV):=
 match C.P.funcs[f]? with
 |none=> .fail
 |some fn=>match fn.body with
  |none=> .fail
  |some c=>fTS (IY (C.sig f) vs) fun st=>run C (yK (C.sig f).ps 0) f 0 c st (aid C (C.sig f) fn.results.toList)
end
abbrev Cf:=FuncId→List TV→TV→List TV→Prop
abbrev Lp:=FuncId→Nat→Code→TS→(TX→TS→Prop)→Prop
def Ev.holds {R:Type} (cf:Cf) (lp:Lp) (Q:R→Prop):Ev R→Prop
 | .fail=>False
 | .ret r=>Q r
 | .test b k=>(k b).holds cf lp Q
 | .row rows i k=> ∃c,rowAt rows i=some c∧(k c).holds cf lp Q
 | .byte s i k=> ∃b,xD s i=some b∧(k b).holds cf lp Q
 | .bytes rows k=> ∃ns,wK rows=some ns∧(k ns).holds cf lp Q
 | .call f vs k=> ∃r fs,cf f vs r fs∧(k r fs).holds cf lp Q
 | .loop f i c st k=>lp f i c st fun x st'=>(k x st').holds cf lp Q
 | .both a b=> ∃r,a.holds cf lp (fun r'=>r'=r)∧b.holds cf lp (fun r'=>r'=r)∧Q r
section
variable (C : pU)
def U2 (x:TX) (st:TS):Ev (TX×TS):= .ret (x,st)
def iter (cf:Cf) (lp:Lp) (fx:List Nat) (f i:Nat) (c:Code) (Q:TX→TS→Prop):Nat→TS→Prop
 |0,_=>False
 |n+1,st=>(run C fx f i c st U2).holds cf lp fun p=>match p with
   |(.norm,st')=>fTS (aco (C.lb f i) st') fun st'=>iter cf lp fx f i c Q n st'
   |(x,st')=>Q x st'
def lpN (cf:Cf) (k:Nat) (fx:List Nat):Nat→Lp
 |0=>fun _ _ _ _ _=>False
 |n+1=>fun f i c st Q=>iter C cf (lpN cf k fx n) fx f i c Q k st
def lR:Nat→Cf
 |0=>fun _ _ _ _=>False
 |k+1=>fun f vs r fs=>match C.ext f with
  |some p=>p vs=some (r,fs)
  |none=>(body C f vs).holds (lR k) (lpN C (lR k) k (yK (C.sig f).ps 0) 4) fun p=>p=(r,fs)
end
end Go.T
set_option linter.all false
namespace Go.T
inductive An where
 |b (x:Bool)
 |row (c:List TC)
 |n (i:Int)
 |ns (l:List Int)
 |call (r:TV) (fs:List TV)
 |loop (x:TX) (st:TS)
inductive Qr where
 |test (b x:Bool)
 |row (rows:List (List TC)) (i:Int) (c:List TC)
 |byte (s:ByteArray) (i b:Int)
 |bytes (rows:List (List TC)) (ns:List Int)
 |call (f:FuncId) (vs:List TV) (r:TV) (fs:List TV)
 |loop (f:FuncId) (i:Nat) (c:Code) (st:TS) (x:TX) (st':TS)
def Ev.trace {R:Type}:Ev R→List An→List Qr→Option (R×List Qr)
 | .fail,_,_=>none
 | .ret r,as,qs=>match as with|[]=>some (r,qs)|_=>none
 | .test b k,as,qs=>match as with| .b x::as=>(k x).trace as (.test b x::qs)|_=>none
 | .row rows i k,as,qs=>match as with| .row c::as=>(k c).trace as (.row rows i c::qs)|_=>none
 | .byte s i k,as,qs=>match as with| .n b::as=>(k b).trace as (.byte s i b::qs)|_=>none
 | .bytes rows k,as,qs=>match as with| .ns l::as=>(k l).trace as (.bytes rows l::qs)|_=>none
 | .call f vs k,as,qs=>match as with| .call r fs::as=>fL fTV vs fun vs=>(k r fs).trace as (.call f vs r fs::qs)|_=>none
 | .loop f i c st k,as,qs=>match as with| .loop x st'::as=>(k x st').trace as (.loop f i c st x st'::qs)|_=>none
 | .both _ _,_,_=>none
def Qr.ok (cf:Cf) (lp:Lp):Qr→Prop
 | .test b x=>b=x
 | .row rows i c=>rowAt rows i=some c
 | .byte s i b=>xD s i=some b
 | .bytes rows ns=>wK rows=some ns
 | .call f vs r fs=>cf f vs r fs
 | .loop f i c st x st'=>lp f i c st fun x1 fR=>x1=x∧fR=st'
section
variable {Z : Type}
theorem Ag {α:Type} {f:α→(α→Z)→Z} (h: ∀a K,f a K=K a): ∀(l:List α) (K:List α→Z),fL f l K=K l
 |[],K=>rfl
 |a::r,K=>by simp only[fL,h,Ag h r]
theorem aie (b:Bool) (K:Bool→Z):fB b K=K b:=by cases b<;>rfl
theorem aif (b:Nat) (K:Nat→Z):fN b K=K b:=rfl
theorem aih (p:Option (Int×Nat)) (K:Option (Int×Nat)→Z):ams p K=K p:=by cases p<;>rfl
theorem akJ (p:Option (Int×Int)) (K:Option (Int×Int)→Z):ao8 p K=K p:=by cases p<;>rfl
theorem ana (p:Option (Nat×Int×Nat)) (K:Option (Nat×Int×Nat)→Z):fAt p K=K p:=by cases p<;>rfl
theorem amx (v:Value) (K:Value→Z):fV v K=K v:=by cases v<;>rfl
theorem aaI (c:TC) (K:TC→Z):fTC c K=K c:=by cases c<;>simp only[fTC,amx]
theorem aii (e:CE) (K:CE→Z):fCE e K=K e:=by
 cases e<;>simp only[fCE,amx,akJ,ana,Ag aif]
theorem aij (c:vH) (K:vH→Z):ah1 c K=K c:=by cases c<;>simp only[ah1,aie,Ag aii]
theorem anb (e:TE) (K:TE→Z):fTE e K=K e:=by
 cases e<;>simp only[fTE,aie,Ag aij,Ag aif,Ag aaI,aih]
theorem anc (b:OB) (K:OB→Z):fOB b K=K b:=by cases b;simp only[fOB,aie]
theorem aik (v:TV) (K:TV→Z):fTV v K=K v:=by
 cases v<;>simp only[fTV,ah2,aaI,Ag aaI]
 rw[Ag (fun a K=>by cases a;simp only[ah2,Ag aaI])]
theorem xF (st:TS) (K:TS→Z):fTS st K=K st:=by
 cases st;simp only[fTS]
 rw[Ag (fun a K=>by cases a;simp only[anb]),Ag (fun a K=>by cases a;simp only[Ag aii]),Ag (fun a K=>by cases a;simp only[anc])]
end
theorem iw {R:Type} {cf cf':Cf} {lp lp':Lp} (hc: ∀f vs r fs,cf f vs r fs→cf' f vs r fs) (OE: ∀f i c st (Q Q':TX→TS→Prop),(∀x s,Q x s→Q' x s)→lp f i c st Q→lp' f i c st Q') {Q Q':R→Prop} (hQ: ∀r,Q r→Q' r):
 ∀(e:Ev R),e.holds cf lp Q→e.holds cf' lp' Q'
 | .fail,h=>h
 | .ret r,h=>hQ r h
 | .test b k,h=>iw hc OE hQ (k b) h
 | .row rows i k,⟨c,h1,h2⟩=>⟨c,h1,iw hc OE hQ (k c) h2⟩
 | .byte rows i k,⟨c,h1,h2⟩=>⟨c,h1,iw hc OE hQ (k c) h2⟩
 | .bytes rows k,⟨c,h1,h2⟩=>⟨c,h1,iw hc OE hQ (k c) h2⟩
 | .call f vs k,⟨r,fs,h1,h2⟩=>⟨r,fs,hc _ _ _ _ h1,iw hc OE hQ (k r fs) h2⟩
 | .loop f i c st k,h=>OE _ _ _ _ _ _ (fun x s hxs=>iw hc OE hQ (k x s) hxs) h
 | .both a b,⟨r,h1,h2,h3⟩=>⟨r,iw hc OE (fun _ h=>h) a h1,iw hc OE (fun _ h=>h) b h2,hQ r h3⟩
section
variable {C : pU}
theorem Ko {cf cf':Cf} {lp lp':Lp} (hc: ∀f vs r fs,cf f vs r fs→cf' f vs r fs) (OE: ∀f i c st (Q Q':TX→TS→Prop),(∀x s,Q x s→Q' x s)→lp f i c st Q→lp' f i c st Q')
 {fx:List Nat} {f i:Nat} {c:Code} {Q Q':TX→TS→Prop} (hQ: ∀x s,Q x s→Q' x s): ∀(n n':Nat),n≤n'→ ∀(st:TS),iter C cf lp fx f i c Q n st→iter C cf' lp' fx f i c Q' n' st
 |0,_,_,_,h=>h.elim
 |n+1,0,hn,_,_=>absurd hn an
 |n+1,n'+1,hn,st,h=>by
  refine iw hc OE (fun p hp=> ?_) _ h;obtain⟨x,s⟩:=p
  cases x with
  |norm=>
   simp only at hp ⊢;rw[xF] at hp ⊢;exact Ko hc OE hQ n n' an _ hp
  |ex id=>exact hQ _ _ hp
  |ret=>exact hQ _ _ hp
theorem uS {cf cf':Cf} (hc: ∀f vs r fs,cf f vs r fs→cf' f vs r fs) {k k':Nat} (hk:k≤k') {fx:List Nat}: ∀(n:Nat) (f i:Nat) (c:Code) (st:TS) (Q Q':TX→TS→Prop),(∀x s,Q x s→Q' x s)→
 lpN C cf k fx n f i c st Q→lpN C cf' k' fx n f i c st Q'
 |0,_,_,_,_,_,_,_,h=>h.elim
 |n+1,f,i,c,st,Q,Q',hQ,h=>Ko hc (uS hc hk n) hQ k k' hk st h
theorem IZ: ∀(k:Nat) (f:FuncId) (vs:List TV) (r:TV) (fs:List TV),lR C k f vs r fs→lR C (k+1) f vs r fs
 |0,_,_,_,_,h=>h.elim
 |k+1,f,vs,r,fs,h=>by
  unfold lR at h ⊢
  cases hx:C.ext f with
  |some p=>rw[hx] at h;exact h
  |none=>rw[hx] at h;exact iw (IZ k) (uS (IZ k) (Nat.le_succ k) 4) (fun _ h=>h) _ h
theorem aeu {k:Nat} {f:FuncId} {vs:List TV} {r:TV} {fs:List TV} (hx:C.ext f=none) (h:(body C f vs).holds (lR C k) (lpN C (lR C k) k (yK (C.sig f).ps 0) 4) fun p=>p=(r,fs)):lR C (k+1) f vs r fs:=by
 unfold lR;rw[hx];exact h
theorem agA {k:Nat} {f:FuncId} {vs:List TV} {r:TV} {fs:List TV} {p:List TV→Option (TV×List TV)} (hx:C.ext f=some p) (h:p vs=some (r,fs)):lR C (k+1) f vs r fs:=by
 unfold lR;rw[hx];exact h
theorem qC {k k':Nat} (hk:k≤k') {f:FuncId} {vs:List TV} {r:TV} {fs:List TV} (h:lR C k f vs r fs):lR C k' f vs r fs:=by
 induction hk with
 |refl=>exact h
 |step _ ih=>exact IZ _ _ _ _ _ ih
def OO (C:pU) (k:Nat) (fx:List Nat) (n:Nat) (f i:Nat) (c:Code) (m:Nat) (st:TS) (x:TX) (st':TS):Prop:=
 iter C (lR C k) (lpN C (lR C k) k fx n) fx f i c (fun x1 fR=>x1=x∧fR=st') m st
theorem OO.ok {k:Nat} {fx:List Nat} {n f i:Nat} {c:Code} {m:Nat} {st:TS} {x:TX} {st':TS} (h:OO C k fx n f i c m st x st') (hm:m≤k):(Qr.loop f i c st x st').ok (lR C k) (lpN C (lR C k) k fx (n+1)):=
 Ko (fun _ _ _ _ h=>h) (uS (fun _ _ _ _ h=>h) (de _) n) (fun _ _ h=>h) m k hm st h
end
end Go.T
namespace Go.T
def BE (rows:List (List TC)) (i f:Nat):Option TC:=(rows[i]?).bind fun r=>r[f]?
def RO:Value→Prop
 | .int _ _=>True
 | .bool _=>True
 | .string _=>True
 | .slice _ _ _=>True
 |_=>False
def Mode.nx:Mode→Mode
 | .deep=> .deep
 |_=> .snap
structure apb (w:World) (R:Nat→Prop) (m:Mode) (S:Nat→Prop) (z:Nat) (rows:List (List TC)) (A:Option Addr) (c:Nat) (u:Nat→Nat→Value) (T:Nat→Nat→Nat→Prop):Prop where
 len:rows.length≤c
 cap:c≤maxLen
 z0:0<z
 width: ∀r∈rows,r.length=z
 addr:rows≠[]→ ∃ad,A=some ad
 cell: ∀ad,A=some ad→ ∀i f tc,BE rows i f=some tc→w.cell? (ad.add (i*z+f))=some (u i f)
 read:m= .snap→ ∀ad,A=some ad→rows≠[]→R ad.block
 own:m≠ .snap→(A=none→c=0)∧ ∀ad,A=some ad→S ad.block∧ad.spot=none∧
  ∀j,j<c*z→(∃x,w.cell? ⟨ad.block,ad.off+j,none⟩=some x)∧w.frozen? ⟨ad.block,ad.off+j,none⟩=false
 soft:m≠ .snap→1<z→ ∀ad,A=some ad→ ∀i,w.frozen? ⟨ad.block,i,none⟩=false
 sO:m= .deep→ ∀i f k,T i f k→S k∧(∀ad,A=some ad→k≠ad.block)∧ ∀i' f',T i' f' k→i'=i∧f'=f
inductive aB (w:World) (R:Nat→Prop):Mode→(Nat→Prop)→TC→Value→Prop
 |sc (m:Mode) (S:Nat→Prop) (v:Value) (h:RO v):aB w R m S (.sc v) v
 |sub (m:Mode) (S:Nat→Prop) (z:Nat) (rows:List (List TC)) (A:Option Addr) (c:Nat) (u:Nat→Nat→Value) (T:Nat→Nat→Nat→Prop)
   (h:apb w R m S z rows A c u T) (hn: ∀i f tc,BE rows i f=some tc→aB w R m.nx (T i f) tc (u i f)):
   aB w R m S (.sub z rows) (.slice A rows.length c)
 |any (m:Mode) (S:Nat→Prop) (v:Value) (h:v.oneCell'=true∧v.cells= #[v]):aB w R m S .any v
variable {w w' : World} {R R' S S' : Nat → Prop} {m : Mode} {c : TC} {v : Value}
theorem OP {rows:List (List TC)} {i f:Nat} {tc:TC} (h:BE rows i f=some tc):rows≠[]:=by
 rintro rfl;simp[BE] at h
theorem iy {w w':World} {a:Addr} (h:w'.heap[a.block]?=w.heap[a.block]?):w'.cell? a=w.cell? a:=by
 unfold World.cell?;rw[h]
theorem oz {w w':World} {a:Addr} (h:w'.heap[a.block]?=w.heap[a.block]?):w'.frozen? a=w.frozen? a:=by
 unfold World.frozen?;rw[h]
theorem dm (a:Addr) (n:Nat):(a.add n).block=a.block:=by unfold Addr.add;split<;>rfl
theorem aB.mono (h:aB w R m S c v) (hS: ∀k,S k→S' k):aB w R m S' c v:=by
 cases h with
 |any _ _ _ h=>exact .any _ _ _ h
 |sc _ _ _ h=>exact .sc _ _ _ h
 |sub _ _ z rows A c u T h hn=>
  refine .sub _ _ z rows A c u T {h with own:=fun hm=>⟨(h.own hm).1,fun ad ha=>⟨hS _ ((h.own hm).2 ad ha).1,((h.own hm).2 ad ha).2⟩⟩,sO:=fun hm i f k hk=>⟨hS _ (h.sO hm i f k hk).1,(h.sO hm i f k hk).2⟩} hn
theorem zC {m:Mode} (h:m.nx≠ .snap):m= .deep:=by cases m<;>simp_all [Mode.nx]
theorem aB.move (h:aB w R m S c v):(∀k,R k→R' k∧w'.heap[k]?=w.heap[k]?)→(m≠ .snap→ ∀k,S k→w'.heap[k]?=w.heap[k]?)→aB w' R' m S c v:=by
 induction h with
 |any _ _ _ h=>exact fun _ _=> .any _ _ _ h
 |sc _ _ _ h=>exact fun _ _=> .sc _ _ _ h
 |sub m S z rows A c u T h hn ih=>
  intro hR hS;refine .sub _ _ z rows A c u T {h with cell:= ?_,read:= ?_,own:= ?_,soft:=fun hm h1 ad ha i=>by rw[oz (w:=w) (a:=⟨ad.block,i,none⟩) (hS hm _ ((h.own hm).2 ad ha).1)];exact h.soft hm h1 ad ha i} fun i f tc ht=>ih i f tc ht hR fun hm k hk=> ?_
  ·intro ad ha i f tc ht
   rw[iy (w:=w)]
   ·exact h.cell ad ha i f tc ht
   ·rw[dm]
    by_cases hm:m= .snap
    ·exact(hR _ (h.read hm ad ha (OP ht))).2
    ·exact hS hm _ ((h.own hm).2 ad ha).1
  ·exact fun hm ad ha hne=>(hR _ (h.read hm ad ha hne)).1
  ·intro hm
   refine⟨(h.own hm).1,fun ad ha=>⟨((h.own hm).2 ad ha).1,((h.own hm).2 ad ha).2.1,fun j hj=> ?_⟩⟩;have hb:=hS hm _ ((h.own hm).2 ad ha).1;obtain⟨⟨x,hx⟩,hf⟩:=((h.own hm).2 ad ha).2.2 j hj;exact⟨⟨x,by rw[iy (w:=w) (by exact hb)];exact hx⟩,by rw[oz (w:=w) (by exact hb)];exact hf⟩
  ·have:=zC hm
   subst this;exact hS dh k (h.sO rfl i f k hk).1
theorem aB.freeze (h:aB w R m S c v):(∀k,R k→R' k)→(m≠ .snap→ ∀k,S k→R' k)→aB w R' .snap S' c v:=by
 induction h generalizing S' with
 |any _ _ _ h=>exact fun _ _=> .any _ _ _ h
 |sc _ _ _ h=>exact fun _ _=> .sc _ _ _ h
 |sub m S z rows A c u T h hn ih=>
  intro hR hS;refine .sub _ _ z rows A c u (fun _ _ _=>False) {h with read:= ?_,own:=fun hm=>absurd rfl hm,soft:=fun hm=>absurd rfl hm,sO:=fun hm=>by cases hm} fun i f tc ht=>ih i f tc ht hR fun hm k hk=> ?_
  ·intro _ ad ha hne
   by_cases hm:m= .snap
   ·exact hR _ (h.read hm ad ha hne)
   ·exact hS hm _ ((h.own hm).2 ad ha).1
  ·have:=zC hm
   subst this;exact hS dh k (h.sO rfl i f k hk).1
theorem aB.uy (h:aB w R .snap S c v) (hR: ∀k,R k→R' k):aB w R' .snap S' c v:=h.freeze hR fun h=>absurd rfl h
end Go.T
namespace Go.T
theorem nD {o:Nat}: ∀{l:List Nat},pI o l=true↔o∈l
 |[]=>by simp[pI]
 |a::r=>by
  simp only[pI,gj]
  cases h:Nat.beq a o with
  |true=>simp[kD h]
  |false=>simp only[nD (l:=r)];have:=wJ h;simp[Ne.symm this]
theorem fZ {o:Nat} {l:List Nat}:pI o l=false↔o∉l:=by
 rw[←nD];simp
theorem DT {o d:Nat}: ∀{l:List Nat},d∈acf o l↔d∈l∧d≠o
 |[]=>by simp[acf]
 |a::r=>by
  simp only[acf]
  cases h:Nat.beq a o with
  |true=>
   have h1:=kD h;subst h1;simp only[DT (l:=r),gj];exact⟨fun⟨x,y⟩=>⟨.inr x,y⟩,fun⟨x,y⟩=>⟨x.resolve_left y,y⟩⟩
  |false=>
   have h1:=wJ h;simp only[gj,DT (l:=r)]
   constructor
   ·rintro(rfl|⟨x,y⟩)
    ·exact⟨.inl rfl,h1⟩
    ·exact⟨.inr x,y⟩
   ·rintro⟨rfl|x,y⟩
    ·exact .inl rfl
    ·exact .inr ⟨x,y⟩
theorem wg {a:List Nat} {l:List Nat} (h:zi a l=false) {x:Nat} (hx:x∈a):x∉l:=by
 induction a with
 |nil=>cases hx
 |cons y r ih=>
  simp only[zi] at h
  cases h1:pI y l with
  |true=>rw[h1] at h;cases h
  |false=>
   rw[h1] at h;rcases gj.1 hx with rfl|hx
   ·exact fZ.1 h1
   ·exact ih h hx
theorem beq_false {a b:Nat} (h:a≠b):Nat.beq a b=false:=by
 cases h1:Nat.beq a b with
 |true=>exact absurd (kD h1) h
 |false=>rfl
theorem I0 (a:Nat):Nat.beq a a=true:=by simp
section
variable {α β : Type}
theorem g6 (i j:Nat) (e:α): ∀(l:List (Nat×α)),az j (rW i e l)=if j=i then some e else az j l
 |[]=>by
  simp only[rW,az]
  by_cases h:j=i
  ·subst h;simp
  ·rw[beq_false (Ne.symm h),aF h]
 |(a,x)::r=>by
  have ih:=g6 i j e r;simp only[rW]
  cases h1:Nat.beq a i with
  |true=>
   have h1:=kD h1;subst h1;simp only[az]
   by_cases h:j=a
   ·subst h;simp
   ·rw[beq_false (Ne.symm h),aF h]
  |false=>
   have h1:=wJ h1
   cases h2:Nat.ble i a with
   |true=>
    simp only[az]
    by_cases h:j=i
    ·subst h;simp
    ·rw[beq_false (Ne.symm h),aF h]
   |false=>
    simp only[az]
    by_cases h3:a=j
    ·subst h3;rw[I0,aF h1]
    ·rw[beq_false h3];exact ih
theorem kX (i j:Nat): ∀(l:List (Nat×α)),az j (uP i l)=if j=i then none else az j l
 |[]=>by simp[uP,az]
 |(a,x)::r=>by
  have ih:=kX i j r;simp only[uP]
  cases h1:Nat.beq a i with
  |true=>
   have h1:=kD h1;subst h1;simp only[az,ih]
   by_cases h:j=a
   ·simp[h]
   ·rw[beq_false (Ne.symm h)]
  |false=>
   have h1:=wJ h1;simp only[az]
   by_cases h3:a=j
   ·subst h3;rw[I0,aF h1]
   ·rw[beq_false h3];exact ih
theorem xG (f:α→α) (j:Nat): ∀(l:List (Nat×α)),az j (mapA f l)=(az j l).map f
 |[]=>rfl
 |(a,x)::r=>by
  simp only[mapA,az]
  cases Nat.beq a j with
  |true=>rfl
  |false=>exact xG f j r
theorem U3 (l:List Nat) (j:Nat): ∀(m:List (Nat×α)),az j (F2 l m)=if j∈l then az j m else none
 |[]=>by simp[F2,az]
 |(a,x)::r=>by
  have ih:=U3 l j r;simp only[F2]
  cases h1:pI a l with
  |true=>
   have h1:=nD.1 h1;simp only[az]
   by_cases h:a=j
   ·subst h;rw[I0,aJ h1]
   ·rw[beq_false h];exact ih
  |false=>
   have h1:=fZ.1 h1;simp only[az,ih]
   by_cases h:a=j
   ·subst h;rw[aF h1,aF h1]
   ·rw[beq_false h]
end
structure Fp where
 I:Nat→Prop
 S:Nat→Nat→Prop
 V:Nat→Value
 β:Nat→Addr
def rd (φ:Fp) (ds:List Nat) (k:Nat):Prop:=φ.I k∨ ∃d,d∈ds∧φ.S d k
abbrev OF:Nat→Prop:=fun _=>False
def OB.m (b:OB):Mode:=if b.deep then .deep else .top
def rX (w:World) (φ:Fp) (o:Nat) (b:OB):Prop:=aB w φ.I b.m (φ.S o) (.sub b.z b.rows) (φ.V o)
def F3 (z n:Nat) (l h:Int) (V v:Value):Prop:=
 0≤l∧l≤h∧h≤n∧ ∃A A' c,V= .slice A n c∧v= .slice A' (h.toNat-l.toNat) (c-l.toNat)∧(c≠l.toNat→A'=A.map fun a=>a.add (l.toNat*z))∧(A=none→A'=none)∧
  ∀ad,A=some ad→ ∃ad',A'=some ad'∧ad'.block=ad.block∧(ad.spot=none→ad'.spot=none)
def aT (ob:List (Nat×OB)) (d:Nat):Prop:= ∃b,az d ob=some b
def afK (ob:List (Nat×OB)) (w:World) (φ:Fp) (z:Nat) (rows:List (List TC)) (v:Value) (o:Nat) (i:Int) (f:Nat):Prop:=
 ∃b,az o ob=some b∧0≤i∧BE b.rows i.toNat f=some (.sub z rows)∧ ∃ad n c,φ.V o= .slice (some ad) n c∧w.cell? (ad.add (i.toNat*b.z+f))=some v
def e9 (ob:List (Nat×OB)) (w:World) (φ:Fp) (e:CE) (v:Value):Prop:=
 match e with
 | .sc x=>v=x∧RO x
 | .nil z=>v= .slice none 0 0∧0<z
 | .ref o cut=> ∃b,az o ob=some b∧match cut with
   |none=>v=φ.V o
   |some (l,h)=>F3 b.z b.rows.length l h (φ.V o) v
 | .snap ds loc z rows=>(∀d∈ds,d=0∨aT ob d)∧aB w (rd φ ds) .snap OF (.sub z rows) v∧ ∀o i f,loc=some (o,i,f)→o∈ds∧afK ob w φ z rows v o i f
 | .gone=>True
def qa (ob:List (Nat×OB)) (w:World) (φ:Fp) (c:vH) (u:Value):Prop:=
 match c with
 | .mk true cs=> ∃xs:Array Value,u= .agg xs∧xs.size=cs.length∧ ∀(j:Nat) (e:CE),cs[j]?=some e→ ∃x,xs[j]?=some x∧x.cells= #[x]∧e9 ob w φ e x
 | .mk false cs=> ∃e,cs=[e]∧u.cells= #[u]∧e9 ob w φ e u
 | .ptr b=>u= .pointer (some (φ.β b))
def dO (ob:List (Nat×OB)) (w:World) (φ:Fp) (e:TE) (v:Value):Prop:=
 match e with
 | .dead=>True
 | .v true es=> ∃vs:Array Value,v= .tuple vs∧vs.size=es.length∧ ∀(k:Nat) (c:vH),es[k]?=some c→ ∃u,vs[k]?=some u∧qa ob w φ c u
 | .v false es=> ∃c,es=[c]∧qa ob w φ c v
 | .bp b off=>v= .pointer (some ((φ.β b).add off))
 | .ep ds cells=>(∀d∈ds,d=0∨aT ob d)∧ ∃ad,v= .pointer (some ad)∧(cells≠[]→rd φ ds ad.block)∧ ∀(j:Nat) (tc:TC),cells[j]?=some tc→ ∃u,w.cell? (ad.add j)=some u∧aB w (rd φ ds) .snap OF tc u
 | .er o path i f=> ∃b,az o ob=some b∧0≤i∧ ∃ad n c,φ.V o= .slice (some ad) n c∧match path with
   |none=>v= .pointer (some (ad.add (i.toNat*b.z+f)))
   |some (i0,f0)=>0≤i0∧ ∃z1 u6,BE b.rows i0.toNat f0=some (.sub z1 u6)∧ ∃ad1 n1 c1,w.cell? (ad.add (i0.toNat*b.z+f0))=some (.slice (some ad1) n1 c1)∧
    v= .pointer (some (ad1.add (i.toNat*z1+f)))
 | .fn f caps=>v= .func (.func f) #[] (caps.map fun b=>Value.pointer (some (φ.β b))).toArray
 | .kb b=>v= .bool b
structure MV (F:Nat→Prop) (w0 w:World):Prop where
 os:w.os=w0.os
 tape:w.tape=w0.tape
 output:w.output=w0.output
 size:w0.heap.size≤w.heap.size
 block: ∀k,k<w0.heap.size→ ¬F k→w.heap[k]?=w0.heap[k]?
structure Arg where
 all:Nat→Prop
 sh:Nat→Prop
structure Sep (F:Nat→Prop) (A:Arg) (w0 w:World) (φ:Fp) (bx:List (Nat×List CE)) (ob:List (Nat×OB)):Prop where
 arg:φ.S 0=A.all
 nz: ∀o,aT ob o→o≠0
 apart: ∀o o' k,aT ob o→aT ob o'→φ.S o k→φ.S o' k→o=o'
 read: ∀o k,aT ob o→φ.S o k→ ¬φ.I k
 fresh: ∀o k,aT ob o→φ.S o k→k<w.heap.size∧(w0.heap.size≤k∨F k)
 ro: ∀k,φ.I k→k<w.heap.size∧(w0.heap.size≤k∨F k∨A.sh k)
 qQ: ∀k,A.all k→k<w0.heap.size∧ ¬F k
 box: ∀b cs,az b bx=some cs→DJ b=true→ ¬φ.I (φ.β b).block∧(∀o,aT ob o→ ¬φ.S o (φ.β b).block)∧(w0.heap.size≤(φ.β b).block∨F (φ.β b).block)∧
  ∀b' cs',az b' bx=some cs'→b'≠b→(φ.β b').block≠(φ.β b).block
 spot: ∀b cs,az b bx=some cs→(DJ b=true→(φ.β b).spot=none)∧(φ.β b).block<w.heap.size∧(DJ b=false→A.all (φ.β b).block)
 soft: ∀b cs j,az b bx=some cs→DJ b=true→j<cs.length→w.frozen? ((φ.β b).add j)=false
structure bD (F:Nat→Prop) (A:Arg) (w0:World) (φ:Fp) (st:TS) (tm:Array Value) (w:World):Prop where
 tmp: ∀i,dO st.ob w φ (st.get i) (tm.getD i undef)
 box: ∀b cs,az b st.bx=some cs→ ∀(j:Nat) (e:CE),cs[j]?=some e→ ∃v,w.cell? ((φ.β b).add j)=some v∧v.cells= #[v]∧e9 st.ob w φ e v
 obj: ∀o b,az o st.ob=some b→rX w φ o b
 sep:Sep F A w0 w φ st.bx st.ob
 frm:MV F w0 w
def Rel (F:Nat→Prop) (A:Arg) (w0:World) (st:TS) (tm:Array Value) (w:World):Prop:= ∃φ,bD F A w0 φ st tm w
section
variable {ob Kf : List (Nat × OB)} {w w' : World} {φ φ' : Fp} {f : CE → CE} {g : TE → TE}
def Ah (f:CE→CE):vH→vH
 | .mk a cs=> .mk a (cs.map f)
 | .ptr b=> .ptr b
theorem zE (f:CE→CE): ∀(es:List vH) (k:Nat),(oy f es)[k]?=(es[k]?).map (Ah f)
 |[],_=>by simp[oy]
 | .mk a cs::r,0=>by simp[oy,Ah]
 | .ptr b::r,0=>by simp[oy,Ah]
 | .mk a cs::r,k+1=>by simp[oy,zE f r k]
 | .ptr b::r,k+1=>by simp[oy,zE f r k]
theorem u9 (f:CE→CE): ∀(es:List vH),(oy f es).length=es.length
 |[]=>rfl
 | .mk a cs::r=>by simp[oy,u9 f r]
 | .ptr b::r=>by simp[oy,u9 f r]
theorem qa.Lu (hβ:φ'.β=φ.β) (hc: ∀e v,e9 ob w φ e v→e9 Kf w' φ' (f e) v) {c:vH} {u:Value} (h:qa ob w φ c u):
 qa Kf w' φ' (Ah f c) u:=by
 cases c with
 |ptr b=>simp only[qa,Ah] at h ⊢;rw[hβ];exact h
 |mk a cs=>
  cases a with
  |true=>
   obtain⟨xs,h1,h2,h3⟩:=h;refine⟨xs,h1,by simp[h2],fun j e he=> ?_⟩;rw[mm] at he
   cases h4:cs[j]? with
   |none=>rw[h4] at he;cases he
   |some e0=>
    rw[h4] at he;simp only[pQ,aY] at he;subst he;obtain⟨x,hx,hx1,hok⟩:=h3 j e0 h4;exact⟨x,hx,hx1,hc _ _ hok⟩
  |false=>
   obtain⟨e,rfl,h2,h3⟩:=h;exact⟨f e,rfl,h2,hc _ _ h3⟩
theorem dO.Lu (hβ:φ'.β=φ.β) (hc: ∀e v,e9 ob w φ e v→e9 Kf w' φ' (f e) v) (ht: ∀e v,(∀t es,e≠ .v t es)→dO ob w φ e v→dO Kf w' φ' (g e) v) {e:TE} {v:Value} (h:dO ob w φ e v):
 dO Kf w' φ' (Di f g e) v:=by
 by_cases hv: ∃t es,e= .v t es
 ·obtain⟨tup,es,rfl⟩:=hv
  cases tup with
  |true=>
   obtain⟨vs,h1,h2,h3⟩:=h;refine⟨vs,h1,by rw[u9];exact h2,fun k c hk=> ?_⟩;rw[zE] at hk
   cases h4:es[k]? with
   |none=>rw[h4] at hk;cases hk
   |some c0=>
    rw[h4] at hk;simp only[pQ,aY] at hk;obtain⟨u,hu,hok⟩:=h3 k c0 h4;exact⟨u,hu,by rw[←hk];exact hok.Lu hβ hc⟩
  |false=>
   obtain⟨c,rfl,hok⟩:=h;refine⟨_,?_,hok.Lu hβ hc⟩
   cases c<;>rfl
 ·have h1:Di f g e=g e:=by cases e<;>first|rfl|exact absurd ⟨_,_,rfl⟩ hv
  rw[h1];exact ht e v (fun t es he=>hv ⟨t,es,he⟩) h
end
theorem get_map (f:CE→CE) (g:TE→TE) (h:List (Nat×OB)→List (Nat×OB)) (hd:g .dead= .dead) (st:TS) (i:Nat):(By f g h st).get i=Di f g (st.get i):=by
 unfold TS.get By;simp only[xG]
 cases az i st.tm with
 |none=>exact hd.symm
 |some e=>rfl
variable {F : Nat → Prop} {A : Arg} {w0 w w' : World} {φ φ' : Fp} {st st' : TS} {tm Lo : Array Value}
theorem bD.Lu (h:bD F A w0 φ st tm w) {f:CE→CE} {g:TE→TE} {k:List (Nat×OB)→List (Nat×OB)} (hd:g .dead= .dead) (hβ:φ'.β=φ.β)
 (hc: ∀e v,e9 st.ob w φ e v→e9 (k st.ob) w' φ' (f e) v) (ht: ∀e v,(∀t es,e≠ .v t es)→dO st.ob w φ e v→dO (k st.ob) w' φ' (g e) v)
 (hw: ∀b cs,az b st.bx=some cs→ ∀j,j<cs.length→w'.cell? ((φ.β b).add j)=w.cell? ((φ.β b).add j))
 (ho: ∀o b,az o (k st.ob)=some b→rX w' φ' o b) (hs:Sep F A w0 w' φ' (mapA (List.map f) st.bx) (k st.ob)) (hf:MV F w0 w'):bD F A w0 φ' (By f g k st) tm w' where
 tmp i:=by rw[get_map f g k hd];exact(h.tmp i).Lu hβ hc ht
 box b cs hb j e he:=by
  simp only[By,xG] at hb
  cases h1:az b st.bx with
  |none=>rw[h1] at hb;cases hb
  |some cs0=>
   rw[h1] at hb;simp only[pQ,aY] at hb;subst hb;rw[mm] at he
   cases h2:cs0[j]? with
   |none=>rw[h2] at he;cases he
   |some e0=>
    rw[h2] at he;simp only[pQ,aY] at he;subst he;obtain⟨v,hv,h1c,hok⟩:=h.box b cs0 h1 j e0 h2;refine⟨v,?_,h1c,hc _ _ hok⟩;rw[hβ,hw b cs0 h1 j (List.getElem?_eq_some_iff.1 h2).1];exact hv
 obj:=ho
 sep:=hs
 frm:=hf
theorem Sep.boxes {bx bx':List (Nat×List CE)} {ob:List (Nat×OB)} (h:Sep F A w0 w φ bx ob) (hb: ∀b cs',az b bx'=some cs'→ ∃cs,az b bx=some cs∧cs'.length=cs.length):Sep F A w0 w φ bx' ob where
 arg:=h.arg
 nz:=h.nz
 apart:=h.apart
 read:=h.read
 fresh:=h.fresh
 ro:=h.ro
 qQ:=h.qQ
 box b cs' hl hw:=by
  obtain⟨cs,h1,_⟩:=hb b cs' hl;obtain⟨a1,a2,a3,a4⟩:=h.box b cs h1 hw;refine⟨a1,a2,a3,fun b' abZ hl' hne=> ?_⟩;obtain⟨cs2,h2,_⟩:=hb b' abZ hl';exact a4 b' cs2 h2 hne
 spot b cs' hl:=by obtain⟨cs,h1,_⟩:=hb b cs' hl;exact h.spot b cs h1
 soft b cs' j hl hw hj:=by obtain⟨cs,h1,h2⟩:=hb b cs' hl;exact h.soft b cs j h1 hw an
theorem jO (f:CE→CE) {bx:List (Nat×List CE)}: ∀b cs',az b (mapA (List.map f) bx)=some cs'→ ∃cs,az b bx=some cs∧cs'.length=cs.length:=by
 intro b cs' h;rw[xG] at h
 cases h1:az b bx with
 |none=>rw[h1] at h;cases h
 |some cs=>
  rw[h1] at h;simp only[pQ,aY] at h;exact⟨cs,rfl,by rw[←h];simp⟩
theorem Sep.lt {bx:List (Nat×List CE)} {ob:List (Nat×OB)} (h:Sep F A w0 w φ bx ob) (hs:w0.heap.size≤w.heap.size) {d:Nat} (hd:d=0∨aT ob d) {k:Nat} (hk:φ.S d k):k<w.heap.size:=by
 rcases hd with rfl|hd
 ·rw[h.arg] at hk;exact mq (h.qQ k hk).1 hs
 ·exact(h.fresh d k hd hk).1
theorem Sep.ane {bx:List (Nat×List CE)} {ob:List (Nat×OB)} (h:Sep F A w0 w φ bx ob) (hs:w0.heap.size≤w.heap.size) {ds:List Nat} (hd: ∀d∈ds,d=0∨aT ob d) {k:Nat} (hk:rd φ ds k):k<w.heap.size:=by
 rcases hk with hk|⟨d,hm,hk⟩
 ·exact(h.ro k hk).1
 ·exact h.lt hs (hd d hm) hk
structure pV (w w':World):Prop where
 os:w'.os=w.os
 tape:w'.tape=w.tape
 output:w'.output=w.output
 size:w.heap.size≤w'.heap.size
 block: ∀k,k<w.heap.size→w'.heap[k]?=w.heap[k]?
theorem pV.refl (w:World):pV w w:=⟨rfl,rfl,rfl,de _,fun _ _=>rfl⟩
theorem pV.alloc (w:World) (o:Obj):pV w (w.alloc o):=⟨rfl,rfl,rfl,by simp,fun k hk=>heap_alloc_old w o hk⟩
theorem pV.drew (w:World):pV w w.drew:=⟨rfl,rfl,rfl,de _,fun _ _=>rfl⟩
theorem pV.trans {a b c:World} (h:pV a b) (k:pV b c):pV a c:=
 ⟨k.os.trans h.os,k.tape.trans h.tape,k.output.trans h.output,uO h.size k.size,fun i hi=>(k.block i (mq hi h.size)).trans (h.block i hi)⟩
theorem MV.MW (h:MV F w0 w) (g:pV w w'):MV F w0 w':=
 ⟨g.os.trans h.os,g.tape.trans h.tape,g.output.trans h.output,uO h.size g.size,fun k hk hf=>(g.block k (mq hk h.size)).trans (h.block k hk hf)⟩
theorem pV.cell (g:pV w w') {a:Addr} {v:Value} (h:w.cell? a=some v):w'.cell? a=some v:=by
 rw[iy (w:=w) (g.block _ (World.block_lt_of_cell? w a h))];exact h
theorem pV.MX (g:pV w w') {a:Addr} (h:a.block<w.heap.size):w'.cell? a=w.cell? a:=iy (g.block _ h)
theorem e9.stay {ob:List (Nat×OB)} (hI: ∀k,φ.I k→w'.heap[k]?=w.heap[k]?) (hS: ∀d k,d=0∨aT ob d→φ.S d k→w'.heap[k]?=w.heap[k]?)
 (hV: ∀o,aT ob o→ ∀ad n c,φ.V o= .slice (some ad) n c→ ∀i v,w.cell? (ad.add i)=some v→w'.cell? (ad.add i)=some v) {e:CE} {v:Value} (h:e9 ob w φ e v):e9 ob w' φ e v:=by
 cases e with
 |snap ds loc z rows=>
  obtain⟨h1,h2,h3⟩:=h;refine⟨h1,h2.move (fun k hk=>⟨hk,?_⟩) (fun hm=>absurd rfl hm),fun o i f hl=>⟨(h3 o i f hl).1,?_⟩⟩
  ·rcases hk with hk|⟨d,hd,hk⟩
   ·exact hI k hk
   ·exact hS d k (h1 d hd) hk
  ·obtain⟨b,a1,a2,a3,ad,n,c,a4,a5⟩:=(h3 o i f hl).2
   exact⟨b,a1,a2,a3,ad,n,c,a4,hV o ⟨b,a1⟩ ad n c a4 _ _ a5⟩
 |_=>exact h
theorem dO.stay {ob:List (Nat×OB)} (hI: ∀k,φ.I k→w'.heap[k]?=w.heap[k]?) (hS: ∀d k,d=0∨aT ob d→φ.S d k→w'.heap[k]?=w.heap[k]?)
 (hV: ∀o,aT ob o→ ∀ad n c,φ.V o= .slice (some ad) n c→ ∀i v,w.cell? (ad.add i)=some v→w'.cell? (ad.add i)=some v)
 (hA: ∀ad v,w.cell? ad=some v→(∀k,ad.block=k→w'.heap[k]?=w.heap[k]?)→w'.cell? ad=some v) (hE: ∀ds cells v,dO ob w φ (.ep ds cells) v→dO ob w' φ (.ep ds cells) v) {e:TE} {v:Value} (hv: ∀t es,e≠ .v t es)
 (h:dO ob w φ e v):dO ob w' φ e v:=by
 cases e with
 |v t es=>exact absurd rfl (hv t es)
 |ep ds cells=>exact hE ds cells v h
 |er o path i f=>
  obtain⟨b,h1,h2,ad,n,c,h3,h4⟩:=h;refine⟨b,h1,h2,ad,n,c,h3,?_⟩
  cases path with
  |none=>exact h4
  |some q=>
   obtain⟨i0,f0⟩:=q;obtain⟨a1,z1,u6,a2,ad1,n1,c1,a3,a4⟩:=h4;exact⟨a1,z1,u6,a2,ad1,n1,c1,hV o ⟨b,h1⟩ ad n c h3 _ _ a3,a4⟩
 |_=>exact h
theorem Ai (st:TS):By id id id st=st:=by
 have h1: ∀(es:List vH),oy id es=es:=by
  intro es
  induction es with
  |nil=>rfl
  |cons c r ih=>cases c<;>simp[oy,ih]
 have h2: ∀e:TE,Di id id e=e:=by
  intro e;cases e<;>first|rfl|(simp only[Di,h1])
 have h3: ∀{α:Type} (f:α→α) (hf: ∀a,f a=a) (l:List (Nat×α)),mapA f l=l:=by
  intro α f hf l
  induction l with
  |nil=>rfl
  |cons a r ih=>obtain⟨j,x⟩:=a;simp only[mapA,hf,ih]
 unfold By;rw[h3 _ h2,h3 _ (fun l=>List.map_id l)]
 rfl
theorem Sep.MW {bx:List (Nat×List CE)} {ob:List (Nat×OB)} (h:Sep F A w0 w φ bx ob) (g:pV w w'):Sep F A w0 w' φ bx ob where
 arg:=h.arg
 nz:=h.nz
 apart:=h.apart
 read:=h.read
 fresh o k ho hk:=⟨mq (h.fresh o k ho hk).1 g.size,(h.fresh o k ho hk).2⟩
 ro k hk:=⟨mq (h.ro k hk).1 g.size,(h.ro k hk).2⟩
 qQ:=h.qQ
 box:=h.box
 spot b cs hb:=⟨(h.spot b cs hb).1,mq (h.spot b cs hb).2.1 g.size,(h.spot b cs hb).2.2⟩
 soft b cs j hb hw hj:=by
  rw[oz (w:=w) (g.block _ (by rw[dm];exact(h.spot b cs hb).2.1))];exact h.soft b cs j hb hw hj
theorem bD.MW (h:bD F A w0 φ st tm w) (g:pV w w'):bD F A w0 φ st tm w':=by
 have hI: ∀k,φ.I k→w'.heap[k]?=w.heap[k]?:=fun k hk=>g.block k (h.sep.ro k hk).1;have hS: ∀d k,d=0∨aT st.ob d→φ.S d k→w'.heap[k]?=w.heap[k]?:=fun d k hd hk=>g.block k (h.sep.lt h.frm.size hd hk)
 have hE: ∀ds cells v,dO st.ob w φ (.ep ds cells) v→dO st.ob w' φ (.ep ds cells) v:=by
  intro ds cells v ⟨h1,ad,h2,hr,h3⟩;refine⟨h1,ad,h2,hr,fun j tc hj=> ?_⟩;obtain⟨u,h4,h5⟩:=h3 j tc hj;exact⟨u,g.cell h4,h5.move (fun k hk=>⟨hk,g.block k (h.sep.ane h.frm.size h1 hk)⟩) (fun hm=>absurd rfl hm)⟩
 have:=h.Lu (f:=id) (g:=id) (k:=id) (φ':=φ) (w':=w') rfl rfl (fun e v he=>he.stay hI hS (fun o ho ad n c hv i v hc=>g.cell hc))
  (fun e v hv he=>dO.stay hI hS (fun o ho ad n c hv i v hc=>g.cell hc) (fun ad v hc _=>g.cell hc) hE hv he)
  (fun b cs hb j hj=>g.MX (by rw[dm];exact(h.sep.spot b cs hb).2.1))
  (fun o b hb=>(h.obj o b hb).move (fun k hk=>⟨hk,hI k hk⟩) (fun _ k hk=>hS o k (.inr ⟨b,hb⟩) hk))
  (by
    have h3:mapA (List.map (id:CE→CE)) st.bx=st.bx:=by
     have:=congrArg TS.bx (Ai st);exact this
    rw[h3]
    exact h.sep.MW g) (h.frm.MW g)
 rw[Ai] at this;exact this
end Go.T
namespace Go.T
variable {F : Nat → Prop} {A : Arg} {w0 w w' : World} {φ φ' : Fp} {st st' : TS} {tm Lo : Array Value}
theorem getD_set_ne (tm:Array Value) (d i:Nat) (v x:Value) (h:i≠d):(tm.setIfInBounds d v).getD i x=tm.getD i x:=by
 simp only[ze,ZH];rw[aF fun h'=>h h'.symm]
theorem Xv (tm:Array Value) (d:Nat) (v x:Value) (h:d<tm.size):(tm.setIfInBounds d v).getD d x=v:=by
 simp only[ze,ZH];simp[h]
theorem aaJ (st:TS) (d i:Nat) (e:TE):(st.set d e).get i=if i=d then e else st.get i:=by
 unfold TS.get TS.set;simp only[g6]
 by_cases h:i=d
 ·simp[h]
 ·simp[h]
theorem bD.Xw (h:bD F A w0 φ st tm w) {d:Nat} {e:TE} {v:Value} (hd:d<tm.size) (ht:dO st.ob w φ e v):bD F A w0 φ (st.set d e) (tm.setIfInBounds d v) w where
 tmp i:=by
  rw[aaJ]
  by_cases hi:i=d
  ·subst hi;rw[aJ rfl,Xv _ _ _ _ hd];exact ht
  ·rw[aF hi,getD_set_ne _ _ _ _ _ hi];exact h.tmp i
 box:=h.box
 obj:=h.obj
 sep:=h.sep
 frm:=h.frm
theorem bD.akK (h:bD F A w0 φ st tm w) {d:Nat} {e:TE} (ht:dO st.ob w φ e (tm.getD d undef)):bD F A w0 φ (st.set d e) tm w where
 tmp i:=by
  rw[aaJ]
  by_cases hi:i=d
  ·subst hi;rw[aJ rfl];exact ht
  ·rw[aF hi];exact h.tmp i
 box:=h.box
 obj:=h.obj
 sep:=h.sep
 frm:=h.frm
theorem Sep.sub {bx:List (Nat×List CE)} {ob Kf:List (Nat×OB)} (h:Sep F A w0 w φ bx ob) (hd: ∀o,aT Kf o→aT ob o):Sep F A w0 w φ bx Kf where
 arg:=h.arg
 nz o ho:=h.nz o (hd o ho)
 apart o o' k h1 h2:=h.apart o o' k (hd o h1) (hd o' h2)
 read o k ho:=h.read o k (hd o ho)
 fresh o k ho:=h.fresh o k (hd o ho)
 ro:=h.ro
 qQ:=h.qQ
 box b cs hb hw:=by
  obtain⟨a1,a2,a3,a4⟩:=h.box b cs hb hw;exact⟨a1,fun o ho=>a2 o (hd o ho),a3,a4⟩
 spot:=h.spot
 soft:=h.soft
theorem rK {o d:Nat} {ob:List (Nat×OB)}:aT (uP o ob) d↔d≠o∧aT ob d:=by
 unfold aT;rw[kX]
 by_cases h:d=o
 ·simp[h]
 ·simp[h]
theorem Aj {o d:Nat} {ob:List (Nat×OB)} (h:d≠o):az d (uP o ob)=az d ob:=by rw[kX,aF h]
theorem e9.kill {o:Nat} {ob:List (Nat×OB)} {e:CE} {v:Value} (h:e9 ob w φ e v):e9 (uP o ob) w φ (ZK o e) v:=by
 unfold ZK
 cases hd:pI o (iX e) with
 |true=>trivial
 |false=>
  have hd:=fZ.1 hd
  cases e with
  |ref p cut=>
   simp only[iX,qw] at hd;obtain⟨b,h1,h2⟩:=h;exact⟨b,by rw[Aj (Ne.symm hd)];exact h1,h2⟩
  |snap ds loc z rows=>
   simp only[iX] at hd;obtain⟨h1,h2,h3⟩:=h;refine⟨fun d hm=> ?_,h2,fun p i f hl=> ?_⟩
   ·rcases h1 d hm with h|h
    ·exact .inl h
    ·exact .inr (rK.2 ⟨fun e=>hd (e▸hm),h⟩)
   ·obtain⟨a1,b,a2,a3⟩:=h3 p i f hl
    have hp:p≠o:=fun e=>by subst e;exact hd a1
    exact⟨a1,b,by rw[Aj hp];exact a2,a3⟩
  |_=>exact h
theorem dO.kill {o:Nat} {ob:List (Nat×OB)} {e:TE} {v:Value} (hv: ∀t es,e≠ .v t es) (h:dO ob w φ e v):dO (uP o ob) w φ (afE o e) v:=by
 cases e with
 |v t es=>exact absurd rfl (hv t es)
 |ep ds cells=>
  simp only[afE]
  cases hd:pI o ds with
  |true=>trivial
  |false=>
   have hd:=fZ.1 hd;obtain⟨h1,h2⟩:=h;refine⟨fun d hm=> ?_,h2⟩;rcases h1 d hm with h|h
   ·exact .inl h
   ·exact .inr (rK.2 ⟨fun e=>hd (e▸hm),h⟩)
 |er p path i f=>
  simp only[afE]
  cases hd:Nat.beq p o with
  |true=>trivial
  |false=>
   have hd:=wJ hd;obtain⟨b,h1,h2⟩:=h;exact⟨b,by rw[Aj hd];exact h1,h2⟩
 |_=>exact h
theorem bD.qU (h:bD F A w0 φ st tm w) (o:Nat):bD F A w0 φ (qU o st) tm w:=by
 refine h.Lu (φ':=φ) rfl rfl (fun e v he=>he.kill) (fun e v hv he=>he.kill hv) (fun _ _ _ _ _=>rfl) (fun p b hb=> ?_) ?_ h.frm
 ·rw[kX] at hb
  split at hb
  ·cases hb
  ·exact h.obj p b hb
 ·exact(h.sep.boxes (jO _)).sub fun d hd=>(rK.1 hd).2
theorem nh {o d:Nat}:aT (T.qU o st).ob d↔d≠o∧aT st.ob d:=rK
theorem ZN {o d:Nat} (h:d≠o):az d (T.qU o st).ob=az d st.ob:=Aj h
def Fp.more (φ:Fp) (X:Nat→Prop):Fp:={φ with I:=fun k=>φ.I k∨X k}
theorem aaK {X:Nat→Prop} {ds:List Nat} {k:Nat} (h:rd φ ds k):rd (φ.more X) ds k:=h.imp .inl id
theorem aB.sW {R R' S:Nat→Prop} {m:Mode} {c:TC} {v:Value} (h:aB w R m S c v) (hR: ∀k,R k→R' k):aB w R' m S c v:=
 h.move (fun k hk=>⟨hR k hk,rfl⟩) fun _ _ _=>rfl
theorem e9.more {X:Nat→Prop} {ob:List (Nat×OB)} {e:CE} {v:Value} (h:e9 ob w φ e v):e9 ob w (φ.more X) e v:=by
 cases e with
 |snap ds loc z rows=>
  obtain⟨h1,h2,h3⟩:=h;exact⟨h1,h2.sW fun k hk=>aaK hk,h3⟩
 |_=>exact h
theorem dO.more {X:Nat→Prop} {ob:List (Nat×OB)} {e:TE} {v:Value} (hv: ∀t es,e≠ .v t es) (h:dO ob w φ e v):dO ob w (φ.more X) e v:=by
 cases e with
 |v t es=>exact absurd rfl (hv t es)
 |ep ds cells=>
  obtain⟨h1,ad,h2,hr,h3⟩:=h;refine⟨h1,ad,h2,fun hc=>aaK (hr hc),fun j tc hj=> ?_⟩;obtain⟨u,h4,h5⟩:=h3 j tc hj;exact⟨u,h4,h5.sW fun k hk=>aaK hk⟩
 |_=>exact h
theorem OQ (st:TS):mapA (List.map (id:CE→CE)) st.bx=st.bx:=congrArg TS.bx (Ai st)
theorem bD.more (h:bD F A w0 φ st tm w) {X:Nat→Prop} (hX: ∀k,X k→k<w.heap.size∧(w0.heap.size≤k∨F k∨A.sh k)) (hS: ∀k o,X k→aT st.ob o→ ¬φ.S o k)
 (hB: ∀b cs,az b st.bx=some cs→DJ b=true→ ¬X (φ.β b).block):bD F A w0 (φ.more X) st tm w:=by
 have:=h.Lu (f:=id) (g:=id) (k:=id) (φ':=φ.more X) (w':=w) rfl rfl (fun e v he=>he.more) (fun e v hv he=>he.more hv) (fun _ _ _ _ _=>rfl)
  (fun o b hb=>(h.obj o b hb).sW fun k hk=> .inl hk)
  (by
    rw[OQ]
    exact {
     arg:=h.sep.arg,nz:=h.sep.nz,apart:=h.sep.apart,fresh:=h.sep.fresh,qQ:=h.sep.qQ,spot:=h.sep.spot,soft:=h.sep.soft
     read:=fun o k ho hk hI=>hI.elim (h.sep.read o k ho hk) fun hx=>hS k o hx ho hk
     ro:=fun k hk=>hk.elim (h.sep.ro k) (hX k)
     box:=fun b cs hb hw=>by
      obtain⟨a1,a2,a3,a4⟩:=h.sep.box b cs hb hw
      exact⟨fun hI=>hI.elim a1 (hB b cs hb hw),a2,a3,a4⟩}) h.frm
 rw[Ai] at this;exact this
def Fp.add (φ:Fp) (o:Nat) (X:Nat→Prop) (v:Value):Fp:={φ with S:=fun d k=>if d=o then X k else φ.S d k,V:=fun d=>if d=o then v else φ.V d}
theorem aaL {o:Nat} {X:Nat→Prop} {v:Value} {ds:List Nat} (hd:o∉ds) {k:Nat} (h:rd φ ds k):rd (φ.add o X v) ds k:=by
 rcases h with h|⟨d,hm,h⟩
 ·exact .inl h
 ·refine .inr ⟨d,hm,?_⟩
  show(if d=o then X k else φ.S d k)
  have hp:d≠o:=fun e=>by subst e;exact hd hm
  rw[aF hp];exact h
theorem zk {o d:Nat} {X:Nat→Prop} {v:Value} (h:d≠o) {k:Nat}:(φ.add o X v).S d k=φ.S d k:=aF h
theorem ail {o d:Nat} {X:Nat→Prop} {v:Value} (h:d≠o):(φ.add o X v).V d=φ.V d:=aF h
theorem mu {o d:Nat} {b:OB} {ob:List (Nat×OB)}:aT (rW o b ob) d↔d=o∨aT ob d:=by
 unfold aT;rw[g6]
 by_cases h:d=o
 ·simp[h]
 ·simp[h]
theorem oA {o d:Nat} {b:OB} {ob:List (Nat×OB)} (h:d≠o):az d (rW o b ob)=az d ob:=by rw[g6,aF h]
theorem pJ {o:Nat} {b:OB} {ob:List (Nat×OB)}:az o (rW o b ob)=some b:=by rw[g6,aJ rfl]
theorem e9.add {o:Nat} {b:OB} {X:Nat→Prop} {V:Value} {ob:List (Nat×OB)} (h0:o≠0) (hn: ¬aT ob o) {e:CE} {v:Value} (h:e9 ob w φ e v):e9 (rW o b ob) w (φ.add o X V) e v:=by
 cases e with
 |ref p cut=>
  obtain⟨b',h1,h2⟩:=h;have hp:p≠o:=fun e=>hn ⟨b',e▸h1⟩;refine⟨b',by rw[oA hp];exact h1,?_⟩;rw[ail hp];exact h2
 |snap ds loc z rows=>
  obtain⟨h1,h2,h3⟩:=h;have hd:o∉ds:=fun hm=>(h1 o hm).elim h0 hn;refine⟨fun d hm=>(h1 d hm).imp id fun h=>mu.2 (.inr h),h2.sW fun k hk=>aaL hd hk,fun p i f hl=>⟨(h3 p i f hl).1,?_⟩⟩;obtain⟨a1,b',a2,a3,a4,ad,n,c,a5,a6⟩:=h3 p i f hl;have hp:p≠o:=fun e=>hn ⟨b',e▸a2⟩;exact⟨b',by rw[oA hp];exact a2,a3,a4,ad,n,c,by rw[ail hp];exact a5,a6⟩
 |_=>exact h
theorem dO.add {o:Nat} {b:OB} {X:Nat→Prop} {V:Value} {ob:List (Nat×OB)} (h0:o≠0) (hn: ¬aT ob o) {e:TE} {v:Value} (hv: ∀t es,e≠ .v t es) (h:dO ob w φ e v):
 dO (rW o b ob) w (φ.add o X V) e v:=by
 cases e with
 |v t es=>exact absurd rfl (hv t es)
 |ep ds cells=>
  obtain⟨h1,ad,h2,hr,h3⟩:=h;have hd:o∉ds:=fun hm=>(h1 o hm).elim h0 hn;refine⟨fun d hm=>(h1 d hm).imp id fun h=>mu.2 (.inr h),ad,h2,fun hc=>aaL hd (hr hc),fun j tc hj=> ?_⟩;obtain⟨u,h4,h5⟩:=h3 j tc hj;exact⟨u,h4,h5.sW fun k hk=>aaL hd hk⟩
 |er p path i f=>
  obtain⟨b',h1,h2,ad,n,c,h3,h4⟩:=h;have hp:p≠o:=fun e=>hn ⟨b',e▸h1⟩;exact⟨b',by rw[oA hp];exact h1,h2,ad,n,c,by rw[ail hp];exact h3,h4⟩
 |_=>exact h
theorem akL (st:TS) (o:Nat) (b:OB):st.am1 o b=By id id (rW o b) st:=by
 have h:=Ai st;unfold By at h ⊢;have h1:=congrArg TS.tm h;have h2:=congrArg TS.bx h;simp only at h1 h2;rw[h1,h2];rfl
theorem bD.add (h:bD F A w0 φ st tm w) {o:Nat} {b:OB} {X:Nat→Prop} {v:Value} (h0:o≠0) (hn: ¬aT st.ob o) (hc:aB w φ.I b.m X (.sub b.z b.rows) v)
 (hX: ∀k,X k→k<w.heap.size∧(w0.heap.size≤k∨F k)) (hI: ∀k,X k→ ¬φ.I k) (hS: ∀k d,X k→aT st.ob d→ ¬φ.S d k)
 (hB: ∀b cs,az b st.bx=some cs→DJ b=true→ ¬X (φ.β b).block):bD F A w0 (φ.add o X v) (st.am1 o b) tm w:=by
 rw[akL];refine h.Lu (φ':=φ.add o X v) (w':=w) rfl rfl (fun e u he=>he.add h0 hn) (fun e u hv he=>he.add h0 hn hv) (fun _ _ _ _ _=>rfl) (fun p b' hb=> ?_) ?_ h.frm
 ·unfold rX
  by_cases hp:p=o
  ·subst hp
   rw[pJ] at hb
   cases hb
   show aB w φ.I b.m (fun k=>if p=p then X k else φ.S p k) (.sub b.z b.rows) (if p=p then v else φ.V p);simp only[if_true];exact hc
  ·rw[oA hp] at hb
   have:=h.obj p b' hb;unfold rX at this;show aB w φ.I b'.m (fun k=>if p=o then X k else φ.S p k) (.sub b'.z b'.rows) (if p=o then v else φ.V p);simp only[aF hp];exact this
 ·rw[OQ]
  exact {
   arg:=by
    show(fun k=>if 0=o then X k else φ.S 0 k)=A.all;simp only[aF (Ne.symm h0)];exact h.sep.arg
   nz:=fun d hd=>(mu.1 hd).elim (fun e=>e▸h0) (h.sep.nz d)
   apart:=fun d d' k h1 h2 h3 h4=>by
    by_cases e1:d=o
    ·by_cases e2:d'=o
     ·rw[e1,e2]
     ·subst e1
      rw[zk e2] at h4
      have h3:X k:=by have h3':(if d=d then X k else φ.S d k):=h3;simpa using h3'
      exact absurd h4 (hS k d' h3 ((mu.1 h2).resolve_left e2))
    ·rw[zk e1] at h3
     by_cases e2:d'=o
     ·subst e2
      have h4:X k:=by have h4':(if d'=d' then X k else φ.S d' k):=h4;simpa using h4'
      exact absurd h3 (hS k d h4 ((mu.1 h1).resolve_left e1))
     ·rw[zk e2] at h4
      exact h.sep.apart d d' k ((mu.1 h1).resolve_left e1) ((mu.1 h2).resolve_left e2) h3 h4
   read:=fun d k hd hk=>by
    by_cases e1:d=o
    ·subst e1
     have hk:X k:=by have hk':(if d=d then X k else φ.S d k):=hk;simpa using hk'
     exact hI k hk
    ·rw[zk e1] at hk
     exact h.sep.read d k ((mu.1 hd).resolve_left e1) hk
   fresh:=fun d k hd hk=>by
    by_cases e1:d=o
    ·subst e1
     have hk:X k:=by have hk':(if d=d then X k else φ.S d k):=hk;simpa using hk'
     exact hX k hk
    ·rw[zk e1] at hk
     exact h.sep.fresh d k ((mu.1 hd).resolve_left e1) hk
   ro:=h.sep.ro
   qQ:=h.sep.qQ
   box:=fun b' cs hb hw=>by
    obtain⟨a1,a2,a3,a4⟩:=h.sep.box b' cs hb hw;refine⟨a1,fun d hd hk=> ?_,a3,a4⟩
    by_cases e1:d=o
    ·subst e1
     have hk:X (φ.β b').block:=by have hk':(if d=d then X (φ.β b').block else φ.S d (φ.β b').block):=hk;simpa using hk'
     exact hB b' cs hb hw hk
    ·rw[zk e1] at hk
     exact a2 d ((mu.1 hd).resolve_left e1) hk
   spot:=h.sep.spot
   soft:=h.sep.soft}
theorem bD.IQ (h:bD F A w0 φ st tm w) {o:Nat} {b:OB} {X:Nat→Prop} {v:Value} (h0:o≠0) (hc:aB w φ.I b.m X (.sub b.z b.rows) v)
 (hX: ∀k,X k→k<w.heap.size∧(w0.heap.size≤k∨F k)) (hI: ∀k,X k→ ¬φ.I k) (hS: ∀k d,X k→d≠o→aT st.ob d→ ¬φ.S d k)
 (hB: ∀b cs,az b st.bx=some cs→DJ b=true→ ¬X (φ.β b).block):bD F A w0 (φ.add o X v) (T.IQ o b st) tm w:=
 (h.qU o).add h0 (fun hd=>(nh.1 hd).1 rfl) hc hX hI (fun k d hx hd=>hS k d hx (nh.1 hd).1 (nh.1 hd).2)
   fun b cs hb hw=>by
    obtain⟨cs0,h1,_⟩:=jO _ b cs hb;exact hB b cs0 h1 hw
end Go.T
namespace Go.T
variable {F : Nat → Prop} {A : Arg} {w0 w w' : World} {φ φ' : Fp} {st st' : TS} {tm Lo : Array Value}
attribute [local semireducible] aE in
theorem E8 (rows:List (List TC)) (l h:Int):aE rows l h=(rows.take h.toNat).drop l.toNat:=rfl
theorem U4 {rows:List (List TC)} {l h:Int} (h2:h≤rows.length):(aE rows l h).length=h.toNat-l.toNat:=by
 rw[E8,jd,fu]
 have:h.toNat≤rows.length:=by omega
 omega
theorem aaM {rows:List (List TC)} {l h:Int} {i f:Nat} {tc:TC} (ht:BE (aE rows l h) i f=some tc):BE rows (i+l.toNat) f=some tc∧i+l.toNat<h.toNat:=by
 unfold BE at ht ⊢;rw[E8,uw,DL] at ht
 by_cases hi:l.toNat+i<h.toNat
 ·rw[aJ hi] at ht
  rw[Nat.add_comm];exact⟨ht,hi⟩
 ·rw[aF hi] at ht;cases ht
theorem I1 {a:Addr} (n:Nat) (h:a.spot=none):(a.add n).spot=none:=by unfold Addr.add;split<;>simp[h]
theorem zF {a:Addr} (n:Nat) (h:a.spot=none):a.add n=⟨a.block,a.off+n,none⟩:=by
 unfold Addr.add;split
 ·subst n;cases a;simp_all
 ·rfl
theorem aB.cut {R S:Nat→Prop} {m:Mode} {z:Nat} {rows:List (List TC)} {V v:Value} {l h:Int} (k:aB w R m S (.sub z rows) V) (hc:F3 z rows.length l h V v):
 aB w R m S (.sub z (aE rows l h)) v:=by
 cases k with
 |sub _ _ _ _ A c u T k hn=>
  obtain⟨h0,h1,h2,A1,A',c1,e1,rfl,e2,e3,e4⟩:=hc
  cases e1
  have hlen:=U4 (rows:=rows) (l:=l) h2
  have hle:h.toNat≤rows.length:=by omega
  rw[←hlen];have hcl:=k.len
  have hne: ∀i f tc,BE (aE rows l h) i f=some tc→c≠l.toNat:=fun i f tc ht=>by
   have:=(aaM ht).2;omega
  refine .sub _ _ _ _ A' (c-l.toNat) (fun i f=>u (i+l.toNat) f) (fun i f=>T (i+l.toNat) f) ?_ fun i f tc ht=>hn _ _ _ (aaM ht).1
  have hb: ∀ad',A'=some ad'→ ∃ad,A=some ad∧ad'.block=ad.block∧(ad.spot=none→ad'.spot=none):=fun ad' ha=>by
   cases hA:A with
   |none=>rw[e3 hA] at ha;cases ha
   |some ad=>
    obtain⟨ad2,b1,b2,b3⟩:=e4 ad hA;rw[b1] at ha;cases ha;exact⟨ad,rfl,b2,b3⟩
  have hnm:rows=[]→aE rows l h=[]:=fun e=>by rw[E8,e];simp
  refine⟨by omega,uO (Nat.sub_le _ _) k.cap,k.z0,fun r hr=>k.width r ?_,fun hr=> ?_,fun ad' ha i f tc ht=> ?_,fun hm ad' ha hr=> ?_,fun hm=>⟨fun ha=> ?_,fun ad' ha=> ?_⟩,fun hm h1z ad' ha i=> ?_,fun hm i f q hq=> ?_⟩
  ·rw[E8] at hr
   exact Bv (zg hr)
  ·obtain⟨ad,ha⟩:=k.addr fun e=>hr (hnm e)
   obtain⟨ad',b1,_⟩:=e4 ad ha;exact⟨ad',b1⟩
  ·obtain⟨ad,hA,_⟩:=hb ad' ha
   have:=e2 (hne i f tc ht);rw[hA] at this;simp only[pQ] at this;rw[this] at ha
   cases ha
   rw[Addr.add_add];have:=k.cell ad hA _ _ _ (aaM ht).1;rw[uN] at this;rw[show l.toNat*z+(i*z+f)=i*z+l.toNat*z+f by omega];exact this
  ·obtain⟨ad,hA,b1,_⟩:=hb ad' ha
   rw[b1];exact k.read hm ad hA fun e=>hr (hnm e)
  ·cases hA:A with
   |none=>rw[(k.own hm).1 hA];omega
   |some ad=>obtain⟨ad2,b1,_⟩:=e4 ad hA;rw[b1] at ha;cases ha
  ·obtain⟨ad,hA,b1,b2⟩:=hb ad' ha
   obtain⟨a1,a2,a3⟩:=(k.own hm).2 ad hA;refine⟨by rw[b1];exact a1,b2 a2,fun j hj=> ?_⟩
   have aq3:c≠l.toNat:=fun e=>by rw[e] at hj;simp at hj
   have:=e2 aq3;rw[hA] at this;simp only[pQ] at this;rw[this] at ha
   cases ha
   rw[zF _ a2];simp only;rw[ny];refine a3 _ ?_
   have:l.toNat*z+(c-l.toNat)*z≤c*z:=by
    rw[←uN];exact qx _ an
   omega
  ·obtain⟨ad,hA,b1,b2⟩:=hb ad' ha
   rw[b1];exact k.soft hm h1z ad hA i
  ·obtain⟨a1,a2,a3⟩:=k.sO hm _ _ _ hq
   refine⟨a1,fun ad' ha=> ?_,fun i' f' Xe=> ?_⟩
   ·obtain⟨ad,hA,b1,_⟩:=hb ad' ha
    rw[b1];exact a2 ad hA
   ·obtain⟨c1,c2⟩:=a3 _ _ Xe
    exact⟨by omega,c2⟩
theorem rX.cut {o:Nat} {b:OB} (h:rX w φ o b) {cut:Option (Int×Int)} {v:Value} (hc:match(generalizing:=false) cut with|none=>v=φ.V o|some (l,h)=>F3 b.z b.rows.length l h (φ.V o) v):
 aB w φ.I b.m (φ.S o) (.sub b.z (acg cut b.rows)) v:=by
 cases cut with
 |none=>simp only at hc;rw[hc];exact h
 |some q=>obtain⟨l,h1⟩:=q;exact aB.cut h hc
theorem agB {o:Nat} {l:Option (Nat×Int×Nat)} {p:Nat} {i:Int} {f:Nat} (h:am2 o l=some (p,i,f)):l=some (p,i,f)∧p≠o:=by
 unfold am2 at h
 cases l with
 |none=>cases h
 |some q=>
  obtain⟨a,b,c⟩:=q;simp only at h
  cases h1:Nat.beq a o with
  |true=>rw[h1] at h;cases h
  |false=>rw[h1] at h;cases h;exact⟨rfl,wJ h1⟩
theorem aev {o:Nat} {ds:List Nat} {k:Nat} (h:rd φ ds k):rd (φ.more (φ.S o)) (acf o ds) k:=by
 rcases h with h|⟨d,hd,h⟩
 ·exact .inl (.inl h)
 ·by_cases e:d=o
  ·subst e;exact .inl (.inr h)
  ·exact .inr ⟨d,DT.2 ⟨hd,e⟩,h⟩
theorem e9.freeze {o:Nat} {b:OB} {ob:List (Nat×OB)} (hb:az o ob=some b) (hO:rX w φ o b) {e:CE} {v:Value} (h:e9 ob w φ e v):e9 (uP o ob) w (φ.more (φ.S o)) (Uy o b e) v:=by
 cases e with
 |ref p cut=>
  obtain⟨b',h1,h2⟩:=h;simp only[Uy]
  cases hd:Nat.beq p o with
  |true=>
   have:=kD hd;subst this;rw[hb] at h1;cases h1;refine And.intro (fun d hm=>by cases hm) (And.intro ?_ (fun _ _ _ hl=>by cases hl));exact(hO.cut h2).freeze (fun k hk=> .inl (.inl hk)) fun _ k hk=> .inl (.inr hk)
  |false=>
   have:=wJ hd;exact⟨b',by rw[Aj this];exact h1,h2⟩
 |snap ds loc z rows=>
  obtain⟨h1,h2,h3⟩:=h;refine⟨fun d hm=> ?_,h2.sW fun k hk=>aev hk,fun p i f hl=> ?_⟩
  ·obtain⟨a1,a2⟩:=DT.1 hm
   exact(h1 d a1).imp id fun h=>rK.2 ⟨a2,h⟩
  ·obtain⟨a1,a2⟩:=agB hl
   obtain⟨a3,b',a4,a5⟩:=h3 p i f a1;exact⟨DT.2 ⟨a3,a2⟩,b',by rw[Aj a2];exact a4,a5⟩
 |_=>exact h
theorem dO.freeze {o:Nat} {ob:List (Nat×OB)} {e:TE} {v:Value} (hv: ∀t es,e≠ .v t es) (h:dO ob w φ e v):dO (uP o ob) w (φ.more (φ.S o)) (aaA o e) v:=by
 cases e with
 |v t es=>exact absurd rfl (hv t es)
 |ep ds cells=>
  obtain⟨h1,ad,h2,hr,h3⟩:=h;refine⟨fun d hm=> ?_,ad,h2,fun hc=>aev (hr hc),fun j tc hj=> ?_⟩
  ·obtain⟨a1,a2⟩:=DT.1 hm
   exact(h1 d a1).imp id fun h=>rK.2 ⟨a2,h⟩
  ·obtain⟨u,h4,h5⟩:=h3 j tc hj
   exact⟨u,h4,h5.sW fun k hk=>aev hk⟩
 |er p path i f=>
  simp only[aaA]
  cases hd:Nat.beq p o with
  |true=>trivial
  |false=>
   obtain⟨b,h1,h2⟩:=h;exact⟨b,by rw[Aj (wJ hd)];exact h1,h2⟩
 |_=>exact h
theorem bD.Bz (h:bD F A w0 φ st tm w) (o:Nat): ∃φ',bD F A w0 φ' (Bz st o) tm w∧φ'.β=φ.β∧φ'.V=φ.V∧φ'.S=φ.S∧ ∀k,φ'.I k↔φ.I k∨(aT st.ob o∧φ.S o k):=by
 unfold T.Bz
 cases hb:az o st.ob with
 |none=>exact⟨φ,h,rfl,rfl,rfl,fun k=>⟨.inl,fun hk=>hk.elim id fun⟨⟨b,hb'⟩,_⟩=>by rw[hb] at hb';cases hb'⟩⟩
 |some b=>
  refine⟨φ.more (φ.S o),h.Lu (φ':=φ.more (φ.S o)) (w':=w) rfl rfl (fun e v he=>he.freeze hb (h.obj o b hb)) (fun e v hv he=>he.freeze hv) (fun _ _ _ _ _=>rfl) (fun p b' hp=> ?_) ?_ h.frm,rfl,rfl,rfl,fun k=>⟨fun hk=>hk.imp id fun hk=>⟨⟨b,hb⟩,hk⟩,fun hk=>hk.imp id fun hk=>hk.2⟩⟩
  ·rw[kX] at hp
   split at hp
   ·cases hp
   ·exact(h.obj p b' hp).sW fun k hk=> .inl hk
  ·have hs:=(h.sep.boxes (jO (Uy o b))).sub (Kf:=uP o st.ob) fun d hd=>(rK.1 hd).2
   have hin:aT st.ob o:=⟨b,hb⟩
   exact {
    arg:=hs.arg,nz:=hs.nz,apart:=hs.apart,fresh:=hs.fresh,qQ:=hs.qQ,spot:=hs.spot,soft:=hs.soft
    read:=fun p k hp hk hI=>by
     obtain⟨a1,a2⟩:=rK.1 hp;rcases hI with hI|hI
     ·exact h.sep.read p k a2 hk hI
     ·exact a1 (h.sep.apart p o k a2 hin hk hI)
    ro:=fun k hk=>hk.elim (h.sep.ro k) fun hk=>⟨(h.sep.fresh o k hin hk).1,(h.sep.fresh o k hin hk).2.imp id .inl⟩
    box:=fun b' cs hb' hw=>by
     obtain⟨a1,a2,a3,a4⟩:=hs.box b' cs hb' hw;obtain⟨cs0,c1,_⟩:=jO _ b' cs hb'
     exact⟨fun hI=>hI.elim a1 ((h.sep.box b' cs0 c1 hw).2.1 o hin),a2,a3,a4⟩}
theorem bD.yI (h:bD F A w0 φ st tm w) {o:Nat} {b b':OB} {X:Nat→Prop} (hb:az o st.ob=some b) (hz:b'.z=b.z) (hl:b'.rows.length=b.rows.length)
 (hc:aB w' φ.I b'.m X (.sub b'.z b'.rows) (φ.V o)) (hf:MV F w0 w') (hsz:w.heap.size≤w'.heap.size) (hw: ∀k,k<w.heap.size→ ¬φ.S o k→w'.heap[k]?=w.heap[k]?)
 (hX: ∀k,X k→k<w'.heap.size∧(w0.heap.size≤k∨F k)) (hI: ∀k,X k→ ¬φ.I k) (hS: ∀k d,X k→d≠o→aT st.ob d→ ¬φ.S d k)
 (hB: ∀b cs,az b st.bx=some cs→DJ b=true→ ¬X (φ.β b).block):bD F A w0 (φ.add o X (φ.V o)) (yI o b' st) tm w':=by
 have hin:aT st.ob o:=⟨b,hb⟩;have h0:o≠0:=h.sep.nz o hin
 have hV:(φ.add o X (φ.V o)).V=φ.V:=by
  funext d
  show(if d=o then φ.V o else φ.V d)=φ.V d
  split
  ·subst_vars;rfl
  ·rfl
 have uv: ∀d,aT (rW o b' st.ob) d↔aT st.ob d:=fun d=>by
  rw[mu];exact⟨fun h=>h.elim (fun e=>e▸hin) id,.inr⟩
 have stI: ∀k,φ.I k→w'.heap[k]?=w.heap[k]?:=fun k hk=>hw k (h.sep.ro k hk).1 fun hs=>h.sep.read o k hin hs hk
 have stS: ∀d k,d≠o→d=0∨aT st.ob d→φ.S d k→w'.heap[k]?=w.heap[k]?:=fun d k hne hd hk=>hw k (h.sep.lt h.frm.size hd hk) fun hs=>by
  rcases hd with rfl|hd
  ·rw[h.sep.arg] at hk
   have:=h.sep.qQ k hk;rcases (h.sep.fresh o k hin hs).2 with h3|h3
   ·omega
   ·exact this.2 h3
  ·exact hne (h.sep.apart d o k hd hin hk hs)
 have stR: ∀ds k,o∉ds→(∀d∈ds,d=0∨aT st.ob d)→rd φ ds k→rd (φ.add o X (φ.V o)) ds k∧w'.heap[k]?=w.heap[k]?:=fun ds k hn hd hk=>by
  refine⟨aaL hn hk,?_⟩;rcases hk with hk|⟨d,hm,hk⟩
  ·exact stI k hk
  ·exact stS d k (fun e=>by subst e;exact hn hm) (hd d hm) hk
 have stV: ∀p b1 ad n c i f tc u,p≠o→az p st.ob=some b1→φ.V p= .slice (some ad) n c→BE b1.rows i f=some tc→w.cell? (ad.add (i*b1.z+f))=some u→w'.cell? (ad.add (i*b1.z+f))=some u:=by
  intro p b1 ad n c i f tc u hne hp hv ht hcell;have hO:=h.obj p b1 hp;unfold rX at hO;rw[hv] at hO
  have hS:φ.S p ad.block:=by
   cases hO with
   |sub _ _ _ _ _ _ u T k hn=>exact(k.own (by unfold OB.m;split<;>simp)).2 ad rfl|>.1
  rw[iy (w:=w)]
  ·exact hcell
  ·rw[dm];exact stS p _ hne (.inr ⟨b1,hp⟩) hS
 have cbox: ∀p cs,az p st.bx=some cs→w'.heap[(φ.β p).block]?=w.heap[(φ.β p).block]?:=fun p cs hp=>by
  obtain⟨a1,a2,a3⟩:=h.sep.spot p cs hp;refine hw _ a2 fun hs=> ?_
  cases KQ:DJ p with
  |true=>exact(h.sep.box p cs hp KQ).2.1 o hin hs
  |false=>
   have:=h.sep.qQ _ (a3 KQ);rcases (h.sep.fresh o _ hin hs).2 with h3|h3
   ·omega
   ·exact this.2 h3
 refine h.Lu (φ':=φ.add o X (φ.V o)) rfl rfl (fun e v he=> ?_) (fun e v hv he=> ?_) (fun p cs hp j hj=> ?_) (fun p b1 hp=> ?_) ?_ hf
 ·cases e with
  |ref p cut=>
   obtain⟨b1,h1,h2⟩:=he
   by_cases hp:p=o
   ·subst hp
    rw[hb] at h1;cases h1;refine⟨b',pJ,?_⟩;rw[hV]
    cases cut with
    |none=>exact h2
    |some q=>obtain⟨l,r⟩:=q;simp only at h2 ⊢;rw[hz,hl];exact h2
   ·exact⟨b1,by rw[oA hp];exact h1,by rw[hV];exact h2⟩
  |snap ds loc z rows=>
   simp only[aen]
   cases hd:pI o ds with
   |true=>trivial
   |false=>
    have hd:=fZ.1 hd;obtain⟨h1,h2,h3⟩:=he;refine⟨fun d hm=>(h1 d hm).imp id (uv d).2,h2.move (fun k hk=>stR ds k hd h1 hk) (fun hm=>absurd rfl hm),fun p i f hl=> ?_⟩;obtain⟨a1,b1,a2,a3,a4,ad,n,c,a5,a6⟩:=h3 p i f hl
    have hp:p≠o:=fun e=>by subst e;exact hd a1
    refine⟨a1,b1,by rw[oA hp];exact a2,a3,a4,ad,n,c,by rw[hV];exact a5,stV p b1 ad n c _ _ _ _ hp a2 a5 a4 a6⟩
  |_=>exact he
 ·cases e with
  |v t es=>exact absurd rfl (hv t es)
  |ep ds cells=>
   simp only[aaz]
   cases hd:pI o ds with
   |true=>trivial
   |false=>
    have hd:=fZ.1 hd;obtain⟨h1,ad,h2,hr,h3⟩:=he;refine⟨fun d hm=>(h1 d hm).imp id (uv d).2,ad,h2,fun hc=>(stR ds _ hd h1 (hr hc)).1,fun j tc hj=> ?_⟩;obtain⟨u,h4,h5⟩:=h3 j tc hj
    have hc:cells≠[]:=fun e=>by rw[e] at hj;simp at hj
    exact⟨u,by rw[iy (w:=w) (by rw[dm];exact(stR ds _ hd h1 (hr hc)).2)];exact h4,h5.move (fun k hk=>stR ds k hd h1 hk) (fun hm=>absurd rfl hm)⟩
  |er p path i f=>
   obtain⟨b1,h1,h2,ad,n,c,h3,h4⟩:=he
   cases path with
   |none=>
    simp only[aaz]
    by_cases hp:p=o
    ·subst hp
     rw[hb] at h1;cases h1;exact⟨b',pJ,h2,ad,n,c,by rw[hV];exact h3,by rw[hz];exact h4⟩
    ·exact⟨b1,by rw[oA hp];exact h1,h2,ad,n,c,by rw[hV];exact h3,h4⟩
   |some q=>
    obtain⟨i0,f0⟩:=q;simp only[aaz]
    cases hd:Nat.beq p o with
    |true=>trivial
    |false=>
     have hp:=wJ hd;obtain⟨a1,z1,u6,a2,ad1,n1,c1,a3,a4⟩:=h4;exact⟨b1,by rw[oA hp];exact h1,h2,ad,n,c,by rw[hV];exact h3,a1,z1,u6,a2,ad1,n1,c1,stV p b1 ad n c _ _ _ _ hp h1 h3 a2 a3,a4⟩
  |_=>exact he
 ·exact iy (by rw[dm];exact cbox p cs hp)
 ·unfold rX
  by_cases hp':p=o
  ·subst hp'
   rw[pJ] at hp;cases hp;rw[hV];show aB w' φ.I b'.m (fun k=>if p=p then X k else φ.S p k) (.sub b'.z b'.rows) (φ.V p);simp only[if_true];exact hc
  ·rw[oA hp'] at hp
   rw[hV];show aB w' φ.I b1.m (fun k=>if p=o then X k else φ.S p k) (.sub b1.z b1.rows) (φ.V p);simp only[aF hp'];exact(h.obj p b1 hp).move (fun k hk=>⟨hk,stI k hk⟩) fun _ k hk=>stS p k hp' (.inr ⟨b1,hp⟩) hk
 ·have hs:=h.sep.boxes (jO (aen o))
  have self: ∀k,(φ.add o X (φ.V o)).S o k→X k:=fun k hk=>by
   have hk':(if o=o then X k else φ.S o k):=hk;simpa using hk'
  exact {
   arg:=by
    show(fun k=>if 0=o then X k else φ.S 0 k)=A.all;simp only[aF (Ne.symm h0)];exact h.sep.arg
   nz:=fun d hd=>h.sep.nz d ((uv d).1 hd)
   apart:=fun d d' k h1 h2 h3 h4=>by
    have i1:=(uv d).1 h1;have i2:=(uv d').1 h2
    by_cases e1:d=o
    ·subst e1
     by_cases e2:d'=d
     ·exact e2.symm
     ·rw[zk e2] at h4;exact absurd h4 (hS k d' (self k h3) e2 i2)
    ·rw[zk e1] at h3
     by_cases e2:d'=o
     ·subst e2;exact absurd h3 (hS k d (self k h4) e1 i1)
     ·rw[zk e2] at h4;exact h.sep.apart d d' k i1 i2 h3 h4
   read:=fun d k hd hk=>by
    have hd:=(uv d).1 hd
    by_cases e1:d=o
    ·subst e1;exact hI k (self k hk)
    ·rw[zk e1] at hk;exact h.sep.read d k hd hk
   fresh:=fun d k hd hk=>by
    have hd:=(uv d).1 hd
    by_cases e1:d=o
    ·subst e1;exact hX k (self k hk)
    ·rw[zk e1] at hk
     exact⟨mq (h.sep.fresh d k hd hk).1 hsz,(h.sep.fresh d k hd hk).2⟩
   ro:=fun k hk=>⟨mq (h.sep.ro k hk).1 hsz,(h.sep.ro k hk).2⟩
   qQ:=h.sep.qQ
   box:=fun p cs hp KQ=>by
    obtain⟨cs0,c1,_⟩:=jO _ p cs hp;obtain⟨a1,a2,a3,a4⟩:=hs.box p cs hp KQ;refine⟨a1,fun d hd hk=> ?_,a3,a4⟩;have hd:=(uv d).1 hd
    by_cases e1:d=o
    ·subst e1;exact hB p cs0 c1 KQ (self _ hk)
    ·rw[zk e1] at hk;exact a2 d hd hk
   spot:=fun p cs hp=>⟨(hs.spot p cs hp).1,mq (hs.spot p cs hp).2.1 hsz,(hs.spot p cs hp).2.2⟩
   soft:=fun p cs j hp KQ hj=>by
    obtain⟨cs0,c1,c2⟩:=jO _ p cs hp;rw[oz (w:=w) (by rw[dm];exact cbox p cs0 c1)]
    exact h.sep.soft p cs0 j c1 KQ an}
end Go.T
namespace Go.T
variable {F : Nat → Prop} {A : Arg} {w0 w w' : World} {φ φ' : Fp} {st st' : TS} {tm Lo : Array Value}
theorem bD.less (h:bD F A w0 φ st tm w) (ht: ∀i,st'.get i= .dead∨st'.get i=st.get i) (hb: ∀b cs,az b st'.bx=some cs→az b st.bx=some cs) (ho:st'.ob=st.ob):bD F A w0 φ st' tm w where
 tmp i:=by
  rw[ho];rcases ht i with h1|h1
  ·rw[h1];trivial
  ·rw[h1];exact h.tmp i
 box b cs h1:=by rw[ho];exact h.box b cs (hb b cs h1)
 obj:=by rw[ho];exact h.obj
 sep:=by rw[ho];exact h.sep.boxes fun b cs h1=>⟨cs,hb b cs h1,rfl⟩
 frm:=h.frm
theorem acq (st:TS) (l:List Nat) (bx:List (Nat×List CE)) (ob:List (Nat×OB)) (i:Nat):(⟨F2 l st.tm,bx,ob⟩:TS).get i= .dead∨(⟨F2 l st.tm,bx,ob⟩:TS).get i=st.get i:=by
 unfold TS.get;simp only[U3]
 by_cases h:i∈l
 ·right;rw[aJ h]
 ·left;rw[aF h]
theorem bD.keep (h:bD F A w0 φ st tm w) (l:List Nat):bD F A w0 φ ⟨F2 l st.tm,st.bx,st.ob⟩ tm w:=
 h.less (acq st l st.bx st.ob) (fun _ _ h=>h) rfl
theorem U5 (l:List Nat) (j:Nat): ∀(m:List (Nat×List CE)) (cs:List CE),az j (BD l m)=some cs→az j m=some cs
 |[],cs,h=>by simp[BD,az] at h
 |(a,x)::r,cs,h=>by
  have ih:=U5 l j r cs
  have key:az j ((a,x)::BD l r)=some cs→az j ((a,x)::r)=some cs:=fun h=>by
   simp only[az] at h ⊢
   cases h1:Nat.beq a j with
   |true=>rw[h1] at h;exact h
   |false=>rw[h1] at h;exact ih h
  have skip:(100000≤a→False)→a∉l→az j (BD l r)=some cs→az j ((a,x)::r)=some cs:=fun h1 h2 h=>by
   simp only[az]
   cases h3:Nat.beq a j with
   |false=>exact ih h
   |true=>
    exfalso
    have h3:=kD h3;subst h3
    have: ∀(m:List (Nat×List CE)),az a (BD l m)=none:=by
     intro m
     induction m with
     |nil=>rfl
     |cons p r ih=>
      obtain⟨c,y⟩:=p;simp only[BD]
      have hk: ∀(hc:c≠a),az a ((c,y)::BD l r)=none:=fun hc=>by
       simp only[az,beq_false hc];exact ih
      split
      ·rename_i h4
       exact hk fun e=>h1 (by subst e;exact wI h4)
      ·split
       ·rename_i h5
        exact hk fun e=>h2 (by subst e;exact nD.1 h5)
       ·exact ih
    rw[this] at h;cases h
  simp only[BD] at h
  split at h
  ·exact key h
  ·rename_i h4
   split at h
   ·exact key h
   ·rename_i h5
    exact skip (fun h6=>by rw[UT h6] at h4;cases h4) (fZ.1 h5) h
theorem bD.apc (h:bD F A w0 φ st tm w) (l:List Nat):bD F A w0 φ ⟨F2 l st.tm,BD l st.bx,st.ob⟩ tm w:=
 h.less (acq st l (BD l st.bx) st.ob) (fun b cs hb=>U5 l b st.bx cs hb) rfl
theorem agC {b:Nat} {ob:List (Nat×OB)} {β:Nat→Addr} (hβ: ∀c,c≠b→β c=φ.β c) {e:TE} {v:Value} (hn:UY b e=false) (h:dO ob w φ e v):dO ob w {φ with β:=β} e v:=by
 have amG: ∀(c:vH) (u:Value),amt b c=false→qa ob w φ c u→qa ob w {φ with β:=β} c u:=by
  intro c u hc h
  cases c with
  |ptr c=>
   simp only[qa] at h ⊢;rw[hβ c (wJ hc)];exact h
  |mk a cs=>cases a<;>exact h
 cases e with
 |v t es=>
  simp only[UY,List.any_eq_false] at hn
  cases t with
  |true=>
   obtain⟨vs,h1,h2,h3⟩:=h;refine⟨vs,h1,h2,fun k c hk=> ?_⟩;obtain⟨u,h4,h5⟩:=h3 k c hk;exact⟨u,h4,amG c u (by simpa using hn c (iV hk)) h5⟩
  |false=>
   obtain⟨c,rfl,h3⟩:=h;exact⟨c,rfl,amG c v (by simpa using hn c dh) h3⟩
 |bp c off=>
  simp only[dO] at h ⊢;rw[hβ c (wJ hn)];exact h
 |fn f caps=>
  simp only[dO] at h ⊢;rw[h];have hn:=fZ.1 hn
  congr 2
  refine List.map_congr_left fun c hc=> ?_;rw[hβ c fun e=>by subst e;exact hn hc]
 |_=>exact h
theorem ZO (b:Nat) (st:TS) (i:Nat):(ZL b st).get i=if UY b (st.get i)=true then .dead else st.get i:=by
 unfold TS.get ZL;simp only[xG]
 cases az i st.tm with
 |none=>simp
 |some e=>
  simp only[pQ]
  cases UY b e<;>simp
theorem bD.ZL (h:bD F A w0 φ st tm w) (b:Nat):bD F A w0 φ (ZL b st) tm w:=by
 refine h.less (fun i=> ?_) (fun c cs hc=> ?_) rfl
 ·rw[ZO];split<;>simp
 ·have:az c (uP b st.bx)=some cs:=hc
  rw[kX] at this
  split at this
  ·cases this
  ·exact this
def Fp.box (φ:Fp) (b:Nat) (ad:Addr):Fp:={φ with β:=fun c=>if c=b then ad else φ.β c}
theorem Ak {b:Nat} {ad:Addr}:(φ.box b ad).β b=ad:=aJ rfl
theorem rY {b c:Nat} {ad:Addr} (h:c≠b):(φ.box b ad).β c=φ.β c:=aF h
theorem bD.OI (h:bD F A w0 φ st tm w) {b:Nat} {cs:List CE} {ad:Addr} (hw:DJ b=true) (hs:ad.spot=none) (hlt:ad.block<w.heap.size) (hS: ∀o,aT st.ob o→ ¬φ.S o ad.block)
 (hI: ¬φ.I ad.block) (hF:w0.heap.size≤ad.block∨F ad.block) (hB: ∀b' cs',az b' st.bx=some cs'→b'≠b→(φ.β b').block≠ad.block)
 (hc: ∀(j:Nat) (e:CE),cs[j]?=some e→ ∃v,w.cell? (ad.add j)=some v∧v.cells= #[v]∧e9 st.ob w φ e v) (hf: ∀j,j<cs.length→w.frozen? (ad.add j)=false):bD F A w0 (φ.box b ad) (OI b cs st) tm w:=by
 have Bm: ∀c,az c (T.OI b cs st).bx=if c=b then some cs else az c st.bx:=fun c=>by
  show az c (rW b cs (uP b st.bx))=_;rw[g6,kX]
  by_cases hc:c=b<;>simp[hc]
 refine⟨fun i=> ?_,fun c cs' Bp j e he=> ?_,h.obj,?_,h.frm⟩
 ·show dO st.ob w (φ.box b ad) ((T.ZL b st).get i) (tm.getD i undef)
  rw[ZO]
  split
  ·trivial
  ·rename_i hn
   exact agC (fun c hc=>rY hc) (by simpa using hn) (h.tmp i)
 ·rw[Bm] at Bp
  by_cases hcb:c=b
  ·subst hcb
   rw[aJ rfl] at Bp;cases Bp;rw[Ak];exact hc j e he
  ·rw[aF hcb] at Bp
   rw[rY hcb];exact h.box c cs' Bp j e he
 ·exact {
   arg:=h.sep.arg,nz:=h.sep.nz,apart:=h.sep.apart,read:=h.sep.read,fresh:=h.sep.fresh,ro:=h.sep.ro,qQ:=h.sep.qQ
   box:=fun c cs' Bp hwc=>by
    rw[Bm] at Bp
    by_cases hcb:c=b
    ·subst hcb
     rw[Ak];refine⟨hI,hS,hF,fun b' abZ hb' hne=> ?_⟩;rw[Bm,aF hne] at hb';rw[rY hne];exact hB b' abZ hb' hne
    ·rw[aF hcb] at Bp
     rw[rY hcb];obtain⟨a1,a2,a3,a4⟩:=h.sep.box c cs' Bp hwc;refine⟨a1,a2,a3,fun b' abZ hb' hne=> ?_⟩;rw[Bm] at hb'
     by_cases hb2:b'=b
     ·subst hb2
      rw[Ak];exact fun e=>hB c cs' Bp hcb e.symm
     ·rw[aF hb2] at hb'
      rw[rY hb2];exact a4 b' abZ hb' hne
   spot:=fun c cs' Bp=>by
    rw[Bm] at Bp
    by_cases hcb:c=b
    ·subst hcb
     rw[Ak];exact⟨fun _=>hs,hlt,fun e=>by rw[hw] at e;cases e⟩
    ·rw[aF hcb] at Bp
     rw[rY hcb];exact h.sep.spot c cs' Bp
   soft:=fun c cs' j Bp hwc hj=>by
    rw[Bm] at Bp
    by_cases hcb:c=b
    ·subst hcb
     rw[aJ rfl] at Bp;cases Bp;rw[Ak];exact hf j hj
    ·rw[aF hcb] at Bp
     rw[rY hcb];exact h.sep.soft c cs' j Bp hwc hj}
theorem bD.OH (h:bD F A w0 φ st tm w) {b:Nat} {cs old:List CE} (hb:az b st.bx=some old) (KQ:DJ b=true) (hl:cs.length=old.length) (hf:MV F w0 w') (hsz:w.heap.size≤w'.heap.size)
 (hw: ∀k,k<w.heap.size→k≠(φ.β b).block→w'.heap[k]?=w.heap[k]?) (hfz: ∀j,j<cs.length→w'.frozen? ((φ.β b).add j)=false)
 (hc: ∀(j:Nat) (e:CE),cs[j]?=some e→ ∃v,w'.cell? ((φ.β b).add j)=some v∧v.cells= #[v]∧e9 st.ob w φ e v):bD F A w0 φ (st.OH b cs) tm w':=by
 obtain⟨b1,b2,b3,b4⟩:=h.sep.box b old hb KQ;have stI: ∀k,φ.I k→w'.heap[k]?=w.heap[k]?:=fun k hk=>hw k (h.sep.ro k hk).1 fun e=>b1 (e▸hk)
 have nA: ∀k,A.all k→k≠(φ.β b).block:=fun k hk e=>by
  subst e;have:=h.sep.qQ _ hk;rcases b3 with b3|b3
  ·omega
  ·exact this.2 b3
 have stS: ∀d k,d=0∨aT st.ob d→φ.S d k→w'.heap[k]?=w.heap[k]?:=fun d k hd hk=>hw k (h.sep.lt h.frm.size hd hk) fun e=>by
  subst e;rcases hd with rfl|hd
  ·rw[h.sep.arg] at hk;exact nA _ hk rfl
  ·exact b2 d hd hk
 have own: ∀o ad n c,aT st.ob o→φ.V o= .slice (some ad) n c→φ.S o ad.block:=fun o ad n c ⟨bo,ho⟩ hv=>by
  have hO:=h.obj o bo ho;unfold rX at hO;rw[hv] at hO
  cases hO with
  |sub _ _ _ _ _ _ u T k hn=>exact(k.own (by unfold OB.m;split<;>simp)).2 ad rfl|>.1
 have hV: ∀o,aT st.ob o→ ∀ad n c,φ.V o= .slice (some ad) n c→ ∀i v,w.cell? (ad.add i)=some v→w'.cell? (ad.add i)=some v:=fun o ho ad n c hv i v hcell=>by
  rw[iy (w:=w)]
  ·exact hcell
  ·rw[dm];exact stS o _ (.inr ho) (own o ad n c ho hv)
 have hCE: ∀e v,e9 st.ob w φ e v→e9 st.ob w' φ e v:=fun e v he=>he.stay stI stS hV
 have hE: ∀ds cells v,dO st.ob w φ (.ep ds cells) v→dO st.ob w' φ (.ep ds cells) v:=by
  intro ds cells v ⟨h1,ad,h2,hr,h3⟩;refine⟨h1,ad,h2,hr,fun j tc hj=> ?_⟩;obtain⟨u,h4,h5⟩:=h3 j tc hj
  have hcn:cells≠[]:=fun e=>by rw[e] at hj;simp at hj
  have stR: ∀k,rd φ ds k→w'.heap[k]?=w.heap[k]?:=fun k hk=>by
   rcases hk with hk|⟨d,hm,hk⟩
   ·exact stI k hk
   ·exact stS d k (h1 d hm) hk
  exact⟨u,by rw[iy (w:=w) (by rw[dm];exact stR _ (hr hcn))];exact h4,h5.move (fun k hk=>⟨hk,stR k hk⟩) (fun hm=>absurd rfl hm)⟩
 have hT: ∀e v,dO st.ob w φ e v→dO st.ob w' φ e v:=fun e v he=>by
  have:=dO.Lu (f:=id) (g:=id) rfl hCE (fun e v hv he=>dO.stay stI stS hV (fun ad v hc hk=>by rw[iy (w:=w) (hk _ rfl)];exact hc) hE hv he) he
  have hid:Di id id e=e:=by
   have h1:=congrArg TS.tm (Ai ⟨[(0,e)],[],[]⟩);simpa [By,mapA] using h1
  rw[hid] at this;exact this
 have Bm: ∀c,az c (st.OH b cs).bx=if c=b then some cs else az c st.bx:=fun c=>g6 _ _ _ _
 have obox: ∀c cs',az c st.bx=some cs'→c≠b→w'.heap[(φ.β c).block]?=w.heap[(φ.β c).block]?:=fun c cs' Bp hne=>hw _ (h.sep.spot c cs' Bp).2.1 (b4 c cs' Bp hne);refine⟨fun i=>hT _ _ (h.tmp i),fun c cs' Bp j e he=> ?_,fun o bo ho=> ?_,?_,hf⟩
 ·rw[Bm] at Bp
  by_cases hcb:c=b
  ·subst hcb
   rw[aJ rfl] at Bp;cases Bp;obtain⟨v,h1,h3,h2⟩:=hc j e he;exact⟨v,h1,h3,hCE _ _ h2⟩
  ·rw[aF hcb] at Bp
   obtain⟨v,h1,h3,h2⟩:=h.box c cs' Bp j e he;exact⟨v,by rw[iy (w:=w) (by rw[dm];exact obox c cs' Bp hcb)];exact h1,h3,hCE _ _ h2⟩
 ·exact(h.obj o bo ho).move (fun k hk=>⟨hk,stI k hk⟩) fun _ k hk=>stS o k (.inr ⟨bo,ho⟩) hk
 ·have len: ∀c cs',az c (st.OH b cs).bx=some cs'→ ∃cs0,az c st.bx=some cs0∧cs'.length=cs0.length:=fun c cs' Bp=>by
   rw[Bm] at Bp
   by_cases hcb:c=b
   ·subst hcb
    rw[aJ rfl] at Bp;cases Bp;exact⟨old,hb,hl⟩
   ·rw[aF hcb] at Bp;exact⟨cs',Bp,rfl⟩
  have hs:=h.sep.boxes len
  exact {
   arg:=hs.arg,nz:=hs.nz,apart:=hs.apart,read:=hs.read,qQ:=hs.qQ,box:=hs.box
   fresh:=fun o k ho hk=>⟨mq (hs.fresh o k ho hk).1 hsz,(hs.fresh o k ho hk).2⟩
   ro:=fun k hk=>⟨mq (hs.ro k hk).1 hsz,(hs.ro k hk).2⟩
   spot:=fun c cs' Bp=>⟨(hs.spot c cs' Bp).1,mq (hs.spot c cs' Bp).2.1 hsz,(hs.spot c cs' Bp).2.2⟩
   soft:=fun c cs' j Bp hwc hj=>by
    obtain⟨cs0,c1,c2⟩:=len c cs' Bp
    by_cases hcb:c=b
    ·subst hcb
     rw[Bm,aJ rfl] at Bp;cases Bp;exact hfz j hj
    ·rw[oz (w:=w) (by rw[dm];exact obox c cs0 c1 hcb)]
     exact h.sep.soft c cs0 j c1 hwc an}
end Go.T
namespace Go.T
variable {F : Nat → Prop} {A : Arg} {w0 w w' : World} {φ φ' : Fp} {st st' : TS} {tm Lo : Array Value}
structure Ext (ob Kf:List (Nat×OB)) (φ φ':Fp):Prop where
 look: ∀d b,az d ob=some b→az d Kf=some b
 I:φ'.I=φ.I
 β:φ'.β=φ.β
 S: ∀d,d=0∨aT ob d→φ'.S d=φ.S d
 V: ∀d,aT ob d→φ'.V d=φ.V d
section
variable {ob Kf : List (Nat × OB)}
theorem Ext.dom (x:Ext ob Kf φ φ') {d:Nat} (h:aT ob d):aT Kf d:=let ⟨b,h⟩:=h;⟨b,x.look d b h⟩
theorem Ext.rd (x:Ext ob Kf φ φ') {ds:List Nat} (hd: ∀d∈ds,d=0∨aT ob d) {k:Nat} (h:T.rd φ ds k):T.rd φ' ds k:=by
 rcases h with h|⟨d,hm,h⟩
 ·exact .inl (by rw[x.I];exact h)
 ·exact .inr ⟨d,hm,by rw[x.S d (hd d hm)];exact h⟩
theorem e9.ext (x:Ext ob Kf φ φ') {e:CE} {v:Value} (h:e9 ob w φ e v):e9 Kf w φ' e v:=by
 cases e with
 |ref o cut=>
  obtain⟨b,h1,h2⟩:=h;exact⟨b,x.look o b h1,by rw[x.V o ⟨b,h1⟩];exact h2⟩
 |snap ds loc z rows=>
  obtain⟨h1,h2,h3⟩:=h;refine⟨fun d hm=>(h1 d hm).imp id x.dom,h2.sW fun k hk=>x.rd h1 hk,fun o i f hl=> ?_⟩;obtain⟨a1,b,a2,a3,a4,ad,n,c,a5,a6⟩:=h3 o i f hl;exact⟨a1,b,x.look o b a2,a3,a4,ad,n,c,by rw[x.V o ⟨b,a2⟩];exact a5,a6⟩
 |_=>exact h
theorem qa.ext (x:Ext ob Kf φ φ') {c:vH} {v:Value} (h:qa ob w φ c v):qa Kf w φ' c v:=by
 cases c with
 |ptr b=>simp only[qa] at h ⊢;rw[x.β];exact h
 |mk a cs=>
  cases a with
  |true=>obtain⟨xs,h1,h2,h3⟩:=h;exact⟨xs,h1,h2,fun j e he=>let ⟨y,h4,h6,h5⟩:=h3 j e he;⟨y,h4,h6,h5.ext x⟩⟩
  |false=>obtain⟨e,h1,h2,h3⟩:=h;exact⟨e,h1,h2,h3.ext x⟩
theorem dO.ext (x:Ext ob Kf φ φ') {e:TE} {v:Value} (h:dO ob w φ e v):dO Kf w φ' e v:=by
 cases e with
 |v t es=>
  cases t with
  |true=>obtain⟨vs,h1,h2,h3⟩:=h;exact⟨vs,h1,h2,fun j e he=>let ⟨y,h4,h5⟩:=h3 j e he;⟨y,h4,h5.ext x⟩⟩
  |false=>obtain⟨c,h1,h2⟩:=h;exact⟨c,h1,h2.ext x⟩
 |ep ds cells=>
  obtain⟨h1,ad,h2,hr,h3⟩:=h;refine⟨fun d hm=>(h1 d hm).imp id x.dom,ad,h2,fun hc=>x.rd h1 (hr hc),fun j tc hj=> ?_⟩;obtain⟨u,h4,h5⟩:=h3 j tc hj;exact⟨u,h4,h5.sW fun k hk=>x.rd h1 hk⟩
 |er o path i f=>
  obtain⟨b,h1,h2,ad,n,c,h3,h4⟩:=h;exact⟨b,x.look o b h1,h2,ad,n,c,by rw[x.V o ⟨b,h1⟩];exact h3,h4⟩
 |bp b off=>simp only[dO] at h ⊢;rw[x.β];exact h
 |fn f caps=>simp only[dO] at h ⊢;rw[x.β];exact h
 |_=>exact h
end
def Asc:Nat→Nat→List (Nat×OB)→Prop
 |n,m,[]=>n≤m
 |n,m,(i,b)::r=>n≤i∧(b.deep=true∧b.rows=[]∧0<b.z)∧Asc (i+1) m r
theorem Asc.le: ∀{n m:Nat} {l:List (Nat×OB)},Asc n m l→n≤m
 |_,_,[],h=>h
 |_,_,(i,b)::r,h=>by have:=Asc.le h.2.2;have:=h.1;omega
theorem Asc.down {n n' m:Nat} {l:List (Nat×OB)} (h:Asc n m l) (hn:n'≤n):Asc n' m l:=by
 cases l with
 |nil=>exact uO hn h
 |cons p r=>obtain⟨i,b⟩:=p;exact⟨uO hn h.1,h.2⟩
theorem Asc.app: ∀{n m k:Nat} {l l':List (Nat×OB)},Asc n m l→Asc m k l'→Asc n k (l++l')
 |_,_,_,[],_,h,h'=>h'.down h
 |_,_,_,(i,b)::r,_,h,h'=>⟨h.1,h.2.1,h.2.2.app h'⟩
theorem Asc.mem: ∀{n m:Nat} {l:List (Nat×OB)} {i:Nat} {b:OB},Asc n m l→(i,b)∈l→n≤i∧i<m∧b.deep=true∧b.rows=[]∧0<b.z
 |n,m,(j,b')::r,i,b,h,hm=>by
  rcases gj.1 hm with e|hm
  ·cases e
   have:=h.2.2.le;exact⟨h.1,by omega,h.2.1⟩
  ·obtain⟨h1,h2,h3⟩:=h.2.2.mem hm
   exact⟨by have:=h.1;omega,h2,h3⟩
theorem Rh: ∀{n m:Nat} {l:List (Nat×OB)} {ob:List (Nat×OB)},Asc n m l→(∀i b,(i,b)∈l→az i (nC l ob)=some b)∧ ∀d,d<n→az d (nC l ob)=az d ob
 |_,_,[],ob,_=>⟨fun _ _ h=>(by cases h),fun _ _=>rfl⟩
 |n,m,(j,b')::r,ob,h=>by
  obtain⟨h1,h2⟩:=Rh (ob:=ob) h.2.2;refine⟨fun i b hm=> ?_,fun d hd=> ?_⟩
  ·simp only[nC,g6]
   rcases gj.1 hm with e|hm
   ·cases e;rw[aJ rfl]
   ·have:=(h.2.2.mem hm).1
    rw[aF an];exact h1 i b hm
  ·have:=h.1
   simp only[nC,g6];rw[aF an];exact h2 d an
theorem Lv: ∀{l:List (Nat×OB)} {ob:List (Nat×OB)} {d:Nat} {b:OB},az d (nC l ob)=some b→(d,b)∈l∨az d ob=some b
 |[],_,_,_,h=> .inr h
 |(j,b')::r,ob,d,b,h=>by
  simp only[nC,g6] at h
  by_cases hd:d=j
  ·rw[aJ hd] at h;cases h;subst hd;exact .inl (.head _)
  ·rw[aF hd] at h
   exact(Lv h).imp (.tail _) id
def anf:Value:= .slice none 0 0
def opened (N:Nat) (φ:Fp):Fp:={φ with S:=fun d k=>d<N∧φ.S d k,V:=fun d=>if d<N then φ.V d else anf}
section
variable {ob Kf : List (Nat × OB)} {N : Nat} (x : Ext ob Kf φ (opened N φ))
include x
theorem Lw: ∀(cs:List CE) (n:Nat),N≤n→Asc n (jY n cs).2.1 (jY n cs).2.2∧(jY n cs).1.length=cs.length∧
 ((∀i b,(i,b)∈(jY n cs).2.2→az i Kf=some b)→ ∀(j:Nat) (e':CE),(jY n cs).1[j]?=some e'→ ∃e,cs[j]?=some e∧ ∀v,e9 ob w φ e v→e9 Kf w (opened N φ) e' v)
 |[],n,hn=>⟨de _,rfl,fun _ j e' h=>by simp[jY] at h⟩
 |e::r,n,hn=>by
  have keep: ∀(e:CE),(∀z,Nat.ble 1 z=true→e≠ .nil z)→jY n (e::r)=(e::(jY n r).1,(jY n r).2.1,(jY n r).2.2):=by
   intro e he
   cases e with
   |nil z=>
    simp only[jY]
    cases h:Nat.ble 1 z with
    |true=>exact absurd rfl (he z h)
    |false=>rfl
   |_=>rfl
  by_cases hz: ∃z,Nat.ble 1 z=true∧e= .nil z
  ·obtain⟨z,hz,rfl⟩:=hz
   have heq:jY n (.nil z::r)=(.ref n none::(jY (n+1) r).1,(jY (n+1) r).2.1,(n,⟨true,z,[]⟩)::(jY (n+1) r).2.2):=by simp only[jY,hz]
   rw[heq];obtain⟨h1,h2,h3⟩:=Lw r (n+1) an;refine⟨⟨de _,⟨rfl,rfl,wI hz⟩,h1⟩,by simp[h2],fun hl j e' he=> ?_⟩
   cases j with
   |zero=>
    simp only[gT,aY] at he;subst he;refine⟨_,rfl,fun v hv=>⟨_,hl n _ (.head _),?_⟩⟩
    show v=if n<N then φ.V n else anf
    rw[aF an];exact hv.1
   |succ j=>
    simp only[yg] at he ⊢;exact h3 (fun i b hm=>hl i b (.tail _ hm)) j e' he
  ·rw[keep e fun z hz' he=>hz ⟨z,hz',he⟩]
   obtain⟨h1,h2,h3⟩:=Lw r n hn;refine⟨h1,by simp[h2],fun hl j e' he=> ?_⟩
   cases j with
   |zero=>
    simp only[gT,aY] at he;subst he;exact⟨_,rfl,fun v hv=>hv.ext x⟩
   |succ j=>
    simp only[yg] at he ⊢;exact h3 hl j e' he
theorem E9: ∀(cs:List vH) (n:Nat),N≤n→Asc n (jk n cs).2.1 (jk n cs).2.2∧(jk n cs).1.length=cs.length∧
 ((∀i b,(i,b)∈(jk n cs).2.2→az i Kf=some b)→ ∀(j:Nat) (e':vH),(jk n cs).1[j]?=some e'→ ∃e,cs[j]?=some e∧ ∀v,qa ob w φ e v→qa Kf w (opened N φ) e' v)
 |[],n,hn=>⟨de _,rfl,fun _ j e' h=>by simp[jk] at h⟩
 | .ptr b::r,n,hn=>by
   obtain⟨h1,h2,h3⟩:=E9 r n hn;refine⟨h1,by simp[jk,h2],fun hl j e' he=> ?_⟩
   cases j with
   |zero=>
    simp only[jk,gT,aY] at he;subst he;exact⟨_,rfl,fun v hv=>hv.ext x⟩
   |succ j=>
    simp only[jk,yg] at he ⊢;exact h3 hl j e' he
 | .mk a cs::r,n,hn=>by
   obtain⟨g1,g2,g3⟩:=Lw (w:=w) x cs n hn;obtain⟨h1,h2,h3⟩:=E9 r (jY n cs).2.1 (uO hn g1.le);refine⟨g1.app h1,by simp[jk,h2],fun hl j e' he=> ?_⟩
   cases j with
   |zero=>
    simp only[jk,gT,aY] at he;subst he;refine⟨_,rfl,fun v hv=> ?_⟩;have g4:=g3 fun i b hm=>hl i b (mo _ hm)
    cases a with
    |true=>
     obtain⟨xs,k1,k2,k3⟩:=hv;refine⟨xs,k1,by rw[g2];exact k2,fun j e' he=> ?_⟩;obtain⟨e,k4,k5⟩:=g4 j e' he;obtain⟨y,k6,k8,k7⟩:=k3 j e k4;exact⟨y,k6,k8,k5 y k7⟩
    |false=>
     obtain⟨e,rfl,k2,k3⟩:=hv;have hlen:(jY n [e]).1.length=1:=g2
     obtain⟨e',he'⟩: ∃e',(jY n [e]).1=[e']:=by
      cases hq:(jY n [e]).1 with
      |nil=>rw[hq] at hlen;cases hlen
      |cons y t=>cases t with
       |nil=>exact⟨y,rfl⟩
       |cons _ _=>rw[hq] at hlen;simp at hlen
     obtain⟨e0,k4,k5⟩:=g4 0 e' (by rw[he'];rfl);simp only[gT,aY] at k4;subst k4;exact⟨e',he',k2,k5 v k3⟩
   |succ j=>
    simp only[jk,yg] at he ⊢;exact h3 (fun i b hm=>hl i b (r9 _ hm)) j e' he
theorem agD (e:TE) (n:Nat) (hn:N≤n):Asc n (Lt n e).2.1 (Lt n e).2.2∧
 ((∀i b,(i,b)∈(Lt n e).2.2→az i Kf=some b)→ ∀v,dO ob w φ e v→dO Kf w (opened N φ) (Lt n e).1 v):=by
 cases e with
 |v t es=>
  obtain⟨h1,h2,h3⟩:=E9 (w:=w) x es n hn;refine⟨h1,fun hl v hv=> ?_⟩;have h4:=h3 hl;simp only[Lt]
  cases t with
  |true=>
   obtain⟨vs,k1,k2,k3⟩:=hv;refine⟨vs,k1,by rw[h2];exact k2,fun j e' he=> ?_⟩;obtain⟨e,k4,k5⟩:=h4 j e' he;obtain⟨y,k6,k7⟩:=k3 j e k4;exact⟨y,k6,k5 y k7⟩
  |false=>
   obtain⟨c,rfl,k1⟩:=hv;have hlen:(jk n [c]).1.length=1:=h2
   obtain⟨e',he'⟩: ∃e',(jk n [c]).1=[e']:=by
    cases hq:(jk n [c]).1 with
    |nil=>rw[hq] at hlen;cases hlen
    |cons y t=>cases t with
     |nil=>exact⟨y,rfl⟩
     |cons _ _=>rw[hq] at hlen;simp at hlen
   obtain⟨e0,k4,k5⟩:=h4 0 e' (by rw[he'];rfl);simp only[gT,aY] at k4;subst k4;exact⟨e',he',k5 v k1⟩
 |kb b=>
  refine⟨de _,fun _ v hv=> ?_⟩;simp only[dO] at hv;subst hv;exact⟨_,rfl,_,rfl,rfl,rfl,trivial⟩
 |_=>exact⟨de _,fun _ v hv=>hv.ext x⟩
theorem U6: ∀(l:List (Nat×TE)) (n:Nat),N≤n→(∃m,Asc n m (DR n l).2)∧
 ((∀i b,(i,b)∈(DR n l).2→az i Kf=some b)→ ∀(i:Nat) (e':TE),az i (DR n l).1=some e'→ ∃e,az i l=some e∧ ∀v,dO ob w φ e v→dO Kf w (opened N φ) e' v)
 |[],n,hn=>⟨⟨n,de _⟩,fun _ i e' h=>by simp[DR,az] at h⟩
 |(j,e)::r,n,hn=>by
  obtain⟨g1,g2⟩:=agD (w:=w) x e n hn;obtain⟨⟨m,h1⟩,h2⟩:=U6 r (Lt n e).2.1 (uO hn g1.le);refine⟨⟨m,g1.app h1⟩,fun hl i e' he=> ?_⟩;simp only[DR,az] at he ⊢
  cases hj:Nat.beq j i with
  |true=>
   rw[hj] at he;simp only[aY] at he;subst he;exact⟨e,rfl,g2 fun i b hm=>hl i b (mo _ hm)⟩
  |false=>
   rw[hj] at he;exact h2 (fun i b hm=>hl i b (r9 _ hm)) i e' he
end
theorem acr {n:Nat}: ∀{ob:List (Nat×OB)},acm n ob=true→ ∀o,aT ob o→o<n
 |[],_,o,⟨b,h⟩=>by cases h
 |(i,x)::r,ha,o,⟨b,h⟩=>by
  simp only[acm] at ha
  cases h1:Nat.ble n i with
  |true=>rw[h1] at ha;cases ha
  |false=>
   rw[h1] at ha;simp only[az] at h
   cases h2:Nat.beq i o with
   |true=>
    have:=kD h2;subst this
    exact Nat.lt_of_not_le fun h3=>by rw[UT h3] at h1;cases h1
   |false=>rw[h2] at h;exact acr ha o ⟨b,h⟩
theorem bD.acn (h:bD F A w0 φ st tm w): ∃φ',bD F A w0 φ' (acn st) tm w∧φ'.β=φ.β:=by
 unfold T.acn
 cases ha:acm 900000000 st.ob with
 |false=>exact⟨φ,h,rfl⟩
 |true=>
  have hlt:=acr ha
  have x1: ∀Kf,(∀d b,az d st.ob=some b→az d Kf=some b)→Ext st.ob Kf φ (opened 900000000 φ):=fun Kf hl=>
   ⟨hl,rfl,rfl,fun d hd=>by
     have:d<900000000:=hd.elim (fun e=>by omega) (hlt d)
     funext k
     simp[opened,this],fun d hd=>aJ (hlt d hd)⟩
  obtain⟨⟨m,aoq⟩,_⟩:=U6 (w:=w) (x1 st.ob fun _ _ h=>h) st.tm 900000000 (de _);obtain⟨l1,l2⟩:=Rh (ob:=st.ob) aoq
  have x:Ext st.ob (nC (DR 900000000 st.tm).2 st.ob) φ (opened 900000000 φ):=x1 _ fun d b hd=>by rw[l2 d (hlt d ⟨b,hd⟩)];exact hd
  obtain⟨_,hT⟩:=U6 (w:=w) x st.tm 900000000 (de _);have hT:=hT l1
  have old: ∀d,aT (nC (DR 900000000 st.tm).2 st.ob) d→(d<900000000∧aT st.ob d)∨900000000≤d:=fun d ⟨b,hd⟩=>by
   rcases Lv hd with h1|h1
   ·exact .inr (aoq.mem h1).1
   ·exact .inl ⟨hlt d ⟨b,h1⟩,b,h1⟩
  have oldS: ∀d k,aT (nC (DR 900000000 st.tm).2 st.ob) d→(opened 900000000 φ).S d k→aT st.ob d∧φ.S d k:=fun d k hd hk=>by
   rcases old d hd with h1|h1
   ·exact⟨h1.2,hk.2⟩
   ·exact absurd hk.1 an
  refine⟨opened 900000000 φ,⟨fun i=> ?_,fun b cs hb j e he=> ?_,fun o b ho=> ?_,?_,h.frm⟩,rfl⟩
  ·show dO (nC (DR 900000000 st.tm).2 st.ob) w (opened 900000000 φ) (match az i (DR 900000000 st.tm).1 with|some e=>e|none=> .dead) (tm.getD i undef)
   cases hi:az i (DR 900000000 st.tm).1 with
   |none=>trivial
   |some e'=>
    obtain⟨e,h1,h2⟩:=hT i e' hi;have:=h.tmp i;unfold TS.get at this;rw[h1] at this;exact h2 _ this
  ·obtain⟨v,h1,h3,h2⟩:=h.box b cs hb j e he
   exact⟨v,h1,h3,h2.ext x⟩
  ·unfold rX
   rcases Lv ho with h1|h1
   ·obtain⟨a1,a2,a3,a4,a5⟩:=aoq.mem h1
    obtain⟨bd,bz,br⟩:=b;simp only at a3 a4 a5;subst a3 a4;have hv:(opened 900000000 φ).V o=anf:=aF an;rw[hv]
    refine aB.sub _ _ bz [] none 0 (fun _ _=>default) (fun _ _ _=>False) ⟨de _,F1 _,a5,fun r hr=>(by cases hr),fun hr=>absurd rfl hr,fun _ ha=>(by cases ha),fun _ _ ha=>(by cases ha),
     fun _=>⟨fun _=>rfl,fun _ ha=>(by cases ha)⟩,fun _ _ _ ha=>(by cases ha),fun _ _ _ _ hk=>hk.elim⟩ fun i f tc ht=>absurd rfl (OP ht)
   ·have hd:=hlt o ⟨b,h1⟩
    have:=h.obj o b h1;unfold rX at this;rw[x.V o ⟨b,h1⟩,x.S o (.inr ⟨b,h1⟩)];exact this
  ·exact {
    arg:=by rw[x.S 0 (.inl rfl)];exact h.sep.arg
    nz:=fun o ho e=>by
     rcases old o ho with h1|h1
     ·exact h.sep.nz o h1.2 e
     ·omega
    apart:=fun o o' k h1 h2 h3 h4=>h.sep.apart o o' k (oldS o k h1 h3).1 (oldS o' k h2 h4).1 (oldS o k h1 h3).2 (oldS o' k h2 h4).2
    read:=fun o k h1 h2=>h.sep.read o k (oldS o k h1 h2).1 (oldS o k h1 h2).2
    fresh:=fun o k h1 h2=>h.sep.fresh o k (oldS o k h1 h2).1 (oldS o k h1 h2).2
    ro:=h.sep.ro
    qQ:=h.sep.qQ
    box:=fun b cs hb hw=>by
     obtain⟨a1,a2,a3,a4⟩:=h.sep.box b cs hb hw;exact⟨a1,fun o ho hk=>a2 o (oldS o _ ho hk).1 (oldS o _ ho hk).2,a3,a4⟩
    spot:=h.sep.spot
    soft:=h.sep.soft}
end Go.T
namespace Go.T
variable {F : Nat → Prop} {A : Arg} {w0 w w' : World} {φ φ' : Fp} {st st' : TS} {tm Lo : Array Value}
structure U7 (n:Nat) (ρ:List (Nat×Nat)):Prop where
 rng: ∀o m,(o,m)∈ρ→1≤m∧m<n∧o≠0
 apart:ρ.Pairwise fun a b=>a.1≠b.1∧a.2≠b.2
theorem lS {α:Type} {o:Nat} {m:α}: ∀{ρ:List (Nat×α)},az o ρ=some m→(o,m)∈ρ
 |(a,x)::r,h=>by
  simp only[az] at h
  cases h1:Nat.beq a o with
  |true=>
   rw[h1] at h
   cases h
   have:=kD h1;subst this;exact .head _
  |false=>rw[h1] at h;exact .tail _ (lS h)
theorem yL {α:Type} {o:Nat}: ∀{ρ:List (Nat×α)},az o ρ=none→ ∀m,(o,m)∉ρ
 |[],_,_=>by simp
 |(a,x)::r,h,m=>by
  simp only[az] at h
  cases h1:Nat.beq a o with
  |true=>rw[h1] at h;cases h
  |false=>
   rw[h1] at h;intro hm;rcases gj.1 hm with e|hm
   ·cases e;exact wJ h1 rfl
   ·exact yL h m hm
theorem I2 {n o m:Nat}: ∀{ρ:List (Nat×Nat)},(ρ.Pairwise fun a b=>a.1≠b.1∧a.2≠b.2)→(o,m)∈ρ→az o ρ=some m
 |(a,x)::r,h,hm=>by
  simp only[az];rw[List.pairwise_cons] at h;rcases gj.1 hm with e|hm
  ·cases e;rw[I0]
  ·have:=(h.1 _ hm).1
   rw[beq_false this];exact I2 (n:=n) h.2 hm
theorem Kq: ∀(l:List Nat) (n:Nat) (ρ:List (Nat×Nat)),1≤n→U7 n ρ→ ∃n',U7 n' (number l n ρ)∧(∀o m,az o ρ=some m→az o (number l n ρ)=some m)∧ ∀o∈l,o≠0→ ∃m,az o (number l n ρ)=some m
 |[],n,ρ,_,h=>⟨n,h,fun _ _ h=>h,fun _ h=>by cases h⟩
 |o::r,n,ρ,hn,h=>by
  simp only[number]
  cases h0:Nat.beq o 0 with
  |true=>
   obtain⟨n',h1,h2,h3⟩:=Kq r n ρ hn h;refine⟨n',h1,h2,fun p hp hp0=> ?_⟩;rcases gj.1 hp with e|hp
   ·exact absurd (e.trans (kD h0)) hp0
   ·exact h3 p hp hp0
  |false=>
   have h0:=wJ h0
   cases hl:az o ρ with
   |some m=>
    obtain⟨n',h1,h2,h3⟩:=Kq r n ρ hn h;refine⟨n',h1,h2,fun p hp hp0=> ?_⟩;rcases gj.1 hp with e|hp
    ·subst e;exact⟨m,h2 _ _ hl⟩
    ·exact h3 p hp hp0
   |none=>
    have hk:U7 (n+1) ((o,n)::ρ):=by
     refine⟨fun p m hm=> ?_,List.pairwise_cons.2 ⟨fun a ha=>⟨fun e=> ?_,fun e=> ?_⟩,h.apart⟩⟩
     ·rcases gj.1 hm with e|hm
      ·cases e;exact⟨hn,by omega,h0⟩
      ·have:=h.rng p m hm;exact⟨this.1,by omega,this.2.2⟩
     ·obtain⟨a1,a2⟩:=a
      simp only at e;subst e;exact yL hl a2 ha
     ·obtain⟨a1,a2⟩:=a
      simp only at e;have:=(h.rng a1 a2 ha).2.1;omega
    obtain⟨n',h1,h2,h3⟩:=Kq r (n+1) ((o,n)::ρ) an hk
    have hon:az o ((o,n)::ρ)=some n:=by simp only[az,I0]
    refine⟨n',h1,fun p m hp=>h2 p m ?_,fun p hp hp0=> ?_⟩
    ·simp only[az]
     rw[beq_false fun e=>by subst e;rw[hl] at hp;cases hp];exact hp
    ·rcases gj.1 hp with e|hp
     ·subst e;exact⟨n,h2 _ _ hon⟩
     ·exact h3 p hp hp0
theorem amy {o o' m:Nat}: ∀{ρ:List (Nat×Nat)},(ρ.Pairwise fun a b=>a.1≠b.1∧a.2≠b.2)→(o,m)∈ρ→(o',m)∈ρ→o=o'
 |p::r,h,h1,h2=>by
  rw[List.pairwise_cons] at h;rcases gj.1 h1 with e1|h1
  ·rcases gj.1 h2 with e2|h2
   ·rw[←e1] at e2;cases e2;rfl
   ·exact absurd (by rw[←e1]) (h.1 _ h2).2
  ·rcases gj.1 h2 with e2|h2
   ·exact absurd (by rw[←e2]) (h.1 _ h1).2
   ·exact amy h.2 h1 h2
def inv (ρ:List (Nat×Nat)) (m:Nat):Nat:=match ρ.find? fun p=>Nat.beq p.2 m with|some p=>p.1|none=>0
theorem inv_eq {n o m:Nat} {ρ:List (Nat×Nat)} (h:U7 n ρ) (hl:az o ρ=some m):inv ρ m=o:=by
 unfold inv;have hm:=lS hl
 cases hf:ρ.find? fun p=>Nat.beq p.2 m with
 |none=>
  have:=List.find?_eq_none.1 hf _ hm;simp at this
 |some p=>
  have h1:=List.mem_of_find?_eq_some hf;have h2:=List.find?_some hf;have h2:=kD h2;simp only;obtain⟨p1,p2⟩:=p;simp only at h2;subst h2;exact amy h.apart h1 hm
theorem inv_zero {n:Nat} {ρ:List (Nat×Nat)} (h:U7 n ρ):inv ρ 0=0:=by
 unfold inv
 cases hf:ρ.find? fun p=>Nat.beq p.2 0 with
 |none=>rfl
 |some p=>
  have h1:=List.mem_of_find?_eq_some hf;have h2:=List.find?_some hf;have h2:=kD h2;obtain⟨p1,p2⟩:=p;have:=(h.rng p1 p2 h1).1;simp only at h2;omega
theorem MY {o m:Nat} {ρ:List (Nat×Nat)} (hl:az o ρ=some m):OL ρ o=m:=by unfold OL;rw[hl]
theorem ZP {n:Nat} {ρ:List (Nat×Nat)} (h:U7 n ρ):OL ρ 0=0:=by
 unfold OL
 cases hl:az 0 ρ with
 |none=>rfl
 |some m=>exact absurd rfl (h.rng 0 m (lS hl)).2.2
theorem MZ {ob:List (Nat×OB)} {m:Nat} {b:OB}: ∀{ρ:List (Nat×Nat)},az m (zj ob ρ)=some b→ ∃o,(o,m)∈ρ∧az o ob=some b
 |(o,n)::r,h=>by
  simp only[zj] at h
  cases ho:az o ob with
  |none=>
   rw[ho] at h;obtain⟨o',h1,h2⟩:=MZ h;exact⟨o',.tail _ h1,h2⟩
  |some b'=>
   rw[ho] at h;simp only[g6] at h
   by_cases hm:m=n
   ·rw[aJ hm] at h;cases h;subst hm;exact⟨o,.head _,ho⟩
   ·rw[aF hm] at h
    obtain⟨o',h1,h2⟩:=MZ h;exact⟨o',.tail _ h1,h2⟩
theorem acs {ob:List (Nat×OB)} {o m:Nat} {b:OB} (ho:az o ob=some b): ∀{ρ:List (Nat×Nat)},(ρ.Pairwise fun a b=>a.1≠b.1∧a.2≠b.2)→(o,m)∈ρ→az m (zj ob ρ)=some b
 |(o',n)::r,h,hm=>by
  rw[List.pairwise_cons] at h;simp only[zj];rcases gj.1 hm with e|hm
  ·cases e
   rw[ho];simp only[g6,aJ]
  ·have h1:=(h.1 _ hm).2
   have ih:=acs ho h.2 hm
   cases ho':az o' ob with
   |none=>exact ih
   |some b'=>
    simp only[g6];rw[aF (Ne.symm h1)];exact ih
def Fp.ren (φ:Fp) (ρ:List (Nat×Nat)):Fp:={φ with S:=fun m=>φ.S (inv ρ m),V:=fun m=>φ.V (inv ρ m)}
section
variable {ob : List (Nat × OB)} {n : Nat} {ρ : List (Nat × Nat)} (hρ : U7 n ρ)
include hρ
theorem M0 {o m:Nat} {b:OB} (hm:az o ρ=some m) (ho:az o ob=some b):az m (zj ob ρ)=some b:=acs ho hρ.apart (lS hm)
theorem aim {o m:Nat} (hm:az o ρ=some m):(φ.ren ρ).S m=φ.S o:=by show φ.S (inv ρ m)=_;rw[inv_eq hρ hm]
theorem afL {o m:Nat} (hm:az o ρ=some m):(φ.ren ρ).V m=φ.V o:=by show φ.V (inv ρ m)=_;rw[inv_eq hρ hm]
theorem ain:(φ.ren ρ).S 0=φ.S 0:=by show φ.S (inv ρ 0)=_;rw[inv_zero hρ]
theorem aio {ds:List Nat} (hz: ∀d,aT ob d→d≠0) (hd: ∀d∈ds,d=0∨aT ob d) (hc: ∀o∈ds,o≠0→ ∃m,az o ρ=some m):
 (∀d∈ds.map (OL ρ),d=0∨aT (zj ob ρ) d)∧ ∀k,rd φ ds k→rd (φ.ren ρ) (ds.map (OL ρ)) k:=by
 refine⟨fun d hm=> ?_,fun k hk=> ?_⟩
 ·obtain⟨o,h1,rfl⟩:=List.mem_map.1 hm
  rcases hd o h1 with rfl|h2
  ·exact .inl (ZP hρ)
  ·obtain⟨m,h3⟩:=hc o h1 (hz o h2)
   obtain⟨b,h4⟩:=h2;rw[MY h3];exact .inr ⟨b,M0 hρ h3 h4⟩
 ·rcases hk with hk|⟨d,hm,hk⟩
  ·exact .inl hk
  ·refine .inr ⟨OL ρ d,List.mem_map_of_mem hm,?_⟩
   rcases hd d hm with rfl|h2
   ·rw[ZP hρ,ain hρ];exact hk
   ·obtain⟨m,h3⟩:=hc d hm (hz d h2)
    rw[MY h3,aim hρ h3];exact hk
theorem e9.ren (hz: ∀d,aT ob d→d≠0) {e:CE} {v:Value} (hc: ∀o∈iX e,o≠0→ ∃m,az o ρ=some m) (h:e9 ob w φ e v):e9 (zj ob ρ) w (φ.ren ρ) (MU ρ e) v:=by
 cases e with
 |ref o cut=>
  obtain⟨b,h1,h2⟩:=h;obtain⟨m,h3⟩:=hc o (by simp[iX]) (hz o ⟨b,h1⟩);simp only[MU];rw[MY h3];exact⟨b,M0 hρ h3 h1,by rw[afL hρ h3];exact h2⟩
 |snap ds loc z rows=>
  obtain⟨h1,h2,h3⟩:=h;obtain⟨g1,g2⟩:=aio hρ (φ:=φ) hz h1 hc;refine⟨g1,h2.sW g2,fun o i f hl=> ?_⟩
  cases loc with
  |none=>cases hl
  |some q=>
   obtain⟨o',i',f'⟩:=q;simp only[aY,Bx] at hl;obtain⟨rfl,rfl,rfl⟩:=hl;obtain⟨a1,b,a2,a3,a4,ad,n,c,a5,a6⟩:=h3 o' i' f' rfl;obtain⟨m,a7⟩:=hc o' a1 (hz o' ⟨b,a2⟩);refine⟨List.mem_map_of_mem a1,?_⟩;rw[MY a7];exact⟨b,M0 hρ a7 a2,a3,a4,ad,n,c,by rw[afL hρ a7];exact a5,a6⟩
 |_=>exact h
theorem dO.ren (hz: ∀d,aT ob d→d≠0) {e:TE} {v:Value} (hc: ∀o∈Dj e,o≠0→ ∃m,az o ρ=some m) (h:dO ob w φ e v):dO (zj ob ρ) w (φ.ren ρ) (Di (MU ρ) (aic ρ) e) v:=by
 have comp: ∀(c:vH) (u:Value),(∀o∈kW [c],o≠0→ ∃m,az o ρ=some m)→qa ob w φ c u→qa (zj ob ρ) w (φ.ren ρ) (Ah (MU ρ) c) u:=by
  intro c u hc h
  cases c with
  |ptr b=>exact h
  |mk a cs=>
   simp only[kW,qv] at hc;have hc1: ∀e∈cs,∀o∈iX e,o≠0→ ∃m,az o ρ=some m:=fun e he o ho=>hc o (List.mem_flatMap.2 ⟨e,he,ho⟩)
   cases a with
   |true=>
    obtain⟨xs,h1,h2,h3⟩:=h;refine⟨xs,h1,by simp[h2],fun j e he=> ?_⟩;rw[mm] at he
    cases h4:cs[j]? with
    |none=>rw[h4] at he;cases he
    |some e0=>
     rw[h4] at he;simp only[pQ,aY] at he;subst he;obtain⟨x,hx,hx1,hok⟩:=h3 j e0 h4;exact⟨x,hx,hx1,hok.ren hρ hz (hc1 e0 (iV h4))⟩
   |false=>
    obtain⟨e,rfl,h2,h3⟩:=h;exact⟨_,rfl,h2,h3.ren hρ hz (hc1 e dh)⟩
 have dcomp: ∀(es:List vH) (c:vH),c∈es→ ∀o,o∈kW [c]→o∈kW es:=by
  intro es
  induction es with
  |nil=>intro c hc;cases hc
  |cons x r ih=>
   intro c hc o ho;rcases gj.1 hc with rfl|hc
   ·cases c with
    |ptr b=>simp[kW] at ho
    |mk a cs=>
     simp only[kW,qv] at ho;simp only[kW];exact mo _ ho
   ·have:=ih c hc o ho
    cases x with
    |ptr b=>exact this
    |mk a cs=>simp only[kW];exact r9 _ this
 cases e with
 |v t es=>
  cases t with
  |true=>
   obtain⟨vs,h1,h2,h3⟩:=h;refine⟨vs,h1,by rw[u9];exact h2,fun k c hk=> ?_⟩;rw[zE] at hk
   cases h4:es[k]? with
   |none=>rw[h4] at hk;cases hk
   |some c0=>
    rw[h4] at hk;simp only[pQ,aY] at hk;obtain⟨u,hu,hok⟩:=h3 k c0 h4;exact⟨u,hu,by rw[←hk];exact comp c0 u (fun o ho=>hc o (dcomp es c0 (iV h4) o ho)) hok⟩
  |false=>
   obtain⟨c,rfl,hok⟩:=h;refine⟨Ah (MU ρ) c,?_,comp c v hc hok⟩
   cases c<;>rfl
 |ep ds cells=>
  obtain⟨h1,ad,h2,hr,h3⟩:=h;obtain⟨g1,g2⟩:=aio hρ (φ:=φ) hz h1 hc;refine⟨g1,ad,h2,fun hne=>g2 _ (hr hne),fun j tc hj=> ?_⟩;obtain⟨u,h4,h5⟩:=h3 j tc hj;exact⟨u,h4,h5.sW g2⟩
 |er o path i f=>
  obtain⟨b,h1,h2,ad,n,c,h3,h4⟩:=h;obtain⟨m,h5⟩:=hc o (by simp[Dj]) (hz o ⟨b,h1⟩);show dO (zj ob ρ) w (φ.ren ρ) (.er (OL ρ o) path i f) v;rw[MY h5];exact⟨b,M0 hρ h5 h1,h2,ad,n,c,by rw[afL hρ h5];exact h3,h4⟩
 |_=>exact h
end
theorem bD.canon (h:bD F A w0 φ st tm w): ∃φ',bD F A w0 φ' (canon st) tm w∧φ'.β=φ.β:=by
 obtain⟨n,hρ,_,hall⟩:=Kq (am8 st) 1 [] (de _) ⟨fun _ _ h=>(by cases h),List.Pairwise.nil⟩;unfold T.canon apa;generalize number (am8 st) 1 []=ρ at hρ hall;have hz:=h.sep.nz
 have dom: ∀m,aT (zj st.ob ρ) m→ ∃o,az o ρ=some m∧aT st.ob o:=fun m ⟨b,hm⟩=>by
  obtain⟨o,h1,h2⟩:=MZ hm;exact⟨o,I2 (n:=n) hρ.apart h1,b,h2⟩
 have domS: ∀m k,aT (zj st.ob ρ) m→(φ.ren ρ).S m k→ ∃o,az o ρ=some m∧aT st.ob o∧φ.S o k:=fun m k hm hk=>by
  obtain⟨o,h1,h2⟩:=dom m hm;rw[aim hρ h1] at hk;exact⟨o,h1,h2,hk⟩
 refine⟨φ.ren ρ,⟨fun i=> ?_,fun b cs hb j e he=> ?_,fun m b hm=> ?_,?_,h.frm⟩,rfl⟩
 ·show dO (zj st.ob ρ) w (φ.ren ρ) (match az i (mapA (Di (MU ρ) (aic ρ)) st.tm) with|some e=>e|none=> .dead) (tm.getD i undef)
  rw[xG]
  cases hi:az i st.tm with
  |none=>trivial
  |some e=>
   have:=h.tmp i;unfold TS.get at this;rw[hi] at this;exact this.ren hρ hz fun o ho ho0=>hall o (mo _ (List.mem_flatMap.2 ⟨_,lS hi,ho⟩)) ho0
 ·simp only[xG] at hb
  cases h1:az b st.bx with
  |none=>rw[h1] at hb;cases hb
  |some cs0=>
   rw[h1] at hb;simp only[pQ,aY] at hb;subst hb;rw[mm] at he
   cases h2:cs0[j]? with
   |none=>rw[h2] at he;cases he
   |some e0=>
    rw[h2] at he;simp only[pQ,aY] at he;subst he;obtain⟨v,h3,h5,h4⟩:=h.box b cs0 h1 j e0 h2;exact⟨v,h3,h5,h4.ren hρ hz fun o ho ho0=>hall o (r9 _ (List.mem_flatMap.2 ⟨_,lS h1,List.mem_flatMap.2 ⟨e0,iV h2,ho⟩⟩)) ho0⟩
 ·obtain⟨o,h1,h2⟩:=MZ hm
  have h1:=I2 (n:=n) hρ.apart h1;unfold rX;rw[aim hρ h1,afL hρ h1];exact h.obj o b h2
 ·have hs:=h.sep.boxes (jO (MU ρ))
  exact {
   arg:=by rw[ain hρ];exact h.sep.arg
   nz:=fun m hm e=>by
    obtain⟨o,h1,_⟩:=dom m hm;have:=(hρ.rng o m (lS h1)).1;omega
   apart:=fun m m' k h1 h2 h3 h4=>by
    obtain⟨o,a1,a2,a3⟩:=domS m k h1 h3;obtain⟨o',b1,b2,b3⟩:=domS m' k h2 h4;have:=h.sep.apart o o' k a2 b2 a3 b3;subst this;rw[a1] at b1;cases b1;rfl
   read:=fun m k h1 h2=>by obtain⟨o,a1,a2,a3⟩:=domS m k h1 h2;exact h.sep.read o k a2 a3
   fresh:=fun m k h1 h2=>by obtain⟨o,a1,a2,a3⟩:=domS m k h1 h2;exact h.sep.fresh o k a2 a3
   ro:=hs.ro
   qQ:=hs.qQ
   box:=fun b cs hb hw=>by
    obtain⟨a1,a2,a3,a4⟩:=hs.box b cs hb hw;refine⟨a1,fun m hm hk=> ?_,a3,a4⟩;obtain⟨o,c1,c2,c3⟩:=domS m _ hm hk;exact a2 o c2 c3
   spot:=hs.spot
   soft:=hs.soft}
theorem bD.head (h:bD F A w0 φ st tm w) (l:List Nat):Rel F A w0 (aco l st) tm w:=by
 obtain⟨φ1,h1,_⟩:=(h.apc l).acn;obtain⟨φ2,h2,_⟩:=h1.canon;exact⟨φ2,h2⟩
end Go.T
