import Derived.Below
import Derived.WalkKit
import Derived.Laws.AppendOwn
import Derived.DataElems
namespace Go.T
theorem jR {P Q:Prop} (h:P:=by rfl) (k:Q:=by trivial):P∧Q:=⟨h,k⟩
theorem Xv {P:Prop} (h:P:=by first|rfl|(simp;done)|(simp;omega)):P:=h
theorem az {P:Prop} (h:P:=by omega):P:=h
theorem Sg {P:Prop} (h:P:=by assumption):P:=h
theorem kZ {P:Prop} (h:P:=by simp;omega):P:=h
theorem jC {P:Prop} (h:P:=by simp<;>omega):P:=h
theorem cY {P:Prop} (h:P:=by simp):P:=h
theorem Xw {P:Prop} (h:P:=by trivial):P:=h
theorem Wc {P:Prop} (h:P:=by rfl):P:=h
abbrev nN:= @Array.getD_eq_getD_getElem?
abbrev oH:= @Array.getElem?_eq_getElem
abbrev EX:= @Array.getElem?_setIfInBounds
abbrev Hu:= @Array.getElem?_toList
abbrev qL:= @Array.length_toList
abbrev cZ:= @Bool.and_eq_true
abbrev kk:= @Bool.and_true
abbrev uK:= @Bool.false_eq_true
abbrev Ct:= @Bool.false_or
abbrev pK:= @Bool.not_eq_true'
abbrev EY:= @Bool.not_true
abbrev eA:= @Bool.true_and
abbrev wT:= @Int.ofNat_eq_natCast
abbrev qM:= @Int.toNat_natCast
abbrev uL:= @List.all_cons
abbrev AT:= @List.all_nil
abbrev wU:= @List.append_assoc
abbrev jD:= @List.append_nil
abbrev wV:= @List.cons_append
abbrev yp:= @List.drop_eq_getElem_cons
abbrev iQ:= @List.drop_length
abbrev yq:= @List.drop_of_length_le
abbrev sG:= @List.eq_nil_of_length_eq_zero
abbrev Kj:= @List.flatten_append
abbrev uM:= @List.flatten_cons
abbrev mV:= @List.getD_eq_getElem?_getD
abbrev iE:= @List.getElem?_append_left
abbrev ju:= @List.getElem?_append_right
abbrev mm:= @List.getElem?_cons_succ
abbrev cw:= @List.getElem?_cons_zero
abbrev ko:= @List.getElem?_drop
abbrev aX:= @List.getElem?_eq_getElem
abbrev Qu:= @List.getElem?_eq_none
abbrev gj:= @List.getElem?_map
abbrev AU:= @List.getElem?_take
abbrev qN:= @List.getElem_mem
abbrev bZ:= @List.length_append
abbrev eB:= @List.length_cons
abbrev kr:= @List.length_drop
abbrev Hv:= @List.length_filter_le
abbrev cG:= @List.length_map
abbrev gl:= @List.length_singleton
abbrev fJ:= @List.length_take
abbrev yt:= @List.map_append
abbrev EZ:= @List.map_drop
abbrev Hw:= @List.map_take
abbrev e9:= @List.mem_append_left
abbrev jv:= @List.mem_append_right
abbrev bQ:= @List.mem_cons
abbrev eK:= @List.mem_of_getElem?
abbrev uN:= @List.mem_of_mem_drop
abbrev qO:= @List.mem_of_mem_take
abbrev fc:= @List.mem_singleton
abbrev pL:= @List.nil_append
abbrev yu:= @List.take_append_drop
abbrev wW:= @List.take_length
abbrev Qv:= @List.take_of_length_le
abbrev pM:= @Nat.add_assoc
abbrev yw:= @Nat.add_eq
abbrev mW:= @Nat.add_mul
abbrev nO:= @Nat.add_zero
abbrev Cu:= @Nat.ble_eq_true_of_le
abbrev yx:= @Nat.div_add_mod'
abbrev ez:= @Nat.eq_of_beq_eq_true
abbrev E0:= @Nat.le_max_left
abbrev lI:= @Nat.le_of_ble_eq_true
abbrev bV:= @Nat.le_refl
abbrev nP:= @Nat.le_trans
abbrev fE:= @Nat.lt_of_lt_of_le
abbrev qP:= @Nat.min
abbrev lz:= @Nat.mul_le_mul_right
abbrev lJ:= @Nat.ne_of_beq_eq_false
abbrev qQ:= @Nat.sub_self
abbrev Cv:= @Nat.succ_mul
abbrev ic:= @Nat.zero_add
abbrev wX:= @Nat.zero_le
abbrev ie:= @Option.map_some
abbrev aT:= @Option.some.injEq
abbrev sH:= @Prod.mk.injEq
abbrev sJ:= @decide_eq_false
abbrev pN:= @decide_eq_true
abbrev gm:= @exists_eq_left
abbrev iR:= @exists_eq_left'
abbrev aO:= @if_neg
abbrev aY:= @if_pos
abbrev oI:= @of_decide_eq_true
inductive TC where
 |sc (v:Value)
 |sub (s:Nat) (rows:List (List TC))
 |any
 deriving Inhabited
inductive Mode where
 |snap|top|deep
 deriving DecidableEq,Inhabited
inductive CE where
 |sc (v:Value)
 |nil (z:Nat)
 |ref (o:Nat) (cut:Option (Int×Int))
 |snap (ds:List Nat) (loc:Option (Nat×Int×Nat)) (z:Nat) (rows:List (List TC))
 |gone
 deriving Inhabited
inductive ku where
 |mk (agg:Bool) (cs:List CE)
 |ptr (b:Nat)
inductive TE where
 |dead
 |v (tup:Bool) (es:List ku)
 |bp (b off:Nat)
 |ep (ds:List Nat) (cells:List TC)
 |er (o:Nat) (path:Option (Int×Nat)) (i:Int) (f:Nat)
 |fn (f:FuncId) (caps:List Nat)
 |kb (b:Bool)
 deriving Inhabited
structure OB where
 deep:Bool
 z:Nat
 rows:List (List TC)
structure TS where
 tm:List (Nat×TE)
 bx:List (Nat×List CE)
 ob:List (Nat×OB)
inductive TI where
 |int (k:IntKind)
 |bool
 |str
 |slice (e:TypeId)
 |ptr (e:TypeId)
 |struct (fs:List (Nat×TypeId))
 |other
 deriving Inhabited
structure gn where
 ti:TI
 size:Nat
 bytes:Nat
 flat:Bool
 zero:List TC
 eqs:List Nat:=[]
 deriving Inhabited
inductive TV where
 |c (c:TC)
 |ag (cs:List TC)
 |tu (vs:List (Nat×List TC))
 |bx (cs:List TC)
 |fn (f:FuncId) (caps:List (List TC))
inductive bg where
 |borrow|inout (ms:List Mode)|consume (ms:List Mode)
 deriving DecidableEq
def bg.mc:bg→Nat→Mode
 | .borrow,_=> .snap
 | .inout ms,j=>match ms[j]? with|some m=>m|none=> .deep
 | .consume ms,j=>match ms[j]? with|some m=>m|none=> .deep
structure Lo where
 ps:List bg
 shares:Bool
 res:List (List Mode)
 frz:Bool:=false
inductive wg where
 |nil
 |op (i:Nat) (fl:List Nat) (r:wg)
 |alt (a b:wg)
structure g9 where
 P:Program
 tt:TypeId→gn
 sig:FuncId→Lo
 lr:FuncId→Nat→List Nat
 lb:FuncId→Nat→List Nat
 Cs:FuncId→Nat→Option wg
 ext:FuncId→Option (List TV→Option (TV×List TV))
inductive TX where
 |norm|ex (id:Nat)|ret
 deriving DecidableEq
inductive Ev (R:Type) where
 |fail
 |ret (r:R)
 |test (b:Bool) (k:Bool→Ev R)
 |row (rows:List (List TC)) (i:Int) (k:List TC→Ev R)
 |byte (s:ByteArray) (i:Int) (k:Int→Ev R)
 |bytes (rows:List (List TC)) (k:List Int→Ev R)
 |call (f:FuncId) (vs:List TV) (k:TV→List TV→Ev R)
 |loop (f:FuncId) (i:Nat) (c:Code) (st:TS) (k:TX→TS→Ev R)
 |both (a b:Ev R)
@[irreducible] def dF (a b:Int):Bool:=decide (a<b)
@[irreducible] def rK (a b:Int):Bool:=decide (a≤b)
@[irreducible] def fT (a b:Int):Bool:=a==b
@[irreducible] def OI (a b:Bool):Bool:=a==b
@[irreducible] def Jc (a b:ByteArray):Bool:=a.toList==b.toList
@[irreducible] def Hy (a b:ByteArray):Bool:=Op.bytesLess a.toList b.toList
@[irreducible] def fits (n b:Nat):Bool:=decide (n*b≤140737488355328∧n≤140737488355328)
@[irreducible] def bL (rows:List (List TC)):Bool:=rows.all fun r=>r.all fun c=>match c with| .sc _=>true|_=>false
@[irreducible] def fU (l h n:Int):Bool:=decide (0≤l∧l≤h∧h≤n)
@[irreducible] def rowAt (rows:List (List TC)) (i:Int):Option (List TC):=if 0≤i then rows[i.toNat]? else none
@[irreducible] def zJ (s:ByteArray) (i:Int):Option Int:=if 0≤i then(s[i.toNat]?).map fun b=>(b.toNat:Int) else none
@[irreducible] def ay (rows:List (List TC)) (l h:Int):List (List TC):=(rows.take h.toNat).drop l.toNat
@[irreducible] def fW (z:Nat) (rows:List (List TC)) (l h:Int):List (List TC):=rows.take l.toNat++List.replicate (h.toNat-l.toNat) (List.replicate z .any)++rows.drop h.toNat
@[irreducible] def jE (rows aG:List (List TC)):List (List TC):=aG.take rows.length++rows.drop aG.length
@[irreducible] def setRow (rows:List (List TC)) (i:Int) (f:Nat) (cs:List TC):List (List TC):=
  match rows[i.toNat]? with
  |some r=>rows.set i.toNat (r.take f++cs++r.drop (f+cs.length))
  |none=>rows
@[irreducible] def Jd (a b:Int):Int:=if b<a then b else a
@[irreducible] def yy (n:Int):Nat:=n.toNat
@[irreducible] def yz (a b:Int):Int:=a+b
@[irreducible] def Je (k:IntKind) (a b:Int):Int:=k.wrap (a+b)
@[irreducible] def Cw (k:IntKind) (a b:Int):Int:=k.wrap (a-b)
@[irreducible] def Jf (k:IntKind) (a b:Int):Int:=k.wrap (a*b)
@[irreducible] def eM (k:IntKind) (a b:Int):Int:=k.wrap (a.tdiv b)
@[irreducible] def Jg (a b:Int):Int:=a.tmod b
@[irreducible] def Ra (k:IntKind) (a b:Int):Int:=k.wrap (a*2 ^ (min b.toNat k.bits))
@[irreducible] def Lq (k:IntKind) (a b:Int):Int:=a.fdiv (2 ^ (min b.toNat k.bits))
@[irreducible] def uO (op:BinOp) (k:IntKind) (a b:Int):Int:=Go.bits op k a b
@[irreducible] def AV (k:IntKind) (n:Int):Int:=k.wrap n
@[irreducible] def SH (a b:ByteArray):ByteArray:=a++b
@[irreducible] def SI (s:ByteArray) (l h:Int):ByteArray:=s.extract l.toNat h.toNat
def oC:List (List TC)→Option (List Int)
 |[]=>some []
 |[.sc (.int .u8 n)]::r=>(oC r).map fun ns=>n::ns
 |_=>none
@[irreducible] def qR (rows:List (List TC)):Option (List Int):=oC rows
@[irreducible] def Hz (ns:List Int):ByteArray:=⟨(ns.map fun n:Int=>UInt8.ofNat n.toNat).toArray⟩
@[irreducible] def wY (s:ByteArray):List (List TC):=s.data.toList.map fun b=>[TC.sc (.int .u8 b.toNat)]
abbrev one (c:CE):TE:= .v false [.mk false [c]]
abbrev S (v:Value):TE:=one (.sc v)
def gG (o:Nat):List Nat→Bool
 |[]=>false
 |a::r=>match Nat.beq a o with|true=>true|false=>gG o r
def HA (o:Nat):List Nat→List Nat
 |[]=>[]
 |a::r=>match Nat.beq a o with|true=>HA o r|false=>a::HA o r
def nQ:List Nat→List Nat→Bool
 |[],_=>false
 |a::r,l=>match gG a l with|true=>true|false=>nQ r l
section
variable {α : Type}
def aa (i:Nat):List (Nat×α)→Option α
 |[]=>none
 |(j,e)::r=>match Nat.beq j i with|true=>some e|false=>aa i r
def jn (i:Nat) (e:α):List (Nat×α)→List (Nat×α)
 |[]=>[(i,e)]
 |(j,e')::r=>match Nat.beq j i with
  |true=>(i,e)::r
  |false=>match Nat.ble i j with
   |true=>(i,e)::(j,e')::r
   |false=>(j,e')::jn i e r
def kz (i:Nat):List (Nat×α)→List (Nat×α)
 |[]=>[]
 |(j,e)::r=>match Nat.beq j i with|true=>kz i r|false=>(j,e)::kz i r
def mapA (f:α→α):List (Nat×α)→List (Nat×α)
 |[]=>[]
 |(j,e)::r=>(j,f e)::mapA f r
end
def TS.get (st:TS) (i:Nat):TE:=match aa i st.tm with|some e=>e|none=> .dead
def TS.set (st:TS) (i:Nat) (e:TE):TS:=⟨jn i e st.tm,st.bx,st.ob⟩
def TS.zK (st:TS) (i:Nat) (cs:List CE):TS:=⟨st.tm,jn i cs st.bx,st.ob⟩
def TS.Rb (st:TS) (i:Nat) (o:OB):TS:=⟨st.tm,st.bx,jn i o st.ob⟩
def gH (f:CE→CE):List ku→List ku
 |[]=>[]
 | .mk a cs::r=> .mk a (cs.map f)::gH f r
 | .ptr b::r=> .ptr b::gH f r
def qt (f:CE→CE) (g:TE→TE):TE→TE
 | .v tup es=> .v tup (gH f es)
 |e=>g e
def pO (f:CE→CE) (g:TE→TE) (h:List (Nat×OB)→List (Nat×OB)) (st:TS):TS:=
 ⟨mapA (qt f g) st.tm,mapA (List.map f) st.bx,h st.ob⟩
def dG:CE→List Nat
 | .ref o _=>[o]
 | .snap d _ _ _=>d
 |_=>[]
def eO:List ku→List Nat
 |[]=>[]
 | .mk _ cs::r=>cs.flatMap dG++eO r
 | .ptr _::r=>eO r
def qu:TE→List Nat
 | .v _ es=>eO es
 | .ep d _=>d
 | .er o _ _ _=>[o]
 |_=>[]
def E1 (o:Nat) (e:CE):CE:=match gG o (dG e) with|true=> .gone|false=>e
def Kk (o:Nat):TE→TE
 | .ep d cells=>match gG o d with|true=> .dead|false=> .ep d cells
 | .er p path i f=>match Nat.beq p o with|true=> .dead|false=> .er p path i f
 |e=>e
def iT (o:Nat) (st:TS):TS:=pO (E1 o) (Kk o) (kz o) st
def Jh (o:Nat) (e:CE):CE:=match e with
 | .snap d l z rows=>match gG o d with|true=> .gone|false=> .snap d l z rows
 |e=>e
def FU (o:Nat):TE→TE
 | .ep d cells=>match gG o d with|true=> .dead|false=> .ep d cells
 | .er p (some q) i f=>match Nat.beq p o with|true=> .dead|false=> .er p (some q) i f
 |e=>e
def ny (o:Nat) (b:OB) (st:TS):TS:=pO (Jh o) (FU o) (jn o b) st
def HB (cut:Option (Int×Int)) (rows:List (List TC)):List (List TC):=match cut with
 |none=>rows
 |some (l,h)=>ay rows l h
def Rc (o:Nat) (l:Option (Nat×Int×Nat)):Option (Nat×Int×Nat):=match l with
 |some (p,i,f)=>match Nat.beq p o with|true=>none|false=>some (p,i,f)
 |none=>none
def Ce (o:Nat) (b:OB) (e:CE):CE:=match e with
 | .ref p cut=>match Nat.beq p o with|true=> .snap [] none b.z (HB cut b.rows)|false=> .ref p cut
 | .snap d l z rows=> .snap (HA o d) (Rc o l) z rows
 |e=>e
def FV (o:Nat):TE→TE
 | .ep d cells=> .ep (HA o d) cells
 | .er p path i f=>match Nat.beq p o with|true=> .dead|false=> .er p path i f
 |e=>e
def pP (st:TS) (o:Nat):TS:=match aa o st.ob with
 |some b=>pO (Ce o b) (FV o) (kz o) st
 |none=>st
def uP (o:Nat) (b:OB) (st:TS):TS:=(iT o st).Rb o b
def fX:List (Nat×OB)→List (Nat×OB)→List (Nat×OB)
 |[],ob=>ob
 |(i,b)::r,ob=>jn i b (fX r ob)
def mo {α:Type}:List (Nat×α)→List Nat
 |[]=>[]
 |(o,_)::r=>o::mo r
def wh (l:List Nat) (e:CE):CE:=match e with
 | .snap d l' z rows=>match nQ d l with|true=> .gone|false=> .snap d l' z rows
 |e=>e
def rL (l:List Nat):TE→TE
 | .ep d cells=>match nQ d l with|true=> .dead|false=> .ep d cells
 | .er p (some q) i f=>match gG p l with|true=> .dead|false=> .er p (some q) i f
 |e=>e
def nB (W:List (Nat×OB)) (st:TS):TS:=match W with
 |[]=>st
 |W=>pO (wh (mo W)) (rL (mo W)) (fX W) st
section
variable {Z : Type}
def fL {α:Type} (f:α→(α→Z)→Z):List α→(List α→Z)→Z
 |[],K=>K []
 |a::r,K=>f a fun a'=>fL f r fun r'=>K (a'::r')
def fB (b:Bool) (K:Bool→Z):Z:=match b with|true=>K true|false=>K false
def fN (n:Nat) (K:Nat→Z):Z:=K n
def Qw (p:Option (Int×Nat)) (K:Option (Int×Nat)→Z):Z:=match p with|none=>K none|some (a,b)=>K (some (a,b))
def SJ (p:Option (Int×Int)) (K:Option (Int×Int)→Z):Z:=match p with|none=>K none|some (a,b)=>K (some (a,b))
def VD (p:Option (Nat×Int×Nat)) (K:Option (Nat×Int×Nat)→Z):Z:=match p with|none=>K none|some (a,b,c)=>K (some (a,b,c))
def fV (v:Value) (K:Value→Z):Z:=match v with
 | .int k n=>K (.int k n)
 | .bool b=>K (.bool b)
 | .string s=>K (.string s)
 |v=>K v
def SK (c:TC) (K:TC→Z):Z:=match c with| .sc v=>fV v fun v=>K (.sc v)| .sub z rows=>K (.sub z rows)| .any=>K .any
def TW (e:CE) (K:CE→Z):Z:=match e with
 | .sc v=>fV v fun v=>K (.sc v)
 | .nil z=>K (.nil z)
 | .ref o cut=>SJ cut fun cut=>K (.ref o cut)
 | .snap d l z rows=>fL fN d fun d=>VD l fun l=>K (.snap d l z rows)
 | .gone=>K .gone
def Ml (c:ku) (K:ku→Z):Z:=match c with
 | .mk a cs=>fB a fun a=>fL TW cs fun cs=>K (.mk a cs)
 | .ptr b=>K (.ptr b)
def Uv (e:TE) (K:TE→Z):Z:=match e with
 | .dead=>K .dead
 | .v tup es=>fB tup fun tup=>fL Ml es fun es=>K (.v tup es)
 | .bp b off=>K (.bp b off)
 | .ep d cells=>fL fN d fun d=>fL SK cells fun cells=>K (.ep d cells)
 | .er r path i f=>Qw path fun path=>K (.er r path i f)
 | .fn f caps=>K (.fn f caps)
 | .kb b=>fB b fun b=>K (.kb b)
def Uw (b:OB) (K:OB→Z):Z:=match b with|⟨d,z,rows⟩=>fB d fun d=>K ⟨d,z,rows⟩
def Mm (cs:List TC) (K:List TC→Z):Z:=fL SK cs K
def Re (v:TV) (K:TV→Z):Z:=match v with
 | .c c=>SK c fun c=>K (.c c)
 | .ag cs=>Mm cs fun cs=>K (.ag cs)
 | .tu vs=>fL (fun p K=>match p with|(i,cs)=>Mm cs fun cs=>K (i,cs)) vs fun vs=>K (.tu vs)
 | .bx cs=>Mm cs fun cs=>K (.bx cs)
 | .fn f caps=>K (.fn f caps)
def Lr (st:TS) (K:TS→Z):Z:=
 fL (fun p K=>match p with|(i,e)=>Uv e fun e=>K (i,e)) st.tm fun tm=>
 fL (fun p K=>match p with|(i,cs)=>fL TW cs fun cs=>K (i,cs)) st.bx fun bx=>
 fL (fun p K=>match p with|(i,b)=>Uw b fun b=>K (i,b)) st.ob fun ob=>K ⟨tm,bx,ob⟩
end
def jo (st:TS):CE→Option (Nat×List (List TC))
 | .nil z=>some (z,[])
 | .ref o cut=>match aa o st.ob with|some ⟨_,z,rows⟩=>some (z,HB cut rows)|none=>none
 | .snap _ _ z rows=>some (z,rows)
 |_=>none
def rM (st:TS) (e:CE):Option TC:=match e with
 | .sc v=>some (.sc v)
 |e=>match jo st e with|some (z,rows)=>some (.sub z rows)|none=>none
def nX (st:TS):List CE→Option (List TC)
 |[]=>some []
 |e::r=>match rM st e,nX st r with
  |some c,some cs=>some (c::cs)
  |_,_=>none
def FW (c:TC):CE:=match c with| .sc v=> .sc v| .sub z _=> .nil z| .any=> .gone
section
variable (C : g9)
def FX (ty:TypeId):Value→TE
 | .slice none 0 0=>match(C.tt ty).ti with
   | .slice e=>one (.nil (C.tt e).size)
   |_=> .dead
 | .int k n=>S (.int k n)
 | .bool b=> .kb b
 | .string s=>S (.string s)
 |_=> .dead
def lK (st:TS) (ty:TypeId):Operand→TE
 | .tmp i=>st.get i
 | .const v=>FX C ty v
 | .func f=> .fn f []
 | .global _=> .dead
def Mn:TE→Option Value
 | .v false [.mk false [.sc v]]=>some v
 | .kb b=>some (.bool b)
 |_=>none
def asInt:TE→Option Int
 | .v false [.mk false [.sc (.int _ n)]]=>some n
 |_=>none
def pH:TE→Option CE
 | .v false [.mk false [e]]=>some e
 | .kb b=>some (.sc (.bool b))
 |_=>none
def wj:TE→Option (List CE)
 | .v false [.mk _ cs]=>some cs
 | .kb b=>some [.sc (.bool b)]
 |_=>none
def Mo (op:BinOp):Value→Value→Option Value
 | .int k a,.int k' b=>
   match op with
   | .shl=>if 0≤b then some (.int k (Ra k a b)) else none
   | .shr=>if 0≤b then some (.int k (Lq k a b)) else none
   |_=>if k=k' then
    match op with
    | .add=>some (.int k (Je k a b))
    | .sub=>some (.int k (Cw k a b))
    | .mul=>some (.int k (Jf k a b))
    | .and=>some (.int k (uO .and k a b))
    | .or=>some (.int k (uO .or k a b))
    | .xor=>some (.int k (uO .xor k a b))
    | .eql=>some (.bool (fT a b))
    | .neq=>some (.bool (!fT a b))
    | .lss=>some (.bool (dF a b))
    | .leq=>some (.bool (rK a b))
    | .gtr=>some (.bool (dF b a))
    | .geq=>some (.bool (rK b a))
    |_=>none
    else none
 | .string a,.string b=>match op with
   | .eql=>some (.bool (Jc a b))
   | .neq=>some (.bool (!Jc a b))
   | .lss=>some (.bool (Hy a b))
   | .leq=>some (.bool (Hy a b||Jc a b))
   | .gtr=>some (.bool (!(Hy a b||Jc a b)))
   | .geq=>some (.bool (!Hy a b))
   |_=>none
 |_,_=>none
def pQ:List Nat→List CE→List CE→Option Bool
 |[],[],[]=>some true
 |1::ks,.sc (.int k a)::r,.sc (.int k' b)::r'=>if k=k' then(match pQ ks r r' with|some q=>some (fT a b&&q)|none=>none) else none
 |2::ks,.sc (.bool a)::r,.sc (.bool b)::r'=>match pQ ks r r' with|some q=>some (OI a b&&q)|none=>none
 |3::ks,.sc (.string a)::r,.sc (.string b)::r'=>match pQ ks r r' with|some q=>some (Jc a b&&q)|none=>none
 |_,_,_=>none
def yA (t:TypeId):Bool:=match(C.tt t).ti with| .struct _=>true|_=>false
def kC (t:TypeId) (f:Nat):Option (Nat×TypeId):=match(C.tt t).ti with| .struct fs=>fs[f]?|_=>none
def OW (t:TypeId) (f:Nat):TypeId:=match kC C t f with|some (_,ft)=>ft|none=>0
def qv (t:TypeId):Option TypeId:=match(C.tt t).ti with| .slice e=>some e|_=>none
def Rf (ds:List Nat) (loc:Option (Nat×Int×Nat)) (j:Nat) (c:TC):CE:=
 match c with
 | .sc v=> .sc v
 | .sub z rows=> .snap ds (match loc with|some (o,i,f)=>some (o,i,f+j)|none=>none) z rows
 | .any=> .gone
def rN (ds:List Nat) (loc:Option (Nat×Int×Nat)):Nat→List TC→List CE
 |_,[]=>[]
 |j,c::r=>Rf ds loc j c::rN ds loc (j+1) r
def known (i:gn):Bool:=match i.ti with| .other=>false|_=>true
def qw (i:gn):Bool:=match i.ti with| .other=>false| .ptr _=>false|_=>true
def Mq (t:TypeId) (xs:List CE):TE:= .v false [.mk (yA C t) xs]
variable {R : Type}
def wZ (t:TypeId) (xs:List CE) (K:TE→Ev R):Ev R:=match known (C.tt t),Nat.beq xs.length (C.tt t).size with
 |true,true=>K (Mq C t xs)
 |_,_=> .fail
def FY (e:TypeId) (z:Nat):Bool:=match known (C.tt e) with|true=>Nat.beq z (C.tt e).size|false=>false
def Kl (st:TS) (o:Nat) (path:Option (Int×Nat)) (i:Int) (f:Nat) (K:List TC→Ev R):Ev R:=
 match aa o st.ob with
 |some ⟨_,_,rows⟩=>match path with
  |none=> .row rows i fun row=>K (row.drop f)
  |some (i0,f0)=> .row rows i0 fun row0=>match row0[f0]? with
   |some (.sub _ kL)=> .row kL i fun row=>K (row.drop f)
   |_=> .fail
 |none=> .fail
def w4 (st:TS) (t:TypeId) (e:TE) (K:TE→Ev R):Ev R:=
 match e with
 | .bp b off=>match aa b st.bx with
   |some cs=>wZ C t ((cs.drop off).take (C.tt t).size) K
   |none=> .fail
 | .ep ds cells=>wZ C t (rN ds none 0 (cells.take (C.tt t).size)) K
 | .er o path i f=>Kl st o path i f fun cells=>
     wZ C t (rN [o] (match path with|none=>some (o,i,f)|some _=>none) 0 (cells.take (C.tt t).size)) K
 |_=> .fail
def rO (t:TypeId):List (Nat×TE)→List CE→Option (List CE)
 |[],cs=>some cs
 |(f,e)::r,cs=>match kC C t f,wj e with
  |some (off,ft),some c=>match Nat.beq c.length (C.tt ft).size with
   |true=>rO t r (cs.take off++c++cs.drop (off+c.length))
   |false=>none
  |_,_=>none
def Cg (st:TS):List Operand→Option (List Nat)
 |[]=>some []
 |x::r=>match lK C st 0 x,Cg st r with
  | .bp b 0,some bs=>some (b::bs)
  |_,_=>none
def bound (st:TS) (d:Int):Option Operand→Option Int
 |none=>some d
 |some a=>asInt (lK C st 0 a)
def plain:TE→TE
 | .kb b=>S (.bool b)
 |e=>e
def Mr (e:CE) (l h:Int):CE:=match e with
 | .nil z=> .nil z
 | .ref o none=> .ref o (some (l,h))
 | .ref o (some (a,_))=> .ref o (some (yz a l,yz a h))
 | .snap ds _ z rows=> .snap ds none z (ay rows l h)
 |e=>e
def Ms (e:CE) (n:Int) (cells:List TC):TE:=match e with
 | .ref o none=> .er o none n 0
 | .ref o (some _)=> .ep [o] cells
 | .snap _ (some (o,i,f)) _ _=> .er o (some (i,f)) n 0
 | .snap ds none _ _=> .ep ds cells
 |_=> .dead
def Ch (t:TypeId):Bool:=match(C.tt t).ti with| .bool=>true|_=>false
def Rh (bt:Bool) (op:BinOp) (a b:Value) (K:TE→Ev R):Ev R:=match op,a,b with
 | .eql,.bool p,.bool q=>match bt with|true=>K (S (.bool (OI p q)))|false=> .fail
 | .neq,.bool p,.bool q=>match bt with|true=>K (S (.bool (!OI p q)))|false=> .fail
 | .rem,.int k p,.int k' q=>if k=k' then .test (fT q 0) fun z=>match z with
     |false=>K (S (.int k (Jg p q)))
     |true=> .fail
   else .fail
 | .quo,.int k p,.int k' q=>if k=k' then .test (fT q 0) fun z=>match z with
     |false=>K (S (.int k (eM k p q)))
     |true=> .fail
   else .fail
 | .add,.string p,.string q=> .test (fits (p.size+q.size) 1) fun z=>match z with
   |true=>K (S (.string (SH p q)))
   |false=> .fail
 |_,_,_=>match Mo op a b with
  |some v=>K (S v)
  |none=> .fail
def Ri (st:TS) (t:TypeId) (e:CE) (K:Value→Ev R):Ev R:=match(C.tt t).ti,e with
 | .str,.sc (.string s)=>K (.int .i64 s.size)
 | .slice _,e=>match jo st e with
   |some (_,rows)=>K (.int .i64 rows.length)
   |none=> .fail
 |_,_=> .fail
def eC (st:TS) (o:Oper) (K:TE→Ev R):Ev R:=
 match o.op with
 | .move x=>K (lK C st o.type x)
 | .assign x=>K (lK C st o.type x)
 | .pick c a b=>match lK C st o.type c with
   | .kb p=>match p with
     |true=>K (lK C st o.type a)
     |false=>K (lK C st o.type b)
   |_=> .fail
 | .load t a=>w4 C st t (lK C st 0 a) K
 | .nilCheck x=>match lK C st 0 x with
   | .bp b off=>K (.bp b off)
   | .ep d c=>K (.ep d c)
   | .er r p i f=>K (.er r p i f)
   |_=> .fail
 | .binOp op t x y _=>match plain (lK C st t x),plain (lK C st t y) with
   | .v false [.mk false [.sc a]],.v false [.mk false [.sc b]]=>Rh (Ch C t) op a b K
   | .v false [.mk true xs],.v false [.mk true ys]=>match known (C.tt t),(C.tt t).eqs with
     |false,_=> .fail
     |true,[]=> .fail
     |true,k::ks=>match op,pQ (k::ks) xs ys with
      | .eql,some b=>K (S (.bool b))
      | .neq,some b=>K (S (.bool (!b)))
      |_,_=> .fail
   |_,_=> .fail
 | .unOp op _ x=>match op,lK C st o.type x with
   | .not,.kb b=>match b with|true=>K (.kb false)|false=>K (.kb true)
   | .not,.v false [.mk false [.sc (.bool b)]]=>K (S (.bool (!b)))
   | .neg,.v false [.mk false [.sc (.int k n)]]=>K (S (.int k (Cw k 0 n)))
   |_,_=> .fail
 | .convert src dst x=>match(C.tt dst).ti,(C.tt src).ti,lK C st src x with
   | .int k,.int _,.v false [.mk false [.sc (.int _ n)]]=>K (S (.int k (AV k n)))
   | .str,.str,.v false [.mk false [.sc (.string s)]]=>K (S (.string s))
   | .str,.slice et,.v false [.mk false [e]]=>match(C.tt et).ti,jo st e with
     | .int .u8,some (_,rows)=> .bytes rows fun ns=>K (S (.string (Hz ns)))
     |_,_=> .fail
   |_,_,_=> .fail
 | .fieldAddr s x f=>match kC C s f,lK C st 0 x with
   |some (off,_),.bp b o=>K (.bp b (o+off))
   |some (off,_),.ep d cells=>K (.ep d (cells.drop off))
   |some (off,_),.er r p i g=>K (.er r p i (g+off))
   |_,_=> .fail
 | .field t x f=>match kC C t f,lK C st t x with
   |some (off,ft),.v false [.mk true cs]=>wZ C ft ((cs.drop off).take (C.tt ft).size) K
   |_,_=> .fail
 | .indexAddr t x i=>match qv C t,pH (lK C st t x),asInt (lK C st 0 i) with
   |some et,some e,some n=>match jo st e with
    |some (z,rows)=>match FY C et z with
     |true=> .row rows n fun cells=>K (Ms e n cells)
     |false=> .fail
    |none=> .fail
   |_,_,_=> .fail
 | .index t x i=>match(C.tt t).ti,Mn (lK C st t x),asInt (lK C st 0 i) with
   | .str,some (.string s),some n=> .byte s n fun b=>K (S (.int .u8 b))
   |_,_,_=> .fail
 | .slice t x lo hi mx=>match mx,(C.tt t).ti,pH (lK C st t x) with
   |none,.str,some (.sc (.string s))=>match bound C st 0 lo,bound C st s.size hi with
    |some l,some h=> .test (fU l h s.size) fun z=>match z with
     |true=>K (S (.string (SI s l h)))
     |false=> .fail
    |_,_=> .fail
   |none,.slice et,some e=>match jo st e with
    |some (z,rows)=>match FY C et z,bound C st 0 lo,bound C st rows.length hi with
     |true,some l,some h=> .test (fU l h rows.length) fun b=>match b with
      |true=>K (one (Mr e l h))
      |false=> .fail
     |_,_,_=> .fail
    |none=> .fail
   |_,_,_=> .fail
 | .extract x i=>match lK C st 0 x with
   | .v true es=>match es[i]? with
     |some (.mk a cs)=>K (.v false [.mk a cs])
     |some (.ptr b)=>K (.bp b 0)
     |none=> .fail
   |_=> .fail
 | .build t ps=>match yA C t,rO C t (ps.toList.map fun p=>(p.1,lK C st (OW C t p.1) p.2)) ((C.tt t).zero.map FW) with
   |true,some cs=>K (.v false [.mk true cs])
   |_,_=> .fail
 | .makeFunc fn first caps=>match fn,first.toList,Cg C st caps.toList with
   | .func f,[],some bs=>K (.fn f bs)
   |_,_,_=> .fail
 | .call {callee:= .builtin .len,args,argTypes}=>match args.toList,argTypes.toList with
   |[x],[t]=>match pH (lK C st t x) with
    |some e=>Ri C st t e fun v=>K (S v)
    |none=> .fail
   |_,_=> .fail
 | .call {callee:= .builtin .min,args,argTypes}=>match args.toList,argTypes.toList with
   |[x,y],t::_=>match Mn (lK C st t x),asInt (lK C st t y) with
    |some (.int k a),some b=>K (S (.int k (Jd a b)))
    |_,_=> .fail
   |_,_=> .fail
 |_=> .fail
def jF (e:CE) (st:TS):Option (TC×TS×Bool):=
 match e with
 | .sc v=>some (.sc v,st,true)
 | .nil z=>some (.sub z [],st,true)
 | .ref o cut=>match aa o st.ob with
   |some ⟨d,z,rows⟩=>some (.sub z (HB cut rows),iT o st,d)
   |none=>none
 | .snap [] _ z rows=>some (.sub z rows,st,false)
 |_=>none
def Cx:List CE→TS→Option (List TC×TS×Bool)
 |[],st=>some ([],st,true)
 |e::r,st=>match jF e st with
  |some (c,bY,d1)=>match Cx r bY with
   |some (cs,jA,d2)=>some (c::cs,jA,d1&&d2)
   |none=>none
  |none=>none
def rowsOf (st:TS) (ty:TypeId):List (Nat×Operand)→Nat→Option (List (List TC)×TS×Bool)
 |[],_=>some ([],st,true)
 |(i,x)::r,n=>match Nat.beq i n,wj (lK C st ty x) with
  |true,some cs=>match Nat.beq cs.length (C.tt ty).size,Cx cs st with
   |true,some (cs',bY,d1)=>match rowsOf bY ty r (n+1) with
    |some (rs,jA,d2)=>some (cs'::rs,jA,d1&&d2)
    |none=>none
   |_,_=>none
  |_,_=>none
def mh (d k j:Nat):Nat:=1000+400*d+20*k+j
def Rj (b j:Nat):Nat:=1000000000+100*b+j
def qJ (b:Nat):Bool:=match Nat.ble 200000 b with|true=>Nat.ble 300000 b|false=>true
def Qx (b:Nat):ku→Bool
 | .ptr c=>Nat.beq c b
 | .mk _ _=>false
def Cy (b:Nat):TE→Bool
 | .bp c _=>Nat.beq c b
 | .fn _ caps=>gG b caps
 | .v _ es=>es.any (Qx b)
 |_=>false
def E2 (b:Nat) (st:TS):TS:=⟨mapA (fun e=>match Cy b e with|true=> .dead|false=>e) st.tm,kz b st.bx,st.ob⟩
def zL (b:Nat) (cs:List CE) (st:TS):TS:=(E2 b st).zK b cs
def setCells (f:Nat) (cs:List TC) (rows:List (List TC)) (i:Int):List (List TC):=setRow rows i f cs
def Cz (o:Nat) (e:CE):CE:=match e with
 | .snap d (some (p,i,f)) z rows=>match Nat.beq p o with|true=> .snap [] none z rows|false=> .snap d (some (p,i,f)) z rows
 |e=>e
def Qy (o:Nat):TE→TE
 | .er p (some q) i f=>match Nat.beq p o with|true=> .dead|false=> .er p (some q) i f
 |e=>e
def Eb (b:OB):OB:=⟨false,b.z,b.rows⟩
def qS (o:Nat) (st:TS):TS:=match aa o st.ob with
 |some b=>pO (Cz o) (Qy o) (jn o (Eb b)) st
 |none=>st
def Ji (o:Nat):List CE→Bool
 |[]=>false
 | .snap _ (some (p,_,_)) _ _::r=>match Nat.beq p o with|true=>true|false=>Ji o r
 |_::r=>Ji o r
def yB (o:Nat) (path:Option (Int×Nat)) (i:Int) (f:Nat) (cs:List CE) (st:TS) (K:TS→Ev R):Ev R:=
 match Cx cs st with
 |some (ts,bY,d1)=>match aa o bY.ob with
  |some ⟨d,z,rows⟩=>match path with
   |none=> .row rows i fun row=>match Nat.ble (f+ts.length) row.length with
    |true=>K (nB [(o,⟨d&&d1,z,setRow rows i f ts⟩)] bY)
    |false=> .fail
   |some (i0,f0)=>match d,d1 with
    |true,true=> .row rows i0 fun row0=>match row0[f0]? with
     |some (.sub z1 kL)=> .row kL i fun row=>match Nat.ble (f+ts.length) row.length with
      |true=>K (nB [(o,⟨true,z,setRow rows i0 f0 [.sub z1 (setRow kL i f ts)]⟩)] bY)
      |false=> .fail
     |_=> .fail
    |_,_=> .fail
  |none=> .fail
 |none=> .fail
def Ci:List CE→Bool
 |[]=>false
 | .gone::_=>true
 |_::r=>Ci r
def CA (b off:Nat) (cs:List CE) (st:TS):Option TS:=
 match aa b st.bx with
 |some old=>match qJ b&& !Ci cs,Nat.ble (off+cs.length) old.length with
  |true,true=>some (st.zK b (old.take off++cs++old.drop (off+cs.length)))
  |_,_=>none
 |none=>none
def qx (st:TS) (e:CE):Option (Option Nat×Nat×Bool×List (List TC)):=
 match e with
 | .nil z=>some (none,z,true,[])
 | .ref o cut=>match aa o st.ob with
   |some ⟨d,z,rows⟩=>some (some o,z,d,HB cut rows)
   |none=>none
 |_=>none
def jw (o:Option Nat) (st:TS):TS:=match o with|some o=>iT o st|none=>st
def pI (d:Nat) (b:OB) (st:TS):TS:=(uP (mh d 0 0) b st).set d (one (.ref (mh d 0 0) none))
def zM (e:TypeId) (z:Nat):Bool:=match qw (C.tt e) with|true=>Nat.beq z (C.tt e).size|false=>false
def xB (g o':Nat) (b:OB) (l h:Int) (st:TS):TS:=uP g ⟨true,1,[]⟩ (ny o' ⟨b.deep,b.z,fW b.z b.rows l h⟩ st)
def Jj (d:Nat) (o:Option Nat) (dp:Bool) (cx:CE) (st:TS):Option (Nat×List (List TC)×TS):=match cx with
 | .ref o' (some (l,h))=>match dp,aa o' st.ob,(match o with|some o=>Nat.beq o o'||Nat.beq o (mh d 1 0)|none=>false)||Nat.beq o' (mh d 1 0) with
   |true,some ⟨true,z,rows⟩,false=>some (z,ay rows l h,iT (mh d 1 0) (jw o (xB (mh d 1 0) o' ⟨true,z,rows⟩ l h st)))
   |_,_,_=>none
 |_=>none
def Mt (st:TS) (cx:CE):Option (Nat×List (List TC)):=match cx with
 | .ref o' cut=>match aa o' st.ob with
   |some ⟨false,z,rows⟩=>some (z,HB cut rows)
   |_=>none
 |_=>none
def Km (st:TS) (d:Nat) (t t':TypeId) (s:TE) (x:TE) (K:TS→Ev R):Ev R:=
 match qv C t,pH s,pH x with
 |some e,some cs,some cx=>match qx st cs,(C.tt t').ti with
  |some (o,z,dp,rows),.str=>match zM C e z,Nat.beq z 1,cx with
   |true,true,.sc (.string b)=> .test (fits (rows.length+b.size) (C.tt e).bytes) fun q=>match q with
    |true=>K (pI d ⟨dp,z,rows++wY b⟩ (jw o st))
    |false=> .fail
   |_,_,_=> .fail
  |some (o,z,dp,rows),.slice _=>match zM C e z with
   |false=> .fail
   |true=>match(C.tt e).flat with
     |true=>match jo st cx with
      |some (z',aG)=>match Nat.beq z z' with
       |true=> .test (bL aG&&fits (rows.length+aG.length) (C.tt e).bytes) fun q=>match q with
        |true=>K (pI d ⟨dp,z,rows++aG⟩ (jw o st))
        |false=> .fail
       |false=> .fail
      |none=> .fail
     |false=>match Jj d o dp cx st with
      |some (z',aG,bY)=>match Nat.beq z z' with
        |true=> .test (fits (rows.length+aG.length) (C.tt e).bytes) fun q=>match q with
         |true=>K (pI d ⟨dp,z,rows++aG⟩ bY)
         |false=> .fail
        |false=> .fail
      |none=>match Mt st cx with
       |some (z',aG)=>match Nat.beq z z' with
        |true=> .test (fits (rows.length+aG.length) (C.tt e).bytes) fun q=>match q with
         |true=>K (pI d ⟨false,z,rows++aG⟩ (jw o st))
         |false=> .fail
        |false=> .fail
       |none=>match jF cx (jw o st) with
       |some (.sub z' aG,bY,d1)=>match Nat.beq z z' with
        |true=> .test (fits (rows.length+aG.length) (C.tt e).bytes) fun q=>match q with
         |true=>K (pI d ⟨dp&&d1,z,rows++aG⟩ bY)
         |false=> .fail
        |false=> .fail
       |_=> .fail
  |_,_=> .fail
 |_,_,_=> .fail
def Qz (st:TS) (d:Option Nat) (t:TypeId) (s:TE) (x:TE) (K:TS→Ev R):Ev R:=
 match qv C t,pH s,pH x with
 |some e,some (.ref o none),some cx=>match aa o st.ob,jo st cx,qw (C.tt e) with
  |some ⟨true,z,rows⟩,some (z',aG),true=>match Nat.beq z z'&&Nat.beq z (C.tt e).size with
   |true=> .test (bL aG) fun q=>match q with
    |true=>match d with
     |some d=>K ((ny o ⟨true,z,jE rows aG⟩ st).set d (one (.sc (.int .i64 (Int.ofNat (qP aG.length rows.length))))))
     |none=>K (ny o ⟨true,z,jE rows aG⟩ st)
    |false=> .fail
   |false=> .fail
  |_,_,_=> .fail
 |_,_,_=> .fail
def FZ (st:TS):List Nat→Option (List (List TC))
 |[]=>some []
 |b::r=>match aa b st.bx with
  |some cs=>match nX st cs,FZ st r with
   |some c,some cs=>some (c::cs)
   |_,_=>none
  |none=>none
def Mu (st:TS) (e:TE) (K:TV→Ev R):Ev R:=
 match e with
 | .v false [.mk a cs]=>match nX st cs with
   |some ts=>match a,ts with
    |true,ts=>K (.ag ts)
    |false,[c]=>K (.c c)
    |_,_=> .fail
   |none=> .fail
 | .kb b=>K (.c (.sc (.bool b)))
 | .bp b off=>match aa b st.bx with
   |some cs=>match nX st (cs.drop off) with
    |some ts=>K (.bx ts)
    |none=> .fail
   |none=> .fail
 | .ep _ (c::cells)=>K (.bx (c::cells))
 | .er r p i f=>Kl st r p i f fun cells=>match cells with
   |[]=> .fail
   |c::cells=>K (.bx (c::cells))
 | .fn f caps=>match FZ st caps with
   |some xs=>K (.fn f xs)
   |none=> .fail
 |_=> .fail
def HC (st:TS):List TE→(List TV→Ev R)→Ev R
 |[],K=>K []
 |e::r,K=>Mu st e fun v=>HC st r fun vs=>K (v::vs)
def rP (st:TS) (b:Nat):List Nat:=match aa b st.bx with
 |some cs=>(2*b+1)::(cs.flatMap dG).map (2* ·)
 |none=>[2*b+1]
def lM (st:TS):TE→List Nat
 | .v _ es=>(eO es).map (2* ·)
 | .ep d _=>d.map (2* ·)
 | .er o _ _ _=>[2*o]
 | .bp b _=>rP st b
 | .fn _ caps=>caps.flatMap (rP st)
 |_=>[]
def pR (st:TS) (o:Nat):Bool:=match aa o st.ob with|some ⟨true,_,_⟩=>true|_=>false
def zN (st:TS) (o:Nat):Bool:=match aa o st.ob with|some ⟨false,_,_⟩=>true|_=>false
def lN (st:TS) (c:Bool):List Mode→List CE→Option (List Nat)
 |_,[]=>some []
 |ms,e::r=>match lN st c (ms.drop 1) r with
  |some l=>match ms.headD .deep,e with
   |_,.sc _=>some l
   |_,.nil _=>some l
   | .snap,.snap [] none _ _=>some l
   | .snap,_=>none
   | .top,.ref o none=>match zN st o with|true=>some ((2*o)::l)|false=>none
   | .top,_=>none
   |_,.ref o none=>match pR st o with|true=>some ((2*o)::l)|false=>none
   |_,.ref o (some _)=>match c,pR st o with|true,true=>some ((2*o)::l)|_,_=>none
   |_,.snap _ (some (o,_,_)) _ _=>match c,pR st o with|false,true=>some ((2*o)::l)|_,_=>none
   |_,_=>none
  |none=>none
def k9 (st:TS) (c:Bool) (ms:List Mode) (e:TE):Option (List Nat):=match e with
 | .v false [.mk _ cs]=>match c,ms with|true,ms=>lN st true ms cs|false,[]=>lN st false [] cs|_,_=>none
 | .bp b 0=>match c,qJ b,aa b st.bx with
   |false,true,some cs=>match lN st true ms cs with
    |some l=>some ((2*b+1)::l)
    |none=>none
   |_,_,_=>none
 |_=>none
def bg.ms:bg→List Mode
 | .inout ms=>ms
 | .consume ms=>ms
 |_=>[]
def xC:List Nat→Bool
 |[]=>true
 |a::r=>match gG a r with|true=>false|false=>xC r
def rQ (st:TS):List bg→List TE→Option (List Nat×List Nat)
 |[],[]=>some ([],[])
 |p::ps,e::es=>match rQ st ps es with
  |some (own,rd)=>match p with
   | .borrow=>some (own,lM st e++rd)
   | .inout ms=>match k9 st false ms e with|some l=>some (l++own,rd)|none=>none
   | .consume ms=>match k9 st true ms e with|some l=>some (l++own,rd)|none=>none
  |none=>none
 |_,_=>none
def nY:List CE→TS→TS
 |[],st=>st
 | .ref o _::r,st=>nY r (iT o st)
 |_::r,st=>nY r st
def mw (st:TS) (e:CE) (c:TC):Option (List (Nat×OB)):=
 match e,c with
 | .sc _,.sc _=>some []
 | .nil _,.sub _ []=>some []
 | .ref o none,.sub z rows=>match aa o st.ob with
   |some ⟨true,z0,_⟩=>match Nat.beq z z0 with|true=>some [(o,⟨true,z,rows⟩)]|false=>none
   |_=>none
 | .snap _ (some (o,i,f)) z0 _,.sub z' aG=>match aa o st.ob,Nat.beq z' z0 with
   |some ⟨true,z,rows⟩,true=>some [(o,⟨true,z,setRow rows i f [.sub z' aG]⟩)]
   |_,_=>none
 |_,_=>none
def Cj (st:TS):List CE→List TC→Option (List (Nat×OB))
 |[],[]=>some []
 |e::r,c::cs=>match mw st e c,Cj st r cs with
  |some a,some b=>some (a++b)
  |_,_=>none
 |_,_=>none
def bw (f:Nat→Nat):List Mode→Nat→List TC→TS→List CE×TS
 |_,_,[],st=>([],st)
 |ms,j,c::cs,st=>match c with
  | .sc v=>match bw f (ms.drop 1) (j+1) cs st with|(r,st')=>(.sc v::r,st')
  | .sub z rows=>match ms.headD .snap with
    | .snap=>match bw f (ms.drop 1) (j+1) cs st with|(r,st')=>(.snap [] none z rows::r,st')
    | .top=>match bw f (ms.drop 1) (j+1) cs (uP (f j) ⟨false,z,rows⟩ st) with|(r,st')=>(.ref (f j) none::r,st')
    | .deep=>match bw f (ms.drop 1) (j+1) cs (uP (f j) ⟨true,z,rows⟩ st) with|(r,st')=>(.ref (f j) none::r,st')
  | .any=>match bw f (ms.drop 1) (j+1) cs st with|(r,st')=>(.gone::r,st')
def mX (kj:TS):List bg→List TE→TS→TS
 |p::ps,e::es,st=>match p,e with
  | .consume _,.v false [.mk _ cs]=>mX kj ps es (nY cs st)
  | .inout _,.bp b _=>match aa b kj.bx with
    |some cs=>mX kj ps es ⟨(nY cs st).tm,kz b (nY cs st).bx,(nY cs st).ob⟩
    |none=>mX kj ps es st
  |_,_=>mX kj ps es st
 |_,_,st=>st
def nZ (st:TS):List bg→List TE→List TV→Option (List (Nat×OB)×List (Nat×List Mode×List TC))
 |p::ps,e::es,fs=>match p with
  | .inout ms=>match e,fs with
    | .v false [.mk false [e]],.c c::fs=>match mw st e c,nZ st ps es fs with
      |some a,some (b,bs)=>some (a++b,bs)
      |_,_=>none
    | .v false [.mk true cs],.ag ts::fs=>match Cj st cs ts,nZ st ps es fs with
      |some a,some (b,bs)=>some (a++b,bs)
      |_,_=>none
    | .bp b 0,.bx ts::fs=>match aa b st.bx,nZ st ps es fs with
      |some cs,some (a,bs)=>match Nat.beq cs.length ts.length with|true=>some (a,(b,ms,ts)::bs)|false=>none
      |_,_=>none
    |_,_=>none
  |_=>nZ st ps es fs
 |[],[],[]=>some ([],[])
 |_,_,_=>none
def HD:List Mode→List TC→List Mode
 |_,[]=>[]
 |ms,_::r=>(match ms.headD .deep with| .snap=> .snap|_=> .deep)::HD (ms.drop 1) r
def yC:List (Nat×List Mode×List TC)→TS→TS
 |[],st=>st
 |(b,ms,ts)::r,st=>match bw (Rj b) (HD ms ts) 0 ts st with
  |(cs,st')=>yC r (st'.zK b cs)
def mz (st:TS):List Nat→TS
 |[]=>st
 |o::r=>mz (pP st o) r
def uQ (st:TS):TE→List Nat
 | .bp b _=>match aa b st.bx with|some cs=>cs.flatMap dG|none=>[]
 | .fn _ caps=>caps.flatMap fun b=>match aa b st.bx with|some cs=>cs.flatMap dG|none=>[]
 |e=>qu e
def borrowed (st:TS):List bg→List TE→List Nat
 | .borrow::ps,e::es=>uQ st e++borrowed st ps es
 |_::ps,_::es=>borrowed st ps es
 |_,_=>[]
def oc (d k:Nat):Nat:=400000+20*d+k
def dY (d:Nat):Nat→List (List Mode)→List (Nat×List TC)→TS→List ku×TS
 |_,_,[],st=>([],st)
 |k,ms,(a,cs)::r,st=>match bw (mh d k) (ms.headD []) 0 cs st with
  |(cs',st')=>match Nat.beq a 2 with
   |true=>match dY d (k+1) (ms.drop 1) r (zL (oc d k) cs' st') with
    |(es,AN)=>(.ptr (oc d k)::es,AN)
   |false=>match dY d (k+1) (ms.drop 1) r st' with
    |(es,AN)=>(.mk (Nat.beq a 1) cs'::es,AN)
def wk:List (Nat×List TC)→Bool
 |[]=>true
 |(_,cs)::r=>match Nat.ble cs.length 20 with|true=>wk r|false=>false
def Mv (d:Nat) (ms:List (List Mode)) (v:TV) (st:TS):Option TS:=
 match v with
 | .c c=>match bw (mh d 0) (ms.headD []) 0 [c] st with|(cs,st')=>some (st'.set d (.v false [.mk false cs]))
 | .ag cs=>match bw (mh d 0) (ms.headD []) 0 cs st with|(cs,st')=>some (st'.set d (.v false [.mk true cs]))
 | .tu vs=>match wk vs with
   |true=>match dY d 0 ms vs st with|(es,st')=>some (st'.set d (.v true es))
   |false=>none
 | .bx cs=>match bw (mh d 0) (ms.headD []) 0 cs st with|(cs',st')=>some ((zL (oc d 0) cs' st').set d (.bp (oc d 0) 0))
 |_=>none
def pT:TV→Bool
 | .c _=>true
 | .ag cs=>Nat.ble cs.length 16
 | .bx cs=>Nat.ble cs.length 16
 | .fn _ caps=>Nat.ble caps.length 900
 | .tu _=>false
def kD:List TV→Bool
 |[]=>true
 |v::r=>match pT v with|true=>kD r|false=>false
def oJ (vs:List TV):Bool:=match Nat.ble vs.length 50 with|true=>kD vs|false=>false
def uR (sh:Bool) (st:TS) (ps:List bg) (es:List TE):TS:=match sh with
 |true=>mz (mX st ps es st) (borrowed st ps es)
 |false=>mX st ps es st
def jS:List Mode→List TC→Bool
 |_,[]=>true
 |ms,.sc _::r=>jS (ms.drop 1) r
 |ms,.sub _ _::r=>match ms.headD .snap with| .deep=>jS (ms.drop 1) r|_=>false
 |ms,.any::r=>match ms.headD .snap with| .deep=>jS (ms.drop 1) r|_=>false
def Ck:List (List Mode)→List (Nat×List TC)→Bool
 |_,[]=>true
 |ms,(_,cs)::r=>match jS (ms.headD []) cs with|true=>Ck (ms.drop 1) r|false=>false
def Kn (ms:List (List Mode)):TV→Bool
 | .c c=>jS (ms.headD []) [c]
 | .ag cs=>jS (ms.headD []) cs
 | .bx cs=>jS (ms.headD []) cs
 | .tu vs=>Ck ms vs
 | .fn _ _=>false
def F0:List bg→Bool
 |[]=>true
 | .inout (_::_)::_=>false
 |_::r=>F0 r
def Mw:List bg→Bool
 |[]=>true
 | .inout (_::_)::_=>false
 | .consume (_::_)::_=>false
 |_::r=>Mw r
def Jk (g:Lo) (r:TV):Bool:=match g.shares with
 |true=>true
 |false=>match F0 g.ps with|true=>Kn g.res r|false=>false
def yD (d:Option Tmp) (f:FuncId) (es:List TE) (st:TS) (K:TS→Ev R):Ev R:=
 match rQ st (C.sig f).ps es with
 |some (own,rd)=>match xC own,nQ own rd,(C.sig f).shares&&gG 0 rd with
  |true,false,false=>HC st es fun vs=>match oJ vs with
   |true=> .call f vs fun r fs=>match Jk (C.sig f) r with
    |false=> .fail
    |true=>match nZ st (C.sig f).ps es fs with
     |some (W,B)=>Lr (yC B (nB W (uR (C.sig f).shares st (C.sig f).ps es))) fun jA=>match d with
      |some d=>match Mv d (C.sig f).res r jA with
       |some st4=>K st4
       |none=> .fail
      |none=>K jA
     |none=> .fail
   |false=> .fail
  |_,_,_=> .fail
 |none=> .fail
def yE (st:TS):List Operand→List TypeId→List TE
 |x::xs,t::ts=>lK C st t x::yE st xs ts
 |_,_=>[]
def E3 (st:TS) (o:Oper) (K:TS→Ev R):Ev R:=match o.dst with
 |some d=>eC C st o fun e=>K (st.set d e)
 |none=> .fail
def jG (st:TS) (o:Oper) (K:TS→Ev R):Ev R:=
 match o.op with
 | .alloc t=>match o.dst,qw (C.tt t) with
   |some d,true=>match qJ d with
    |true=>K ((zL d ((C.tt t).zero.map FW) st).set d (.bp d 0))
    |false=> .fail
   |_,_=> .fail
 | .box t x=>match o.dst,wj (lK C st t x) with
   |some d,some cs=>match qJ d with
    |true=>K ((zL d cs st).set d (.bp d 0))
    |false=> .fail
   |_,_=> .fail
 | .store t a x=>match o.dst,known (C.tt t),wj (lK C st t x) with
   |none,true,some cs=>match Nat.beq cs.length (C.tt t).size,lK C st 0 a with
    |true,.bp b off=>match CA b off cs st with
     |some st'=>K st'
     |none=> .fail
    |true,.er r none i f=>match Ji r cs with
     |true=>yB r none i f (cs.map (Cz r)) (qS r st) K
     |false=>yB r none i f cs st K
    |true,.er r p i f=>yB r p i f cs st K
    |_,_=> .fail
   |_,_,_=> .fail
 | .buildSlice t n ps=>match o.dst,qv C t with
   |some d,some e=>match Nat.beq n ps.size&&Nat.ble (n*(C.tt e).size) 16777216&&qw (C.tt e),rowsOf C st e ps.toList 0 with
    |true,some (rs,st',dp)=>K (pI d ⟨dp,(C.tt e).size,rs⟩ st')
    |_,_=> .fail
   |_,_=> .fail
 | .makeSlice t l c=>match o.dst,qv C t,asInt (lK C st 3 l),asInt (lK C st 3 c) with
   |some d,some e,some n,some n'=> .test (qw (C.tt e)&&fT n n'&&rK 0 n&&fits (yy n) (C.tt e).bytes) fun z=>match z with
    |true=>K (pI d ⟨true,(C.tt e).size,List.replicate (yy n) (C.tt e).zero⟩ st)
    |false=> .fail
   |_,_,_,_=> .fail
 | .convert src dst x=>match(C.tt dst).ti,(C.tt src).ti with
   | .slice et,.str=>match o.dst,(C.tt et).ti,Mn (lK C st src x) with
     |some d,.int .u8,some (.string s)=> .test (fits s.size 1) fun z=>match z with
      |true=>K (pI d ⟨true,1,wY s⟩ st)
      |false=> .fail
     |_,_,_=> .fail
   |_,_=>E3 C st o K
 | .call {callee:= .builtin .append,args,argTypes}=>match o.dst,args.toList,argTypes.toList with
   |some d,[s,x],[t,t']=>Km C st d t t' (lK C st t s) (lK C st t' x) K
   |_,_,_=> .fail
 | .call {callee:= .builtin .copy,args,argTypes}=>match args.toList,argTypes.toList with
   |[s,x],[t,t']=>Qz C st o.dst t (lK C st t s) (lK C st t' x) K
   |_,_=> .fail
 | .call {callee:= .value (.func f),args,argTypes}=>match Nat.beq args.toList.length argTypes.toList.length with
   |true=>yD C o.dst f (yE C st args.toList argTypes.toList) st K
   |false=> .fail
 | .call {callee:= .value (.tmp i),args,argTypes}=>match Nat.beq args.toList.length argTypes.toList.length with
   |true=>match st.get i with
    | .fn f caps=>yD C o.dst f (yE C st args.toList argTypes.toList++caps.map fun b=> .bp b 0) st K
    |_=> .fail
   |false=> .fail
 |_=>E3 C st o K
def F1 (st:TS) (b:Nat):List Nat:=match aa b st.bx with
 |some cs=>(2*b+1)::(cs.flatMap dG).map (2* ·)
 |none=>[2*b+1]
def uS (st:TS):TE→List Nat
 | .v _ es=>(eO es).map (2* ·)
 | .bp b _=>F1 st b
 |_=>[]
def ld (st:TS):List bg→List TE→List Nat
 | .borrow::ps,_::es=>ld st ps es
 |_::ps,e::es=>uS st e++ld st ps es
 |_,_=>[]
def writes (st:TS) (o:Oper):List Nat:=match o.op with
 | .store _ a _=>match lK C st 0 a with
   | .bp b _=>[2*b+1]
   | .er o _ _ _=>[2*o]
   |_=>[]
 | .call {callee:= .builtin .append,args,argTypes}=>match args.toList,argTypes.toList with
   |s::_,t::_=>(qu (lK C st t s)).map (2* ·)
   |_,_=>[]
 | .call {callee:= .builtin .copy,args,argTypes}=>match args.toList,argTypes.toList with
   |s::_,t::_=>(qu (lK C st t s)).map (2* ·)
   |_,_=>[]
 | .call {callee:= .value (.func f),args,argTypes}=>ld st (C.sig f).ps (yE C st args.toList argTypes.toList)
 | .call {callee:= .value (.tmp i),args,argTypes}=>match st.get i with
   | .fn f caps=>ld st (C.sig f).ps (yE C st args.toList argTypes.toList++caps.map fun b=> .bp b 0)
   |_=>[]
 |_=>[]
def Mx (st:TS) (o:Oper):Option (List Nat):=match o.op with
 | .load _ a=>match lK C st 0 a with
   | .bp b _=>match aa b st.bx with
     |some _=>some [2*b+1]
     |none=>none
   | .ep d (_::_)=>some (d.map (2* ·))
   | .er o none _ _=>some [2*o]
   | .er o (some _) _ _=>match aa o st.ob with
     |some ⟨true,_,_⟩=>some [2*o]
     |_=>none
   |_=>none
 |_=>none
def QA (ops:Array Oper) (st:TS) (o:Oper):Bool:=match o.guard with
 |none=>false
 |some (j,want)=>match ops[j]? with
  |some oj=>match oj.dst with
   |some t=>match st.get t with
    | .kb b=>match b,want with
      |true,false=>true
      |false,true=>true
      |_,_=>false
    | .v true []=>true
    |_=>false
   |none=>false
  |none=>false
def uT (ops:Array Oper) (st:TS) (o:Oper):List Nat→Bool
 |[]=>true
 |l::r=>match ops[l]? with
  |some ol=>match QA ops st ol with
   |true=>uT ops st o r
   |false=>match Mx C st ol with
    |some rd=>match nQ rd (writes C st o) with|true=>false|false=>uT ops st o r
    |none=>false
  |none=>false
def yF:List Mode→List CE→List Nat
 |_,[]=>[]
 |ms,e::r=>match ms.headD .deep,e with
  | .snap,.ref o none=>o::yF (ms.drop 1) r
  |_,_=>yF (ms.drop 1) r
def E4 (st:TS):List bg→List TE→List Nat
 |p::ps,e::es=>match p,e with
  | .inout (m::ms),.bp b _=>match aa b st.bx with
    |some cs=>yF (m::ms) cs++E4 st ps es
    |none=>E4 st ps es
  | .consume (m::ms),.v false [.mk _ cs]=>yF (m::ms) cs++E4 st ps es
  |_,_=>E4 st ps es
 |_,_=>[]
def CB:List CE→List Nat
 |[]=>[]
 | .ref o _::r=>o::CB r
 |_::r=>CB r
def zO:List ku→List Nat
 |[]=>[]
 | .mk _ cs::r=>CB cs++zO r
 |_::r=>zO r
def Ko (st:TS) (e:TypeId):List (Nat×Operand)→List Nat
 |[]=>[]
 |(_,x)::r=>match lK C st e x with
  | .v _ es=>zO es++Ko st e r
  |_=>Ko st e r
def Rk (fx:List Nat) (st:TS) (o:Oper):TS:=match o.op with
 | .buildSlice t _ ps=>match gG 777777 fx,qv C t with
   |true,some e=>mz st (Ko C st e ps.toList)
   |_,_=>st
 | .call {callee:= .value (.func f),args,argTypes}=>match Mw (C.sig f).ps with
   |true=>st
   |false=>mz st (E4 st (C.sig f).ps (yE C st args.toList argTypes.toList))
 |_=>st
def HE (fx fl:List Nat) (ops:Array Oper) (st:TS) (o:Oper) (K:TS→Ev R):Ev R:=Lr (Rk C fx st o) fun st=>match uT C ops st o fl with
 |true=>jG C st o K
 |false=> .fail
def HF (st:TS) (o:Oper) (K:TS→Ev R):Ev R:=match o.dst with
 |some d=>K (st.set d (.v true []))
 |none=>K st
def Jl (fx fl:List Nat) (ops:Array Oper) (st:TS) (o:Oper) (b want:Bool) (K:TS→Ev R):Ev R:=
 match b,want with
 |true,true=>HE C fx fl ops st o K
 |false,false=>HE C fx fl ops st o K
 |_,_=>HF st o K
def Kq (fx:List Nat) (o:Oper):Bool:=match o.dst with|some d=> !gG d fx|none=>true
def guarded (fx fl:List Nat) (ops:Array Oper) (st:TS) (o:Oper) (K:TS→Ev R):Ev R:=
 match Kq fx o with
 |false=> .fail
 |true=>match o.guard with
  |none=>HE C fx fl ops st o K
  |some (j,want)=>match ops[j]? with
   |some oj=>match oj.dst with
    |some t=>match st.get t with
     | .kb b=>Jl C fx fl ops st o b want K
     | .v false [.mk false [.sc (.bool b)]]=> .test b fun b=>Jl C fx fl ops (st.set t (.kb b)) o b want K
     | .v true []=>HF st o K
     |_=> .fail
    |none=> .fail
   |none=> .fail
def sK {α:Type} (l:List Nat):List (Nat×α)→List (Nat×α)
 |[]=>[]
 |(i,e)::r=>match gG i l with|true=>(i,e)::sK l r|false=>sK l r
def F2 (fx:List Nat) (l:List Nat) (ops:Array Oper):List Oper→TS→(TS→Ev R)→Ev R
 |[],st,K=>Lr ⟨sK l st.tm,st.bx,st.ob⟩ K
 |o::r,st,K=>guarded C fx [] ops st o fun st'=>Lr st' fun st'=>F2 fx l ops r st' K
def lO (fx:List Nat) (l:List Nat) (ops:Array Oper):wg→TS→(TS→Ev R)→Ev R
 | .nil,st,K=>Lr ⟨sK l st.tm,st.bx,st.ob⟩ K
 | .op i fl r,st,K=>match ops[i]? with
   |some o=>guarded C fx fl ops st o fun st'=>Lr st' fun st'=>lO fx l ops r st' K
   |none=> .fail
 | .alt a b,st,K=> .both (lO fx l ops a st K) (lO fx l ops b st K)
def pU (l:List Nat):List (Nat×List CE)→List (Nat×List CE)
 |[]=>[]
 |(i,cs)::r=>match Nat.ble 100000 i with
  |true=>(i,cs)::pU l r
  |false=>match gG i l with|true=>(i,cs)::pU l r|false=>pU l r
def ej (n:Nat):List CE→List CE×Nat×List (Nat×OB)
 |[]=>([],n,[])
 | .nil z::r=>match Nat.ble 1 z with
   |true=>match ej (n+1) r with|(cs,m,obs)=>(.ref n none::cs,m,(n,⟨true,z,[]⟩)::obs)
   |false=>match ej n r with|(cs,m,obs)=>(.nil z::cs,m,obs)
 |e::r=>match ej n r with|(cs,m,obs)=>(e::cs,m,obs)
def dM (n:Nat):List ku→List ku×Nat×List (Nat×OB)
 |[]=>([],n,[])
 | .mk a cs::r=>match ej n cs with
   |(cs',m,o1)=>match dM m r with|(es,m',o2)=>(.mk a cs'::es,m',o1++o2)
 | .ptr b::r=>match dM n r with|(es,m,o2)=>(.ptr b::es,m,o2)
def xD (n:Nat) (e:TE):TE×Nat×List (Nat×OB):=match e with
 | .v tup es=>match dM n es with|(es',m,o)=>(.v tup es',m,o)
 | .kb b=>(S (.bool b),n,[])
 |e=>(e,n,[])
def qT (n:Nat):List (Nat×TE)→List (Nat×TE)×List (Nat×OB)
 |[]=>([],[])
 |(i,e)::r=>match xD n e with
  |(e',m,o1)=>match qT m r with|(r',o2)=>((i,e')::r',o1++o2)
def HG (n:Nat):List (Nat×OB)→Bool
 |[]=>true
 |(i,_)::r=>match Nat.ble n i with|true=>false|false=>HG n r
def HH (st:TS):TS:=match HG 900000000 st.ob with
 |true=>match qT 900000000 st.tm with|(tm,obs)=>⟨tm,st.bx,fX obs st.ob⟩
 |false=>st
def Rl (st:TS):List Nat:=(st.tm.flatMap fun p=>qu p.2)++st.bx.flatMap fun p=>p.2.flatMap dG
def number:List Nat→Nat→List (Nat×Nat)→List (Nat×Nat)
 |[],_,ρ=>ρ
 |o::r,n,ρ=>match Nat.beq o 0 with
  |true=>number r n ρ
  |false=>match aa o ρ with
   |some _=>number r n ρ
   |none=>number r (n+1) ((o,n)::ρ)
def zP (ρ:List (Nat×Nat)) (o:Nat):Nat:=match aa o ρ with|some n=>n|none=>0
def yG (ρ:List (Nat×Nat)):CE→CE
 | .ref o cut=> .ref (zP ρ o) cut
 | .snap d l z rows=> .snap (d.map (zP ρ)) (match l with|some (o,i,f)=>some (zP ρ o,i,f)|none=>none) z rows
 |e=>e
def My (ρ:List (Nat×Nat)):TE→TE
 | .ep d cells=> .ep (d.map (zP ρ)) cells
 | .er o p i f=> .er (zP ρ o) p i f
 |e=>e
def nR (ob:List (Nat×OB)):List (Nat×Nat)→List (Nat×OB)
 |[]=>[]
 |(o,n)::r=>match aa o ob with|some b=>jn n b (nR ob r)|none=>nR ob r
def SL (ρ:List (Nat×Nat)) (st:TS):TS:=⟨mapA (qt (yG ρ) (My ρ)) st.tm,mapA (List.map (yG ρ)) st.bx,nR st.ob ρ⟩
def canon (st:TS):TS:=SL (number (Rl st) 1 []) st
def HI (l:List Nat) (st:TS):TS:=canon (HH ⟨sK l st.tm,pU l st.bx,st.ob⟩)
def run (fx:List Nat) (f:FuncId):Nat→Code→TS→(TX→TS→Ev R)→Ev R
 |_,.skip,st,K=>K .norm st
 |_,.region id ops draw,st,K=>match draw with
  |false=>F2 C fx (C.lr f id) ops ops.toList st (K .norm)
  |true=>match C.Cs f id with
   |some l=>lO C fx (C.lr f id) ops l st (K .norm)
   |none=> .fail
 |i,.seq a b,st,K=>run fx f i a st fun x st'=>match x with
  | .norm=>run fx f i b st' K
  |x=>K x st'
 |i,.cond c a b,st,K=>match lK C st 0 c with
  | .kb p=>match p with
    |true=>run fx f i a st K
    |false=>run fx f i b st K
  | .v false [.mk false [.sc (.bool p)]]=> .test p fun p=>match p with
    |true=>run fx f i a st K
    |false=>run fx f i b st K
  |_=> .fail
 |_,.block id body,st,K=>run fx f id body st fun x st'=>match x with
  | .ex id'=>match Nat.beq id' id with|true=>K .norm st'|false=>K (.ex id') st'
  |x=>K x st'
 |i,.loop body,st,K=>Lr (HI (C.lb f i) st) fun st=> .loop f i body st K
 |_,.exit id,st,K=>K (.ex id) st
 |_,.ret,st,K=>K .ret st
 |_,_,_,_=> .fail
def Mz:Mode→Bool
 | .deep=>true
 |_=>false
def bU (sh:Bool) (p:bg) (n:Nat):Nat→List TC→List CE×List (Nat×OB)
 |_,[]=>([],[])
 |j,c::r=>match bU sh p n (j+1) r with
  |(es,obs)=>match c with
   | .sc v=>(.sc v::es,obs)
   | .sub z rows=>match p.mc j with
     | .snap=>(.snap (match sh with|true=>[]|false=>[0]) none z rows::es,obs)
     |m=>(.ref (n+j) none::es,(n+j,⟨Mz m,z,rows⟩)::obs)
   | .any=>(.gone::es,obs)
def zQ (sh:Bool) (i:Nat):List (List TC)→List (Nat×List CE)
 |[]=>[]
 |c::r=>(i,(bU sh .borrow 0 0 c).1)::zQ sh (i+1) r
def qU (p:bg) (i:Nat):Nat:=match p with| .borrow=>200000+1000*i|_=>100000+1000*i
def init (sh:Bool) (ps:List bg) (i:Nat):List TV→TS
 |[]=>⟨[],[],[]⟩
 |v::r=>match init sh (ps.drop 1) (i+1) r with
  |⟨tm,bx,ob⟩=>match v with
   | .c c=>match bU sh (ps.headD .borrow) (500+16*i) 0 [c] with|(cs,o)=>⟨(i,.v false [.mk false cs])::tm,bx,o++ob⟩
   | .ag cs=>match bU sh (ps.headD .borrow) (500+16*i) 0 cs with|(cs,o)=>⟨(i,.v false [.mk true cs])::tm,bx,o++ob⟩
   | .bx cs=>match bU sh (ps.headD .borrow) (500+16*i) 0 cs with
     |(cs,o)=>⟨(i,.bp (qU (ps.headD .borrow) i) 0)::tm,(qU (ps.headD .borrow) i,cs)::bx,o++ob⟩
   | .fn f caps=>⟨(i,.fn f (List.range' (200000+1000*i+1) caps.length))::tm,zQ sh (200000+1000*i+1) caps++bx,ob⟩
   | .tu _=>⟨tm,bx,ob⟩
def Jm (m:Mode) (e:CE) (deep:Bool):Bool:=match m,e with
 |_,.sc _=>true
 | .snap,_=>true
 |_,.nil _=>true
 | .top,.ref _ _=>true
 | .deep,.ref _ _=>deep
 |_,_=>false
def uU:List Mode→List CE→TS→Option (List TC×TS)
 |_,[],st=>some ([],st)
 |ms,e::r,st=>match jF e st with
  |some (c,st',d)=>match Jm (ms.headD .snap) e d with
   |true=>match uU (ms.drop 1) r st' with
    |some (cs,AN)=>some (c::cs,AN)
    |none=>none
   |false=>none
  |none=>none
def ig:List Mode→List CE→TS→Option (List TC×TS)
 |_,[],st=>some ([],st)
 |ms,e::r,st=>match ms.headD .deep,e with
  | .snap,e=>match jF e st with
    |some (c,st',_)=>match ig (ms.drop 1) r st' with
     |some (cs,AN)=>some (c::cs,AN)
     |none=>none
    |none=>none
  |_,.sc v=>match ig (ms.drop 1) r st with
   |some (cs,st')=>some (.sc v::cs,st')
   |none=>none
  |_,.nil z=>match ig (ms.drop 1) r st with
   |some (cs,st')=>some (.sub z []::cs,st')
   |none=>none
  |_,.ref o none=>match aa o st.ob with
   |some ⟨true,z,rows⟩=>match ig (ms.drop 1) r (iT o st) with
    |some (cs,st')=>some (.sub z rows::cs,st')
    |none=>none
   |_=>none
  |_,_=>none
def Rm (a:Bool):Nat:=match a with|true=>1|false=>0
def Kr (st:TS) (r:ResultVar) (K:TE→Ev R):Ev R:=match r with
 | .tmp t=>K (st.get t)
 | .cell a t=>w4 C st t (st.get a) K
def CC:List (List Mode)→List ResultVar→TS→(List (Nat×List TC)→TS→Ev R)→Ev R
 |_,[],st,K=>K [] st
 |ms,r::rs,st,K=>Kr C st r fun e=>match e with
  | .v false [.mk a cs]=>match uU (ms.headD []) cs st with
    |some (ts,st')=>CC (ms.drop 1) rs st' fun vs AN=>K ((Rm a,ts)::vs) AN
    |none=> .fail
  | .kb b=>CC (ms.drop 1) rs st fun vs AN=>K ((0,[.sc (.bool b)])::vs) AN
  | .bp b 0=>match qJ b,aa b st.bx with
    |true,some cs=>match uU (ms.headD []) cs ⟨st.tm,kz b st.bx,st.ob⟩ with
     |some (ts,st')=>CC (ms.drop 1) rs st' fun vs AN=>K ((2,ts)::vs) AN
     |none=> .fail
    |_,_=> .fail
  |_=> .fail
def HJ:List bg→Nat→TS→Option (List TV)
 |[],_,_=>some []
 |p::ps,i,st=>match p with
  | .inout ms=>match ms,st.get i with
    |[],.v false [.mk false [e]]=>match ig [] [e] st with
     |some ([c],st')=>match HJ ps (i+1) st' with
      |some vs=>some (.c c::vs)
      |none=>none
     |_=>none
    |[],.v false [.mk true cs]=>match ig [] cs st with
     |some (ts,st')=>match HJ ps (i+1) st' with
      |some vs=>some (.ag ts::vs)
      |none=>none
     |none=>none
    |ms,.bp b 0=>match qJ b,aa b st.bx with
     |true,some cs=>match ig ms cs st with
      |some (ts,st')=>match HJ ps (i+1) st' with
       |some vs=>some (.bx ts::vs)
       |none=>none
      |none=>none
     |_,_=>none
    |_,_=>none
  |_=>HJ ps (i+1) st
def zR:List (Nat×List TC)→TV
 |[(0,[c])]=> .c c
 |[(1,cs)]=> .ag cs
 |[(2,cs)]=> .bx cs
 |vs=> .tu vs
def zS:List bg→Nat→List Nat
 |[],_=>[]
 | .inout _::r,i=>i::zS r (i+1)
 |_::r,i=>zS r (i+1)
def CD (g:Lo):List Nat:=match g.frz with|true=>777777::zS g.ps 0|false=>zS g.ps 0
def MA (g:Lo) (rs:List ResultVar) (x:TX) (st:TS):Ev (TV×List TV):=match x with
 | .ex _=> .fail
 |_=>CC C g.res rs st fun rs st'=>match HJ g.ps 0 st' with
  |some fs=>Re (zR rs) fun r=>fL Re fs fun fs=> .ret (r,fs)
  |none=> .fail
def uV (g:Lo) (vs:List TV):TS:=init true g.ps 0 vs
def body (f:FuncId) (vs:List TV):Ev (TV×List TV):=
 match C.P.funcs[f]? with
 |none=> .fail
 |some fn=>match fn.body with
  |none=> .fail
  |some c=>Lr (uV (C.sig f) vs) fun st=>run C (CD (C.sig f)) f 0 c st (MA C (C.sig f) fn.results.toList)
end
abbrev Cf:=FuncId→List TV→TV→List TV→Prop
abbrev Lp:=FuncId→Nat→Code→TS→(TX→TS→Prop)→Prop
def Ev.holds {R:Type} (cf:Cf) (lp:Lp) (Q:R→Prop):Ev R→Prop
 | .fail=>False
 | .ret r=>Q r
 | .test b k=>(k b).holds cf lp Q
 | .row rows i k=> ∃c,rowAt rows i=some c∧(k c).holds cf lp Q
 | .byte s i k=> ∃b,zJ s i=some b∧(k b).holds cf lp Q
 | .bytes rows k=> ∃ns,qR rows=some ns∧(k ns).holds cf lp Q
 | .call f vs k=> ∃r fs,cf f vs r fs∧(k r fs).holds cf lp Q
 | .loop f i c st k=>lp f i c st fun x st'=>(k x st').holds cf lp Q
 | .both a b=> ∃r,a.holds cf lp (fun r'=>r'=r)∧b.holds cf lp (fun r'=>r'=r)∧Q r
section
variable (C : g9)
def CF (x:TX) (st:TS):Ev (TX×TS):= .ret (x,st)
def iter (cf:Cf) (lp:Lp) (fx:List Nat) (f i:Nat) (c:Code) (Q:TX→TS→Prop):Nat→TS→Prop
 |0,_=>False
 |n+1,st=>(run C fx f i c st CF).holds cf lp fun p=>match p with
   |(.norm,st')=>Lr (HI (C.lb f i) st') fun st'=>iter cf lp fx f i c Q n st'
   |(x,st')=>Q x st'
def Jn (cf:Cf) (k:Nat) (fx:List Nat):Nat→Lp
 |0=>fun _ _ _ _ _=>False
 |n+1=>fun f i c st Q=>iter C cf (Jn cf k fx n) fx f i c Q k st
def eX:Nat→Cf
 |0=>fun _ _ _ _=>False
 |k+1=>fun f vs r fs=>match C.ext f with
  |some p=>p vs=some (r,fs)
  |none=>(body C f vs).holds (eX k) (Jn C (eX k) k (CD (C.sig f)) 4) fun p=>p=(r,fs)
end
end Go.T
set_option linter.all false
namespace Go.T
inductive An where
 |b (x:Bool)
 |row (c:List TC)
 |n (i:Int)
 |ns (l:List Int)
 |call (r:TV) (fs:List TV)
 |loop (x:TX) (st:TS)
inductive Qr where
 |test (b x:Bool)
 |row (rows:List (List TC)) (i:Int) (c:List TC)
 |byte (s:ByteArray) (i b:Int)
 |bytes (rows:List (List TC)) (ns:List Int)
 |call (f:FuncId) (vs:List TV) (r:TV) (fs:List TV)
 |loop (f:FuncId) (i:Nat) (c:Code) (st:TS) (x:TX) (st':TS)
def Ev.trace {R:Type}:Ev R→List An→List Qr→Option (R×List Qr)
 | .fail,_,_=>none
 | .ret r,as,qs=>match as with|[]=>some (r,qs)|_=>none
 | .test b k,as,qs=>match as with| .b x::as=>(k x).trace as (.test b x::qs)|_=>none
 | .row rows i k,as,qs=>match as with| .row c::as=>(k c).trace as (.row rows i c::qs)|_=>none
 | .byte s i k,as,qs=>match as with| .n b::as=>(k b).trace as (.byte s i b::qs)|_=>none
 | .bytes rows k,as,qs=>match as with| .ns l::as=>(k l).trace as (.bytes rows l::qs)|_=>none
 | .call f vs k,as,qs=>match as with| .call r fs::as=>fL Re vs fun vs=>(k r fs).trace as (.call f vs r fs::qs)|_=>none
 | .loop f i c st k,as,qs=>match as with| .loop x st'::as=>(k x st').trace as (.loop f i c st x st'::qs)|_=>none
 | .both _ _,_,_=>none
def Qr.ok (cf:Cf) (lp:Lp):Qr→Prop
 | .test b x=>b=x
 | .row rows i c=>rowAt rows i=some c
 | .byte s i b=>zJ s i=some b
 | .bytes rows ns=>qR rows=some ns
 | .call f vs r fs=>cf f vs r fs
 | .loop f i c st x st'=>lp f i c st fun x1 bY=>x1=x∧bY=st'
section
variable {Z : Type}
theorem oK {α:Type} {f:α→(α→Z)→Z} (h: ∀a K,f a K=K a): ∀(l:List α) (K:List α→Z),fL f l K=K l
 |[],K=>rfl
 |a::r,K=>by simp only[fL,h,oK h r]
theorem MB (b:Bool) (K:Bool→Z):fB b K=K b:=by cases b<;>rfl
theorem MC (b:Nat) (K:Nat→Z):fN b K=K b:=rfl
theorem MD (p:Option (Int×Nat)) (K:Option (Int×Nat)→Z):Qw p K=K p:=by cases p<;>rfl
theorem OX (p:Option (Int×Int)) (K:Option (Int×Int)→Z):SJ p K=K p:=by cases p<;>rfl
theorem Rn (p:Option (Nat×Int×Nat)) (K:Option (Nat×Int×Nat)→Z):VD p K=K p:=by cases p<;>rfl
theorem QB (v:Value) (K:Value→Z):fV v K=K v:=by cases v<;>rfl
theorem F3 (c:TC) (K:TC→Z):SK c K=K c:=by cases c<;>simp only[SK,QB]
theorem ME (e:CE) (K:CE→Z):TW e K=K e:=by
 cases e<;>simp only[TW,QB,OX,Rn,oK MC]
theorem MF (c:ku) (K:ku→Z):Ml c K=K c:=by cases c<;>simp only[Ml,MB,oK ME]
theorem Ro (e:TE) (K:TE→Z):Uv e K=K e:=by
 cases e<;>simp only[Uv,MB,oK MF,oK MC,oK F3,MD]
theorem Rq (b:OB) (K:OB→Z):Uw b K=K b:=by cases b;simp only[Uw,MB]
theorem MG (v:TV) (K:TV→Z):Re v K=K v:=by
 cases v<;>simp only[Re,Mm,F3,oK F3]
 rw[oK (fun a K=>by cases a;simp only[Mm,oK F3])]
theorem lP (st:TS) (K:TS→Z):Lr st K=K st:=by
 cases st;simp only[Lr]
 rw[oK (fun a K=>by cases a;simp only[Ro]),oK (fun a K=>by cases a;simp only[oK ME]),oK (fun a K=>by cases a;simp only[Rq])]
end
theorem di {R:Type} {cf cf':Cf} {lp lp':Lp} (hc: ∀f vs r fs,cf f vs r fs→cf' f vs r fs) (zC: ∀f i c st (Q Q':TX→TS→Prop),(∀x s,Q x s→Q' x s)→lp f i c st Q→lp' f i c st Q') {Q Q':R→Prop} (hQ: ∀r,Q r→Q' r):
 ∀(e:Ev R),e.holds cf lp Q→e.holds cf' lp' Q'
 | .fail,h=>h
 | .ret r,h=>hQ r h
 | .test b k,h=>di hc zC hQ (k b) h
 | .row rows i k,⟨c,h1,h2⟩=>⟨c,h1,di hc zC hQ (k c) h2⟩
 | .byte rows i k,⟨c,h1,h2⟩=>⟨c,h1,di hc zC hQ (k c) h2⟩
 | .bytes rows k,⟨c,h1,h2⟩=>⟨c,h1,di hc zC hQ (k c) h2⟩
 | .call f vs k,⟨r,fs,h1,h2⟩=>⟨r,fs,hc _ _ _ _ h1,di hc zC hQ (k r fs) h2⟩
 | .loop f i c st k,h=>zC _ _ _ _ _ _ (fun x s hxs=>di hc zC hQ (k x s) hxs) h
 | .both a b,⟨r,h1,h2,h3⟩=>⟨r,di hc zC (fun _ h=>h) a h1,di hc zC (fun _ h=>h) b h2,hQ r h3⟩
section
variable {C : g9}
theorem wm {cf cf':Cf} {lp lp':Lp} (hc: ∀f vs r fs,cf f vs r fs→cf' f vs r fs) (zC: ∀f i c st (Q Q':TX→TS→Prop),(∀x s,Q x s→Q' x s)→lp f i c st Q→lp' f i c st Q')
 {fx:List Nat} {f i:Nat} {c:Code} {Q Q':TX→TS→Prop} (hQ: ∀x s,Q x s→Q' x s): ∀(n n':Nat),n≤n'→ ∀(st:TS),iter C cf lp fx f i c Q n st→iter C cf' lp' fx f i c Q' n' st
 |0,_,_,_,h=>h.elim
 |n+1,0,hn,_,_=>absurd hn az
 |n+1,n'+1,hn,st,h=>by
  refine di hc zC (fun p hp=> ?_) _ h;obtain⟨x,s⟩:=p
  cases x with
  |norm=>
   simp only at hp ⊢;rw[lP] at hp ⊢;exact wm hc zC hQ n n' az _ hp
  |ex id=>exact hQ _ _ hp
  |ret=>exact hQ _ _ hp
theorem kE {cf cf':Cf} (hc: ∀f vs r fs,cf f vs r fs→cf' f vs r fs) {k k':Nat} (hk:k≤k') {fx:List Nat}: ∀(n:Nat) (f i:Nat) (c:Code) (st:TS) (Q Q':TX→TS→Prop),(∀x s,Q x s→Q' x s)→
 Jn C cf k fx n f i c st Q→Jn C cf' k' fx n f i c st Q'
 |0,_,_,_,_,_,_,_,h=>h.elim
 |n+1,f,i,c,st,Q,Q',hQ,h=>wm hc (kE hc hk n) hQ k k' hk st h
theorem uW: ∀(k:Nat) (f:FuncId) (vs:List TV) (r:TV) (fs:List TV),eX C k f vs r fs→eX C (k+1) f vs r fs
 |0,_,_,_,_,h=>h.elim
 |k+1,f,vs,r,fs,h=>by
  unfold eX at h ⊢
  cases hx:C.ext f with
  |some p=>rw[hx] at h;exact h
  |none=>rw[hx] at h;exact di (uW k) (kE (uW k) (Nat.le_succ k) 4) (fun _ h=>h) _ h
theorem Jo {k:Nat} {f:FuncId} {vs:List TV} {r:TV} {fs:List TV} (hx:C.ext f=none) (h:(body C f vs).holds (eX C k) (Jn C (eX C k) k (CD (C.sig f)) 4) fun p=>p=(r,fs)):eX C (k+1) f vs r fs:=by
 unfold eX;rw[hx];exact h
theorem Ls {k:Nat} {f:FuncId} {vs:List TV} {r:TV} {fs:List TV} {p:List TV→Option (TV×List TV)} (hx:C.ext f=some p) (h:p vs=some (r,fs)):eX C (k+1) f vs r fs:=by
 unfold eX;rw[hx];exact h
theorem iK {k k':Nat} (hk:k≤k') {f:FuncId} {vs:List TV} {r:TV} {fs:List TV} (h:eX C k f vs r fs):eX C k' f vs r fs:=by
 induction hk with
 |refl=>exact h
 |step _ ih=>exact uW _ _ _ _ _ ih
def zT (C:g9) (k:Nat) (fx:List Nat) (n:Nat) (f i:Nat) (c:Code) (m:Nat) (st:TS) (x:TX) (st':TS):Prop:=
 iter C (eX C k) (Jn C (eX C k) k fx n) fx f i c (fun x1 bY=>x1=x∧bY=st') m st
theorem zT.ok {k:Nat} {fx:List Nat} {n f i:Nat} {c:Code} {m:Nat} {st:TS} {x:TX} {st':TS} (h:zT C k fx n f i c m st x st') (hm:m≤k):(Qr.loop f i c st x st').ok (eX C k) (Jn C (eX C k) k fx (n+1)):=
 wm (fun _ _ _ _ h=>h) (kE (fun _ _ _ _ h=>h) (bV _) n) (fun _ _ h=>h) m k hm st h
end
end Go.T
namespace Go.T
def pV (rows:List (List TC)) (i f:Nat):Option TC:=(rows[i]?).bind fun r=>r[f]?
def Bm:Value→Prop
 | .int _ _=>True
 | .bool _=>True
 | .string _=>True
 | .slice _ _ _=>True
 |_=>False
def Mode.nx:Mode→Mode
 | .deep=> .deep
 |_=> .snap
structure SM (w:World) (R:Nat→Prop) (m:Mode) (S:Nat→Prop) (z:Nat) (rows:List (List TC)) (A:Option Addr) (c:Nat) (u:Nat→Nat→Value) (T:Nat→Nat→Nat→Prop):Prop where
 len:rows.length≤c
 cap:c≤maxLen
 z0:0<z
 width: ∀r∈rows,r.length=z
 addr:rows≠[]→ ∃ad,A=some ad
 cell: ∀ad,A=some ad→ ∀i f tc,pV rows i f=some tc→w.cell? (ad.add (i*z+f))=some (u i f)
 read:m= .snap→ ∀ad,A=some ad→rows≠[]→R ad.block
 own:m≠ .snap→(A=none→c=0)∧ ∀ad,A=some ad→S ad.block∧ad.spot=none∧
  ∀j,j<c*z→(∃x,w.cell? ⟨ad.block,ad.off+j,none⟩=some x)∧w.frozen? ⟨ad.block,ad.off+j,none⟩=false
 soft:m≠ .snap→1<z→ ∀ad,A=some ad→ ∀i,w.frozen? ⟨ad.block,i,none⟩=false
 ki:m= .deep→ ∀i f k,T i f k→S k∧(∀ad,A=some ad→k≠ad.block)∧ ∀i' f',T i' f' k→i'=i∧f'=f
inductive ai (w:World) (R:Nat→Prop):Mode→(Nat→Prop)→TC→Value→Prop
 |sc (m:Mode) (S:Nat→Prop) (v:Value) (h:Bm v):ai w R m S (.sc v) v
 |sub (m:Mode) (S:Nat→Prop) (z:Nat) (rows:List (List TC)) (A:Option Addr) (c:Nat) (u:Nat→Nat→Value) (T:Nat→Nat→Nat→Prop)
   (h:SM w R m S z rows A c u T) (hn: ∀i f tc,pV rows i f=some tc→ai w R m.nx (T i f) tc (u i f)):
   ai w R m S (.sub z rows) (.slice A rows.length c)
 |any (m:Mode) (S:Nat→Prop) (v:Value) (h:v.oneCell'=true∧v.cells= #[v]):ai w R m S .any v
variable {w w' : World} {R R' S S' : Nat → Prop} {m : Mode} {c : TC} {v : Value}
theorem zU {rows:List (List TC)} {i f:Nat} {tc:TC} (h:pV rows i f=some tc):rows≠[]:=by
 rintro rfl;simp[pV] at h
theorem dj {w w':World} {a:Addr} (h:w'.heap[a.block]?=w.heap[a.block]?):w'.cell? a=w.cell? a:=by
 unfold World.cell?;rw[h]
theorem gJ {w w':World} {a:Addr} (h:w'.heap[a.block]?=w.heap[a.block]?):w'.frozen? a=w.frozen? a:=by
 unfold World.frozen?;rw[h]
theorem bB (a:Addr) (n:Nat):(a.add n).block=a.block:=by unfold Addr.add;split<;>rfl
theorem ai.mono (h:ai w R m S c v) (hS: ∀k,S k→S' k):ai w R m S' c v:=by
 cases h with
 |any _ _ _ h=>exact .any _ _ _ h
 |sc _ _ _ h=>exact .sc _ _ _ h
 |sub _ _ z rows A c u T h hn=>
  refine .sub _ _ z rows A c u T {h with own:=fun hm=>⟨(h.own hm).1,fun ad ha=>⟨hS _ ((h.own hm).2 ad ha).1,((h.own hm).2 ad ha).2⟩⟩,ki:=fun hm i f k hk=>⟨hS _ (h.ki hm i f k hk).1,(h.ki hm i f k hk).2⟩} hn
theorem oe {m:Mode} (h:m.nx≠ .snap):m= .deep:=by cases m<;>simp_all [Mode.nx]
theorem ai.move (h:ai w R m S c v):(∀k,R k→R' k∧w'.heap[k]?=w.heap[k]?)→(m≠ .snap→ ∀k,S k→w'.heap[k]?=w.heap[k]?)→ai w' R' m S c v:=by
 induction h with
 |any _ _ _ h=>exact fun _ _=> .any _ _ _ h
 |sc _ _ _ h=>exact fun _ _=> .sc _ _ _ h
 |sub m S z rows A c u T h hn ih=>
  intro hR hS;refine .sub _ _ z rows A c u T {h with cell:= ?_,read:= ?_,own:= ?_,soft:=fun hm h1 ad ha i=>by rw[gJ (w:=w) (a:=⟨ad.block,i,none⟩) (hS hm _ ((h.own hm).2 ad ha).1)];exact h.soft hm h1 ad ha i} fun i f tc ht=>ih i f tc ht hR fun hm k hk=> ?_
  ·intro ad ha i f tc ht
   rw[dj (w:=w)]
   ·exact h.cell ad ha i f tc ht
   ·rw[bB]
    by_cases hm:m= .snap
    ·exact(hR _ (h.read hm ad ha (zU ht))).2
    ·exact hS hm _ ((h.own hm).2 ad ha).1
  ·exact fun hm ad ha hne=>(hR _ (h.read hm ad ha hne)).1
  ·intro hm
   refine⟨(h.own hm).1,fun ad ha=>⟨((h.own hm).2 ad ha).1,((h.own hm).2 ad ha).2.1,fun j hj=> ?_⟩⟩;have hb:=hS hm _ ((h.own hm).2 ad ha).1;obtain⟨⟨x,hx⟩,hf⟩:=((h.own hm).2 ad ha).2.2 j hj;exact⟨⟨x,by rw[dj (w:=w) (by exact hb)];exact hx⟩,by rw[gJ (w:=w) (by exact hb)];exact hf⟩
  ·have:=oe hm
   subst this;exact hS cY k (h.ki rfl i f k hk).1
theorem ai.freeze (h:ai w R m S c v):(∀k,R k→R' k)→(m≠ .snap→ ∀k,S k→R' k)→ai w R' .snap S' c v:=by
 induction h generalizing S' with
 |any _ _ _ h=>exact fun _ _=> .any _ _ _ h
 |sc _ _ _ h=>exact fun _ _=> .sc _ _ _ h
 |sub m S z rows A c u T h hn ih=>
  intro hR hS;refine .sub _ _ z rows A c u (fun _ _ _=>False) {h with read:= ?_,own:=fun hm=>absurd rfl hm,soft:=fun hm=>absurd rfl hm,ki:=fun hm=>by cases hm} fun i f tc ht=>ih i f tc ht hR fun hm k hk=> ?_
  ·intro _ ad ha hne
   by_cases hm:m= .snap
   ·exact hR _ (h.read hm ad ha hne)
   ·exact hS hm _ ((h.own hm).2 ad ha).1
  ·have:=oe hm
   subst this;exact hS cY k (h.ki rfl i f k hk).1
theorem ai.j8 (h:ai w R .snap S c v) (hR: ∀k,R k→R' k):ai w R' .snap S' c v:=h.freeze hR fun h=>absurd rfl h
end Go.T
namespace Go.T
theorem fY {o:Nat}: ∀{l:List Nat},gG o l=true↔o∈l
 |[]=>by simp[gG]
 |a::r=>by
  simp only[gG,bQ]
  cases h:Nat.beq a o with
  |true=>simp[ez h]
  |false=>simp only[fY (l:=r)];have:=lJ h;simp[Ne.symm this]
theorem cr {o:Nat} {l:List Nat}:gG o l=false↔o∉l:=by
 rw[←fY];simp
theorem qV {o d:Nat}: ∀{l:List Nat},d∈HA o l↔d∈l∧d≠o
 |[]=>by simp[HA]
 |a::r=>by
  simp only[HA]
  cases h:Nat.beq a o with
  |true=>
   have h1:=ez h;subst h1;simp only[qV (l:=r),bQ];exact⟨fun⟨x,y⟩=>⟨.inr x,y⟩,fun⟨x,y⟩=>⟨x.resolve_left y,y⟩⟩
  |false=>
   have h1:=lJ h;simp only[bQ,qV (l:=r)]
   constructor
   ·rintro(rfl|⟨x,y⟩)
    ·exact⟨.inl rfl,h1⟩
    ·exact⟨.inr x,y⟩
   ·rintro⟨rfl|x,y⟩
    ·exact .inl rfl
    ·exact .inr ⟨x,y⟩
theorem lA {a:List Nat} {l:List Nat} (h:nQ a l=false) {x:Nat} (hx:x∈a):x∉l:=by
 induction a with
 |nil=>cases hx
 |cons y r ih=>
  simp only[nQ] at h
  cases h1:gG y l with
  |true=>rw[h1] at h;cases h
  |false=>
   rw[h1] at h;rcases bQ.1 hx with rfl|hx
   ·exact cr.1 h1
   ·exact ih h hx
theorem beq_false {a b:Nat} (h:a≠b):Nat.beq a b=false:=by
 cases h1:Nat.beq a b with
 |true=>exact absurd (ez h1) h
 |false=>rfl
theorem uX (a:Nat):Nat.beq a a=true:=by simp
section
variable {α β : Type}
theorem cQ (i j:Nat) (e:α): ∀(l:List (Nat×α)),aa j (jn i e l)=if j=i then some e else aa j l
 |[]=>by
  simp only[jn,aa]
  by_cases h:j=i
  ·subst h;simp
  ·rw[beq_false (Ne.symm h),aO h]
 |(a,x)::r=>by
  have ih:=cQ i j e r;simp only[jn]
  cases h1:Nat.beq a i with
  |true=>
   have h1:=ez h1;subst h1;simp only[aa]
   by_cases h:j=a
   ·subst h;simp
   ·rw[beq_false (Ne.symm h),aO h]
  |false=>
   have h1:=lJ h1
   cases h2:Nat.ble i a with
   |true=>
    simp only[aa]
    by_cases h:j=i
    ·subst h;simp
    ·rw[beq_false (Ne.symm h),aO h]
   |false=>
    simp only[aa]
    by_cases h3:a=j
    ·subst h3;rw[uX,aO h1]
    ·rw[beq_false h3];exact ih
theorem eP (i j:Nat): ∀(l:List (Nat×α)),aa j (kz i l)=if j=i then none else aa j l
 |[]=>by simp[kz,aa]
 |(a,x)::r=>by
  have ih:=eP i j r;simp only[kz]
  cases h1:Nat.beq a i with
  |true=>
   have h1:=ez h1;subst h1;simp only[aa,ih]
   by_cases h:j=a
   ·simp[h]
   ·rw[beq_false (Ne.symm h)]
  |false=>
   have h1:=lJ h1;simp only[aa]
   by_cases h3:a=j
   ·subst h3;rw[uX,aO h1]
   ·rw[beq_false h3];exact ih
theorem mA (f:α→α) (j:Nat): ∀(l:List (Nat×α)),aa j (mapA f l)=(aa j l).map f
 |[]=>rfl
 |(a,x)::r=>by
  simp only[mapA,aa]
  cases Nat.beq a j with
  |true=>rfl
  |false=>exact mA f j r
theorem CG (l:List Nat) (j:Nat): ∀(m:List (Nat×α)),aa j (sK l m)=if j∈l then aa j m else none
 |[]=>by simp[sK,aa]
 |(a,x)::r=>by
  have ih:=CG l j r;simp only[sK]
  cases h1:gG a l with
  |true=>
   have h1:=fY.1 h1;simp only[aa]
   by_cases h:a=j
   ·subst h;rw[uX,aY h1]
   ·rw[beq_false h];exact ih
  |false=>
   have h1:=cr.1 h1;simp only[aa,ih]
   by_cases h:a=j
   ·subst h;rw[aO h1,aO h1]
   ·rw[beq_false h]
end
structure Fp where
 I:Nat→Prop
 S:Nat→Nat→Prop
 V:Nat→Value
 β:Nat→Addr
def rd (φ:Fp) (ds:List Nat) (k:Nat):Prop:=φ.I k∨ ∃d,d∈ds∧φ.S d k
abbrev zG:Nat→Prop:=fun _=>False
def OB.m (b:OB):Mode:=if b.deep then .deep else .top
def iU (w:World) (φ:Fp) (o:Nat) (b:OB):Prop:=ai w φ.I b.m (φ.S o) (.sub b.z b.rows) (φ.V o)
def sL (z n:Nat) (l h:Int) (V v:Value):Prop:=
 0≤l∧l≤h∧h≤n∧ ∃A A' c,V= .slice A n c∧v= .slice A' (h.toNat-l.toNat) (c-l.toNat)∧(c≠l.toNat→A'=A.map fun a=>a.add (l.toNat*z))∧(A=none→A'=none)∧
  ∀ad,A=some ad→ ∃ad',A'=some ad'∧ad'.block=ad.block∧(ad.spot=none→ad'.spot=none)
def ax (ob:List (Nat×OB)) (d:Nat):Prop:= ∃b,aa d ob=some b
def Ks (ob:List (Nat×OB)) (w:World) (φ:Fp) (z:Nat) (rows:List (List TC)) (v:Value) (o:Nat) (i:Int) (f:Nat):Prop:=
 ∃b,aa o ob=some b∧0≤i∧pV b.rows i.toNat f=some (.sub z rows)∧ ∃ad n c,φ.V o= .slice (some ad) n c∧w.cell? (ad.add (i.toNat*b.z+f))=some v
def bN (ob:List (Nat×OB)) (w:World) (φ:Fp) (e:CE) (v:Value):Prop:=
 match e with
 | .sc x=>v=x∧Bm x
 | .nil z=>v= .slice none 0 0∧0<z
 | .ref o cut=> ∃b,aa o ob=some b∧match cut with
   |none=>v=φ.V o
   |some (l,h)=>sL b.z b.rows.length l h (φ.V o) v
 | .snap ds loc z rows=>(∀d∈ds,d=0∨ax ob d)∧ai w (rd φ ds) .snap zG (.sub z rows) v∧ ∀o i f,loc=some (o,i,f)→o∈ds∧Ks ob w φ z rows v o i f
 | .gone=>True
def ij (ob:List (Nat×OB)) (w:World) (φ:Fp) (c:ku) (u:Value):Prop:=
 match c with
 | .mk true cs=> ∃xs:Array Value,u= .agg xs∧xs.size=cs.length∧ ∀(j:Nat) (e:CE),cs[j]?=some e→ ∃x,xs[j]?=some x∧x.cells= #[x]∧bN ob w φ e x
 | .mk false cs=> ∃e,cs=[e]∧u.cells= #[u]∧bN ob w φ e u
 | .ptr b=>u= .pointer (some (φ.β b))
def bF (ob:List (Nat×OB)) (w:World) (φ:Fp) (e:TE) (v:Value):Prop:=
 match e with
 | .dead=>True
 | .v true es=> ∃vs:Array Value,v= .tuple vs∧vs.size=es.length∧ ∀(k:Nat) (c:ku),es[k]?=some c→ ∃u,vs[k]?=some u∧ij ob w φ c u
 | .v false es=> ∃c,es=[c]∧ij ob w φ c v
 | .bp b off=>v= .pointer (some ((φ.β b).add off))
 | .ep ds cells=>(∀d∈ds,d=0∨ax ob d)∧ ∃ad,v= .pointer (some ad)∧(cells≠[]→rd φ ds ad.block)∧ ∀(j:Nat) (tc:TC),cells[j]?=some tc→ ∃u,w.cell? (ad.add j)=some u∧ai w (rd φ ds) .snap zG tc u
 | .er o path i f=> ∃b,aa o ob=some b∧0≤i∧ ∃ad n c,φ.V o= .slice (some ad) n c∧match path with
   |none=>v= .pointer (some (ad.add (i.toNat*b.z+f)))
   |some (i0,f0)=>0≤i0∧ ∃z1 kL,pV b.rows i0.toNat f0=some (.sub z1 kL)∧ ∃ad1 n1 c1,w.cell? (ad.add (i0.toNat*b.z+f0))=some (.slice (some ad1) n1 c1)∧
    v= .pointer (some (ad1.add (i.toNat*z1+f)))
 | .fn f caps=>v= .func (.func f) #[] (caps.map fun b=>Value.pointer (some (φ.β b))).toArray
 | .kb b=>v= .bool b
structure Kt (F:Nat→Prop) (w0 w:World):Prop where
 os:w.os=w0.os
 tape:w.tape=w0.tape
 output:w.output=w0.output
 size:w0.heap.size≤w.heap.size
 block: ∀k,k<w0.heap.size→ ¬F k→w.heap[k]?=w0.heap[k]?
structure Arg where
 all:Nat→Prop
 sh:Nat→Prop
structure Sep (F:Nat→Prop) (A:Arg) (w0 w:World) (φ:Fp) (bx:List (Nat×List CE)) (ob:List (Nat×OB)):Prop where
 arg:φ.S 0=A.all
 nz: ∀o,ax ob o→o≠0
 apart: ∀o o' k,ax ob o→ax ob o'→φ.S o k→φ.S o' k→o=o'
 read: ∀o k,ax ob o→φ.S o k→ ¬φ.I k
 fresh: ∀o k,ax ob o→φ.S o k→k<w.heap.size∧(w0.heap.size≤k∨F k)
 ro: ∀k,φ.I k→k<w.heap.size∧(w0.heap.size≤k∨F k∨A.sh k)
 iP: ∀k,A.all k→k<w0.heap.size∧ ¬F k
 box: ∀b cs,aa b bx=some cs→qJ b=true→ ¬φ.I (φ.β b).block∧(∀o,ax ob o→ ¬φ.S o (φ.β b).block)∧(w0.heap.size≤(φ.β b).block∨F (φ.β b).block)∧
  ∀b' cs',aa b' bx=some cs'→b'≠b→(φ.β b').block≠(φ.β b).block
 spot: ∀b cs,aa b bx=some cs→(qJ b=true→(φ.β b).spot=none)∧(φ.β b).block<w.heap.size∧(qJ b=false→A.all (φ.β b).block)
 soft: ∀b cs j,aa b bx=some cs→qJ b=true→j<cs.length→w.frozen? ((φ.β b).add j)=false
structure aC (F:Nat→Prop) (A:Arg) (w0:World) (φ:Fp) (st:TS) (tm:Array Value) (w:World):Prop where
 tmp: ∀i,bF st.ob w φ (st.get i) (tm.getD i undef)
 box: ∀b cs,aa b st.bx=some cs→ ∀(j:Nat) (e:CE),cs[j]?=some e→ ∃v,w.cell? ((φ.β b).add j)=some v∧v.cells= #[v]∧bN st.ob w φ e v
 obj: ∀o b,aa o st.ob=some b→iU w φ o b
 sep:Sep F A w0 w φ st.bx st.ob
 frm:Kt F w0 w
def Rel (F:Nat→Prop) (A:Arg) (w0:World) (st:TS) (tm:Array Value) (w:World):Prop:= ∃φ,aC F A w0 φ st tm w
section
variable {ob vY : List (Nat × OB)} {w w' : World} {φ φ' : Fp} {f : CE → CE} {g : TE → TE}
def oL (f:CE→CE):ku→ku
 | .mk a cs=> .mk a (cs.map f)
 | .ptr b=> .ptr b
theorem og (f:CE→CE): ∀(es:List ku) (k:Nat),(gH f es)[k]?=(es[k]?).map (oL f)
 |[],_=>by simp[gH]
 | .mk a cs::r,0=>by simp[gH,oL]
 | .ptr b::r,0=>by simp[gH,oL]
 | .mk a cs::r,k+1=>by simp[gH,og f r k]
 | .ptr b::r,k+1=>by simp[gH,og f r k]
theorem kM (f:CE→CE): ∀(es:List ku),(gH f es).length=es.length
 |[]=>rfl
 | .mk a cs::r=>by simp[gH,kM f r]
 | .ptr b::r=>by simp[gH,kM f r]
theorem ij.xE (hβ:φ'.β=φ.β) (hc: ∀e v,bN ob w φ e v→bN vY w' φ' (f e) v) {c:ku} {u:Value} (h:ij ob w φ c u):
 ij vY w' φ' (oL f c) u:=by
 cases c with
 |ptr b=>simp only[ij,oL] at h ⊢;rw[hβ];exact h
 |mk a cs=>
  cases a with
  |true=>
   obtain⟨xs,h1,h2,h3⟩:=h;refine⟨xs,h1,by simp[h2],fun j e he=> ?_⟩;rw[gj] at he
   cases h4:cs[j]? with
   |none=>rw[h4] at he;cases he
   |some e0=>
    rw[h4] at he;simp only[ie,aT] at he;subst he;obtain⟨x,hx,hx1,hok⟩:=h3 j e0 h4;exact⟨x,hx,hx1,hc _ _ hok⟩
  |false=>
   obtain⟨e,rfl,h2,h3⟩:=h;exact⟨f e,rfl,h2,hc _ _ h3⟩
theorem bF.xE (hβ:φ'.β=φ.β) (hc: ∀e v,bN ob w φ e v→bN vY w' φ' (f e) v) (ht: ∀e v,(∀t es,e≠ .v t es)→bF ob w φ e v→bF vY w' φ' (g e) v) {e:TE} {v:Value} (h:bF ob w φ e v):
 bF vY w' φ' (qt f g e) v:=by
 by_cases hv: ∃t es,e= .v t es
 ·obtain⟨tup,es,rfl⟩:=hv
  cases tup with
  |true=>
   obtain⟨vs,h1,h2,h3⟩:=h;refine⟨vs,h1,by rw[kM];exact h2,fun k c hk=> ?_⟩;rw[og] at hk
   cases h4:es[k]? with
   |none=>rw[h4] at hk;cases hk
   |some c0=>
    rw[h4] at hk;simp only[ie,aT] at hk;obtain⟨u,hu,hok⟩:=h3 k c0 h4;exact⟨u,hu,by rw[←hk];exact hok.xE hβ hc⟩
  |false=>
   obtain⟨c,rfl,hok⟩:=h;refine⟨_,?_,hok.xE hβ hc⟩
   cases c<;>rfl
 ·have h1:qt f g e=g e:=by cases e<;>first|rfl|exact absurd ⟨_,_,rfl⟩ hv
  rw[h1];exact ht e v (fun t es he=>hv ⟨t,es,he⟩) h
end
theorem get_map (f:CE→CE) (g:TE→TE) (h:List (Nat×OB)→List (Nat×OB)) (hd:g .dead= .dead) (st:TS) (i:Nat):(pO f g h st).get i=qt f g (st.get i):=by
 unfold TS.get pO;simp only[mA]
 cases aa i st.tm with
 |none=>exact hd.symm
 |some e=>rfl
variable {F : Nat → Prop} {A : Arg} {w0 w w' : World} {φ φ' : Fp} {st st' : TS} {tm xy : Array Value}
theorem aC.xE (h:aC F A w0 φ st tm w) {f:CE→CE} {g:TE→TE} {k:List (Nat×OB)→List (Nat×OB)} (hd:g .dead= .dead) (hβ:φ'.β=φ.β)
 (hc: ∀e v,bN st.ob w φ e v→bN (k st.ob) w' φ' (f e) v) (ht: ∀e v,(∀t es,e≠ .v t es)→bF st.ob w φ e v→bF (k st.ob) w' φ' (g e) v)
 (hw: ∀b cs,aa b st.bx=some cs→ ∀j,j<cs.length→w'.cell? ((φ.β b).add j)=w.cell? ((φ.β b).add j))
 (ho: ∀o b,aa o (k st.ob)=some b→iU w' φ' o b) (hs:Sep F A w0 w' φ' (mapA (List.map f) st.bx) (k st.ob)) (hf:Kt F w0 w'):aC F A w0 φ' (pO f g k st) tm w' where
 tmp i:=by rw[get_map f g k hd];exact(h.tmp i).xE hβ hc ht
 box b cs hb j e he:=by
  simp only[pO,mA] at hb
  cases h1:aa b st.bx with
  |none=>rw[h1] at hb;cases hb
  |some cs0=>
   rw[h1] at hb;simp only[ie,aT] at hb;subst hb;rw[gj] at he
   cases h2:cs0[j]? with
   |none=>rw[h2] at he;cases he
   |some e0=>
    rw[h2] at he;simp only[ie,aT] at he;subst he;obtain⟨v,hv,h1c,hok⟩:=h.box b cs0 h1 j e0 h2;refine⟨v,?_,h1c,hc _ _ hok⟩;rw[hβ,hw b cs0 h1 j (List.getElem?_eq_some_iff.1 h2).1];exact hv
 obj:=ho
 sep:=hs
 frm:=hf
theorem Sep.boxes {bx bx':List (Nat×List CE)} {ob:List (Nat×OB)} (h:Sep F A w0 w φ bx ob) (hb: ∀b cs',aa b bx'=some cs'→ ∃cs,aa b bx=some cs∧cs'.length=cs.length):Sep F A w0 w φ bx' ob where
 arg:=h.arg
 nz:=h.nz
 apart:=h.apart
 read:=h.read
 fresh:=h.fresh
 ro:=h.ro
 iP:=h.iP
 box b cs' hl hw:=by
  obtain⟨cs,h1,_⟩:=hb b cs' hl;obtain⟨a1,a2,a3,a4⟩:=h.box b cs h1 hw;refine⟨a1,a2,a3,fun b' He hl' hne=> ?_⟩;obtain⟨cs2,h2,_⟩:=hb b' He hl';exact a4 b' cs2 h2 hne
 spot b cs' hl:=by obtain⟨cs,h1,_⟩:=hb b cs' hl;exact h.spot b cs h1
 soft b cs' j hl hw hj:=by obtain⟨cs,h1,h2⟩:=hb b cs' hl;exact h.soft b cs j h1 hw az
theorem dZ (f:CE→CE) {bx:List (Nat×List CE)}: ∀b cs',aa b (mapA (List.map f) bx)=some cs'→ ∃cs,aa b bx=some cs∧cs'.length=cs.length:=by
 intro b cs' h;rw[mA] at h
 cases h1:aa b bx with
 |none=>rw[h1] at h;cases h
 |some cs=>
  rw[h1] at h;simp only[ie,aT] at h;exact⟨cs,rfl,by rw[←h];simp⟩
theorem Sep.lt {bx:List (Nat×List CE)} {ob:List (Nat×OB)} (h:Sep F A w0 w φ bx ob) (hs:w0.heap.size≤w.heap.size) {d:Nat} (hd:d=0∨ax ob d) {k:Nat} (hk:φ.S d k):k<w.heap.size:=by
 rcases hd with rfl|hd
 ·rw[h.arg] at hk;exact fE (h.iP k hk).1 hs
 ·exact(h.fresh d k hd hk).1
theorem Sep.Rr {bx:List (Nat×List CE)} {ob:List (Nat×OB)} (h:Sep F A w0 w φ bx ob) (hs:w0.heap.size≤w.heap.size) {ds:List Nat} (hd: ∀d∈ds,d=0∨ax ob d) {k:Nat} (hk:rd φ ds k):k<w.heap.size:=by
 rcases hk with hk|⟨d,hm,hk⟩
 ·exact(h.ro k hk).1
 ·exact h.lt hs (hd d hm) hk
structure jH (w w':World):Prop where
 os:w'.os=w.os
 tape:w'.tape=w.tape
 output:w'.output=w.output
 size:w.heap.size≤w'.heap.size
 block: ∀k,k<w.heap.size→w'.heap[k]?=w.heap[k]?
theorem jH.refl (w:World):jH w w:=⟨rfl,rfl,rfl,bV _,fun _ _=>rfl⟩
theorem jH.alloc (w:World) (o:Obj):jH w (w.alloc o):=⟨rfl,rfl,rfl,by simp,fun k hk=>heap_alloc_old w o hk⟩
theorem jH.drew (w:World):jH w w.drew:=⟨rfl,rfl,rfl,bV _,fun _ _=>rfl⟩
theorem jH.trans {a b c:World} (h:jH a b) (k:jH b c):jH a c:=
 ⟨k.os.trans h.os,k.tape.trans h.tape,k.output.trans h.output,nP h.size k.size,fun i hi=>(k.block i (fE hi h.size)).trans (h.block i hi)⟩
theorem Kt.Jp (h:Kt F w0 w) (g:jH w w'):Kt F w0 w':=
 ⟨g.os.trans h.os,g.tape.trans h.tape,g.output.trans h.output,nP h.size g.size,fun k hk hf=>(g.block k (fE hk h.size)).trans (h.block k hk hf)⟩
theorem jH.cell (g:jH w w') {a:Addr} {v:Value} (h:w.cell? a=some v):w'.cell? a=some v:=by
 rw[dj (w:=w) (g.block _ (World.block_lt_of_cell? w a h))];exact h
theorem jH.Ku (g:jH w w') {a:Addr} (h:a.block<w.heap.size):w'.cell? a=w.cell? a:=dj (g.block _ h)
theorem bN.stay {ob:List (Nat×OB)} (hI: ∀k,φ.I k→w'.heap[k]?=w.heap[k]?) (hS: ∀d k,d=0∨ax ob d→φ.S d k→w'.heap[k]?=w.heap[k]?)
 (hV: ∀o,ax ob o→ ∀ad n c,φ.V o= .slice (some ad) n c→ ∀i v,w.cell? (ad.add i)=some v→w'.cell? (ad.add i)=some v) {e:CE} {v:Value} (h:bN ob w φ e v):bN ob w' φ e v:=by
 cases e with
 |snap ds loc z rows=>
  obtain⟨h1,h2,h3⟩:=h;refine⟨h1,h2.move (fun k hk=>⟨hk,?_⟩) (fun hm=>absurd rfl hm),fun o i f hl=>⟨(h3 o i f hl).1,?_⟩⟩
  ·rcases hk with hk|⟨d,hd,hk⟩
   ·exact hI k hk
   ·exact hS d k (h1 d hd) hk
  ·obtain⟨b,a1,a2,a3,ad,n,c,a4,a5⟩:=(h3 o i f hl).2
   exact⟨b,a1,a2,a3,ad,n,c,a4,hV o ⟨b,a1⟩ ad n c a4 _ _ a5⟩
 |_=>exact h
theorem bF.stay {ob:List (Nat×OB)} (hI: ∀k,φ.I k→w'.heap[k]?=w.heap[k]?) (hS: ∀d k,d=0∨ax ob d→φ.S d k→w'.heap[k]?=w.heap[k]?)
 (hV: ∀o,ax ob o→ ∀ad n c,φ.V o= .slice (some ad) n c→ ∀i v,w.cell? (ad.add i)=some v→w'.cell? (ad.add i)=some v)
 (hA: ∀ad v,w.cell? ad=some v→(∀k,ad.block=k→w'.heap[k]?=w.heap[k]?)→w'.cell? ad=some v) (hE: ∀ds cells v,bF ob w φ (.ep ds cells) v→bF ob w' φ (.ep ds cells) v) {e:TE} {v:Value} (hv: ∀t es,e≠ .v t es)
 (h:bF ob w φ e v):bF ob w' φ e v:=by
 cases e with
 |v t es=>exact absurd rfl (hv t es)
 |ep ds cells=>exact hE ds cells v h
 |er o path i f=>
  obtain⟨b,h1,h2,ad,n,c,h3,h4⟩:=h;refine⟨b,h1,h2,ad,n,c,h3,?_⟩
  cases path with
  |none=>exact h4
  |some q=>
   obtain⟨i0,f0⟩:=q;obtain⟨a1,z1,kL,a2,ad1,n1,c1,a3,a4⟩:=h4;exact⟨a1,z1,kL,a2,ad1,n1,c1,hV o ⟨b,h1⟩ ad n c h3 _ _ a3,a4⟩
 |_=>exact h
theorem oM (st:TS):pO id id id st=st:=by
 have h1: ∀(es:List ku),gH id es=es:=by
  intro es
  induction es with
  |nil=>rfl
  |cons c r ih=>cases c<;>simp[gH,ih]
 have h2: ∀e:TE,qt id id e=e:=by
  intro e;cases e<;>first|rfl|(simp only[qt,h1])
 have h3: ∀{α:Type} (f:α→α) (hf: ∀a,f a=a) (l:List (Nat×α)),mapA f l=l:=by
  intro α f hf l
  induction l with
  |nil=>rfl
  |cons a r ih=>obtain⟨j,x⟩:=a;simp only[mapA,hf,ih]
 unfold pO;rw[h3 _ h2,h3 _ (fun l=>List.map_id l)]
 rfl
theorem Sep.Jp {bx:List (Nat×List CE)} {ob:List (Nat×OB)} (h:Sep F A w0 w φ bx ob) (g:jH w w'):Sep F A w0 w' φ bx ob where
 arg:=h.arg
 nz:=h.nz
 apart:=h.apart
 read:=h.read
 fresh o k ho hk:=⟨fE (h.fresh o k ho hk).1 g.size,(h.fresh o k ho hk).2⟩
 ro k hk:=⟨fE (h.ro k hk).1 g.size,(h.ro k hk).2⟩
 iP:=h.iP
 box:=h.box
 spot b cs hb:=⟨(h.spot b cs hb).1,fE (h.spot b cs hb).2.1 g.size,(h.spot b cs hb).2.2⟩
 soft b cs j hb hw hj:=by
  rw[gJ (w:=w) (g.block _ (by rw[bB];exact(h.spot b cs hb).2.1))];exact h.soft b cs j hb hw hj
theorem aC.Jp (h:aC F A w0 φ st tm w) (g:jH w w'):aC F A w0 φ st tm w':=by
 have hI: ∀k,φ.I k→w'.heap[k]?=w.heap[k]?:=fun k hk=>g.block k (h.sep.ro k hk).1;have hS: ∀d k,d=0∨ax st.ob d→φ.S d k→w'.heap[k]?=w.heap[k]?:=fun d k hd hk=>g.block k (h.sep.lt h.frm.size hd hk)
 have hE: ∀ds cells v,bF st.ob w φ (.ep ds cells) v→bF st.ob w' φ (.ep ds cells) v:=by
  intro ds cells v ⟨h1,ad,h2,hr,h3⟩;refine⟨h1,ad,h2,hr,fun j tc hj=> ?_⟩;obtain⟨u,h4,h5⟩:=h3 j tc hj;exact⟨u,g.cell h4,h5.move (fun k hk=>⟨hk,g.block k (h.sep.Rr h.frm.size h1 hk)⟩) (fun hm=>absurd rfl hm)⟩
 have:=h.xE (f:=id) (g:=id) (k:=id) (φ':=φ) (w':=w') rfl rfl (fun e v he=>he.stay hI hS (fun o ho ad n c hv i v hc=>g.cell hc))
  (fun e v hv he=>bF.stay hI hS (fun o ho ad n c hv i v hc=>g.cell hc) (fun ad v hc _=>g.cell hc) hE hv he)
  (fun b cs hb j hj=>g.Ku (by rw[bB];exact(h.sep.spot b cs hb).2.1))
  (fun o b hb=>(h.obj o b hb).move (fun k hk=>⟨hk,hI k hk⟩) (fun _ k hk=>hS o k (.inr ⟨b,hb⟩) hk))
  (by
    have h3:mapA (List.map (id:CE→CE)) st.bx=st.bx:=by
     have:=congrArg TS.bx (oM st);exact this
    rw[h3]
    exact h.sep.Jp g) (h.frm.Jp g)
 rw[oM] at this;exact this
end Go.T
namespace Go.T
variable {F : Nat → Prop} {A : Arg} {w0 w w' : World} {φ φ' : Fp} {st st' : TS} {tm xy : Array Value}
theorem getD_set_ne (tm:Array Value) (d i:Nat) (v x:Value) (h:i≠d):(tm.setIfInBounds d v).getD i x=tm.getD i x:=by
 simp only[nN,EX];rw[aO fun h'=>h h'.symm]
theorem Ec (tm:Array Value) (d:Nat) (v x:Value) (h:d<tm.size):(tm.setIfInBounds d v).getD d x=v:=by
 simp only[nN,EX];simp[h]
theorem F4 (st:TS) (d i:Nat) (e:TE):(st.set d e).get i=if i=d then e else st.get i:=by
 unfold TS.get TS.set;simp only[cQ]
 by_cases h:i=d
 ·simp[h]
 ·simp[h]
theorem aC.Ed (h:aC F A w0 φ st tm w) {d:Nat} {e:TE} {v:Value} (hd:d<tm.size) (ht:bF st.ob w φ e v):aC F A w0 φ (st.set d e) (tm.setIfInBounds d v) w where
 tmp i:=by
  rw[F4]
  by_cases hi:i=d
  ·subst hi;rw[aY rfl,Ec _ _ _ _ hd];exact ht
  ·rw[aO hi,getD_set_ne _ _ _ _ _ hi];exact h.tmp i
 box:=h.box
 obj:=h.obj
 sep:=h.sep
 frm:=h.frm
theorem aC.OY (h:aC F A w0 φ st tm w) {d:Nat} {e:TE} (ht:bF st.ob w φ e (tm.getD d undef)):aC F A w0 φ (st.set d e) tm w where
 tmp i:=by
  rw[F4]
  by_cases hi:i=d
  ·subst hi;rw[aY rfl];exact ht
  ·rw[aO hi];exact h.tmp i
 box:=h.box
 obj:=h.obj
 sep:=h.sep
 frm:=h.frm
theorem Sep.sub {bx:List (Nat×List CE)} {ob vY:List (Nat×OB)} (h:Sep F A w0 w φ bx ob) (hd: ∀o,ax vY o→ax ob o):Sep F A w0 w φ bx vY where
 arg:=h.arg
 nz o ho:=h.nz o (hd o ho)
 apart o o' k h1 h2:=h.apart o o' k (hd o h1) (hd o' h2)
 read o k ho:=h.read o k (hd o ho)
 fresh o k ho:=h.fresh o k (hd o ho)
 ro:=h.ro
 iP:=h.iP
 box b cs hb hw:=by
  obtain⟨a1,a2,a3,a4⟩:=h.box b cs hb hw;exact⟨a1,fun o ho=>a2 o (hd o ho),a3,a4⟩
 spot:=h.spot
 soft:=h.soft
theorem je {o d:Nat} {ob:List (Nat×OB)}:ax (kz o ob) d↔d≠o∧ax ob d:=by
 unfold ax;rw[eP]
 by_cases h:d=o
 ·simp[h]
 ·simp[h]
theorem oN {o d:Nat} {ob:List (Nat×OB)} (h:d≠o):aa d (kz o ob)=aa d ob:=by rw[eP,aO h]
theorem bN.kill {o:Nat} {ob:List (Nat×OB)} {e:CE} {v:Value} (h:bN ob w φ e v):bN (kz o ob) w φ (E1 o e) v:=by
 unfold E1
 cases hd:gG o (dG e) with
 |true=>trivial
 |false=>
  have hd:=cr.1 hd
  cases e with
  |ref p cut=>
   simp only[dG,fc] at hd;obtain⟨b,h1,h2⟩:=h;exact⟨b,by rw[oN (Ne.symm hd)];exact h1,h2⟩
  |snap ds loc z rows=>
   simp only[dG] at hd;obtain⟨h1,h2,h3⟩:=h;refine⟨fun d hm=> ?_,h2,fun p i f hl=> ?_⟩
   ·rcases h1 d hm with h|h
    ·exact .inl h
    ·exact .inr (je.2 ⟨fun e=>hd (e▸hm),h⟩)
   ·obtain⟨a1,b,a2,a3⟩:=h3 p i f hl
    have hp:p≠o:=fun e=>by subst e;exact hd a1
    exact⟨a1,b,by rw[oN hp];exact a2,a3⟩
  |_=>exact h
theorem bF.kill {o:Nat} {ob:List (Nat×OB)} {e:TE} {v:Value} (hv: ∀t es,e≠ .v t es) (h:bF ob w φ e v):bF (kz o ob) w φ (Kk o e) v:=by
 cases e with
 |v t es=>exact absurd rfl (hv t es)
 |ep ds cells=>
  simp only[Kk]
  cases hd:gG o ds with
  |true=>trivial
  |false=>
   have hd:=cr.1 hd;obtain⟨h1,h2⟩:=h;refine⟨fun d hm=> ?_,h2⟩;rcases h1 d hm with h|h
   ·exact .inl h
   ·exact .inr (je.2 ⟨fun e=>hd (e▸hm),h⟩)
 |er p path i f=>
  simp only[Kk]
  cases hd:Nat.beq p o with
  |true=>trivial
  |false=>
   have hd:=lJ hd;obtain⟨b,h1,h2⟩:=h;exact⟨b,by rw[oN hd];exact h1,h2⟩
 |_=>exact h
theorem aC.iT (h:aC F A w0 φ st tm w) (o:Nat):aC F A w0 φ (iT o st) tm w:=by
 refine h.xE (φ':=φ) rfl rfl (fun e v he=>he.kill) (fun e v hv he=>he.kill hv) (fun _ _ _ _ _=>rfl) (fun p b hb=> ?_) ?_ h.frm
 ·rw[eP] at hb
  split at hb
  ·cases hb
  ·exact h.obj p b hb
 ·exact(h.sep.boxes (dZ _)).sub fun d hd=>(je.1 hd).2
theorem fP {o d:Nat}:ax (T.iT o st).ob d↔d≠o∧ax st.ob d:=je
theorem E5 {o d:Nat} (h:d≠o):aa d (T.iT o st).ob=aa d st.ob:=oN h
def Fp.more (φ:Fp) (X:Nat→Prop):Fp:={φ with I:=fun k=>φ.I k∨X k}
theorem F5 {X:Nat→Prop} {ds:List Nat} {k:Nat} (h:rd φ ds k):rd (φ.more X) ds k:=h.imp .inl id
theorem ai.jI {R R' S:Nat→Prop} {m:Mode} {c:TC} {v:Value} (h:ai w R m S c v) (hR: ∀k,R k→R' k):ai w R' m S c v:=
 h.move (fun k hk=>⟨hR k hk,rfl⟩) fun _ _ _=>rfl
theorem bN.more {X:Nat→Prop} {ob:List (Nat×OB)} {e:CE} {v:Value} (h:bN ob w φ e v):bN ob w (φ.more X) e v:=by
 cases e with
 |snap ds loc z rows=>
  obtain⟨h1,h2,h3⟩:=h;exact⟨h1,h2.jI fun k hk=>F5 hk,h3⟩
 |_=>exact h
theorem bF.more {X:Nat→Prop} {ob:List (Nat×OB)} {e:TE} {v:Value} (hv: ∀t es,e≠ .v t es) (h:bF ob w φ e v):bF ob w (φ.more X) e v:=by
 cases e with
 |v t es=>exact absurd rfl (hv t es)
 |ep ds cells=>
  obtain⟨h1,ad,h2,hr,h3⟩:=h;refine⟨h1,ad,h2,fun hc=>F5 (hr hc),fun j tc hj=> ?_⟩;obtain⟨u,h4,h5⟩:=h3 j tc hj;exact⟨u,h4,h5.jI fun k hk=>F5 hk⟩
 |_=>exact h
theorem zV (st:TS):mapA (List.map (id:CE→CE)) st.bx=st.bx:=congrArg TS.bx (oM st)
theorem aC.more (h:aC F A w0 φ st tm w) {X:Nat→Prop} (hX: ∀k,X k→k<w.heap.size∧(w0.heap.size≤k∨F k∨A.sh k)) (hS: ∀k o,X k→ax st.ob o→ ¬φ.S o k)
 (hB: ∀b cs,aa b st.bx=some cs→qJ b=true→ ¬X (φ.β b).block):aC F A w0 (φ.more X) st tm w:=by
 have:=h.xE (f:=id) (g:=id) (k:=id) (φ':=φ.more X) (w':=w) rfl rfl (fun e v he=>he.more) (fun e v hv he=>he.more hv) (fun _ _ _ _ _=>rfl)
  (fun o b hb=>(h.obj o b hb).jI fun k hk=> .inl hk)
  (by
    rw[zV]
    exact {
     arg:=h.sep.arg,nz:=h.sep.nz,apart:=h.sep.apart,fresh:=h.sep.fresh,iP:=h.sep.iP,spot:=h.sep.spot,soft:=h.sep.soft
     read:=fun o k ho hk hI=>hI.elim (h.sep.read o k ho hk) fun hx=>hS k o hx ho hk
     ro:=fun k hk=>hk.elim (h.sep.ro k) (hX k)
     box:=fun b cs hb hw=>by
      obtain⟨a1,a2,a3,a4⟩:=h.sep.box b cs hb hw
      exact⟨fun hI=>hI.elim a1 (hB b cs hb hw),a2,a3,a4⟩}) h.frm
 rw[oM] at this;exact this
def Fp.add (φ:Fp) (o:Nat) (X:Nat→Prop) (v:Value):Fp:={φ with S:=fun d k=>if d=o then X k else φ.S d k,V:=fun d=>if d=o then v else φ.V d}
theorem F6 {o:Nat} {X:Nat→Prop} {v:Value} {ds:List Nat} (hd:o∉ds) {k:Nat} (h:rd φ ds k):rd (φ.add o X v) ds k:=by
 rcases h with h|⟨d,hm,h⟩
 ·exact .inl h
 ·refine .inr ⟨d,hm,?_⟩
  show(if d=o then X k else φ.S d k)
  have hp:d≠o:=fun e=>by subst e;exact hd hm
  rw[aO hp];exact h
theorem nS {o d:Nat} {X:Nat→Prop} {v:Value} (h:d≠o) {k:Nat}:(φ.add o X v).S d k=φ.S d k:=aO h
theorem MH {o d:Nat} {X:Nat→Prop} {v:Value} (h:d≠o):(φ.add o X v).V d=φ.V d:=aO h
theorem fe {o d:Nat} {b:OB} {ob:List (Nat×OB)}:ax (jn o b ob) d↔d=o∨ax ob d:=by
 unfold ax;rw[cQ]
 by_cases h:d=o
 ·simp[h]
 ·simp[h]
theorem gK {o d:Nat} {b:OB} {ob:List (Nat×OB)} (h:d≠o):aa d (jn o b ob)=aa d ob:=by rw[cQ,aO h]
theorem gV {o:Nat} {b:OB} {ob:List (Nat×OB)}:aa o (jn o b ob)=some b:=by rw[cQ,aY rfl]
theorem bN.add {o:Nat} {b:OB} {X:Nat→Prop} {V:Value} {ob:List (Nat×OB)} (h0:o≠0) (hn: ¬ax ob o) {e:CE} {v:Value} (h:bN ob w φ e v):bN (jn o b ob) w (φ.add o X V) e v:=by
 cases e with
 |ref p cut=>
  obtain⟨b',h1,h2⟩:=h;have hp:p≠o:=fun e=>hn ⟨b',e▸h1⟩;refine⟨b',by rw[gK hp];exact h1,?_⟩;rw[MH hp];exact h2
 |snap ds loc z rows=>
  obtain⟨h1,h2,h3⟩:=h;have hd:o∉ds:=fun hm=>(h1 o hm).elim h0 hn;refine⟨fun d hm=>(h1 d hm).imp id fun h=>fe.2 (.inr h),h2.jI fun k hk=>F6 hd hk,fun p i f hl=>⟨(h3 p i f hl).1,?_⟩⟩;obtain⟨a1,b',a2,a3,a4,ad,n,c,a5,a6⟩:=h3 p i f hl;have hp:p≠o:=fun e=>hn ⟨b',e▸a2⟩;exact⟨b',by rw[gK hp];exact a2,a3,a4,ad,n,c,by rw[MH hp];exact a5,a6⟩
 |_=>exact h
theorem bF.add {o:Nat} {b:OB} {X:Nat→Prop} {V:Value} {ob:List (Nat×OB)} (h0:o≠0) (hn: ¬ax ob o) {e:TE} {v:Value} (hv: ∀t es,e≠ .v t es) (h:bF ob w φ e v):
 bF (jn o b ob) w (φ.add o X V) e v:=by
 cases e with
 |v t es=>exact absurd rfl (hv t es)
 |ep ds cells=>
  obtain⟨h1,ad,h2,hr,h3⟩:=h;have hd:o∉ds:=fun hm=>(h1 o hm).elim h0 hn;refine⟨fun d hm=>(h1 d hm).imp id fun h=>fe.2 (.inr h),ad,h2,fun hc=>F6 hd (hr hc),fun j tc hj=> ?_⟩;obtain⟨u,h4,h5⟩:=h3 j tc hj;exact⟨u,h4,h5.jI fun k hk=>F6 hd hk⟩
 |er p path i f=>
  obtain⟨b',h1,h2,ad,n,c,h3,h4⟩:=h;have hp:p≠o:=fun e=>hn ⟨b',e▸h1⟩;exact⟨b',by rw[gK hp];exact h1,h2,ad,n,c,by rw[MH hp];exact h3,h4⟩
 |_=>exact h
theorem OZ (st:TS) (o:Nat) (b:OB):st.Rb o b=pO id id (jn o b) st:=by
 have h:=oM st;unfold pO at h ⊢;have h1:=congrArg TS.tm h;have h2:=congrArg TS.bx h;simp only at h1 h2;rw[h1,h2];rfl
theorem aC.add (h:aC F A w0 φ st tm w) {o:Nat} {b:OB} {X:Nat→Prop} {v:Value} (h0:o≠0) (hn: ¬ax st.ob o) (hc:ai w φ.I b.m X (.sub b.z b.rows) v)
 (hX: ∀k,X k→k<w.heap.size∧(w0.heap.size≤k∨F k)) (hI: ∀k,X k→ ¬φ.I k) (hS: ∀k d,X k→ax st.ob d→ ¬φ.S d k)
 (hB: ∀b cs,aa b st.bx=some cs→qJ b=true→ ¬X (φ.β b).block):aC F A w0 (φ.add o X v) (st.Rb o b) tm w:=by
 rw[OZ];refine h.xE (φ':=φ.add o X v) (w':=w) rfl rfl (fun e u he=>he.add h0 hn) (fun e u hv he=>he.add h0 hn hv) (fun _ _ _ _ _=>rfl) (fun p b' hb=> ?_) ?_ h.frm
 ·unfold iU
  by_cases hp:p=o
  ·subst hp
   rw[gV] at hb
   cases hb
   show ai w φ.I b.m (fun k=>if p=p then X k else φ.S p k) (.sub b.z b.rows) (if p=p then v else φ.V p);simp only[if_true];exact hc
  ·rw[gK hp] at hb
   have:=h.obj p b' hb;unfold iU at this;show ai w φ.I b'.m (fun k=>if p=o then X k else φ.S p k) (.sub b'.z b'.rows) (if p=o then v else φ.V p);simp only[aO hp];exact this
 ·rw[zV]
  exact {
   arg:=by
    show(fun k=>if 0=o then X k else φ.S 0 k)=A.all;simp only[aO (Ne.symm h0)];exact h.sep.arg
   nz:=fun d hd=>(fe.1 hd).elim (fun e=>e▸h0) (h.sep.nz d)
   apart:=fun d d' k h1 h2 h3 h4=>by
    by_cases e1:d=o
    ·by_cases e2:d'=o
     ·rw[e1,e2]
     ·subst e1
      rw[nS e2] at h4
      have h3:X k:=by have OL:(if d=d then X k else φ.S d k):=h3;simpa using OL
      exact absurd h4 (hS k d' h3 ((fe.1 h2).resolve_left e2))
    ·rw[nS e1] at h3
     by_cases e2:d'=o
     ·subst e2
      have h4:X k:=by have Wl:(if d'=d' then X k else φ.S d' k):=h4;simpa using Wl
      exact absurd h3 (hS k d h4 ((fe.1 h1).resolve_left e1))
     ·rw[nS e2] at h4
      exact h.sep.apart d d' k ((fe.1 h1).resolve_left e1) ((fe.1 h2).resolve_left e2) h3 h4
   read:=fun d k hd hk=>by
    by_cases e1:d=o
    ·subst e1
     have hk:X k:=by have hk':(if d=d then X k else φ.S d k):=hk;simpa using hk'
     exact hI k hk
    ·rw[nS e1] at hk
     exact h.sep.read d k ((fe.1 hd).resolve_left e1) hk
   fresh:=fun d k hd hk=>by
    by_cases e1:d=o
    ·subst e1
     have hk:X k:=by have hk':(if d=d then X k else φ.S d k):=hk;simpa using hk'
     exact hX k hk
    ·rw[nS e1] at hk
     exact h.sep.fresh d k ((fe.1 hd).resolve_left e1) hk
   ro:=h.sep.ro
   iP:=h.sep.iP
   box:=fun b' cs hb hw=>by
    obtain⟨a1,a2,a3,a4⟩:=h.sep.box b' cs hb hw;refine⟨a1,fun d hd hk=> ?_,a3,a4⟩
    by_cases e1:d=o
    ·subst e1
     have hk:X (φ.β b').block:=by have hk':(if d=d then X (φ.β b').block else φ.S d (φ.β b').block):=hk;simpa using hk'
     exact hB b' cs hb hw hk
    ·rw[nS e1] at hk
     exact a2 d ((fe.1 hd).resolve_left e1) hk
   spot:=h.sep.spot
   soft:=h.sep.soft}
theorem aC.uP (h:aC F A w0 φ st tm w) {o:Nat} {b:OB} {X:Nat→Prop} {v:Value} (h0:o≠0) (hc:ai w φ.I b.m X (.sub b.z b.rows) v)
 (hX: ∀k,X k→k<w.heap.size∧(w0.heap.size≤k∨F k)) (hI: ∀k,X k→ ¬φ.I k) (hS: ∀k d,X k→d≠o→ax st.ob d→ ¬φ.S d k)
 (hB: ∀b cs,aa b st.bx=some cs→qJ b=true→ ¬X (φ.β b).block):aC F A w0 (φ.add o X v) (T.uP o b st) tm w:=
 (h.iT o).add h0 (fun hd=>(fP.1 hd).1 rfl) hc hX hI (fun k d hx hd=>hS k d hx (fP.1 hd).1 (fP.1 hd).2)
   fun b cs hb hw=>by
    obtain⟨cs0,h1,_⟩:=dZ _ b cs hb;exact hB b cs0 h1 hw
end Go.T
namespace Go.T
variable {F : Nat → Prop} {A : Arg} {w0 w w' : World} {φ φ' : Fp} {st st' : TS} {tm xy : Array Value}
attribute [local semireducible] ay in
theorem rR (rows:List (List TC)) (l h:Int):ay rows l h=(rows.take h.toNat).drop l.toNat:=rfl
theorem CH {rows:List (List TC)} {l h:Int} (h2:h≤rows.length):(ay rows l h).length=h.toNat-l.toNat:=by
 rw[rR,kr,fJ]
 have:h.toNat≤rows.length:=by omega
 omega
theorem F7 {rows:List (List TC)} {l h:Int} {i f:Nat} {tc:TC} (ht:pV (ay rows l h) i f=some tc):pV rows (i+l.toNat) f=some tc∧i+l.toNat<h.toNat:=by
 unfold pV at ht ⊢;rw[rR,ko,AU] at ht
 by_cases hi:l.toNat+i<h.toNat
 ·rw[aY hi] at ht
  rw[Nat.add_comm];exact⟨ht,hi⟩
 ·rw[aO hi] at ht;cases ht
theorem uY {a:Addr} (n:Nat) (h:a.spot=none):(a.add n).spot=none:=by unfold Addr.add;split<;>simp[h]
theorem oh {a:Addr} (n:Nat) (h:a.spot=none):a.add n=⟨a.block,a.off+n,none⟩:=by
 unfold Addr.add;split
 ·subst n;cases a;simp_all
 ·rfl
theorem ai.cut {R S:Nat→Prop} {m:Mode} {z:Nat} {rows:List (List TC)} {V v:Value} {l h:Int} (k:ai w R m S (.sub z rows) V) (hc:sL z rows.length l h V v):
 ai w R m S (.sub z (ay rows l h)) v:=by
 cases k with
 |sub _ _ _ _ A c u T k hn=>
  obtain⟨h0,h1,h2,A1,A',c1,e1,rfl,e2,e3,e4⟩:=hc
  cases e1
  have hlen:=CH (rows:=rows) (l:=l) h2
  have hle:h.toNat≤rows.length:=by omega
  rw[←hlen];have hcl:=k.len
  have hne: ∀i f tc,pV (ay rows l h) i f=some tc→c≠l.toNat:=fun i f tc ht=>by
   have:=(F7 ht).2;omega
  refine .sub _ _ _ _ A' (c-l.toNat) (fun i f=>u (i+l.toNat) f) (fun i f=>T (i+l.toNat) f) ?_ fun i f tc ht=>hn _ _ _ (F7 ht).1
  have hb: ∀ad',A'=some ad'→ ∃ad,A=some ad∧ad'.block=ad.block∧(ad.spot=none→ad'.spot=none):=fun ad' ha=>by
   cases hA:A with
   |none=>rw[e3 hA] at ha;cases ha
   |some ad=>
    obtain⟨ad2,b1,b2,b3⟩:=e4 ad hA;rw[b1] at ha;cases ha;exact⟨ad,rfl,b2,b3⟩
  have hnm:rows=[]→ay rows l h=[]:=fun e=>by rw[rR,e];simp
  refine⟨by omega,nP (Nat.sub_le _ _) k.cap,k.z0,fun r hr=>k.width r ?_,fun hr=> ?_,fun ad' ha i f tc ht=> ?_,fun hm ad' ha hr=> ?_,fun hm=>⟨fun ha=> ?_,fun ad' ha=> ?_⟩,fun hm Mc ad' ha i=> ?_,fun hm i f q hq=> ?_⟩
  ·rw[rR] at hr
   exact qO (uN hr)
  ·obtain⟨ad,ha⟩:=k.addr fun e=>hr (hnm e)
   obtain⟨ad',b1,_⟩:=e4 ad ha;exact⟨ad',b1⟩
  ·obtain⟨ad,hA,_⟩:=hb ad' ha
   have:=e2 (hne i f tc ht);rw[hA] at this;simp only[ie] at this;rw[this] at ha
   cases ha
   rw[Addr.add_add];have:=k.cell ad hA _ _ _ (F7 ht).1;rw[mW] at this;rw[show l.toNat*z+(i*z+f)=i*z+l.toNat*z+f by omega];exact this
  ·obtain⟨ad,hA,b1,_⟩:=hb ad' ha
   rw[b1];exact k.read hm ad hA fun e=>hr (hnm e)
  ·cases hA:A with
   |none=>rw[(k.own hm).1 hA];omega
   |some ad=>obtain⟨ad2,b1,_⟩:=e4 ad hA;rw[b1] at ha;cases ha
  ·obtain⟨ad,hA,b1,b2⟩:=hb ad' ha
   obtain⟨a1,a2,a3⟩:=(k.own hm).2 ad hA;refine⟨by rw[b1];exact a1,b2 a2,fun j hj=> ?_⟩
   have U1:c≠l.toNat:=fun e=>by rw[e] at hj;simp at hj
   have:=e2 U1;rw[hA] at this;simp only[ie] at this;rw[this] at ha
   cases ha
   rw[oh _ a2];simp only;rw[pM];refine a3 _ ?_
   have:l.toNat*z+(c-l.toNat)*z≤c*z:=by
    rw[←mW];exact lz _ az
   omega
  ·obtain⟨ad,hA,b1,b2⟩:=hb ad' ha
   rw[b1];exact k.soft hm Mc ad hA i
  ·obtain⟨a1,a2,a3⟩:=k.ki hm _ _ _ hq
   refine⟨a1,fun ad' ha=> ?_,fun i' f' D4=> ?_⟩
   ·obtain⟨ad,hA,b1,_⟩:=hb ad' ha
    rw[b1];exact a2 ad hA
   ·obtain⟨c1,c2⟩:=a3 _ _ D4
    exact⟨by omega,c2⟩
theorem iU.cut {o:Nat} {b:OB} (h:iU w φ o b) {cut:Option (Int×Int)} {v:Value} (hc:match(generalizing:=false) cut with|none=>v=φ.V o|some (l,h)=>sL b.z b.rows.length l h (φ.V o) v):
 ai w φ.I b.m (φ.S o) (.sub b.z (HB cut b.rows)) v:=by
 cases cut with
 |none=>simp only at hc;rw[hc];exact h
 |some q=>obtain⟨l,h1⟩:=q;exact ai.cut h hc
theorem Lt {o:Nat} {l:Option (Nat×Int×Nat)} {p:Nat} {i:Int} {f:Nat} (h:Rc o l=some (p,i,f)):l=some (p,i,f)∧p≠o:=by
 unfold Rc at h
 cases l with
 |none=>cases h
 |some q=>
  obtain⟨a,b,c⟩:=q;simp only at h
  cases h1:Nat.beq a o with
  |true=>rw[h1] at h;cases h
  |false=>rw[h1] at h;cases h;exact⟨rfl,lJ h1⟩
theorem Jq {o:Nat} {ds:List Nat} {k:Nat} (h:rd φ ds k):rd (φ.more (φ.S o)) (HA o ds) k:=by
 rcases h with h|⟨d,hd,h⟩
 ·exact .inl (.inl h)
 ·by_cases e:d=o
  ·subst e;exact .inl (.inr h)
  ·exact .inr ⟨d,qV.2 ⟨hd,e⟩,h⟩
theorem bN.freeze {o:Nat} {b:OB} {ob:List (Nat×OB)} (hb:aa o ob=some b) (hO:iU w φ o b) {e:CE} {v:Value} (h:bN ob w φ e v):bN (kz o ob) w (φ.more (φ.S o)) (Ce o b e) v:=by
 cases e with
 |ref p cut=>
  obtain⟨b',h1,h2⟩:=h;simp only[Ce]
  cases hd:Nat.beq p o with
  |true=>
   have:=ez hd;subst this;rw[hb] at h1;cases h1;refine And.intro (fun d hm=>by cases hm) (And.intro ?_ (fun _ _ _ hl=>by cases hl));exact(hO.cut h2).freeze (fun k hk=> .inl (.inl hk)) fun _ k hk=> .inl (.inr hk)
  |false=>
   have:=lJ hd;exact⟨b',by rw[oN this];exact h1,h2⟩
 |snap ds loc z rows=>
  obtain⟨h1,h2,h3⟩:=h;refine⟨fun d hm=> ?_,h2.jI fun k hk=>Jq hk,fun p i f hl=> ?_⟩
  ·obtain⟨a1,a2⟩:=qV.1 hm
   exact(h1 d a1).imp id fun h=>je.2 ⟨a2,h⟩
  ·obtain⟨a1,a2⟩:=Lt hl
   obtain⟨a3,b',a4,a5⟩:=h3 p i f a1;exact⟨qV.2 ⟨a3,a2⟩,b',by rw[oN a2];exact a4,a5⟩
 |_=>exact h
theorem bF.freeze {o:Nat} {ob:List (Nat×OB)} {e:TE} {v:Value} (hv: ∀t es,e≠ .v t es) (h:bF ob w φ e v):bF (kz o ob) w (φ.more (φ.S o)) (FV o e) v:=by
 cases e with
 |v t es=>exact absurd rfl (hv t es)
 |ep ds cells=>
  obtain⟨h1,ad,h2,hr,h3⟩:=h;refine⟨fun d hm=> ?_,ad,h2,fun hc=>Jq (hr hc),fun j tc hj=> ?_⟩
  ·obtain⟨a1,a2⟩:=qV.1 hm
   exact(h1 d a1).imp id fun h=>je.2 ⟨a2,h⟩
  ·obtain⟨u,h4,h5⟩:=h3 j tc hj
   exact⟨u,h4,h5.jI fun k hk=>Jq hk⟩
 |er p path i f=>
  simp only[FV]
  cases hd:Nat.beq p o with
  |true=>trivial
  |false=>
   obtain⟨b,h1,h2⟩:=h;exact⟨b,by rw[oN (lJ hd)];exact h1,h2⟩
 |_=>exact h
theorem aC.pP (h:aC F A w0 φ st tm w) (o:Nat): ∃φ',aC F A w0 φ' (pP st o) tm w∧φ'.β=φ.β∧φ'.V=φ.V∧φ'.S=φ.S∧ ∀k,φ'.I k↔φ.I k∨(ax st.ob o∧φ.S o k):=by
 unfold T.pP
 cases hb:aa o st.ob with
 |none=>exact⟨φ,h,rfl,rfl,rfl,fun k=>⟨.inl,fun hk=>hk.elim id fun⟨⟨b,hb'⟩,_⟩=>by rw[hb] at hb';cases hb'⟩⟩
 |some b=>
  refine⟨φ.more (φ.S o),h.xE (φ':=φ.more (φ.S o)) (w':=w) rfl rfl (fun e v he=>he.freeze hb (h.obj o b hb)) (fun e v hv he=>he.freeze hv) (fun _ _ _ _ _=>rfl) (fun p b' hp=> ?_) ?_ h.frm,rfl,rfl,rfl,fun k=>⟨fun hk=>hk.imp id fun hk=>⟨⟨b,hb⟩,hk⟩,fun hk=>hk.imp id fun hk=>hk.2⟩⟩
  ·rw[eP] at hp
   split at hp
   ·cases hp
   ·exact(h.obj p b' hp).jI fun k hk=> .inl hk
  ·have hs:=(h.sep.boxes (dZ (Ce o b))).sub (vY:=kz o st.ob) fun d hd=>(je.1 hd).2
   have hin:ax st.ob o:=⟨b,hb⟩
   exact {
    arg:=hs.arg,nz:=hs.nz,apart:=hs.apart,fresh:=hs.fresh,iP:=hs.iP,spot:=hs.spot,soft:=hs.soft
    read:=fun p k hp hk hI=>by
     obtain⟨a1,a2⟩:=je.1 hp;rcases hI with hI|hI
     ·exact h.sep.read p k a2 hk hI
     ·exact a1 (h.sep.apart p o k a2 hin hk hI)
    ro:=fun k hk=>hk.elim (h.sep.ro k) fun hk=>⟨(h.sep.fresh o k hin hk).1,(h.sep.fresh o k hin hk).2.imp id .inl⟩
    box:=fun b' cs hb' hw=>by
     obtain⟨a1,a2,a3,a4⟩:=hs.box b' cs hb' hw;obtain⟨cs0,c1,_⟩:=dZ _ b' cs hb'
     exact⟨fun hI=>hI.elim a1 ((h.sep.box b' cs0 c1 hw).2.1 o hin),a2,a3,a4⟩}
theorem aC.ny (h:aC F A w0 φ st tm w) {o:Nat} {b b':OB} {X:Nat→Prop} (hb:aa o st.ob=some b) (hz:b'.z=b.z) (hl:b'.rows.length=b.rows.length)
 (hc:ai w' φ.I b'.m X (.sub b'.z b'.rows) (φ.V o)) (hf:Kt F w0 w') (hsz:w.heap.size≤w'.heap.size) (hw: ∀k,k<w.heap.size→ ¬φ.S o k→w'.heap[k]?=w.heap[k]?)
 (hX: ∀k,X k→k<w'.heap.size∧(w0.heap.size≤k∨F k)) (hI: ∀k,X k→ ¬φ.I k) (hS: ∀k d,X k→d≠o→ax st.ob d→ ¬φ.S d k)
 (hB: ∀b cs,aa b st.bx=some cs→qJ b=true→ ¬X (φ.β b).block):aC F A w0 (φ.add o X (φ.V o)) (ny o b' st) tm w':=by
 have hin:ax st.ob o:=⟨b,hb⟩;have h0:o≠0:=h.sep.nz o hin
 have hV:(φ.add o X (φ.V o)).V=φ.V:=by
  funext d
  show(if d=o then φ.V o else φ.V d)=φ.V d
  split
  ·subst_vars;rfl
  ·rfl
 have j7: ∀d,ax (jn o b' st.ob) d↔ax st.ob d:=fun d=>by
  rw[fe];exact⟨fun h=>h.elim (fun e=>e▸hin) id,.inr⟩
 have stI: ∀k,φ.I k→w'.heap[k]?=w.heap[k]?:=fun k hk=>hw k (h.sep.ro k hk).1 fun hs=>h.sep.read o k hin hs hk
 have stS: ∀d k,d≠o→d=0∨ax st.ob d→φ.S d k→w'.heap[k]?=w.heap[k]?:=fun d k hne hd hk=>hw k (h.sep.lt h.frm.size hd hk) fun hs=>by
  rcases hd with rfl|hd
  ·rw[h.sep.arg] at hk
   have:=h.sep.iP k hk;rcases (h.sep.fresh o k hin hs).2 with h3|h3
   ·omega
   ·exact this.2 h3
  ·exact hne (h.sep.apart d o k hd hin hk hs)
 have stR: ∀ds k,o∉ds→(∀d∈ds,d=0∨ax st.ob d)→rd φ ds k→rd (φ.add o X (φ.V o)) ds k∧w'.heap[k]?=w.heap[k]?:=fun ds k hn hd hk=>by
  refine⟨F6 hn hk,?_⟩;rcases hk with hk|⟨d,hm,hk⟩
  ·exact stI k hk
  ·exact stS d k (fun e=>by subst e;exact hn hm) (hd d hm) hk
 have stV: ∀p b1 ad n c i f tc u,p≠o→aa p st.ob=some b1→φ.V p= .slice (some ad) n c→pV b1.rows i f=some tc→w.cell? (ad.add (i*b1.z+f))=some u→w'.cell? (ad.add (i*b1.z+f))=some u:=by
  intro p b1 ad n c i f tc u hne hp hv ht hcell;have hO:=h.obj p b1 hp;unfold iU at hO;rw[hv] at hO
  have hS:φ.S p ad.block:=by
   cases hO with
   |sub _ _ _ _ _ _ u T k hn=>exact(k.own (by unfold OB.m;split<;>simp)).2 ad rfl|>.1
  rw[dj (w:=w)]
  ·exact hcell
  ·rw[bB];exact stS p _ hne (.inr ⟨b1,hp⟩) hS
 have cbox: ∀p cs,aa p st.bx=some cs→w'.heap[(φ.β p).block]?=w.heap[(φ.β p).block]?:=fun p cs hp=>by
  obtain⟨a1,a2,a3⟩:=h.sep.spot p cs hp;refine hw _ a2 fun hs=> ?_
  cases wR:qJ p with
  |true=>exact(h.sep.box p cs hp wR).2.1 o hin hs
  |false=>
   have:=h.sep.iP _ (a3 wR);rcases (h.sep.fresh o _ hin hs).2 with h3|h3
   ·omega
   ·exact this.2 h3
 refine h.xE (φ':=φ.add o X (φ.V o)) rfl rfl (fun e v he=> ?_) (fun e v hv he=> ?_) (fun p cs hp j hj=> ?_) (fun p b1 hp=> ?_) ?_ hf
 ·cases e with
  |ref p cut=>
   obtain⟨b1,h1,h2⟩:=he
   by_cases hp:p=o
   ·subst hp
    rw[hb] at h1;cases h1;refine⟨b',gV,?_⟩;rw[hV]
    cases cut with
    |none=>exact h2
    |some q=>obtain⟨l,r⟩:=q;simp only at h2 ⊢;rw[hz,hl];exact h2
   ·exact⟨b1,by rw[gK hp];exact h1,by rw[hV];exact h2⟩
  |snap ds loc z rows=>
   simp only[Jh]
   cases hd:gG o ds with
   |true=>trivial
   |false=>
    have hd:=cr.1 hd;obtain⟨h1,h2,h3⟩:=he;refine⟨fun d hm=>(h1 d hm).imp id (j7 d).2,h2.move (fun k hk=>stR ds k hd h1 hk) (fun hm=>absurd rfl hm),fun p i f hl=> ?_⟩;obtain⟨a1,b1,a2,a3,a4,ad,n,c,a5,a6⟩:=h3 p i f hl
    have hp:p≠o:=fun e=>by subst e;exact hd a1
    refine⟨a1,b1,by rw[gK hp];exact a2,a3,a4,ad,n,c,by rw[hV];exact a5,stV p b1 ad n c _ _ _ _ hp a2 a5 a4 a6⟩
  |_=>exact he
 ·cases e with
  |v t es=>exact absurd rfl (hv t es)
  |ep ds cells=>
   simp only[FU]
   cases hd:gG o ds with
   |true=>trivial
   |false=>
    have hd:=cr.1 hd;obtain⟨h1,ad,h2,hr,h3⟩:=he;refine⟨fun d hm=>(h1 d hm).imp id (j7 d).2,ad,h2,fun hc=>(stR ds _ hd h1 (hr hc)).1,fun j tc hj=> ?_⟩;obtain⟨u,h4,h5⟩:=h3 j tc hj
    have hc:cells≠[]:=fun e=>by rw[e] at hj;simp at hj
    exact⟨u,by rw[dj (w:=w) (by rw[bB];exact(stR ds _ hd h1 (hr hc)).2)];exact h4,h5.move (fun k hk=>stR ds k hd h1 hk) (fun hm=>absurd rfl hm)⟩
  |er p path i f=>
   obtain⟨b1,h1,h2,ad,n,c,h3,h4⟩:=he
   cases path with
   |none=>
    simp only[FU]
    by_cases hp:p=o
    ·subst hp
     rw[hb] at h1;cases h1;exact⟨b',gV,h2,ad,n,c,by rw[hV];exact h3,by rw[hz];exact h4⟩
    ·exact⟨b1,by rw[gK hp];exact h1,h2,ad,n,c,by rw[hV];exact h3,h4⟩
   |some q=>
    obtain⟨i0,f0⟩:=q;simp only[FU]
    cases hd:Nat.beq p o with
    |true=>trivial
    |false=>
     have hp:=lJ hd;obtain⟨a1,z1,kL,a2,ad1,n1,c1,a3,a4⟩:=h4;exact⟨b1,by rw[gK hp];exact h1,h2,ad,n,c,by rw[hV];exact h3,a1,z1,kL,a2,ad1,n1,c1,stV p b1 ad n c _ _ _ _ hp h1 h3 a2 a3,a4⟩
  |_=>exact he
 ·exact dj (by rw[bB];exact cbox p cs hp)
 ·unfold iU
  by_cases Hf:p=o
  ·subst Hf
   rw[gV] at hp;cases hp;rw[hV];show ai w' φ.I b'.m (fun k=>if p=p then X k else φ.S p k) (.sub b'.z b'.rows) (φ.V p);simp only[if_true];exact hc
  ·rw[gK Hf] at hp
   rw[hV];show ai w' φ.I b1.m (fun k=>if p=o then X k else φ.S p k) (.sub b1.z b1.rows) (φ.V p);simp only[aO Hf];exact(h.obj p b1 hp).move (fun k hk=>⟨hk,stI k hk⟩) fun _ k hk=>stS p k Hf (.inr ⟨b1,hp⟩) hk
 ·have hs:=h.sep.boxes (dZ (Jh o))
  have self: ∀k,(φ.add o X (φ.V o)).S o k→X k:=fun k hk=>by
   have hk':(if o=o then X k else φ.S o k):=hk;simpa using hk'
  exact {
   arg:=by
    show(fun k=>if 0=o then X k else φ.S 0 k)=A.all;simp only[aO (Ne.symm h0)];exact h.sep.arg
   nz:=fun d hd=>h.sep.nz d ((j7 d).1 hd)
   apart:=fun d d' k h1 h2 h3 h4=>by
    have i1:=(j7 d).1 h1;have i2:=(j7 d').1 h2
    by_cases e1:d=o
    ·subst e1
     by_cases e2:d'=d
     ·exact e2.symm
     ·rw[nS e2] at h4;exact absurd h4 (hS k d' (self k h3) e2 i2)
    ·rw[nS e1] at h3
     by_cases e2:d'=o
     ·subst e2;exact absurd h3 (hS k d (self k h4) e1 i1)
     ·rw[nS e2] at h4;exact h.sep.apart d d' k i1 i2 h3 h4
   read:=fun d k hd hk=>by
    have hd:=(j7 d).1 hd
    by_cases e1:d=o
    ·subst e1;exact hI k (self k hk)
    ·rw[nS e1] at hk;exact h.sep.read d k hd hk
   fresh:=fun d k hd hk=>by
    have hd:=(j7 d).1 hd
    by_cases e1:d=o
    ·subst e1;exact hX k (self k hk)
    ·rw[nS e1] at hk
     exact⟨fE (h.sep.fresh d k hd hk).1 hsz,(h.sep.fresh d k hd hk).2⟩
   ro:=fun k hk=>⟨fE (h.sep.ro k hk).1 hsz,(h.sep.ro k hk).2⟩
   iP:=h.sep.iP
   box:=fun p cs hp wR=>by
    obtain⟨cs0,c1,_⟩:=dZ _ p cs hp;obtain⟨a1,a2,a3,a4⟩:=hs.box p cs hp wR;refine⟨a1,fun d hd hk=> ?_,a3,a4⟩;have hd:=(j7 d).1 hd
    by_cases e1:d=o
    ·subst e1;exact hB p cs0 c1 wR (self _ hk)
    ·rw[nS e1] at hk;exact a2 d hd hk
   spot:=fun p cs hp=>⟨(hs.spot p cs hp).1,fE (hs.spot p cs hp).2.1 hsz,(hs.spot p cs hp).2.2⟩
   soft:=fun p cs j hp wR hj=>by
    obtain⟨cs0,c1,c2⟩:=dZ _ p cs hp;rw[gJ (w:=w) (by rw[bB];exact cbox p cs0 c1)]
    exact h.sep.soft p cs0 j c1 wR az}
end Go.T
namespace Go.T
variable {F : Nat → Prop} {A : Arg} {w0 w w' : World} {φ φ' : Fp} {st st' : TS} {tm xy : Array Value}
theorem aC.less (h:aC F A w0 φ st tm w) (ht: ∀i,st'.get i= .dead∨st'.get i=st.get i) (hb: ∀b cs,aa b st'.bx=some cs→aa b st.bx=some cs) (ho:st'.ob=st.ob):aC F A w0 φ st' tm w where
 tmp i:=by
  rw[ho];rcases ht i with h1|h1
  ·rw[h1];trivial
  ·rw[h1];exact h.tmp i
 box b cs h1:=by rw[ho];exact h.box b cs (hb b cs h1)
 obj:=by rw[ho];exact h.obj
 sep:=by rw[ho];exact h.sep.boxes fun b cs h1=>⟨cs,hb b cs h1,rfl⟩
 frm:=h.frm
theorem HK (st:TS) (l:List Nat) (bx:List (Nat×List CE)) (ob:List (Nat×OB)) (i:Nat):(⟨sK l st.tm,bx,ob⟩:TS).get i= .dead∨(⟨sK l st.tm,bx,ob⟩:TS).get i=st.get i:=by
 unfold TS.get;simp only[CG]
 by_cases h:i∈l
 ·right;rw[aY h]
 ·left;rw[aO h]
theorem aC.keep (h:aC F A w0 φ st tm w) (l:List Nat):aC F A w0 φ ⟨sK l st.tm,st.bx,st.ob⟩ tm w:=
 h.less (HK st l st.bx st.ob) (fun _ _ h=>h) rfl
theorem CI (l:List Nat) (j:Nat): ∀(m:List (Nat×List CE)) (cs:List CE),aa j (pU l m)=some cs→aa j m=some cs
 |[],cs,h=>by simp[pU,aa] at h
 |(a,x)::r,cs,h=>by
  have ih:=CI l j r cs
  have key:aa j ((a,x)::pU l r)=some cs→aa j ((a,x)::r)=some cs:=fun h=>by
   simp only[aa] at h ⊢
   cases h1:Nat.beq a j with
   |true=>rw[h1] at h;exact h
   |false=>rw[h1] at h;exact ih h
  have skip:(100000≤a→False)→a∉l→aa j (pU l r)=some cs→aa j ((a,x)::r)=some cs:=fun h1 h2 h=>by
   simp only[aa]
   cases h3:Nat.beq a j with
   |false=>exact ih h
   |true=>
    exfalso
    have h3:=ez h3;subst h3
    have: ∀(m:List (Nat×List CE)),aa a (pU l m)=none:=by
     intro m
     induction m with
     |nil=>rfl
     |cons p r ih=>
      obtain⟨c,y⟩:=p;simp only[pU]
      have hk: ∀(hc:c≠a),aa a ((c,y)::pU l r)=none:=fun hc=>by
       simp only[aa,beq_false hc];exact ih
      split
      ·rename_i h4
       exact hk fun e=>h1 (by subst e;exact lI h4)
      ·split
       ·rename_i h5
        exact hk fun e=>h2 (by subst e;exact fY.1 h5)
       ·exact ih
    rw[this] at h;cases h
  simp only[pU] at h
  split at h
  ·exact key h
  ·rename_i h4
   split at h
   ·exact key h
   ·rename_i h5
    exact skip (fun h6=>by rw[Cu h6] at h4;cases h4) (cr.1 h5) h
theorem aC.SN (h:aC F A w0 φ st tm w) (l:List Nat):aC F A w0 φ ⟨sK l st.tm,pU l st.bx,st.ob⟩ tm w:=
 h.less (HK st l (pU l st.bx) st.ob) (fun b cs hb=>CI l b st.bx cs hb) rfl
theorem Lu {b:Nat} {ob:List (Nat×OB)} {β:Nat→Addr} (hβ: ∀c,c≠b→β c=φ.β c) {e:TE} {v:Value} (hn:Cy b e=false) (h:bF ob w φ e v):bF ob w {φ with β:=β} e v:=by
 have QT: ∀(c:ku) (u:Value),Qx b c=false→ij ob w φ c u→ij ob w {φ with β:=β} c u:=by
  intro c u hc h
  cases c with
  |ptr c=>
   simp only[ij] at h ⊢;rw[hβ c (lJ hc)];exact h
  |mk a cs=>cases a<;>exact h
 cases e with
 |v t es=>
  simp only[Cy,List.any_eq_false] at hn
  cases t with
  |true=>
   obtain⟨vs,h1,h2,h3⟩:=h;refine⟨vs,h1,h2,fun k c hk=> ?_⟩;obtain⟨u,h4,h5⟩:=h3 k c hk;exact⟨u,h4,QT c u (by simpa using hn c (eK hk)) h5⟩
  |false=>
   obtain⟨c,rfl,h3⟩:=h;exact⟨c,rfl,QT c v (by simpa using hn c cY) h3⟩
 |bp c off=>
  simp only[bF] at h ⊢;rw[hβ c (lJ hn)];exact h
 |fn f caps=>
  simp only[bF] at h ⊢;rw[h];have hn:=cr.1 hn
  congr 2
  refine List.map_congr_left fun c hc=> ?_;rw[hβ c fun e=>by subst e;exact hn hc]
 |_=>exact h
theorem E6 (b:Nat) (st:TS) (i:Nat):(E2 b st).get i=if Cy b (st.get i)=true then .dead else st.get i:=by
 unfold TS.get E2;simp only[mA]
 cases aa i st.tm with
 |none=>simp
 |some e=>
  simp only[ie]
  cases Cy b e<;>simp
theorem aC.E2 (h:aC F A w0 φ st tm w) (b:Nat):aC F A w0 φ (E2 b st) tm w:=by
 refine h.less (fun i=> ?_) (fun c cs hc=> ?_) rfl
 ·rw[E6];split<;>simp
 ·have:aa c (kz b st.bx)=some cs:=hc
  rw[eP] at this
  split at this
  ·cases this
  ·exact this
def Fp.box (φ:Fp) (b:Nat) (ad:Addr):Fp:={φ with β:=fun c=>if c=b then ad else φ.β c}
theorem oO {b:Nat} {ad:Addr}:(φ.box b ad).β b=ad:=aY rfl
theorem jq {b c:Nat} {ad:Addr} (h:c≠b):(φ.box b ad).β c=φ.β c:=aO h
theorem aC.zL (h:aC F A w0 φ st tm w) {b:Nat} {cs:List CE} {ad:Addr} (hw:qJ b=true) (hs:ad.spot=none) (hlt:ad.block<w.heap.size) (hS: ∀o,ax st.ob o→ ¬φ.S o ad.block)
 (hI: ¬φ.I ad.block) (hF:w0.heap.size≤ad.block∨F ad.block) (hB: ∀b' cs',aa b' st.bx=some cs'→b'≠b→(φ.β b').block≠ad.block)
 (hc: ∀(j:Nat) (e:CE),cs[j]?=some e→ ∃v,w.cell? (ad.add j)=some v∧v.cells= #[v]∧bN st.ob w φ e v) (hf: ∀j,j<cs.length→w.frozen? (ad.add j)=false):aC F A w0 (φ.box b ad) (zL b cs st) tm w:=by
 have pE: ∀c,aa c (T.zL b cs st).bx=if c=b then some cs else aa c st.bx:=fun c=>by
  show aa c (jn b cs (kz b st.bx))=_;rw[cQ,eP]
  by_cases hc:c=b<;>simp[hc]
 refine⟨fun i=> ?_,fun c cs' pG j e he=> ?_,h.obj,?_,h.frm⟩
 ·show bF st.ob w (φ.box b ad) ((T.E2 b st).get i) (tm.getD i undef)
  rw[E6]
  split
  ·trivial
  ·rename_i hn
   exact Lu (fun c hc=>jq hc) (by simpa using hn) (h.tmp i)
 ·rw[pE] at pG
  by_cases hcb:c=b
  ·subst hcb
   rw[aY rfl] at pG;cases pG;rw[oO];exact hc j e he
  ·rw[aO hcb] at pG
   rw[jq hcb];exact h.box c cs' pG j e he
 ·exact {
   arg:=h.sep.arg,nz:=h.sep.nz,apart:=h.sep.apart,read:=h.sep.read,fresh:=h.sep.fresh,ro:=h.sep.ro,iP:=h.sep.iP
   box:=fun c cs' pG Qe=>by
    rw[pE] at pG
    by_cases hcb:c=b
    ·subst hcb
     rw[oO];refine⟨hI,hS,hF,fun b' He hb' hne=> ?_⟩;rw[pE,aO hne] at hb';rw[jq hne];exact hB b' He hb' hne
    ·rw[aO hcb] at pG
     rw[jq hcb];obtain⟨a1,a2,a3,a4⟩:=h.sep.box c cs' pG Qe;refine⟨a1,a2,a3,fun b' He hb' hne=> ?_⟩;rw[pE] at hb'
     by_cases hb2:b'=b
     ·subst hb2
      rw[oO];exact fun e=>hB c cs' pG hcb e.symm
     ·rw[aO hb2] at hb'
      rw[jq hb2];exact a4 b' He hb' hne
   spot:=fun c cs' pG=>by
    rw[pE] at pG
    by_cases hcb:c=b
    ·subst hcb
     rw[oO];exact⟨fun _=>hs,hlt,fun e=>by rw[hw] at e;cases e⟩
    ·rw[aO hcb] at pG
     rw[jq hcb];exact h.sep.spot c cs' pG
   soft:=fun c cs' j pG Qe hj=>by
    rw[pE] at pG
    by_cases hcb:c=b
    ·subst hcb
     rw[aY rfl] at pG;cases pG;rw[oO];exact hf j hj
    ·rw[aO hcb] at pG
     rw[jq hcb];exact h.sep.soft c cs' j pG Qe hj}
theorem aC.zK (h:aC F A w0 φ st tm w) {b:Nat} {cs old:List CE} (hb:aa b st.bx=some old) (wR:qJ b=true) (hl:cs.length=old.length) (hf:Kt F w0 w') (hsz:w.heap.size≤w'.heap.size)
 (hw: ∀k,k<w.heap.size→k≠(φ.β b).block→w'.heap[k]?=w.heap[k]?) (hfz: ∀j,j<cs.length→w'.frozen? ((φ.β b).add j)=false)
 (hc: ∀(j:Nat) (e:CE),cs[j]?=some e→ ∃v,w'.cell? ((φ.β b).add j)=some v∧v.cells= #[v]∧bN st.ob w φ e v):aC F A w0 φ (st.zK b cs) tm w':=by
 obtain⟨b1,b2,b3,b4⟩:=h.sep.box b old hb wR;have stI: ∀k,φ.I k→w'.heap[k]?=w.heap[k]?:=fun k hk=>hw k (h.sep.ro k hk).1 fun e=>b1 (e▸hk)
 have nA: ∀k,A.all k→k≠(φ.β b).block:=fun k hk e=>by
  subst e;have:=h.sep.iP _ hk;rcases b3 with b3|b3
  ·omega
  ·exact this.2 b3
 have stS: ∀d k,d=0∨ax st.ob d→φ.S d k→w'.heap[k]?=w.heap[k]?:=fun d k hd hk=>hw k (h.sep.lt h.frm.size hd hk) fun e=>by
  subst e;rcases hd with rfl|hd
  ·rw[h.sep.arg] at hk;exact nA _ hk rfl
  ·exact b2 d hd hk
 have own: ∀o ad n c,ax st.ob o→φ.V o= .slice (some ad) n c→φ.S o ad.block:=fun o ad n c ⟨bo,ho⟩ hv=>by
  have hO:=h.obj o bo ho;unfold iU at hO;rw[hv] at hO
  cases hO with
  |sub _ _ _ _ _ _ u T k hn=>exact(k.own (by unfold OB.m;split<;>simp)).2 ad rfl|>.1
 have hV: ∀o,ax st.ob o→ ∀ad n c,φ.V o= .slice (some ad) n c→ ∀i v,w.cell? (ad.add i)=some v→w'.cell? (ad.add i)=some v:=fun o ho ad n c hv i v hcell=>by
  rw[dj (w:=w)]
  ·exact hcell
  ·rw[bB];exact stS o _ (.inr ho) (own o ad n c ho hv)
 have U2: ∀e v,bN st.ob w φ e v→bN st.ob w' φ e v:=fun e v he=>he.stay stI stS hV
 have hE: ∀ds cells v,bF st.ob w φ (.ep ds cells) v→bF st.ob w' φ (.ep ds cells) v:=by
  intro ds cells v ⟨h1,ad,h2,hr,h3⟩;refine⟨h1,ad,h2,hr,fun j tc hj=> ?_⟩;obtain⟨u,h4,h5⟩:=h3 j tc hj
  have Wm:cells≠[]:=fun e=>by rw[e] at hj;simp at hj
  have stR: ∀k,rd φ ds k→w'.heap[k]?=w.heap[k]?:=fun k hk=>by
   rcases hk with hk|⟨d,hm,hk⟩
   ·exact stI k hk
   ·exact stS d k (h1 d hm) hk
  exact⟨u,by rw[dj (w:=w) (by rw[bB];exact stR _ (hr Wm))];exact h4,h5.move (fun k hk=>⟨hk,stR k hk⟩) (fun hm=>absurd rfl hm)⟩
 have hT: ∀e v,bF st.ob w φ e v→bF st.ob w' φ e v:=fun e v he=>by
  have:=bF.xE (f:=id) (g:=id) rfl U2 (fun e v hv he=>bF.stay stI stS hV (fun ad v hc hk=>by rw[dj (w:=w) (hk _ rfl)];exact hc) hE hv he) he
  have hid:qt id id e=e:=by
   have h1:=congrArg TS.tm (oM ⟨[(0,e)],[],[]⟩);simpa [pO,mapA] using h1
  rw[hid] at this;exact this
 have pE: ∀c,aa c (st.zK b cs).bx=if c=b then some cs else aa c st.bx:=fun c=>cQ _ _ _ _
 have obox: ∀c cs',aa c st.bx=some cs'→c≠b→w'.heap[(φ.β c).block]?=w.heap[(φ.β c).block]?:=fun c cs' pG hne=>hw _ (h.sep.spot c cs' pG).2.1 (b4 c cs' pG hne);refine⟨fun i=>hT _ _ (h.tmp i),fun c cs' pG j e he=> ?_,fun o bo ho=> ?_,?_,hf⟩
 ·rw[pE] at pG
  by_cases hcb:c=b
  ·subst hcb
   rw[aY rfl] at pG;cases pG;obtain⟨v,h1,h3,h2⟩:=hc j e he;exact⟨v,h1,h3,U2 _ _ h2⟩
  ·rw[aO hcb] at pG
   obtain⟨v,h1,h3,h2⟩:=h.box c cs' pG j e he;exact⟨v,by rw[dj (w:=w) (by rw[bB];exact obox c cs' pG hcb)];exact h1,h3,U2 _ _ h2⟩
 ·exact(h.obj o bo ho).move (fun k hk=>⟨hk,stI k hk⟩) fun _ k hk=>stS o k (.inr ⟨bo,ho⟩) hk
 ·have len: ∀c cs',aa c (st.zK b cs).bx=some cs'→ ∃cs0,aa c st.bx=some cs0∧cs'.length=cs0.length:=fun c cs' pG=>by
   rw[pE] at pG
   by_cases hcb:c=b
   ·subst hcb
    rw[aY rfl] at pG;cases pG;exact⟨old,hb,hl⟩
   ·rw[aO hcb] at pG;exact⟨cs',pG,rfl⟩
  have hs:=h.sep.boxes len
  exact {
   arg:=hs.arg,nz:=hs.nz,apart:=hs.apart,read:=hs.read,iP:=hs.iP,box:=hs.box
   fresh:=fun o k ho hk=>⟨fE (hs.fresh o k ho hk).1 hsz,(hs.fresh o k ho hk).2⟩
   ro:=fun k hk=>⟨fE (hs.ro k hk).1 hsz,(hs.ro k hk).2⟩
   spot:=fun c cs' pG=>⟨(hs.spot c cs' pG).1,fE (hs.spot c cs' pG).2.1 hsz,(hs.spot c cs' pG).2.2⟩
   soft:=fun c cs' j pG Qe hj=>by
    obtain⟨cs0,c1,c2⟩:=len c cs' pG
    by_cases hcb:c=b
    ·subst hcb
     rw[pE,aY rfl] at pG;cases pG;exact hfz j hj
    ·rw[gJ (w:=w) (by rw[bB];exact obox c cs0 c1 hcb)]
     exact h.sep.soft c cs0 j c1 Qe az}
end Go.T
namespace Go.T
variable {F : Nat → Prop} {A : Arg} {w0 w w' : World} {φ φ' : Fp} {st st' : TS} {tm xy : Array Value}
structure Ext (ob vY:List (Nat×OB)) (φ φ':Fp):Prop where
 look: ∀d b,aa d ob=some b→aa d vY=some b
 I:φ'.I=φ.I
 β:φ'.β=φ.β
 S: ∀d,d=0∨ax ob d→φ'.S d=φ.S d
 V: ∀d,ax ob d→φ'.V d=φ.V d
section
variable {ob vY : List (Nat × OB)}
theorem Ext.dom (x:Ext ob vY φ φ') {d:Nat} (h:ax ob d):ax vY d:=let ⟨b,h⟩:=h;⟨b,x.look d b h⟩
theorem Ext.rd (x:Ext ob vY φ φ') {ds:List Nat} (hd: ∀d∈ds,d=0∨ax ob d) {k:Nat} (h:T.rd φ ds k):T.rd φ' ds k:=by
 rcases h with h|⟨d,hm,h⟩
 ·exact .inl (by rw[x.I];exact h)
 ·exact .inr ⟨d,hm,by rw[x.S d (hd d hm)];exact h⟩
theorem bN.ext (x:Ext ob vY φ φ') {e:CE} {v:Value} (h:bN ob w φ e v):bN vY w φ' e v:=by
 cases e with
 |ref o cut=>
  obtain⟨b,h1,h2⟩:=h;exact⟨b,x.look o b h1,by rw[x.V o ⟨b,h1⟩];exact h2⟩
 |snap ds loc z rows=>
  obtain⟨h1,h2,h3⟩:=h;refine⟨fun d hm=>(h1 d hm).imp id x.dom,h2.jI fun k hk=>x.rd h1 hk,fun o i f hl=> ?_⟩;obtain⟨a1,b,a2,a3,a4,ad,n,c,a5,a6⟩:=h3 o i f hl;exact⟨a1,b,x.look o b a2,a3,a4,ad,n,c,by rw[x.V o ⟨b,a2⟩];exact a5,a6⟩
 |_=>exact h
theorem ij.ext (x:Ext ob vY φ φ') {c:ku} {v:Value} (h:ij ob w φ c v):ij vY w φ' c v:=by
 cases c with
 |ptr b=>simp only[ij] at h ⊢;rw[x.β];exact h
 |mk a cs=>
  cases a with
  |true=>obtain⟨xs,h1,h2,h3⟩:=h;exact⟨xs,h1,h2,fun j e he=>let ⟨y,h4,h6,h5⟩:=h3 j e he;⟨y,h4,h6,h5.ext x⟩⟩
  |false=>obtain⟨e,h1,h2,h3⟩:=h;exact⟨e,h1,h2,h3.ext x⟩
theorem bF.ext (x:Ext ob vY φ φ') {e:TE} {v:Value} (h:bF ob w φ e v):bF vY w φ' e v:=by
 cases e with
 |v t es=>
  cases t with
  |true=>obtain⟨vs,h1,h2,h3⟩:=h;exact⟨vs,h1,h2,fun j e he=>let ⟨y,h4,h5⟩:=h3 j e he;⟨y,h4,h5.ext x⟩⟩
  |false=>obtain⟨c,h1,h2⟩:=h;exact⟨c,h1,h2.ext x⟩
 |ep ds cells=>
  obtain⟨h1,ad,h2,hr,h3⟩:=h;refine⟨fun d hm=>(h1 d hm).imp id x.dom,ad,h2,fun hc=>x.rd h1 (hr hc),fun j tc hj=> ?_⟩;obtain⟨u,h4,h5⟩:=h3 j tc hj;exact⟨u,h4,h5.jI fun k hk=>x.rd h1 hk⟩
 |er o path i f=>
  obtain⟨b,h1,h2,ad,n,c,h3,h4⟩:=h;exact⟨b,x.look o b h1,h2,ad,n,c,by rw[x.V o ⟨b,h1⟩];exact h3,h4⟩
 |bp b off=>simp only[bF] at h ⊢;rw[x.β];exact h
 |fn f caps=>simp only[bF] at h ⊢;rw[x.β];exact h
 |_=>exact h
end
def Hl:Nat→Nat→List (Nat×OB)→Prop
 |n,m,[]=>n≤m
 |n,m,(i,b)::r=>n≤i∧(b.deep=true∧b.rows=[]∧0<b.z)∧Hl (i+1) m r
theorem Hl.le: ∀{n m:Nat} {l:List (Nat×OB)},Hl n m l→n≤m
 |_,_,[],h=>h
 |_,_,(i,b)::r,h=>by have:=Hl.le h.2.2;have:=h.1;omega
theorem Hl.down {n n' m:Nat} {l:List (Nat×OB)} (h:Hl n m l) (hn:n'≤n):Hl n' m l:=by
 cases l with
 |nil=>exact nP hn h
 |cons p r=>obtain⟨i,b⟩:=p;exact⟨nP hn h.1,h.2⟩
theorem Hl.app: ∀{n m k:Nat} {l l':List (Nat×OB)},Hl n m l→Hl m k l'→Hl n k (l++l')
 |_,_,_,[],_,h,h'=>h'.down h
 |_,_,_,(i,b)::r,_,h,h'=>⟨h.1,h.2.1,h.2.2.app h'⟩
theorem Hl.mem: ∀{n m:Nat} {l:List (Nat×OB)} {i:Nat} {b:OB},Hl n m l→(i,b)∈l→n≤i∧i<m∧b.deep=true∧b.rows=[]∧0<b.z
 |n,m,(j,b')::r,i,b,h,hm=>by
  rcases bQ.1 hm with e|hm
  ·cases e
   have:=h.2.2.le;exact⟨h.1,by omega,h.2.1⟩
  ·obtain⟨h1,h2,h3⟩:=h.2.2.mem hm
   exact⟨by have:=h.1;omega,h2,h3⟩
theorem AW: ∀{n m:Nat} {l:List (Nat×OB)} {ob:List (Nat×OB)},Hl n m l→(∀i b,(i,b)∈l→aa i (fX l ob)=some b)∧ ∀d,d<n→aa d (fX l ob)=aa d ob
 |_,_,[],ob,_=>⟨fun _ _ h=>(by cases h),fun _ _=>rfl⟩
 |n,m,(j,b')::r,ob,h=>by
  obtain⟨h1,h2⟩:=AW (ob:=ob) h.2.2;refine⟨fun i b hm=> ?_,fun d hd=> ?_⟩
  ·simp only[fX,cQ]
   rcases bQ.1 hm with e|hm
   ·cases e;rw[aY rfl]
   ·have:=(h.2.2.mem hm).1
    rw[aO az];exact h1 i b hm
  ·have:=h.1
   simp only[fX,cQ];rw[aO az];exact h2 d az
theorem xF: ∀{l:List (Nat×OB)} {ob:List (Nat×OB)} {d:Nat} {b:OB},aa d (fX l ob)=some b→(d,b)∈l∨aa d ob=some b
 |[],_,_,_,h=> .inr h
 |(j,b')::r,ob,d,b,h=>by
  simp only[fX,cQ] at h
  by_cases hd:d=j
  ·rw[aY hd] at h;cases h;subst hd;exact .inl (.head _)
  ·rw[aO hd] at h
   exact(xF h).imp (.tail _) id
def Rs:Value:= .slice none 0 0
def opened (N:Nat) (φ:Fp):Fp:={φ with S:=fun d k=>d<N∧φ.S d k,V:=fun d=>if d<N then φ.V d else Rs}
section
variable {ob vY : List (Nat × OB)} {N : Nat} (x : Ext ob vY φ (opened N φ))
include x
theorem xG: ∀(cs:List CE) (n:Nat),N≤n→Hl n (ej n cs).2.1 (ej n cs).2.2∧(ej n cs).1.length=cs.length∧
 ((∀i b,(i,b)∈(ej n cs).2.2→aa i vY=some b)→ ∀(j:Nat) (e':CE),(ej n cs).1[j]?=some e'→ ∃e,cs[j]?=some e∧ ∀v,bN ob w φ e v→bN vY w (opened N φ) e' v)
 |[],n,hn=>⟨bV _,rfl,fun _ j e' h=>by simp[ej] at h⟩
 |e::r,n,hn=>by
  have keep: ∀(e:CE),(∀z,Nat.ble 1 z=true→e≠ .nil z)→ej n (e::r)=(e::(ej n r).1,(ej n r).2.1,(ej n r).2.2):=by
   intro e he
   cases e with
   |nil z=>
    simp only[ej]
    cases h:Nat.ble 1 z with
    |true=>exact absurd rfl (he z h)
    |false=>rfl
   |_=>rfl
  by_cases hz: ∃z,Nat.ble 1 z=true∧e= .nil z
  ·obtain⟨z,hz,rfl⟩:=hz
   have heq:ej n (.nil z::r)=(.ref n none::(ej (n+1) r).1,(ej (n+1) r).2.1,(n,⟨true,z,[]⟩)::(ej (n+1) r).2.2):=by simp only[ej,hz]
   rw[heq];obtain⟨h1,h2,h3⟩:=xG r (n+1) az;refine⟨⟨bV _,⟨rfl,rfl,lI hz⟩,h1⟩,by simp[h2],fun hl j e' he=> ?_⟩
   cases j with
   |zero=>
    simp only[cw,aT] at he;subst he;refine⟨_,rfl,fun v hv=>⟨_,hl n _ (.head _),?_⟩⟩
    show v=if n<N then φ.V n else Rs
    rw[aO az];exact hv.1
   |succ j=>
    simp only[mm] at he ⊢;exact h3 (fun i b hm=>hl i b (.tail _ hm)) j e' he
  ·rw[keep e fun z QU he=>hz ⟨z,QU,he⟩]
   obtain⟨h1,h2,h3⟩:=xG r n hn;refine⟨h1,by simp[h2],fun hl j e' he=> ?_⟩
   cases j with
   |zero=>
    simp only[cw,aT] at he;subst he;exact⟨_,rfl,fun v hv=>hv.ext x⟩
   |succ j=>
    simp only[mm] at he ⊢;exact h3 hl j e' he
theorem rS: ∀(cs:List ku) (n:Nat),N≤n→Hl n (dM n cs).2.1 (dM n cs).2.2∧(dM n cs).1.length=cs.length∧
 ((∀i b,(i,b)∈(dM n cs).2.2→aa i vY=some b)→ ∀(j:Nat) (e':ku),(dM n cs).1[j]?=some e'→ ∃e,cs[j]?=some e∧ ∀v,ij ob w φ e v→ij vY w (opened N φ) e' v)
 |[],n,hn=>⟨bV _,rfl,fun _ j e' h=>by simp[dM] at h⟩
 | .ptr b::r,n,hn=>by
   obtain⟨h1,h2,h3⟩:=rS r n hn;refine⟨h1,by simp[dM,h2],fun hl j e' he=> ?_⟩
   cases j with
   |zero=>
    simp only[dM,cw,aT] at he;subst he;exact⟨_,rfl,fun v hv=>hv.ext x⟩
   |succ j=>
    simp only[dM,mm] at he ⊢;exact h3 hl j e' he
 | .mk a cs::r,n,hn=>by
   obtain⟨g1,g2,g3⟩:=xG (w:=w) x cs n hn;obtain⟨h1,h2,h3⟩:=rS r (ej n cs).2.1 (nP hn g1.le);refine⟨g1.app h1,by simp[dM,h2],fun hl j e' he=> ?_⟩
   cases j with
   |zero=>
    simp only[dM,cw,aT] at he;subst he;refine⟨_,rfl,fun v hv=> ?_⟩;have g4:=g3 fun i b hm=>hl i b (e9 _ hm)
    cases a with
    |true=>
     obtain⟨xs,k1,k2,k3⟩:=hv;refine⟨xs,k1,by rw[g2];exact k2,fun j e' he=> ?_⟩;obtain⟨e,k4,k5⟩:=g4 j e' he;obtain⟨y,k6,k8,k7⟩:=k3 j e k4;exact⟨y,k6,k8,k5 y k7⟩
    |false=>
     obtain⟨e,rfl,k2,k3⟩:=hv;have hlen:(ej n [e]).1.length=1:=g2
     obtain⟨e',he'⟩: ∃e',(ej n [e]).1=[e']:=by
      cases hq:(ej n [e]).1 with
      |nil=>rw[hq] at hlen;cases hlen
      |cons y t=>cases t with
       |nil=>exact⟨y,rfl⟩
       |cons _ _=>rw[hq] at hlen;simp at hlen
     obtain⟨e0,k4,k5⟩:=g4 0 e' (by rw[he'];rfl);simp only[cw,aT] at k4;subst k4;exact⟨e',he',k2,k5 v k3⟩
   |succ j=>
    simp only[dM,mm] at he ⊢;exact h3 (fun i b hm=>hl i b (jv _ hm)) j e' he
theorem Lv (e:TE) (n:Nat) (hn:N≤n):Hl n (xD n e).2.1 (xD n e).2.2∧
 ((∀i b,(i,b)∈(xD n e).2.2→aa i vY=some b)→ ∀v,bF ob w φ e v→bF vY w (opened N φ) (xD n e).1 v):=by
 cases e with
 |v t es=>
  obtain⟨h1,h2,h3⟩:=rS (w:=w) x es n hn;refine⟨h1,fun hl v hv=> ?_⟩;have h4:=h3 hl;simp only[xD]
  cases t with
  |true=>
   obtain⟨vs,k1,k2,k3⟩:=hv;refine⟨vs,k1,by rw[h2];exact k2,fun j e' he=> ?_⟩;obtain⟨e,k4,k5⟩:=h4 j e' he;obtain⟨y,k6,k7⟩:=k3 j e k4;exact⟨y,k6,k5 y k7⟩
  |false=>
   obtain⟨c,rfl,k1⟩:=hv;have hlen:(dM n [c]).1.length=1:=h2
   obtain⟨e',he'⟩: ∃e',(dM n [c]).1=[e']:=by
    cases hq:(dM n [c]).1 with
    |nil=>rw[hq] at hlen;cases hlen
    |cons y t=>cases t with
     |nil=>exact⟨y,rfl⟩
     |cons _ _=>rw[hq] at hlen;simp at hlen
   obtain⟨e0,k4,k5⟩:=h4 0 e' (by rw[he'];rfl);simp only[cw,aT] at k4;subst k4;exact⟨e',he',k5 v k1⟩
 |kb b=>
  refine⟨bV _,fun _ v hv=> ?_⟩;simp only[bF] at hv;subst hv;exact⟨_,rfl,_,rfl,rfl,rfl,trivial⟩
 |_=>exact⟨bV _,fun _ v hv=>hv.ext x⟩
theorem CJ: ∀(l:List (Nat×TE)) (n:Nat),N≤n→(∃m,Hl n m (qT n l).2)∧
 ((∀i b,(i,b)∈(qT n l).2→aa i vY=some b)→ ∀(i:Nat) (e':TE),aa i (qT n l).1=some e'→ ∃e,aa i l=some e∧ ∀v,bF ob w φ e v→bF vY w (opened N φ) e' v)
 |[],n,hn=>⟨⟨n,bV _⟩,fun _ i e' h=>by simp[qT,aa] at h⟩
 |(j,e)::r,n,hn=>by
  obtain⟨g1,g2⟩:=Lv (w:=w) x e n hn;obtain⟨⟨m,h1⟩,h2⟩:=CJ r (xD n e).2.1 (nP hn g1.le);refine⟨⟨m,g1.app h1⟩,fun hl i e' he=> ?_⟩;simp only[qT,aa] at he ⊢
  cases hj:Nat.beq j i with
  |true=>
   rw[hj] at he;simp only[aT] at he;subst he;exact⟨e,rfl,g2 fun i b hm=>hl i b (e9 _ hm)⟩
  |false=>
   rw[hj] at he;exact h2 (fun i b hm=>hl i b (jv _ hm)) i e' he
end
theorem HL {n:Nat}: ∀{ob:List (Nat×OB)},HG n ob=true→ ∀o,ax ob o→o<n
 |[],_,o,⟨b,h⟩=>by cases h
 |(i,x)::r,ha,o,⟨b,h⟩=>by
  simp only[HG] at ha
  cases h1:Nat.ble n i with
  |true=>rw[h1] at ha;cases ha
  |false=>
   rw[h1] at ha;simp only[aa] at h
   cases h2:Nat.beq i o with
   |true=>
    have:=ez h2;subst this
    exact Nat.lt_of_not_le fun h3=>by rw[Cu h3] at h1;cases h1
   |false=>rw[h2] at h;exact HL ha o ⟨b,h⟩
theorem aC.HH (h:aC F A w0 φ st tm w): ∃φ',aC F A w0 φ' (HH st) tm w∧φ'.β=φ.β:=by
 unfold T.HH
 cases ha:HG 900000000 st.ob with
 |false=>exact⟨φ,h,rfl⟩
 |true=>
  have hlt:=HL ha
  have x1: ∀vY,(∀d b,aa d st.ob=some b→aa d vY=some b)→Ext st.ob vY φ (opened 900000000 φ):=fun vY hl=>
   ⟨hl,rfl,rfl,fun d hd=>by
     have:d<900000000:=hd.elim (fun e=>by omega) (hlt d)
     funext k
     simp[opened,this],fun d hd=>aY (hlt d hd)⟩
  obtain⟨⟨m,RZ⟩,_⟩:=CJ (w:=w) (x1 st.ob fun _ _ h=>h) st.tm 900000000 (bV _);obtain⟨l1,l2⟩:=AW (ob:=st.ob) RZ
  have x:Ext st.ob (fX (qT 900000000 st.tm).2 st.ob) φ (opened 900000000 φ):=x1 _ fun d b hd=>by rw[l2 d (hlt d ⟨b,hd⟩)];exact hd
  obtain⟨_,hT⟩:=CJ (w:=w) x st.tm 900000000 (bV _);have hT:=hT l1
  have old: ∀d,ax (fX (qT 900000000 st.tm).2 st.ob) d→(d<900000000∧ax st.ob d)∨900000000≤d:=fun d ⟨b,hd⟩=>by
   rcases xF hd with h1|h1
   ·exact .inr (RZ.mem h1).1
   ·exact .inl ⟨hlt d ⟨b,h1⟩,b,h1⟩
  have oldS: ∀d k,ax (fX (qT 900000000 st.tm).2 st.ob) d→(opened 900000000 φ).S d k→ax st.ob d∧φ.S d k:=fun d k hd hk=>by
   rcases old d hd with h1|h1
   ·exact⟨h1.2,hk.2⟩
   ·exact absurd hk.1 az
  refine⟨opened 900000000 φ,⟨fun i=> ?_,fun b cs hb j e he=> ?_,fun o b ho=> ?_,?_,h.frm⟩,rfl⟩
  ·show bF (fX (qT 900000000 st.tm).2 st.ob) w (opened 900000000 φ) (match aa i (qT 900000000 st.tm).1 with|some e=>e|none=> .dead) (tm.getD i undef)
   cases hi:aa i (qT 900000000 st.tm).1 with
   |none=>trivial
   |some e'=>
    obtain⟨e,h1,h2⟩:=hT i e' hi;have:=h.tmp i;unfold TS.get at this;rw[h1] at this;exact h2 _ this
  ·obtain⟨v,h1,h3,h2⟩:=h.box b cs hb j e he
   exact⟨v,h1,h3,h2.ext x⟩
  ·unfold iU
   rcases xF ho with h1|h1
   ·obtain⟨a1,a2,a3,a4,a5⟩:=RZ.mem h1
    obtain⟨bd,bz,br⟩:=b;simp only at a3 a4 a5;subst a3 a4;have hv:(opened 900000000 φ).V o=Rs:=aO az;rw[hv]
    refine ai.sub _ _ bz [] none 0 (fun _ _=>default) (fun _ _ _=>False) ⟨bV _,wX _,a5,fun r hr=>(by cases hr),fun hr=>absurd rfl hr,fun _ ha=>(by cases ha),fun _ _ ha=>(by cases ha),
     fun _=>⟨fun _=>rfl,fun _ ha=>(by cases ha)⟩,fun _ _ _ ha=>(by cases ha),fun _ _ _ _ hk=>hk.elim⟩ fun i f tc ht=>absurd rfl (zU ht)
   ·have hd:=hlt o ⟨b,h1⟩
    have:=h.obj o b h1;unfold iU at this;rw[x.V o ⟨b,h1⟩,x.S o (.inr ⟨b,h1⟩)];exact this
  ·exact {
    arg:=by rw[x.S 0 (.inl rfl)];exact h.sep.arg
    nz:=fun o ho e=>by
     rcases old o ho with h1|h1
     ·exact h.sep.nz o h1.2 e
     ·omega
    apart:=fun o o' k h1 h2 h3 h4=>h.sep.apart o o' k (oldS o k h1 h3).1 (oldS o' k h2 h4).1 (oldS o k h1 h3).2 (oldS o' k h2 h4).2
    read:=fun o k h1 h2=>h.sep.read o k (oldS o k h1 h2).1 (oldS o k h1 h2).2
    fresh:=fun o k h1 h2=>h.sep.fresh o k (oldS o k h1 h2).1 (oldS o k h1 h2).2
    ro:=h.sep.ro
    iP:=h.sep.iP
    box:=fun b cs hb hw=>by
     obtain⟨a1,a2,a3,a4⟩:=h.sep.box b cs hb hw;exact⟨a1,fun o ho hk=>a2 o (oldS o _ ho hk).1 (oldS o _ ho hk).2,a3,a4⟩
    spot:=h.sep.spot
    soft:=h.sep.soft}
end Go.T
namespace Go.T
variable {F : Nat → Prop} {A : Arg} {w0 w w' : World} {φ φ' : Fp} {st st' : TS} {tm xy : Array Value}
structure CK (n:Nat) (ρ:List (Nat×Nat)):Prop where
 rng: ∀o m,(o,m)∈ρ→1≤m∧m<n∧o≠0
 apart:ρ.Pairwise fun a b=>a.1≠b.1∧a.2≠b.2
theorem eY {α:Type} {o:Nat} {m:α}: ∀{ρ:List (Nat×α)},aa o ρ=some m→(o,m)∈ρ
 |(a,x)::r,h=>by
  simp only[aa] at h
  cases h1:Nat.beq a o with
  |true=>
   rw[h1] at h
   cases h
   have:=ez h1;subst this;exact .head _
  |false=>rw[h1] at h;exact .tail _ (eY h)
theorem nC {α:Type} {o:Nat}: ∀{ρ:List (Nat×α)},aa o ρ=none→ ∀m,(o,m)∉ρ
 |[],_,_=>by simp
 |(a,x)::r,h,m=>by
  simp only[aa] at h
  cases h1:Nat.beq a o with
  |true=>rw[h1] at h;cases h
  |false=>
   rw[h1] at h;intro hm;rcases bQ.1 hm with e|hm
   ·cases e;exact lJ h1 rfl
   ·exact nC h m hm
theorem uZ {n o m:Nat}: ∀{ρ:List (Nat×Nat)},(ρ.Pairwise fun a b=>a.1≠b.1∧a.2≠b.2)→(o,m)∈ρ→aa o ρ=some m
 |(a,x)::r,h,hm=>by
  simp only[aa];rw[List.pairwise_cons] at h;rcases bQ.1 hm with e|hm
  ·cases e;rw[uX]
  ·have:=(h.1 _ hm).1
   rw[beq_false this];exact uZ (n:=n) h.2 hm
theorem wo: ∀(l:List Nat) (n:Nat) (ρ:List (Nat×Nat)),1≤n→CK n ρ→ ∃n',CK n' (number l n ρ)∧(∀o m,aa o ρ=some m→aa o (number l n ρ)=some m)∧ ∀o∈l,o≠0→ ∃m,aa o (number l n ρ)=some m
 |[],n,ρ,_,h=>⟨n,h,fun _ _ h=>h,fun _ h=>by cases h⟩
 |o::r,n,ρ,hn,h=>by
  simp only[number]
  cases h0:Nat.beq o 0 with
  |true=>
   obtain⟨n',h1,h2,h3⟩:=wo r n ρ hn h;refine⟨n',h1,h2,fun p hp St=> ?_⟩;rcases bQ.1 hp with e|hp
   ·exact absurd (e.trans (ez h0)) St
   ·exact h3 p hp St
  |false=>
   have h0:=lJ h0
   cases hl:aa o ρ with
   |some m=>
    obtain⟨n',h1,h2,h3⟩:=wo r n ρ hn h;refine⟨n',h1,h2,fun p hp St=> ?_⟩;rcases bQ.1 hp with e|hp
    ·subst e;exact⟨m,h2 _ _ hl⟩
    ·exact h3 p hp St
   |none=>
    have hk:CK (n+1) ((o,n)::ρ):=by
     refine⟨fun p m hm=> ?_,List.pairwise_cons.2 ⟨fun a ha=>⟨fun e=> ?_,fun e=> ?_⟩,h.apart⟩⟩
     ·rcases bQ.1 hm with e|hm
      ·cases e;exact⟨hn,by omega,h0⟩
      ·have:=h.rng p m hm;exact⟨this.1,by omega,this.2.2⟩
     ·obtain⟨a1,a2⟩:=a
      simp only at e;subst e;exact nC hl a2 ha
     ·obtain⟨a1,a2⟩:=a
      simp only at e;have:=(h.rng a1 a2 ha).2.1;omega
    obtain⟨n',h1,h2,h3⟩:=wo r (n+1) ((o,n)::ρ) az hk
    have Wn:aa o ((o,n)::ρ)=some n:=by simp only[aa,uX]
    refine⟨n',h1,fun p m hp=>h2 p m ?_,fun p hp St=> ?_⟩
    ·simp only[aa]
     rw[beq_false fun e=>by subst e;rw[hl] at hp;cases hp];exact hp
    ·rcases bQ.1 hp with e|hp
     ·subst e;exact⟨n,h2 _ _ Wn⟩
     ·exact h3 p hp St
theorem QC {o o' m:Nat}: ∀{ρ:List (Nat×Nat)},(ρ.Pairwise fun a b=>a.1≠b.1∧a.2≠b.2)→(o,m)∈ρ→(o',m)∈ρ→o=o'
 |p::r,h,h1,h2=>by
  rw[List.pairwise_cons] at h;rcases bQ.1 h1 with e1|h1
  ·rcases bQ.1 h2 with e2|h2
   ·rw[←e1] at e2;cases e2;rfl
   ·exact absurd (by rw[←e1]) (h.1 _ h2).2
  ·rcases bQ.1 h2 with e2|h2
   ·exact absurd (by rw[←e2]) (h.1 _ h1).2
   ·exact QC h.2 h1 h2
def inv (ρ:List (Nat×Nat)) (m:Nat):Nat:=match ρ.find? fun p=>Nat.beq p.2 m with|some p=>p.1|none=>0
theorem inv_eq {n o m:Nat} {ρ:List (Nat×Nat)} (h:CK n ρ) (hl:aa o ρ=some m):inv ρ m=o:=by
 unfold inv;have hm:=eY hl
 cases hf:ρ.find? fun p=>Nat.beq p.2 m with
 |none=>
  have:=List.find?_eq_none.1 hf _ hm;simp at this
 |some p=>
  have h1:=List.mem_of_find?_eq_some hf;have h2:=List.find?_some hf;have h2:=ez h2;simp only;obtain⟨p1,p2⟩:=p;simp only at h2;subst h2;exact QC h.apart h1 hm
theorem inv_zero {n:Nat} {ρ:List (Nat×Nat)} (h:CK n ρ):inv ρ 0=0:=by
 unfold inv
 cases hf:ρ.find? fun p=>Nat.beq p.2 0 with
 |none=>rfl
 |some p=>
  have h1:=List.mem_of_find?_eq_some hf;have h2:=List.find?_some hf;have h2:=ez h2;obtain⟨p1,p2⟩:=p;have:=(h.rng p1 p2 h1).1;simp only at h2;omega
theorem yH {o m:Nat} {ρ:List (Nat×Nat)} (hl:aa o ρ=some m):zP ρ o=m:=by unfold zP;rw[hl]
theorem E7 {n:Nat} {ρ:List (Nat×Nat)} (h:CK n ρ):zP ρ 0=0:=by
 unfold zP
 cases hl:aa 0 ρ with
 |none=>rfl
 |some m=>exact absurd rfl (h.rng 0 m (eY hl)).2.2
theorem yI {ob:List (Nat×OB)} {m:Nat} {b:OB}: ∀{ρ:List (Nat×Nat)},aa m (nR ob ρ)=some b→ ∃o,(o,m)∈ρ∧aa o ob=some b
 |(o,n)::r,h=>by
  simp only[nR] at h
  cases ho:aa o ob with
  |none=>
   rw[ho] at h;obtain⟨o',h1,h2⟩:=yI h;exact⟨o',.tail _ h1,h2⟩
  |some b'=>
   rw[ho] at h;simp only[cQ] at h
   by_cases hm:m=n
   ·rw[aY hm] at h;cases h;subst hm;exact⟨o,.head _,ho⟩
   ·rw[aO hm] at h
    obtain⟨o',h1,h2⟩:=yI h;exact⟨o',.tail _ h1,h2⟩
theorem HM {ob:List (Nat×OB)} {o m:Nat} {b:OB} (ho:aa o ob=some b): ∀{ρ:List (Nat×Nat)},(ρ.Pairwise fun a b=>a.1≠b.1∧a.2≠b.2)→(o,m)∈ρ→aa m (nR ob ρ)=some b
 |(o',n)::r,h,hm=>by
  rw[List.pairwise_cons] at h;simp only[nR];rcases bQ.1 hm with e|hm
  ·cases e
   rw[ho];simp only[cQ,aY]
  ·have h1:=(h.1 _ hm).2
   have ih:=HM ho h.2 hm
   cases ho':aa o' ob with
   |none=>exact ih
   |some b'=>
    simp only[cQ];rw[aO (Ne.symm h1)];exact ih
def Fp.HN (φ:Fp) (ρ:List (Nat×Nat)):Fp:={φ with S:=fun m=>φ.S (inv ρ m),V:=fun m=>φ.V (inv ρ m)}
section
variable {ob : List (Nat × OB)} {n : Nat} {ρ : List (Nat × Nat)} (hρ : CK n ρ)
include hρ
theorem yJ {o m:Nat} {b:OB} (hm:aa o ρ=some m) (ho:aa o ob=some b):aa m (nR ob ρ)=some b:=HM ho hρ.apart (eY hm)
theorem MI {o m:Nat} (hm:aa o ρ=some m):(φ.HN ρ).S m=φ.S o:=by show φ.S (inv ρ m)=_;rw[inv_eq hρ hm]
theorem Kv {o m:Nat} (hm:aa o ρ=some m):(φ.HN ρ).V m=φ.V o:=by show φ.V (inv ρ m)=_;rw[inv_eq hρ hm]
theorem MJ:(φ.HN ρ).S 0=φ.S 0:=by show φ.S (inv ρ 0)=_;rw[inv_zero hρ]
theorem MK {ds:List Nat} (hz: ∀d,ax ob d→d≠0) (hd: ∀d∈ds,d=0∨ax ob d) (hc: ∀o∈ds,o≠0→ ∃m,aa o ρ=some m):
 (∀d∈ds.map (zP ρ),d=0∨ax (nR ob ρ) d)∧ ∀k,rd φ ds k→rd (φ.HN ρ) (ds.map (zP ρ)) k:=by
 refine⟨fun d hm=> ?_,fun k hk=> ?_⟩
 ·obtain⟨o,h1,rfl⟩:=List.mem_map.1 hm
  rcases hd o h1 with rfl|h2
  ·exact .inl (E7 hρ)
  ·obtain⟨m,h3⟩:=hc o h1 (hz o h2)
   obtain⟨b,h4⟩:=h2;rw[yH h3];exact .inr ⟨b,yJ hρ h3 h4⟩
 ·rcases hk with hk|⟨d,hm,hk⟩
  ·exact .inl hk
  ·refine .inr ⟨zP ρ d,List.mem_map_of_mem hm,?_⟩
   rcases hd d hm with rfl|h2
   ·rw[E7 hρ,MJ hρ];exact hk
   ·obtain⟨m,h3⟩:=hc d hm (hz d h2)
    rw[yH h3,MI hρ h3];exact hk
theorem bN.HN (hz: ∀d,ax ob d→d≠0) {e:CE} {v:Value} (hc: ∀o∈dG e,o≠0→ ∃m,aa o ρ=some m) (h:bN ob w φ e v):bN (nR ob ρ) w (φ.HN ρ) (yG ρ e) v:=by
 cases e with
 |ref o cut=>
  obtain⟨b,h1,h2⟩:=h;obtain⟨m,h3⟩:=hc o (by simp[dG]) (hz o ⟨b,h1⟩);simp only[yG];rw[yH h3];exact⟨b,yJ hρ h3 h1,by rw[Kv hρ h3];exact h2⟩
 |snap ds loc z rows=>
  obtain⟨h1,h2,h3⟩:=h;obtain⟨g1,g2⟩:=MK hρ (φ:=φ) hz h1 hc;refine⟨g1,h2.jI g2,fun o i f hl=> ?_⟩
  cases loc with
  |none=>cases hl
  |some q=>
   obtain⟨o',i',f'⟩:=q;simp only[aT,sH] at hl;obtain⟨rfl,rfl,rfl⟩:=hl;obtain⟨a1,b,a2,a3,a4,ad,n,c,a5,a6⟩:=h3 o' i' f' rfl;obtain⟨m,a7⟩:=hc o' a1 (hz o' ⟨b,a2⟩);refine⟨List.mem_map_of_mem a1,?_⟩;rw[yH a7];exact⟨b,yJ hρ a7 a2,a3,a4,ad,n,c,by rw[Kv hρ a7];exact a5,a6⟩
 |_=>exact h
theorem bF.HN (hz: ∀d,ax ob d→d≠0) {e:TE} {v:Value} (hc: ∀o∈qu e,o≠0→ ∃m,aa o ρ=some m) (h:bF ob w φ e v):bF (nR ob ρ) w (φ.HN ρ) (qt (yG ρ) (My ρ) e) v:=by
 have comp: ∀(c:ku) (u:Value),(∀o∈eO [c],o≠0→ ∃m,aa o ρ=some m)→ij ob w φ c u→ij (nR ob ρ) w (φ.HN ρ) (oL (yG ρ) c) u:=by
  intro c u hc h
  cases c with
  |ptr b=>exact h
  |mk a cs=>
   simp only[eO,jD] at hc;have OM: ∀e∈cs,∀o∈dG e,o≠0→ ∃m,aa o ρ=some m:=fun e he o ho=>hc o (List.mem_flatMap.2 ⟨e,he,ho⟩)
   cases a with
   |true=>
    obtain⟨xs,h1,h2,h3⟩:=h;refine⟨xs,h1,by simp[h2],fun j e he=> ?_⟩;rw[gj] at he
    cases h4:cs[j]? with
    |none=>rw[h4] at he;cases he
    |some e0=>
     rw[h4] at he;simp only[ie,aT] at he;subst he;obtain⟨x,hx,hx1,hok⟩:=h3 j e0 h4;exact⟨x,hx,hx1,hok.HN hρ hz (OM e0 (eK h4))⟩
   |false=>
    obtain⟨e,rfl,h2,h3⟩:=h;exact⟨_,rfl,h2,h3.HN hρ hz (OM e cY)⟩
 have dcomp: ∀(es:List ku) (c:ku),c∈es→ ∀o,o∈eO [c]→o∈eO es:=by
  intro es
  induction es with
  |nil=>intro c hc;cases hc
  |cons x r ih=>
   intro c hc o ho;rcases bQ.1 hc with rfl|hc
   ·cases c with
    |ptr b=>simp[eO] at ho
    |mk a cs=>
     simp only[eO,jD] at ho;simp only[eO];exact e9 _ ho
   ·have:=ih c hc o ho
    cases x with
    |ptr b=>exact this
    |mk a cs=>simp only[eO];exact jv _ this
 cases e with
 |v t es=>
  cases t with
  |true=>
   obtain⟨vs,h1,h2,h3⟩:=h;refine⟨vs,h1,by rw[kM];exact h2,fun k c hk=> ?_⟩;rw[og] at hk
   cases h4:es[k]? with
   |none=>rw[h4] at hk;cases hk
   |some c0=>
    rw[h4] at hk;simp only[ie,aT] at hk;obtain⟨u,hu,hok⟩:=h3 k c0 h4;exact⟨u,hu,by rw[←hk];exact comp c0 u (fun o ho=>hc o (dcomp es c0 (eK h4) o ho)) hok⟩
  |false=>
   obtain⟨c,rfl,hok⟩:=h;refine⟨oL (yG ρ) c,?_,comp c v hc hok⟩
   cases c<;>rfl
 |ep ds cells=>
  obtain⟨h1,ad,h2,hr,h3⟩:=h;obtain⟨g1,g2⟩:=MK hρ (φ:=φ) hz h1 hc;refine⟨g1,ad,h2,fun hne=>g2 _ (hr hne),fun j tc hj=> ?_⟩;obtain⟨u,h4,h5⟩:=h3 j tc hj;exact⟨u,h4,h5.jI g2⟩
 |er o path i f=>
  obtain⟨b,h1,h2,ad,n,c,h3,h4⟩:=h;obtain⟨m,h5⟩:=hc o (by simp[qu]) (hz o ⟨b,h1⟩);show bF (nR ob ρ) w (φ.HN ρ) (.er (zP ρ o) path i f) v;rw[yH h5];exact⟨b,yJ hρ h5 h1,h2,ad,n,c,by rw[Kv hρ h5];exact h3,h4⟩
 |_=>exact h
end
theorem aC.canon (h:aC F A w0 φ st tm w): ∃φ',aC F A w0 φ' (canon st) tm w∧φ'.β=φ.β:=by
 obtain⟨n,hρ,_,hall⟩:=wo (Rl st) 1 [] (bV _) ⟨fun _ _ h=>(by cases h),List.Pairwise.nil⟩;unfold T.canon SL;generalize number (Rl st) 1 []=ρ at hρ hall;have hz:=h.sep.nz
 have dom: ∀m,ax (nR st.ob ρ) m→ ∃o,aa o ρ=some m∧ax st.ob o:=fun m ⟨b,hm⟩=>by
  obtain⟨o,h1,h2⟩:=yI hm;exact⟨o,uZ (n:=n) hρ.apart h1,b,h2⟩
 have domS: ∀m k,ax (nR st.ob ρ) m→(φ.HN ρ).S m k→ ∃o,aa o ρ=some m∧ax st.ob o∧φ.S o k:=fun m k hm hk=>by
  obtain⟨o,h1,h2⟩:=dom m hm;rw[MI hρ h1] at hk;exact⟨o,h1,h2,hk⟩
 refine⟨φ.HN ρ,⟨fun i=> ?_,fun b cs hb j e he=> ?_,fun m b hm=> ?_,?_,h.frm⟩,rfl⟩
 ·show bF (nR st.ob ρ) w (φ.HN ρ) (match aa i (mapA (qt (yG ρ) (My ρ)) st.tm) with|some e=>e|none=> .dead) (tm.getD i undef)
  rw[mA]
  cases hi:aa i st.tm with
  |none=>trivial
  |some e=>
   have:=h.tmp i;unfold TS.get at this;rw[hi] at this;exact this.HN hρ hz fun o ho Tg=>hall o (e9 _ (List.mem_flatMap.2 ⟨_,eY hi,ho⟩)) Tg
 ·simp only[mA] at hb
  cases h1:aa b st.bx with
  |none=>rw[h1] at hb;cases hb
  |some cs0=>
   rw[h1] at hb;simp only[ie,aT] at hb;subst hb;rw[gj] at he
   cases h2:cs0[j]? with
   |none=>rw[h2] at he;cases he
   |some e0=>
    rw[h2] at he;simp only[ie,aT] at he;subst he;obtain⟨v,h3,h5,h4⟩:=h.box b cs0 h1 j e0 h2;exact⟨v,h3,h5,h4.HN hρ hz fun o ho Tg=>hall o (jv _ (List.mem_flatMap.2 ⟨_,eY h1,List.mem_flatMap.2 ⟨e0,eK h2,ho⟩⟩)) Tg⟩
 ·obtain⟨o,h1,h2⟩:=yI hm
  have h1:=uZ (n:=n) hρ.apart h1;unfold iU;rw[MI hρ h1,Kv hρ h1];exact h.obj o b h2
 ·have hs:=h.sep.boxes (dZ (yG ρ))
  exact {
   arg:=by rw[MJ hρ];exact h.sep.arg
   nz:=fun m hm e=>by
    obtain⟨o,h1,_⟩:=dom m hm;have:=(hρ.rng o m (eY h1)).1;omega
   apart:=fun m m' k h1 h2 h3 h4=>by
    obtain⟨o,a1,a2,a3⟩:=domS m k h1 h3;obtain⟨o',b1,b2,b3⟩:=domS m' k h2 h4;have:=h.sep.apart o o' k a2 b2 a3 b3;subst this;rw[a1] at b1;cases b1;rfl
   read:=fun m k h1 h2=>by obtain⟨o,a1,a2,a3⟩:=domS m k h1 h2;exact h.sep.read o k a2 a3
   fresh:=fun m k h1 h2=>by obtain⟨o,a1,a2,a3⟩:=domS m k h1 h2;exact h.sep.fresh o k a2 a3
   ro:=hs.ro
   iP:=hs.iP
   box:=fun b cs hb hw=>by
    obtain⟨a1,a2,a3,a4⟩:=hs.box b cs hb hw;refine⟨a1,fun m hm hk=> ?_,a3,a4⟩;obtain⟨o,c1,c2,c3⟩:=domS m _ hm hk;exact a2 o c2 c3
   spot:=hs.spot
   soft:=hs.soft}
theorem aC.head (h:aC F A w0 φ st tm w) (l:List Nat):Rel F A w0 (HI l st) tm w:=by
 obtain⟨φ1,h1,_⟩:=(h.SN l).HH;obtain⟨φ2,h2,_⟩:=h1.canon;exact⟨φ2,h2⟩
end Go.T
