import Derived.Below
import Derived.WalkKit
import Derived.Laws.AppendOwn
import Derived.DataElems
namespace Go.T
theorem jC {P Q:Prop} (h:P:=by rfl) (k:Q:=by trivial):P∧Q:=⟨h,k⟩
theorem XC {P:Prop} (h:P:=by first|rfl|(simp;done)|(simp;omega)):P:=h
theorem aA {P:Prop} (h:P:=by omega):P:=h
theorem Sl {P:Prop} (h:P:=by assumption):P:=h
theorem kR {P:Prop} (h:P:=by simp;omega):P:=h
theorem lQ {P:Prop} (h:P:=by simp<;>omega):P:=h
theorem dM {P:Prop} (h:P:=by simp):P:=h
theorem XD {P:Prop} (h:P:=by trivial):P:=h
theorem Wi {P:Prop} (h:P:=by rfl):P:=h
abbrev nQ:= @Array.getD_eq_getD_getElem?
abbrev oK:= @Array.getElem?_eq_getElem
abbrev E3:= @Array.getElem?_setIfInBounds
abbrev Hw:= @Array.getElem?_toList
abbrev qO:= @Array.length_toList
abbrev cL:= @Bool.and_eq_true
abbrev ko:= @Bool.and_true
abbrev uR:= @Bool.false_eq_true
abbrev Cr:= @Bool.false_or
abbrev m8:= @Bool.not_eq_true'
abbrev E4:= @Bool.not_true
abbrev ek:= @Bool.true_and
abbrev yo:= @Int.ofNat_eq_natCast
abbrev qP:= @Int.toNat_natCast
abbrev uS:= @List.all_cons
abbrev AP:= @List.all_nil
abbrev w5:= @List.append_assoc
abbrev ke:= @List.append_nil
abbrev w6:= @List.cons_append
abbrev yp:= @List.drop_eq_getElem_cons
abbrev iC:= @List.drop_length
abbrev yq:= @List.drop_of_length_le
abbrev uT:= @List.eq_nil_of_length_eq_zero
abbrev Kr:= @List.flatten_append
abbrev uU:= @List.flatten_cons
abbrev mC:= @List.getD_eq_getElem?_getD
abbrev iD:= @List.getElem?_append_left
abbrev ju:= @List.getElem?_append_right
abbrev lR:= @List.getElem?_cons_succ
abbrev cz:= @List.getElem?_cons_zero
abbrev kr:= @List.getElem?_drop
abbrev aX:= @List.getElem?_eq_getElem
abbrev Mt:= @List.getElem?_eq_none
abbrev gG:= @List.getElem?_map
abbrev AQ:= @List.getElem?_take
abbrev pL:= @List.getElem_mem
abbrev cr:= @List.length_append
abbrev eC:= @List.length_cons
abbrev jE:= @List.length_drop
abbrev Ks:= @List.length_filter_le
abbrev ck:= @List.length_map
abbrev fP:= @List.length_singleton
abbrev eY:= @List.length_take
abbrev yt:= @List.map_append
abbrev E5:= @List.map_drop
abbrev Hy:= @List.map_take
abbrev fe:= @List.mem_append_left
abbrev jv:= @List.mem_append_right
abbrev bK:= @List.mem_cons
abbrev eD:= @List.mem_of_getElem?
abbrev qQ:= @List.mem_of_mem_drop
abbrev qR:= @List.mem_of_mem_take
abbrev ff:= @List.mem_singleton
abbrev pM:= @List.nil_append
abbrev yu:= @List.take_append_drop
abbrev uV:= @List.take_length
abbrev Qv:= @List.take_of_length_le
abbrev pN:= @Nat.add_assoc
abbrev pO:= @Nat.add_eq
abbrev m9:= @Nat.add_mul
abbrev nR:= @Nat.add_zero
abbrev Cs:= @Nat.ble_eq_true_of_le
abbrev yw:= @Nat.div_add_mod'
abbrev eB:= @Nat.eq_of_beq_eq_true
abbrev E6:= @Nat.le_max_left
abbrev lS:= @Nat.le_of_ble_eq_true
abbrev bT:= @Nat.le_refl
abbrev nS:= @Nat.le_trans
abbrev fJ:= @Nat.lt_of_lt_of_le
abbrev qS:= @Nat.min
abbrev lF:= @Nat.mul_le_mul_right
abbrev lT:= @Nat.ne_of_beq_eq_false
abbrev qT:= @Nat.sub_self
abbrev Ct:= @Nat.succ_mul
abbrev g7:= @Nat.zero_add
abbrev AR:= @Nat.zero_le
abbrev iE:= @Option.map_some
abbrev aR:= @Option.some.injEq
abbrev sV:= @Prod.mk.injEq
abbrev pP:= @decide_eq_false
abbrev nT:= @decide_eq_true
abbrev fX:= @exists_eq_left
abbrev g8:= @exists_eq_left'
abbrev aL:= @if_neg
abbrev aT:= @if_pos
abbrev oL:= @of_decide_eq_true
inductive TC where
 |sc (v:Value)
 |sub (s:Nat) (rows:List (List TC))
 |any
 deriving Inhabited
inductive Mode where
 |snap|top|deep
 deriving DecidableEq,Inhabited
inductive CE where
 |sc (v:Value)
 |nil (z:Nat)
 |ref (o:Nat) (cut:Option (Int×Int))
 |snap (ds:List Nat) (loc:Option (Nat×Int×Nat)) (z:Nat) (rows:List (List TC))
 |gone
 deriving Inhabited
inductive ku where
 |mk (agg:Bool) (cs:List CE)
 |ptr (b:Nat)
inductive TE where
 |dead
 |v (tup:Bool) (es:List ku)
 |bp (b off:Nat)
 |ep (ds:List Nat) (cells:List TC)
 |er (o:Nat) (path:Option (Int×Nat)) (i:Int) (f:Nat)
 |fn (f:FuncId) (caps:List Nat)
 |kb (b:Bool)
 deriving Inhabited
structure OB where
 deep:Bool
 z:Nat
 rows:List (List TC)
structure TS where
 tm:List (Nat×TE)
 bx:List (Nat×List CE)
 ob:List (Nat×OB)
inductive TI where
 |int (k:IntKind)
 |bool
 |str
 |slice (e:TypeId)
 |ptr (e:TypeId)
 |struct (fs:List (Nat×TypeId))
 |other
 deriving Inhabited
structure gu where
 ti:TI
 size:Nat
 bytes:Nat
 flat:Bool
 zero:List TC
 eqs:List Nat:=[]
 deriving Inhabited
inductive TV where
 |c (c:TC)
 |ag (cs:List TC)
 |tu (vs:List (Nat×List TC))
 |bx (cs:List TC)
 |fn (f:FuncId) (caps:List (List TC))
inductive aZ where
 |borrow|inout (ms:List Mode)|consume (ms:List Mode)
 deriving DecidableEq
def aZ.mc:aZ→Nat→Mode
 | .borrow,_=> .snap
 | .inout ms,j=>match ms[j]? with|some m=>m|none=> .deep
 | .consume ms,j=>match ms[j]? with|some m=>m|none=> .deep
structure Lu where
 ps:List aZ
 shares:Bool
 res:List (List Mode)
 frz:Bool:=false
inductive wz where
 |nil
 |op (i:Nat) (fl:List Nat) (r:wz)
 |alt (a b:wz)
structure g6 where
 P:Program
 tt:TypeId→gu
 sig:FuncId→Lu
 lr:FuncId→Nat→List Nat
 lb:FuncId→Nat→List Nat
 Cq:FuncId→Nat→Option wz
 ext:FuncId→Option (List TV→Option (TV×List TV))
inductive TX where
 |norm|ex (id:Nat)|ret
 deriving DecidableEq
inductive Ev (R:Type) where
 |fail
 |ret (r:R)
 |test (b:Bool) (k:Bool→Ev R)
 |row (rows:List (List TC)) (i:Int) (k:List TC→Ev R)
 |byte (s:ByteArray) (i:Int) (k:Int→Ev R)
 |bytes (rows:List (List TC)) (k:List Int→Ev R)
 |call (f:FuncId) (vs:List TV) (k:TV→List TV→Ev R)
 |loop (f:FuncId) (i:Nat) (c:Code) (st:TS) (k:TX→TS→Ev R)
 |both (a b:Ev R)
@[irreducible] def dJ (a b:Int):Bool:=decide (a<b)
@[irreducible] def oc (a b:Int):Bool:=decide (a≤b)
@[irreducible] def gq (a b:Int):Bool:=a==b
@[irreducible] def Ml (a b:Bool):Bool:=a==b
@[irreducible] def Je (a b:ByteArray):Bool:=a.toList==b.toList
@[irreducible] def Hz (a b:ByteArray):Bool:=Op.bytesLess a.toList b.toList
@[irreducible] def fits (n b:Nat):Bool:=decide (n*b≤140737488355328∧n≤140737488355328)
@[irreducible] def bN (rows:List (List TC)):Bool:=rows.all fun r=>r.all fun c=>match c with| .sc _=>true|_=>false
@[irreducible] def fh (l h n:Int):Bool:=decide (0≤l∧l≤h∧h≤n)
@[irreducible] def rowAt (rows:List (List TC)) (i:Int):Option (List TC):=if 0≤i then rows[i.toNat]? else none
@[irreducible] def zG (s:ByteArray) (i:Int):Option Int:=if 0≤i then(s[i.toNat]?).map fun b=>(b.toNat:Int) else none
@[irreducible] def aq (rows:List (List TC)) (l h:Int):List (List TC):=(rows.take h.toNat).drop l.toNat
@[irreducible] def fY (z:Nat) (rows:List (List TC)) (l h:Int):List (List TC):=rows.take l.toNat++List.replicate (h.toNat-l.toNat) (List.replicate z .any)++rows.drop h.toNat
@[irreducible] def jF (rows aI:List (List TC)):List (List TC):=aI.take rows.length++rows.drop aI.length
@[irreducible] def setRow (rows:List (List TC)) (i:Int) (f:Nat) (cs:List TC):List (List TC):=
  match rows[i.toNat]? with
  |some r=>rows.set i.toNat (r.take f++cs++r.drop (f+cs.length))
  |none=>rows
@[irreducible] def Jf (a b:Int):Int:=if b<a then b else a
@[irreducible] def yx (n:Int):Nat:=n.toNat
@[irreducible] def yy (a b:Int):Int:=a+b
@[irreducible] def Jg (k:IntKind) (a b:Int):Int:=k.wrap (a+b)
@[irreducible] def Cu (k:IntKind) (a b:Int):Int:=k.wrap (a-b)
@[irreducible] def Jh (k:IntKind) (a b:Int):Int:=k.wrap (a*b)
@[irreducible] def eM (k:IntKind) (a b:Int):Int:=k.wrap (a.tdiv b)
@[irreducible] def Ji (a b:Int):Int:=a.tmod b
@[irreducible] def Re (k:IntKind) (a b:Int):Int:=k.wrap (a*2 ^ (min b.toNat k.bits))
@[irreducible] def Lv (k:IntKind) (a b:Int):Int:=a.fdiv (2 ^ (min b.toNat k.bits))
@[irreducible] def uW (op:BinOp) (k:IntKind) (a b:Int):Int:=Go.bits op k a b
@[irreducible] def AS (k:IntKind) (n:Int):Int:=k.wrap n
@[irreducible] def SL (a b:ByteArray):ByteArray:=a++b
@[irreducible] def SM (s:ByteArray) (l h:Int):ByteArray:=s.extract l.toNat h.toNat
def oF:List (List TC)→Option (List Int)
 |[]=>some []
 |[.sc (.int .u8 n)]::r=>(oF r).map fun ns=>n::ns
 |_=>none
@[irreducible] def qU (rows:List (List TC)):Option (List Int):=oF rows
@[irreducible] def HA (ns:List Int):ByteArray:=⟨(ns.map fun n:Int=>UInt8.ofNat n.toNat).toArray⟩
@[irreducible] def w7 (s:ByteArray):List (List TC):=s.data.toList.map fun b=>[TC.sc (.int .u8 b.toNat)]
abbrev one (c:CE):TE:= .v false [.mk false [c]]
abbrev S (v:Value):TE:=one (.sc v)
def gH (o:Nat):List Nat→Bool
 |[]=>false
 |a::r=>match Nat.beq a o with|true=>true|false=>gH o r
def HB (o:Nat):List Nat→List Nat
 |[]=>[]
 |a::r=>match Nat.beq a o with|true=>HB o r|false=>a::HB o r
def nU:List Nat→List Nat→Bool
 |[],_=>false
 |a::r,l=>match gH a l with|true=>true|false=>nU r l
section
variable {α : Type}
def aa (i:Nat):List (Nat×α)→Option α
 |[]=>none
 |(j,e)::r=>match Nat.beq j i with|true=>some e|false=>aa i r
def jn (i:Nat) (e:α):List (Nat×α)→List (Nat×α)
 |[]=>[(i,e)]
 |(j,e')::r=>match Nat.beq j i with
  |true=>(i,e)::r
  |false=>match Nat.ble i j with
   |true=>(i,e)::(j,e')::r
   |false=>(j,e')::jn i e r
def kz (i:Nat):List (Nat×α)→List (Nat×α)
 |[]=>[]
 |(j,e)::r=>match Nat.beq j i with|true=>kz i r|false=>(j,e)::kz i r
def mapA (f:α→α):List (Nat×α)→List (Nat×α)
 |[]=>[]
 |(j,e)::r=>(j,f e)::mapA f r
end
def TS.get (st:TS) (i:Nat):TE:=match aa i st.tm with|some e=>e|none=> .dead
def TS.set (st:TS) (i:Nat) (e:TE):TS:=⟨jn i e st.tm,st.bx,st.ob⟩
def TS.zI (st:TS) (i:Nat) (cs:List CE):TS:=⟨st.tm,jn i cs st.bx,st.ob⟩
def TS.Rf (st:TS) (i:Nat) (o:OB):TS:=⟨st.tm,st.bx,jn i o st.ob⟩
def gJ (f:CE→CE):List ku→List ku
 |[]=>[]
 | .mk a cs::r=> .mk a (cs.map f)::gJ f r
 | .ptr b::r=> .ptr b::gJ f r
def qz (f:CE→CE) (g:TE→TE):TE→TE
 | .v tup es=> .v tup (gJ f es)
 |e=>g e
def pQ (f:CE→CE) (g:TE→TE) (h:List (Nat×OB)→List (Nat×OB)) (st:TS):TS:=
 ⟨mapA (qz f g) st.tm,mapA (List.map f) st.bx,h st.ob⟩
def dD:CE→List Nat
 | .ref o _=>[o]
 | .snap d _ _ _=>d
 |_=>[]
def eO:List ku→List Nat
 |[]=>[]
 | .mk _ cs::r=>cs.flatMap dD++eO r
 | .ptr _::r=>eO r
def qA:TE→List Nat
 | .v _ es=>eO es
 | .ep d _=>d
 | .er o _ _ _=>[o]
 |_=>[]
def E7 (o:Nat) (e:CE):CE:=match gH o (dD e) with|true=> .gone|false=>e
def Kt (o:Nat):TE→TE
 | .ep d cells=>match gH o d with|true=> .dead|false=> .ep d cells
 | .er p path i f=>match Nat.beq p o with|true=> .dead|false=> .er p path i f
 |e=>e
def iR (o:Nat) (st:TS):TS:=pQ (E7 o) (Kt o) (kz o) st
def Jj (o:Nat) (e:CE):CE:=match e with
 | .snap d l z rows=>match gH o d with|true=> .gone|false=> .snap d l z rows
 |e=>e
def F1 (o:Nat):TE→TE
 | .ep d cells=>match gH o d with|true=> .dead|false=> .ep d cells
 | .er p (some q) i f=>match Nat.beq p o with|true=> .dead|false=> .er p (some q) i f
 |e=>e
def nD (o:Nat) (b:OB) (st:TS):TS:=pQ (Jj o) (F1 o) (jn o b) st
def HC (cut:Option (Int×Int)) (rows:List (List TC)):List (List TC):=match cut with
 |none=>rows
 |some (l,h)=>aq rows l h
def Rh (o:Nat) (l:Option (Nat×Int×Nat)):Option (Nat×Int×Nat):=match l with
 |some (p,i,f)=>match Nat.beq p o with|true=>none|false=>some (p,i,f)
 |none=>none
def Cg (o:Nat) (b:OB) (e:CE):CE:=match e with
 | .ref p cut=>match Nat.beq p o with|true=> .snap [] none b.z (HC cut b.rows)|false=> .ref p cut
 | .snap d l z rows=> .snap (HB o d) (Rh o l) z rows
 |e=>e
def F2 (o:Nat):TE→TE
 | .ep d cells=> .ep (HB o d) cells
 | .er p path i f=>match Nat.beq p o with|true=> .dead|false=> .er p path i f
 |e=>e
def pR (st:TS) (o:Nat):TS:=match aa o st.ob with
 |some b=>pQ (Cg o b) (F2 o) (kz o) st
 |none=>st
def uX (o:Nat) (b:OB) (st:TS):TS:=(iR o st).Rf o b
def fZ:List (Nat×OB)→List (Nat×OB)→List (Nat×OB)
 |[],ob=>ob
 |(i,b)::r,ob=>jn i b (fZ r ob)
def mD {α:Type}:List (Nat×α)→List Nat
 |[]=>[]
 |(o,_)::r=>o::mD r
def wA (l:List Nat) (e:CE):CE:=match e with
 | .snap d l' z rows=>match nU d l with|true=> .gone|false=> .snap d l' z rows
 |e=>e
def r5 (l:List Nat):TE→TE
 | .ep d cells=>match nU d l with|true=> .dead|false=> .ep d cells
 | .er p (some q) i f=>match gH p l with|true=> .dead|false=> .er p (some q) i f
 |e=>e
def nE (W:List (Nat×OB)) (st:TS):TS:=match W with
 |[]=>st
 |W=>pQ (wA (mD W)) (r5 (mD W)) (fZ W) st
section
variable {Z : Type}
def fL {α:Type} (f:α→(α→Z)→Z):List α→(List α→Z)→Z
 |[],K=>K []
 |a::r,K=>f a fun a'=>fL f r fun r'=>K (a'::r')
def fB (b:Bool) (K:Bool→Z):Z:=match b with|true=>K true|false=>K false
def fN (n:Nat) (K:Nat→Z):Z:=K n
def Qw (p:Option (Int×Nat)) (K:Option (Int×Nat)→Z):Z:=match p with|none=>K none|some (a,b)=>K (some (a,b))
def SN (p:Option (Int×Int)) (K:Option (Int×Int)→Z):Z:=match p with|none=>K none|some (a,b)=>K (some (a,b))
def VI (p:Option (Nat×Int×Nat)) (K:Option (Nat×Int×Nat)→Z):Z:=match p with|none=>K none|some (a,b,c)=>K (some (a,b,c))
def fV (v:Value) (K:Value→Z):Z:=match v with
 | .int k n=>K (.int k n)
 | .bool b=>K (.bool b)
 | .string s=>K (.string s)
 |v=>K v
def SO (c:TC) (K:TC→Z):Z:=match c with| .sc v=>fV v fun v=>K (.sc v)| .sub z rows=>K (.sub z rows)| .any=>K .any
def T7 (e:CE) (K:CE→Z):Z:=match e with
 | .sc v=>fV v fun v=>K (.sc v)
 | .nil z=>K (.nil z)
 | .ref o cut=>SN cut fun cut=>K (.ref o cut)
 | .snap d l z rows=>fL fN d fun d=>VI l fun l=>K (.snap d l z rows)
 | .gone=>K .gone
def Mu (c:ku) (K:ku→Z):Z:=match c with
 | .mk a cs=>fB a fun a=>fL T7 cs fun cs=>K (.mk a cs)
 | .ptr b=>K (.ptr b)
def UA (e:TE) (K:TE→Z):Z:=match e with
 | .dead=>K .dead
 | .v tup es=>fB tup fun tup=>fL Mu es fun es=>K (.v tup es)
 | .bp b off=>K (.bp b off)
 | .ep d cells=>fL fN d fun d=>fL SO cells fun cells=>K (.ep d cells)
 | .er r path i f=>Qw path fun path=>K (.er r path i f)
 | .fn f caps=>K (.fn f caps)
 | .kb b=>fB b fun b=>K (.kb b)
def UB (b:OB) (K:OB→Z):Z:=match b with|⟨d,z,rows⟩=>fB d fun d=>K ⟨d,z,rows⟩
def Mv (cs:List TC) (K:List TC→Z):Z:=fL SO cs K
def Ri (v:TV) (K:TV→Z):Z:=match v with
 | .c c=>SO c fun c=>K (.c c)
 | .ag cs=>Mv cs fun cs=>K (.ag cs)
 | .tu vs=>fL (fun p K=>match p with|(i,cs)=>Mv cs fun cs=>K (i,cs)) vs fun vs=>K (.tu vs)
 | .bx cs=>Mv cs fun cs=>K (.bx cs)
 | .fn f caps=>K (.fn f caps)
def Lw (st:TS) (K:TS→Z):Z:=
 fL (fun p K=>match p with|(i,e)=>UA e fun e=>K (i,e)) st.tm fun tm=>
 fL (fun p K=>match p with|(i,cs)=>fL T7 cs fun cs=>K (i,cs)) st.bx fun bx=>
 fL (fun p K=>match p with|(i,b)=>UB b fun b=>K (i,b)) st.ob fun ob=>K ⟨tm,bx,ob⟩
end
def jo (st:TS):CE→Option (Nat×List (List TC))
 | .nil z=>some (z,[])
 | .ref o cut=>match aa o st.ob with|some ⟨_,z,rows⟩=>some (z,HC cut rows)|none=>none
 | .snap _ _ z rows=>some (z,rows)
 |_=>none
def r6 (st:TS) (e:CE):Option TC:=match e with
 | .sc v=>some (.sc v)
 |e=>match jo st e with|some (z,rows)=>some (.sub z rows)|none=>none
def oe (st:TS):List CE→Option (List TC)
 |[]=>some []
 |e::r=>match r6 st e,oe st r with
  |some c,some cs=>some (c::cs)
  |_,_=>none
def F3 (c:TC):CE:=match c with| .sc v=> .sc v| .sub z _=> .nil z| .any=> .gone
section
variable (C : g6)
def F4 (ty:TypeId):Value→TE
 | .slice none 0 0=>match(C.tt ty).ti with
   | .slice e=>one (.nil (C.tt e).size)
   |_=> .dead
 | .int k n=>S (.int k n)
 | .bool b=> .kb b
 | .string s=>S (.string s)
 |_=> .dead
def lU (st:TS) (ty:TypeId):Operand→TE
 | .tmp i=>st.get i
 | .const v=>F4 C ty v
 | .func f=> .fn f []
 | .global _=> .dead
def Mw:TE→Option Value
 | .v false [.mk false [.sc v]]=>some v
 | .kb b=>some (.bool b)
 |_=>none
def asInt:TE→Option Int
 | .v false [.mk false [.sc (.int _ n)]]=>some n
 |_=>none
def pJ:TE→Option CE
 | .v false [.mk false [e]]=>some e
 | .kb b=>some (.sc (.bool b))
 |_=>none
def wB:TE→Option (List CE)
 | .v false [.mk _ cs]=>some cs
 | .kb b=>some [.sc (.bool b)]
 |_=>none
def Mx (op:BinOp):Value→Value→Option Value
 | .int k a,.int k' b=>
   match op with
   | .shl=>if 0≤b then some (.int k (Re k a b)) else none
   | .shr=>if 0≤b then some (.int k (Lv k a b)) else none
   |_=>if k=k' then
    match op with
    | .add=>some (.int k (Jg k a b))
    | .sub=>some (.int k (Cu k a b))
    | .mul=>some (.int k (Jh k a b))
    | .and=>some (.int k (uW .and k a b))
    | .or=>some (.int k (uW .or k a b))
    | .xor=>some (.int k (uW .xor k a b))
    | .eql=>some (.bool (gq a b))
    | .neq=>some (.bool (!gq a b))
    | .lss=>some (.bool (dJ a b))
    | .leq=>some (.bool (oc a b))
    | .gtr=>some (.bool (dJ b a))
    | .geq=>some (.bool (oc b a))
    |_=>none
    else none
 | .string a,.string b=>match op with
   | .eql=>some (.bool (Je a b))
   | .neq=>some (.bool (!Je a b))
   | .lss=>some (.bool (Hz a b))
   | .leq=>some (.bool (Hz a b||Je a b))
   | .gtr=>some (.bool (!(Hz a b||Je a b)))
   | .geq=>some (.bool (!Hz a b))
   |_=>none
 |_,_=>none
def pT:List Nat→List CE→List CE→Option Bool
 |[],[],[]=>some true
 |1::ks,.sc (.int k a)::r,.sc (.int k' b)::r'=>if k=k' then(match pT ks r r' with|some q=>some (gq a b&&q)|none=>none) else none
 |2::ks,.sc (.bool a)::r,.sc (.bool b)::r'=>match pT ks r r' with|some q=>some (Ml a b&&q)|none=>none
 |3::ks,.sc (.string a)::r,.sc (.string b)::r'=>match pT ks r r' with|some q=>some (Je a b&&q)|none=>none
 |_,_,_=>none
def yz (t:TypeId):Bool:=match(C.tt t).ti with| .struct _=>true|_=>false
def kC (t:TypeId) (f:Nat):Option (Nat×TypeId):=match(C.tt t).ti with| .struct fs=>fs[f]?|_=>none
def O0 (t:TypeId) (f:Nat):TypeId:=match kC C t f with|some (_,ft)=>ft|none=>0
def qB (t:TypeId):Option TypeId:=match(C.tt t).ti with| .slice e=>some e|_=>none
def Rj (ds:List Nat) (loc:Option (Nat×Int×Nat)) (j:Nat) (c:TC):CE:=
 match c with
 | .sc v=> .sc v
 | .sub z rows=> .snap ds (match loc with|some (o,i,f)=>some (o,i,f+j)|none=>none) z rows
 | .any=> .gone
def r7 (ds:List Nat) (loc:Option (Nat×Int×Nat)):Nat→List TC→List CE
 |_,[]=>[]
 |j,c::r=>Rj ds loc j c::r7 ds loc (j+1) r
def known (i:gu):Bool:=match i.ti with| .other=>false|_=>true
def qC (i:gu):Bool:=match i.ti with| .other=>false| .ptr _=>false|_=>true
def My (t:TypeId) (xs:List CE):TE:= .v false [.mk (yz C t) xs]
variable {R : Type}
def w8 (t:TypeId) (xs:List CE) (K:TE→Ev R):Ev R:=match known (C.tt t),Nat.beq xs.length (C.tt t).size with
 |true,true=>K (My C t xs)
 |_,_=> .fail
def F5 (e:TypeId) (z:Nat):Bool:=match known (C.tt e) with|true=>Nat.beq z (C.tt e).size|false=>false
def Ku (st:TS) (o:Nat) (path:Option (Int×Nat)) (i:Int) (f:Nat) (K:List TC→Ev R):Ev R:=
 match aa o st.ob with
 |some ⟨_,_,rows⟩=>match path with
  |none=> .row rows i fun row=>K (row.drop f)
  |some (i0,f0)=> .row rows i0 fun row0=>match row0[f0]? with
   |some (.sub _ kQ)=> .row kQ i fun row=>K (row.drop f)
   |_=> .fail
 |none=> .fail
def w9 (st:TS) (t:TypeId) (e:TE) (K:TE→Ev R):Ev R:=
 match e with
 | .bp b off=>match aa b st.bx with
   |some cs=>w8 C t ((cs.drop off).take (C.tt t).size) K
   |none=> .fail
 | .ep ds cells=>w8 C t (r7 ds none 0 (cells.take (C.tt t).size)) K
 | .er o path i f=>Ku st o path i f fun cells=>
     w8 C t (r7 [o] (match path with|none=>some (o,i,f)|some _=>none) 0 (cells.take (C.tt t).size)) K
 |_=> .fail
def r8 (t:TypeId):List (Nat×TE)→List CE→Option (List CE)
 |[],cs=>some cs
 |(f,e)::r,cs=>match kC C t f,wB e with
  |some (off,ft),some c=>match Nat.beq c.length (C.tt ft).size with
   |true=>r8 t r (cs.take off++c++cs.drop (off+c.length))
   |false=>none
  |_,_=>none
def Ch (st:TS):List Operand→Option (List Nat)
 |[]=>some []
 |x::r=>match lU C st 0 x,Ch st r with
  | .bp b 0,some bs=>some (b::bs)
  |_,_=>none
def bound (st:TS) (d:Int):Option Operand→Option Int
 |none=>some d
 |some a=>asInt (lU C st 0 a)
def plain:TE→TE
 | .kb b=>S (.bool b)
 |e=>e
def Mz (e:CE) (l h:Int):CE:=match e with
 | .nil z=> .nil z
 | .ref o none=> .ref o (some (l,h))
 | .ref o (some (a,_))=> .ref o (some (yy a l,yy a h))
 | .snap ds _ z rows=> .snap ds none z (aq rows l h)
 |e=>e
def MA (e:CE) (n:Int) (cells:List TC):TE:=match e with
 | .ref o none=> .er o none n 0
 | .ref o (some _)=> .ep [o] cells
 | .snap _ (some (o,i,f)) _ _=> .er o (some (i,f)) n 0
 | .snap ds none _ _=> .ep ds cells
 |_=> .dead
def Ci (t:TypeId):Bool:=match(C.tt t).ti with| .bool=>true|_=>false
def Rk (bt:Bool) (op:BinOp) (a b:Value) (K:TE→Ev R):Ev R:=match op,a,b with
 | .eql,.bool p,.bool q=>match bt with|true=>K (S (.bool (Ml p q)))|false=> .fail
 | .neq,.bool p,.bool q=>match bt with|true=>K (S (.bool (!Ml p q)))|false=> .fail
 | .rem,.int k p,.int k' q=>if k=k' then .test (gq q 0) fun z=>match z with
     |false=>K (S (.int k (Ji p q)))
     |true=> .fail
   else .fail
 | .quo,.int k p,.int k' q=>if k=k' then .test (gq q 0) fun z=>match z with
     |false=>K (S (.int k (eM k p q)))
     |true=> .fail
   else .fail
 | .add,.string p,.string q=> .test (fits (p.size+q.size) 1) fun z=>match z with
   |true=>K (S (.string (SL p q)))
   |false=> .fail
 |_,_,_=>match Mx op a b with
  |some v=>K (S v)
  |none=> .fail
def Rl (st:TS) (t:TypeId) (e:CE) (K:Value→Ev R):Ev R:=match(C.tt t).ti,e with
 | .str,.sc (.string s)=>K (.int .i64 s.size)
 | .slice _,e=>match jo st e with
   |some (_,rows)=>K (.int .i64 rows.length)
   |none=> .fail
 |_,_=> .fail
def eE (st:TS) (o:Oper) (K:TE→Ev R):Ev R:=
 match o.op with
 | .move x=>K (lU C st o.type x)
 | .assign x=>K (lU C st o.type x)
 | .pick c a b=>match lU C st o.type c with
   | .kb p=>match p with
     |true=>K (lU C st o.type a)
     |false=>K (lU C st o.type b)
   |_=> .fail
 | .load t a=>w9 C st t (lU C st 0 a) K
 | .nilCheck x=>match lU C st 0 x with
   | .bp b off=>K (.bp b off)
   | .ep d c=>K (.ep d c)
   | .er r p i f=>K (.er r p i f)
   |_=> .fail
 | .binOp op t x y _=>match plain (lU C st t x),plain (lU C st t y) with
   | .v false [.mk false [.sc a]],.v false [.mk false [.sc b]]=>Rk (Ci C t) op a b K
   | .v false [.mk true xs],.v false [.mk true ys]=>match known (C.tt t),(C.tt t).eqs with
     |false,_=> .fail
     |true,[]=> .fail
     |true,k::ks=>match op,pT (k::ks) xs ys with
      | .eql,some b=>K (S (.bool b))
      | .neq,some b=>K (S (.bool (!b)))
      |_,_=> .fail
   |_,_=> .fail
 | .unOp op _ x=>match op,lU C st o.type x with
   | .not,.kb b=>match b with|true=>K (.kb false)|false=>K (.kb true)
   | .not,.v false [.mk false [.sc (.bool b)]]=>K (S (.bool (!b)))
   | .neg,.v false [.mk false [.sc (.int k n)]]=>K (S (.int k (Cu k 0 n)))
   |_,_=> .fail
 | .convert src dst x=>match(C.tt dst).ti,(C.tt src).ti,lU C st src x with
   | .int k,.int _,.v false [.mk false [.sc (.int _ n)]]=>K (S (.int k (AS k n)))
   | .str,.str,.v false [.mk false [.sc (.string s)]]=>K (S (.string s))
   | .str,.slice et,.v false [.mk false [e]]=>match(C.tt et).ti,jo st e with
     | .int .u8,some (_,rows)=> .bytes rows fun ns=>K (S (.string (HA ns)))
     |_,_=> .fail
   |_,_,_=> .fail
 | .fieldAddr s x f=>match kC C s f,lU C st 0 x with
   |some (off,_),.bp b o=>K (.bp b (o+off))
   |some (off,_),.ep d cells=>K (.ep d (cells.drop off))
   |some (off,_),.er r p i g=>K (.er r p i (g+off))
   |_,_=> .fail
 | .field t x f=>match kC C t f,lU C st t x with
   |some (off,ft),.v false [.mk true cs]=>w8 C ft ((cs.drop off).take (C.tt ft).size) K
   |_,_=> .fail
 | .indexAddr t x i=>match qB C t,pJ (lU C st t x),asInt (lU C st 0 i) with
   |some et,some e,some n=>match jo st e with
    |some (z,rows)=>match F5 C et z with
     |true=> .row rows n fun cells=>K (MA e n cells)
     |false=> .fail
    |none=> .fail
   |_,_,_=> .fail
 | .index t x i=>match(C.tt t).ti,Mw (lU C st t x),asInt (lU C st 0 i) with
   | .str,some (.string s),some n=> .byte s n fun b=>K (S (.int .u8 b))
   |_,_,_=> .fail
 | .slice t x lo hi mx=>match mx,(C.tt t).ti,pJ (lU C st t x) with
   |none,.str,some (.sc (.string s))=>match bound C st 0 lo,bound C st s.size hi with
    |some l,some h=> .test (fh l h s.size) fun z=>match z with
     |true=>K (S (.string (SM s l h)))
     |false=> .fail
    |_,_=> .fail
   |none,.slice et,some e=>match jo st e with
    |some (z,rows)=>match F5 C et z,bound C st 0 lo,bound C st rows.length hi with
     |true,some l,some h=> .test (fh l h rows.length) fun b=>match b with
      |true=>K (one (Mz e l h))
      |false=> .fail
     |_,_,_=> .fail
    |none=> .fail
   |_,_,_=> .fail
 | .extract x i=>match lU C st 0 x with
   | .v true es=>match es[i]? with
     |some (.mk a cs)=>K (.v false [.mk a cs])
     |some (.ptr b)=>K (.bp b 0)
     |none=> .fail
   |_=> .fail
 | .build t ps=>match yz C t,r8 C t (ps.toList.map fun p=>(p.1,lU C st (O0 C t p.1) p.2)) ((C.tt t).zero.map F3) with
   |true,some cs=>K (.v false [.mk true cs])
   |_,_=> .fail
 | .makeFunc fn first caps=>match fn,first.toList,Ch C st caps.toList with
   | .func f,[],some bs=>K (.fn f bs)
   |_,_,_=> .fail
 | .call {callee:= .builtin .len,args,argTypes}=>match args.toList,argTypes.toList with
   |[x],[t]=>match pJ (lU C st t x) with
    |some e=>Rl C st t e fun v=>K (S v)
    |none=> .fail
   |_,_=> .fail
 | .call {callee:= .builtin .min,args,argTypes}=>match args.toList,argTypes.toList with
   |[x,y],t::_=>match Mw (lU C st t x),asInt (lU C st t y) with
    |some (.int k a),some b=>K (S (.int k (Jf a b)))
    |_,_=> .fail
   |_,_=> .fail
 |_=> .fail
def jG (e:CE) (st:TS):Option (TC×TS×Bool):=
 match e with
 | .sc v=>some (.sc v,st,true)
 | .nil z=>some (.sub z [],st,true)
 | .ref o cut=>match aa o st.ob with
   |some ⟨d,z,rows⟩=>some (.sub z (HC cut rows),iR o st,d)
   |none=>none
 | .snap [] _ z rows=>some (.sub z rows,st,false)
 |_=>none
def Cv:List CE→TS→Option (List TC×TS×Bool)
 |[],st=>some ([],st,true)
 |e::r,st=>match jG e st with
  |some (c,cj,d1)=>match Cv r cj with
   |some (cs,jA,d2)=>some (c::cs,jA,d1&&d2)
   |none=>none
  |none=>none
def rowsOf (st:TS) (ty:TypeId):List (Nat×Operand)→Nat→Option (List (List TC)×TS×Bool)
 |[],_=>some ([],st,true)
 |(i,x)::r,n=>match Nat.beq i n,wB (lU C st ty x) with
  |true,some cs=>match Nat.beq cs.length (C.tt ty).size,Cv cs st with
   |true,some (cs',cj,d1)=>match rowsOf cj ty r (n+1) with
    |some (rs,jA,d2)=>some (cs'::rs,jA,d1&&d2)
    |none=>none
   |_,_=>none
  |_,_=>none
def mA (d k j:Nat):Nat:=1000+400*d+20*k+j
def Rm (b j:Nat):Nat:=1000000000+100*b+j
def qN (b:Nat):Bool:=match Nat.ble 200000 b with|true=>Nat.ble 300000 b|false=>true
def Qx (b:Nat):ku→Bool
 | .ptr c=>Nat.beq c b
 | .mk _ _=>false
def Cw (b:Nat):TE→Bool
 | .bp c _=>Nat.beq c b
 | .fn _ caps=>gH b caps
 | .v _ es=>es.any (Qx b)
 |_=>false
def E8 (b:Nat) (st:TS):TS:=⟨mapA (fun e=>match Cw b e with|true=> .dead|false=>e) st.tm,kz b st.bx,st.ob⟩
def zJ (b:Nat) (cs:List CE) (st:TS):TS:=(E8 b st).zI b cs
def setCells (f:Nat) (cs:List TC) (rows:List (List TC)) (i:Int):List (List TC):=setRow rows i f cs
def Cx (o:Nat) (e:CE):CE:=match e with
 | .snap d (some (p,i,f)) z rows=>match Nat.beq p o with|true=> .snap [] none z rows|false=> .snap d (some (p,i,f)) z rows
 |e=>e
def Qy (o:Nat):TE→TE
 | .er p (some q) i f=>match Nat.beq p o with|true=> .dead|false=> .er p (some q) i f
 |e=>e
def Ed (b:OB):OB:=⟨false,b.z,b.rows⟩
def qV (o:Nat) (st:TS):TS:=match aa o st.ob with
 |some b=>pQ (Cx o) (Qy o) (jn o (Ed b)) st
 |none=>st
def Jk (o:Nat):List CE→Bool
 |[]=>false
 | .snap _ (some (p,_,_)) _ _::r=>match Nat.beq p o with|true=>true|false=>Jk o r
 |_::r=>Jk o r
def yA (o:Nat) (path:Option (Int×Nat)) (i:Int) (f:Nat) (cs:List CE) (st:TS) (K:TS→Ev R):Ev R:=
 match Cv cs st with
 |some (ts,cj,d1)=>match aa o cj.ob with
  |some ⟨d,z,rows⟩=>match path with
   |none=> .row rows i fun row=>match Nat.ble (f+ts.length) row.length with
    |true=>K (nE [(o,⟨d&&d1,z,setRow rows i f ts⟩)] cj)
    |false=> .fail
   |some (i0,f0)=>match d,d1 with
    |true,true=> .row rows i0 fun row0=>match row0[f0]? with
     |some (.sub z1 kQ)=> .row kQ i fun row=>match Nat.ble (f+ts.length) row.length with
      |true=>K (nE [(o,⟨true,z,setRow rows i0 f0 [.sub z1 (setRow kQ i f ts)]⟩)] cj)
      |false=> .fail
     |_=> .fail
    |_,_=> .fail
  |none=> .fail
 |none=> .fail
def Cj:List CE→Bool
 |[]=>false
 | .gone::_=>true
 |_::r=>Cj r
def Cy (b off:Nat) (cs:List CE) (st:TS):Option TS:=
 match aa b st.bx with
 |some old=>match qN b&& !Cj cs,Nat.ble (off+cs.length) old.length with
  |true,true=>some (st.zI b (old.take off++cs++old.drop (off+cs.length)))
  |_,_=>none
 |none=>none
def qD (st:TS) (e:CE):Option (Option Nat×Nat×Bool×List (List TC)):=
 match e with
 | .nil z=>some (none,z,true,[])
 | .ref o cut=>match aa o st.ob with
   |some ⟨d,z,rows⟩=>some (some o,z,d,HC cut rows)
   |none=>none
 |_=>none
def jw (o:Option Nat) (st:TS):TS:=match o with|some o=>iR o st|none=>st
def pK (d:Nat) (b:OB) (st:TS):TS:=(uX (mA d 0 0) b st).set d (one (.ref (mA d 0 0) none))
def zK (e:TypeId) (z:Nat):Bool:=match qC (C.tt e) with|true=>Nat.beq z (C.tt e).size|false=>false
def xD (g o':Nat) (b:OB) (l h:Int) (st:TS):TS:=uX g ⟨true,1,[]⟩ (nD o' ⟨b.deep,b.z,fY b.z b.rows l h⟩ st)
def Jl (d:Nat) (o:Option Nat) (dp:Bool) (cx:CE) (st:TS):Option (Nat×List (List TC)×TS):=match cx with
 | .ref o' (some (l,h))=>match dp,aa o' st.ob,(match o with|some o=>Nat.beq o o'||Nat.beq o (mA d 1 0)|none=>false)||Nat.beq o' (mA d 1 0) with
   |true,some ⟨true,z,rows⟩,false=>some (z,aq rows l h,iR (mA d 1 0) (jw o (xD (mA d 1 0) o' ⟨true,z,rows⟩ l h st)))
   |_,_,_=>none
 |_=>none
def MB (st:TS) (cx:CE):Option (Nat×List (List TC)):=match cx with
 | .ref o' cut=>match aa o' st.ob with
   |some ⟨false,z,rows⟩=>some (z,HC cut rows)
   |_=>none
 |_=>none
def Kv (st:TS) (d:Nat) (t t':TypeId) (s:TE) (x:TE) (K:TS→Ev R):Ev R:=
 match qB C t,pJ s,pJ x with
 |some e,some cs,some cx=>match qD st cs,(C.tt t').ti with
  |some (o,z,dp,rows),.str=>match zK C e z,Nat.beq z 1,cx with
   |true,true,.sc (.string b)=> .test (fits (rows.length+b.size) (C.tt e).bytes) fun q=>match q with
    |true=>K (pK d ⟨dp,z,rows++w7 b⟩ (jw o st))
    |false=> .fail
   |_,_,_=> .fail
  |some (o,z,dp,rows),.slice _=>match zK C e z with
   |false=> .fail
   |true=>match(C.tt e).flat with
     |true=>match jo st cx with
      |some (z',aI)=>match Nat.beq z z' with
       |true=> .test (bN aI&&fits (rows.length+aI.length) (C.tt e).bytes) fun q=>match q with
        |true=>K (pK d ⟨dp,z,rows++aI⟩ (jw o st))
        |false=> .fail
       |false=> .fail
      |none=> .fail
     |false=>match Jl d o dp cx st with
      |some (z',aI,cj)=>match Nat.beq z z' with
        |true=> .test (fits (rows.length+aI.length) (C.tt e).bytes) fun q=>match q with
         |true=>K (pK d ⟨dp,z,rows++aI⟩ cj)
         |false=> .fail
        |false=> .fail
      |none=>match MB st cx with
       |some (z',aI)=>match Nat.beq z z' with
        |true=> .test (fits (rows.length+aI.length) (C.tt e).bytes) fun q=>match q with
         |true=>K (pK d ⟨false,z,rows++aI⟩ (jw o st))
         |false=> .fail
        |false=> .fail
       |none=>match jG cx (jw o st) with
       |some (.sub z' aI,cj,d1)=>match Nat.beq z z' with
        |true=> .test (fits (rows.length+aI.length) (C.tt e).bytes) fun q=>match q with
         |true=>K (pK d ⟨dp&&d1,z,rows++aI⟩ cj)
         |false=> .fail
        |false=> .fail
       |_=> .fail
  |_,_=> .fail
 |_,_,_=> .fail
def Qz (st:TS) (d:Option Nat) (t:TypeId) (s:TE) (x:TE) (K:TS→Ev R):Ev R:=
 match qB C t,pJ s,pJ x with
 |some e,some (.ref o none),some cx=>match aa o st.ob,jo st cx,qC (C.tt e) with
  |some ⟨true,z,rows⟩,some (z',aI),true=>match Nat.beq z z'&&Nat.beq z (C.tt e).size with
   |true=> .test (bN aI) fun q=>match q with
    |true=>match d with
     |some d=>K ((nD o ⟨true,z,jF rows aI⟩ st).set d (one (.sc (.int .i64 (Int.ofNat (qS aI.length rows.length))))))
     |none=>K (nD o ⟨true,z,jF rows aI⟩ st)
    |false=> .fail
   |false=> .fail
  |_,_,_=> .fail
 |_,_,_=> .fail
def F6 (st:TS):List Nat→Option (List (List TC))
 |[]=>some []
 |b::r=>match aa b st.bx with
  |some cs=>match oe st cs,F6 st r with
   |some c,some cs=>some (c::cs)
   |_,_=>none
  |none=>none
def MC (st:TS) (e:TE) (K:TV→Ev R):Ev R:=
 match e with
 | .v false [.mk a cs]=>match oe st cs with
   |some ts=>match a,ts with
    |true,ts=>K (.ag ts)
    |false,[c]=>K (.c c)
    |_,_=> .fail
   |none=> .fail
 | .kb b=>K (.c (.sc (.bool b)))
 | .bp b off=>match aa b st.bx with
   |some cs=>match oe st (cs.drop off) with
    |some ts=>K (.bx ts)
    |none=> .fail
   |none=> .fail
 | .ep _ (c::cells)=>K (.bx (c::cells))
 | .er r p i f=>Ku st r p i f fun cells=>match cells with
   |[]=> .fail
   |c::cells=>K (.bx (c::cells))
 | .fn f caps=>match F6 st caps with
   |some xs=>K (.fn f xs)
   |none=> .fail
 |_=> .fail
def HD (st:TS):List TE→(List TV→Ev R)→Ev R
 |[],K=>K []
 |e::r,K=>MC st e fun v=>HD st r fun vs=>K (v::vs)
def r9 (st:TS) (b:Nat):List Nat:=match aa b st.bx with
 |some cs=>(2*b+1)::(cs.flatMap dD).map (2* ·)
 |none=>[2*b+1]
def lV (st:TS):TE→List Nat
 | .v _ es=>(eO es).map (2* ·)
 | .ep d _=>d.map (2* ·)
 | .er o _ _ _=>[2*o]
 | .bp b _=>r9 st b
 | .fn _ caps=>caps.flatMap (r9 st)
 |_=>[]
def pU (st:TS) (o:Nat):Bool:=match aa o st.ob with|some ⟨true,_,_⟩=>true|_=>false
def zL (st:TS) (o:Nat):Bool:=match aa o st.ob with|some ⟨false,_,_⟩=>true|_=>false
def lW (st:TS) (c:Bool):List Mode→List CE→Option (List Nat)
 |_,[]=>some []
 |ms,e::r=>match lW st c (ms.drop 1) r with
  |some l=>match ms.headD .deep,e with
   |_,.sc _=>some l
   |_,.nil _=>some l
   | .snap,.snap [] none _ _=>some l
   | .snap,_=>none
   | .top,.ref o none=>match zL st o with|true=>some ((2*o)::l)|false=>none
   | .top,_=>none
   |_,.ref o none=>match pU st o with|true=>some ((2*o)::l)|false=>none
   |_,.ref o (some _)=>match c,pU st o with|true,true=>some ((2*o)::l)|_,_=>none
   |_,.snap _ (some (o,_,_)) _ _=>match c,pU st o with|false,true=>some ((2*o)::l)|_,_=>none
   |_,_=>none
  |none=>none
def lq (st:TS) (c:Bool) (ms:List Mode) (e:TE):Option (List Nat):=match e with
 | .v false [.mk _ cs]=>match c,ms with|true,ms=>lW st true ms cs|false,[]=>lW st false [] cs|_,_=>none
 | .bp b 0=>match c,qN b,aa b st.bx with
   |false,true,some cs=>match lW st true ms cs with
    |some l=>some ((2*b+1)::l)
    |none=>none
   |_,_,_=>none
 |_=>none
def aZ.ms:aZ→List Mode
 | .inout ms=>ms
 | .consume ms=>ms
 |_=>[]
def xE:List Nat→Bool
 |[]=>true
 |a::r=>match gH a r with|true=>false|false=>xE r
def sg (st:TS):List aZ→List TE→Option (List Nat×List Nat)
 |[],[]=>some ([],[])
 |p::ps,e::es=>match sg st ps es with
  |some (own,rd)=>match p with
   | .borrow=>some (own,lV st e++rd)
   | .inout ms=>match lq st false ms e with|some l=>some (l++own,rd)|none=>none
   | .consume ms=>match lq st true ms e with|some l=>some (l++own,rd)|none=>none
  |none=>none
 |_,_=>none
def og:List CE→TS→TS
 |[],st=>st
 | .ref o _::r,st=>og r (iR o st)
 |_::r,st=>og r st
def mH (st:TS) (e:CE) (c:TC):Option (List (Nat×OB)):=
 match e,c with
 | .sc _,.sc _=>some []
 | .nil _,.sub _ []=>some []
 | .ref o none,.sub z rows=>match aa o st.ob with
   |some ⟨true,z0,_⟩=>match Nat.beq z z0 with|true=>some [(o,⟨true,z,rows⟩)]|false=>none
   |_=>none
 | .snap _ (some (o,i,f)) z0 _,.sub z' aI=>match aa o st.ob,Nat.beq z' z0 with
   |some ⟨true,z,rows⟩,true=>some [(o,⟨true,z,setRow rows i f [.sub z' aI]⟩)]
   |_,_=>none
 |_,_=>none
def Ck (st:TS):List CE→List TC→Option (List (Nat×OB))
 |[],[]=>some []
 |e::r,c::cs=>match mH st e c,Ck st r cs with
  |some a,some b=>some (a++b)
  |_,_=>none
 |_,_=>none
def bq (f:Nat→Nat):List Mode→Nat→List TC→TS→List CE×TS
 |_,_,[],st=>([],st)
 |ms,j,c::cs,st=>match c with
  | .sc v=>match bq f (ms.drop 1) (j+1) cs st with|(r,st')=>(.sc v::r,st')
  | .sub z rows=>match ms.headD .snap with
    | .snap=>match bq f (ms.drop 1) (j+1) cs st with|(r,st')=>(.snap [] none z rows::r,st')
    | .top=>match bq f (ms.drop 1) (j+1) cs (uX (f j) ⟨false,z,rows⟩ st) with|(r,st')=>(.ref (f j) none::r,st')
    | .deep=>match bq f (ms.drop 1) (j+1) cs (uX (f j) ⟨true,z,rows⟩ st) with|(r,st')=>(.ref (f j) none::r,st')
  | .any=>match bq f (ms.drop 1) (j+1) cs st with|(r,st')=>(.gone::r,st')
def nc (kk:TS):List aZ→List TE→TS→TS
 |p::ps,e::es,st=>match p,e with
  | .consume _,.v false [.mk _ cs]=>nc kk ps es (og cs st)
  | .inout _,.bp b _=>match aa b kk.bx with
    |some cs=>nc kk ps es ⟨(og cs st).tm,kz b (og cs st).bx,(og cs st).ob⟩
    |none=>nc kk ps es st
  |_,_=>nc kk ps es st
 |_,_,st=>st
def oh (st:TS):List aZ→List TE→List TV→Option (List (Nat×OB)×List (Nat×List Mode×List TC))
 |p::ps,e::es,fs=>match p with
  | .inout ms=>match e,fs with
    | .v false [.mk false [e]],.c c::fs=>match mH st e c,oh st ps es fs with
      |some a,some (b,bs)=>some (a++b,bs)
      |_,_=>none
    | .v false [.mk true cs],.ag ts::fs=>match Ck st cs ts,oh st ps es fs with
      |some a,some (b,bs)=>some (a++b,bs)
      |_,_=>none
    | .bp b 0,.bx ts::fs=>match aa b st.bx,oh st ps es fs with
      |some cs,some (a,bs)=>match Nat.beq cs.length ts.length with|true=>some (a,(b,ms,ts)::bs)|false=>none
      |_,_=>none
    |_,_=>none
  |_=>oh st ps es fs
 |[],[],[]=>some ([],[])
 |_,_,_=>none
def HE:List Mode→List TC→List Mode
 |_,[]=>[]
 |ms,_::r=>(match ms.headD .deep with| .snap=> .snap|_=> .deep)::HE (ms.drop 1) r
def yB:List (Nat×List Mode×List TC)→TS→TS
 |[],st=>st
 |(b,ms,ts)::r,st=>match bq (Rm b) (HE ms ts) 0 ts st with
  |(cs,st')=>yB r (st'.zI b cs)
def mI (st:TS):List Nat→TS
 |[]=>st
 |o::r=>mI (pR st o) r
def uY (st:TS):TE→List Nat
 | .bp b _=>match aa b st.bx with|some cs=>cs.flatMap dD|none=>[]
 | .fn _ caps=>caps.flatMap fun b=>match aa b st.bx with|some cs=>cs.flatMap dD|none=>[]
 |e=>qA e
def borrowed (st:TS):List aZ→List TE→List Nat
 | .borrow::ps,e::es=>uY st e++borrowed st ps es
 |_::ps,_::es=>borrowed st ps es
 |_,_=>[]
def om (d k:Nat):Nat:=400000+20*d+k
def dV (d:Nat):Nat→List (List Mode)→List (Nat×List TC)→TS→List ku×TS
 |_,_,[],st=>([],st)
 |k,ms,(a,cs)::r,st=>match bq (mA d k) (ms.headD []) 0 cs st with
  |(cs',st')=>match Nat.beq a 2 with
   |true=>match dV d (k+1) (ms.drop 1) r (zJ (om d k) cs' st') with
    |(es,AK)=>(.ptr (om d k)::es,AK)
   |false=>match dV d (k+1) (ms.drop 1) r st' with
    |(es,AK)=>(.mk (Nat.beq a 1) cs'::es,AK)
def wC:List (Nat×List TC)→Bool
 |[]=>true
 |(_,cs)::r=>match Nat.ble cs.length 20 with|true=>wC r|false=>false
def MD (d:Nat) (ms:List (List Mode)) (v:TV) (st:TS):Option TS:=
 match v with
 | .c c=>match bq (mA d 0) (ms.headD []) 0 [c] st with|(cs,st')=>some (st'.set d (.v false [.mk false cs]))
 | .ag cs=>match bq (mA d 0) (ms.headD []) 0 cs st with|(cs,st')=>some (st'.set d (.v false [.mk true cs]))
 | .tu vs=>match wC vs with
   |true=>match dV d 0 ms vs st with|(es,st')=>some (st'.set d (.v true es))
   |false=>none
 | .bx cs=>match bq (mA d 0) (ms.headD []) 0 cs st with|(cs',st')=>some ((zJ (om d 0) cs' st').set d (.bp (om d 0) 0))
 |_=>none
def pV:TV→Bool
 | .c _=>true
 | .ag cs=>Nat.ble cs.length 16
 | .bx cs=>Nat.ble cs.length 16
 | .fn _ caps=>Nat.ble caps.length 900
 | .tu _=>false
def kD:List TV→Bool
 |[]=>true
 |v::r=>match pV v with|true=>kD r|false=>false
def oM (vs:List TV):Bool:=match Nat.ble vs.length 50 with|true=>kD vs|false=>false
def uZ (sh:Bool) (st:TS) (ps:List aZ) (es:List TE):TS:=match sh with
 |true=>mI (nc st ps es st) (borrowed st ps es)
 |false=>nc st ps es st
def jT:List Mode→List TC→Bool
 |_,[]=>true
 |ms,.sc _::r=>jT (ms.drop 1) r
 |ms,.sub _ _::r=>match ms.headD .snap with| .deep=>jT (ms.drop 1) r|_=>false
 |ms,.any::r=>match ms.headD .snap with| .deep=>jT (ms.drop 1) r|_=>false
def Cl:List (List Mode)→List (Nat×List TC)→Bool
 |_,[]=>true
 |ms,(_,cs)::r=>match jT (ms.headD []) cs with|true=>Cl (ms.drop 1) r|false=>false
def Kw (ms:List (List Mode)):TV→Bool
 | .c c=>jT (ms.headD []) [c]
 | .ag cs=>jT (ms.headD []) cs
 | .bx cs=>jT (ms.headD []) cs
 | .tu vs=>Cl ms vs
 | .fn _ _=>false
def F7:List aZ→Bool
 |[]=>true
 | .inout (_::_)::_=>false
 |_::r=>F7 r
def ME:List aZ→Bool
 |[]=>true
 | .inout (_::_)::_=>false
 | .consume (_::_)::_=>false
 |_::r=>ME r
def Jm (g:Lu) (r:TV):Bool:=match g.shares with
 |true=>true
 |false=>match F7 g.ps with|true=>Kw g.res r|false=>false
def yC (d:Option Tmp) (f:FuncId) (es:List TE) (st:TS) (K:TS→Ev R):Ev R:=
 match sg st (C.sig f).ps es with
 |some (own,rd)=>match xE own,nU own rd,(C.sig f).shares&&gH 0 rd with
  |true,false,false=>HD st es fun vs=>match oM vs with
   |true=> .call f vs fun r fs=>match Jm (C.sig f) r with
    |false=> .fail
    |true=>match oh st (C.sig f).ps es fs with
     |some (W,B)=>Lw (yB B (nE W (uZ (C.sig f).shares st (C.sig f).ps es))) fun jA=>match d with
      |some d=>match MD d (C.sig f).res r jA with
       |some st4=>K st4
       |none=> .fail
      |none=>K jA
     |none=> .fail
   |false=> .fail
  |_,_,_=> .fail
 |none=> .fail
def yD (st:TS):List Operand→List TypeId→List TE
 |x::xs,t::ts=>lU C st t x::yD st xs ts
 |_,_=>[]
def E9 (st:TS) (o:Oper) (K:TS→Ev R):Ev R:=match o.dst with
 |some d=>eE C st o fun e=>K (st.set d e)
 |none=> .fail
def jH (st:TS) (o:Oper) (K:TS→Ev R):Ev R:=
 match o.op with
 | .alloc t=>match o.dst,qC (C.tt t) with
   |some d,true=>match qN d with
    |true=>K ((zJ d ((C.tt t).zero.map F3) st).set d (.bp d 0))
    |false=> .fail
   |_,_=> .fail
 | .box t x=>match o.dst,wB (lU C st t x) with
   |some d,some cs=>match qN d with
    |true=>K ((zJ d cs st).set d (.bp d 0))
    |false=> .fail
   |_,_=> .fail
 | .store t a x=>match o.dst,known (C.tt t),wB (lU C st t x) with
   |none,true,some cs=>match Nat.beq cs.length (C.tt t).size,lU C st 0 a with
    |true,.bp b off=>match Cy b off cs st with
     |some st'=>K st'
     |none=> .fail
    |true,.er r none i f=>match Jk r cs with
     |true=>yA r none i f (cs.map (Cx r)) (qV r st) K
     |false=>yA r none i f cs st K
    |true,.er r p i f=>yA r p i f cs st K
    |_,_=> .fail
   |_,_,_=> .fail
 | .buildSlice t n ps=>match o.dst,qB C t with
   |some d,some e=>match Nat.beq n ps.size&&Nat.ble (n*(C.tt e).size) 16777216&&qC (C.tt e),rowsOf C st e ps.toList 0 with
    |true,some (rs,st',dp)=>K (pK d ⟨dp,(C.tt e).size,rs⟩ st')
    |_,_=> .fail
   |_,_=> .fail
 | .makeSlice t l c=>match o.dst,qB C t,asInt (lU C st 3 l),asInt (lU C st 3 c) with
   |some d,some e,some n,some n'=> .test (qC (C.tt e)&&gq n n'&&oc 0 n&&fits (yx n) (C.tt e).bytes) fun z=>match z with
    |true=>K (pK d ⟨true,(C.tt e).size,List.replicate (yx n) (C.tt e).zero⟩ st)
    |false=> .fail
   |_,_,_,_=> .fail
 | .convert src dst x=>match(C.tt dst).ti,(C.tt src).ti with
   | .slice et,.str=>match o.dst,(C.tt et).ti,Mw (lU C st src x) with
     |some d,.int .u8,some (.string s)=> .test (fits s.size 1) fun z=>match z with
      |true=>K (pK d ⟨true,1,w7 s⟩ st)
      |false=> .fail
     |_,_,_=> .fail
   |_,_=>E9 C st o K
 | .call {callee:= .builtin .append,args,argTypes}=>match o.dst,args.toList,argTypes.toList with
   |some d,[s,x],[t,t']=>Kv C st d t t' (lU C st t s) (lU C st t' x) K
   |_,_,_=> .fail
 | .call {callee:= .builtin .copy,args,argTypes}=>match args.toList,argTypes.toList with
   |[s,x],[t,t']=>Qz C st o.dst t (lU C st t s) (lU C st t' x) K
   |_,_=> .fail
 | .call {callee:= .value (.func f),args,argTypes}=>match Nat.beq args.toList.length argTypes.toList.length with
   |true=>yC C o.dst f (yD C st args.toList argTypes.toList) st K
   |false=> .fail
 | .call {callee:= .value (.tmp i),args,argTypes}=>match Nat.beq args.toList.length argTypes.toList.length with
   |true=>match st.get i with
    | .fn f caps=>yC C o.dst f (yD C st args.toList argTypes.toList++caps.map fun b=> .bp b 0) st K
    |_=> .fail
   |false=> .fail
 |_=>E9 C st o K
def F8 (st:TS) (b:Nat):List Nat:=match aa b st.bx with
 |some cs=>(2*b+1)::(cs.flatMap dD).map (2* ·)
 |none=>[2*b+1]
def u0 (st:TS):TE→List Nat
 | .v _ es=>(eO es).map (2* ·)
 | .bp b _=>F8 st b
 |_=>[]
def lu (st:TS):List aZ→List TE→List Nat
 | .borrow::ps,_::es=>lu st ps es
 |_::ps,e::es=>u0 st e++lu st ps es
 |_,_=>[]
def writes (st:TS) (o:Oper):List Nat:=match o.op with
 | .store _ a _=>match lU C st 0 a with
   | .bp b _=>[2*b+1]
   | .er o _ _ _=>[2*o]
   |_=>[]
 | .call {callee:= .builtin .append,args,argTypes}=>match args.toList,argTypes.toList with
   |s::_,t::_=>(qA (lU C st t s)).map (2* ·)
   |_,_=>[]
 | .call {callee:= .builtin .copy,args,argTypes}=>match args.toList,argTypes.toList with
   |s::_,t::_=>(qA (lU C st t s)).map (2* ·)
   |_,_=>[]
 | .call {callee:= .value (.func f),args,argTypes}=>lu st (C.sig f).ps (yD C st args.toList argTypes.toList)
 | .call {callee:= .value (.tmp i),args,argTypes}=>match st.get i with
   | .fn f caps=>lu st (C.sig f).ps (yD C st args.toList argTypes.toList++caps.map fun b=> .bp b 0)
   |_=>[]
 |_=>[]
def MF (st:TS) (o:Oper):Option (List Nat):=match o.op with
 | .load _ a=>match lU C st 0 a with
   | .bp b _=>match aa b st.bx with
     |some _=>some [2*b+1]
     |none=>none
   | .ep d (_::_)=>some (d.map (2* ·))
   | .er o none _ _=>some [2*o]
   | .er o (some _) _ _=>match aa o st.ob with
     |some ⟨true,_,_⟩=>some [2*o]
     |_=>none
   |_=>none
 |_=>none
def QA (ops:Array Oper) (st:TS) (o:Oper):Bool:=match o.guard with
 |none=>false
 |some (j,want)=>match ops[j]? with
  |some oj=>match oj.dst with
   |some t=>match st.get t with
    | .kb b=>match b,want with
      |true,false=>true
      |false,true=>true
      |_,_=>false
    | .v true []=>true
    |_=>false
   |none=>false
  |none=>false
def u5 (ops:Array Oper) (st:TS) (o:Oper):List Nat→Bool
 |[]=>true
 |l::r=>match ops[l]? with
  |some ol=>match QA ops st ol with
   |true=>u5 ops st o r
   |false=>match MF C st ol with
    |some rd=>match nU rd (writes C st o) with|true=>false|false=>u5 ops st o r
    |none=>false
  |none=>false
def yE:List Mode→List CE→List Nat
 |_,[]=>[]
 |ms,e::r=>match ms.headD .deep,e with
  | .snap,.ref o none=>o::yE (ms.drop 1) r
  |_,_=>yE (ms.drop 1) r
def Fa (st:TS):List aZ→List TE→List Nat
 |p::ps,e::es=>match p,e with
  | .inout (m::ms),.bp b _=>match aa b st.bx with
    |some cs=>yE (m::ms) cs++Fa st ps es
    |none=>Fa st ps es
  | .consume (m::ms),.v false [.mk _ cs]=>yE (m::ms) cs++Fa st ps es
  |_,_=>Fa st ps es
 |_,_=>[]
def Cz:List CE→List Nat
 |[]=>[]
 | .ref o _::r=>o::Cz r
 |_::r=>Cz r
def zM:List ku→List Nat
 |[]=>[]
 | .mk _ cs::r=>Cz cs++zM r
 |_::r=>zM r
def Kx (st:TS) (e:TypeId):List (Nat×Operand)→List Nat
 |[]=>[]
 |(_,x)::r=>match lU C st e x with
  | .v _ es=>zM es++Kx st e r
  |_=>Kx st e r
def Rn (fx:List Nat) (st:TS) (o:Oper):TS:=match o.op with
 | .buildSlice t _ ps=>match gH 777777 fx,qB C t with
   |true,some e=>mI st (Kx C st e ps.toList)
   |_,_=>st
 | .call {callee:= .value (.func f),args,argTypes}=>match ME (C.sig f).ps with
   |true=>st
   |false=>mI st (Fa st (C.sig f).ps (yD C st args.toList argTypes.toList))
 |_=>st
def HF (fx fl:List Nat) (ops:Array Oper) (st:TS) (o:Oper) (K:TS→Ev R):Ev R:=Lw (Rn C fx st o) fun st=>match u5 C ops st o fl with
 |true=>jH C st o K
 |false=> .fail
def HG (st:TS) (o:Oper) (K:TS→Ev R):Ev R:=match o.dst with
 |some d=>K (st.set d (.v true []))
 |none=>K st
def Jn (fx fl:List Nat) (ops:Array Oper) (st:TS) (o:Oper) (b want:Bool) (K:TS→Ev R):Ev R:=
 match b,want with
 |true,true=>HF C fx fl ops st o K
 |false,false=>HF C fx fl ops st o K
 |_,_=>HG st o K
def Ky (fx:List Nat) (o:Oper):Bool:=match o.dst with|some d=> !gH d fx|none=>true
def guarded (fx fl:List Nat) (ops:Array Oper) (st:TS) (o:Oper) (K:TS→Ev R):Ev R:=
 match Ky fx o with
 |false=> .fail
 |true=>match o.guard with
  |none=>HF C fx fl ops st o K
  |some (j,want)=>match ops[j]? with
   |some oj=>match oj.dst with
    |some t=>match st.get t with
     | .kb b=>Jn C fx fl ops st o b want K
     | .v false [.mk false [.sc (.bool b)]]=> .test b fun b=>Jn C fx fl ops (st.set t (.kb b)) o b want K
     | .v true []=>HG st o K
     |_=> .fail
    |none=> .fail
   |none=> .fail
def sW {α:Type} (l:List Nat):List (Nat×α)→List (Nat×α)
 |[]=>[]
 |(i,e)::r=>match gH i l with|true=>(i,e)::sW l r|false=>sW l r
def F9 (fx:List Nat) (l:List Nat) (ops:Array Oper):List Oper→TS→(TS→Ev R)→Ev R
 |[],st,K=>Lw ⟨sW l st.tm,st.bx,st.ob⟩ K
 |o::r,st,K=>guarded C fx [] ops st o fun st'=>Lw st' fun st'=>F9 fx l ops r st' K
def lX (fx:List Nat) (l:List Nat) (ops:Array Oper):wz→TS→(TS→Ev R)→Ev R
 | .nil,st,K=>Lw ⟨sW l st.tm,st.bx,st.ob⟩ K
 | .op i fl r,st,K=>match ops[i]? with
   |some o=>guarded C fx fl ops st o fun st'=>Lw st' fun st'=>lX fx l ops r st' K
   |none=> .fail
 | .alt a b,st,K=> .both (lX fx l ops a st K) (lX fx l ops b st K)
def pW (l:List Nat):List (Nat×List CE)→List (Nat×List CE)
 |[]=>[]
 |(i,cs)::r=>match Nat.ble 100000 i with
  |true=>(i,cs)::pW l r
  |false=>match gH i l with|true=>(i,cs)::pW l r|false=>pW l r
def ee (n:Nat):List CE→List CE×Nat×List (Nat×OB)
 |[]=>([],n,[])
 | .nil z::r=>match Nat.ble 1 z with
   |true=>match ee (n+1) r with|(cs,m,obs)=>(.ref n none::cs,m,(n,⟨true,z,[]⟩)::obs)
   |false=>match ee n r with|(cs,m,obs)=>(.nil z::cs,m,obs)
 |e::r=>match ee n r with|(cs,m,obs)=>(e::cs,m,obs)
def dK (n:Nat):List ku→List ku×Nat×List (Nat×OB)
 |[]=>([],n,[])
 | .mk a cs::r=>match ee n cs with
   |(cs',m,o1)=>match dK m r with|(es,m',o2)=>(.mk a cs'::es,m',o1++o2)
 | .ptr b::r=>match dK n r with|(es,m,o2)=>(.ptr b::es,m,o2)
def xF (n:Nat) (e:TE):TE×Nat×List (Nat×OB):=match e with
 | .v tup es=>match dK n es with|(es',m,o)=>(.v tup es',m,o)
 | .kb b=>(S (.bool b),n,[])
 |e=>(e,n,[])
def qW (n:Nat):List (Nat×TE)→List (Nat×TE)×List (Nat×OB)
 |[]=>([],[])
 |(i,e)::r=>match xF n e with
  |(e',m,o1)=>match qW m r with|(r',o2)=>((i,e')::r',o1++o2)
def HH (n:Nat):List (Nat×OB)→Bool
 |[]=>true
 |(i,_)::r=>match Nat.ble n i with|true=>false|false=>HH n r
def HI (st:TS):TS:=match HH 900000000 st.ob with
 |true=>match qW 900000000 st.tm with|(tm,obs)=>⟨tm,st.bx,fZ obs st.ob⟩
 |false=>st
def Ro (st:TS):List Nat:=(st.tm.flatMap fun p=>qA p.2)++st.bx.flatMap fun p=>p.2.flatMap dD
def number:List Nat→Nat→List (Nat×Nat)→List (Nat×Nat)
 |[],_,ρ=>ρ
 |o::r,n,ρ=>match Nat.beq o 0 with
  |true=>number r n ρ
  |false=>match aa o ρ with
   |some _=>number r n ρ
   |none=>number r (n+1) ((o,n)::ρ)
def zN (ρ:List (Nat×Nat)) (o:Nat):Nat:=match aa o ρ with|some n=>n|none=>0
def yF (ρ:List (Nat×Nat)):CE→CE
 | .ref o cut=> .ref (zN ρ o) cut
 | .snap d l z rows=> .snap (d.map (zN ρ)) (match l with|some (o,i,f)=>some (zN ρ o,i,f)|none=>none) z rows
 |e=>e
def MG (ρ:List (Nat×Nat)):TE→TE
 | .ep d cells=> .ep (d.map (zN ρ)) cells
 | .er o p i f=> .er (zN ρ o) p i f
 |e=>e
def nV (ob:List (Nat×OB)):List (Nat×Nat)→List (Nat×OB)
 |[]=>[]
 |(o,n)::r=>match aa o ob with|some b=>jn n b (nV ob r)|none=>nV ob r
def SP (ρ:List (Nat×Nat)) (st:TS):TS:=⟨mapA (qz (yF ρ) (MG ρ)) st.tm,mapA (List.map (yF ρ)) st.bx,nV st.ob ρ⟩
def canon (st:TS):TS:=SP (number (Ro st) 1 []) st
def HJ (l:List Nat) (st:TS):TS:=canon (HI ⟨sW l st.tm,pW l st.bx,st.ob⟩)
def run (fx:List Nat) (f:FuncId):Nat→Code→TS→(TX→TS→Ev R)→Ev R
 |_,.skip,st,K=>K .norm st
 |_,.region id ops draw,st,K=>match draw with
  |false=>F9 C fx (C.lr f id) ops ops.toList st (K .norm)
  |true=>match C.Cq f id with
   |some l=>lX C fx (C.lr f id) ops l st (K .norm)
   |none=> .fail
 |i,.seq a b,st,K=>run fx f i a st fun x st'=>match x with
  | .norm=>run fx f i b st' K
  |x=>K x st'
 |i,.cond c a b,st,K=>match lU C st 0 c with
  | .kb p=>match p with
    |true=>run fx f i a st K
    |false=>run fx f i b st K
  | .v false [.mk false [.sc (.bool p)]]=> .test p fun p=>match p with
    |true=>run fx f i a st K
    |false=>run fx f i b st K
  |_=> .fail
 |_,.block id body,st,K=>run fx f id body st fun x st'=>match x with
  | .ex id'=>match Nat.beq id' id with|true=>K .norm st'|false=>K (.ex id') st'
  |x=>K x st'
 |i,.loop body,st,K=>Lw (HJ (C.lb f i) st) fun st=> .loop f i body st K
 |_,.exit id,st,K=>K (.ex id) st
 |_,.ret,st,K=>K .ret st
 |_,_,_,_=> .fail
def MH:Mode→Bool
 | .deep=>true
 |_=>false
def bY (sh:Bool) (p:aZ) (n:Nat):Nat→List TC→List CE×List (Nat×OB)
 |_,[]=>([],[])
 |j,c::r=>match bY sh p n (j+1) r with
  |(es,obs)=>match c with
   | .sc v=>(.sc v::es,obs)
   | .sub z rows=>match p.mc j with
     | .snap=>(.snap (match sh with|true=>[]|false=>[0]) none z rows::es,obs)
     |m=>(.ref (n+j) none::es,(n+j,⟨MH m,z,rows⟩)::obs)
   | .any=>(.gone::es,obs)
def zO (sh:Bool) (i:Nat):List (List TC)→List (Nat×List CE)
 |[]=>[]
 |c::r=>(i,(bY sh .borrow 0 0 c).1)::zO sh (i+1) r
def qX (p:aZ) (i:Nat):Nat:=match p with| .borrow=>200000+1000*i|_=>100000+1000*i
def init (sh:Bool) (ps:List aZ) (i:Nat):List TV→TS
 |[]=>⟨[],[],[]⟩
 |v::r=>match init sh (ps.drop 1) (i+1) r with
  |⟨tm,bx,ob⟩=>match v with
   | .c c=>match bY sh (ps.headD .borrow) (500+16*i) 0 [c] with|(cs,o)=>⟨(i,.v false [.mk false cs])::tm,bx,o++ob⟩
   | .ag cs=>match bY sh (ps.headD .borrow) (500+16*i) 0 cs with|(cs,o)=>⟨(i,.v false [.mk true cs])::tm,bx,o++ob⟩
   | .bx cs=>match bY sh (ps.headD .borrow) (500+16*i) 0 cs with
     |(cs,o)=>⟨(i,.bp (qX (ps.headD .borrow) i) 0)::tm,(qX (ps.headD .borrow) i,cs)::bx,o++ob⟩
   | .fn f caps=>⟨(i,.fn f (List.range' (200000+1000*i+1) caps.length))::tm,zO sh (200000+1000*i+1) caps++bx,ob⟩
   | .tu _=>⟨tm,bx,ob⟩
def Jo (m:Mode) (e:CE) (deep:Bool):Bool:=match m,e with
 |_,.sc _=>true
 | .snap,_=>true
 |_,.nil _=>true
 | .top,.ref _ _=>true
 | .deep,.ref _ _=>deep
 |_,_=>false
def u6:List Mode→List CE→TS→Option (List TC×TS)
 |_,[],st=>some ([],st)
 |ms,e::r,st=>match jG e st with
  |some (c,st',d)=>match Jo (ms.headD .snap) e d with
   |true=>match u6 (ms.drop 1) r st' with
    |some (cs,AK)=>some (c::cs,AK)
    |none=>none
   |false=>none
  |none=>none
def g9:List Mode→List CE→TS→Option (List TC×TS)
 |_,[],st=>some ([],st)
 |ms,e::r,st=>match ms.headD .deep,e with
  | .snap,e=>match jG e st with
    |some (c,st',_)=>match g9 (ms.drop 1) r st' with
     |some (cs,AK)=>some (c::cs,AK)
     |none=>none
    |none=>none
  |_,.sc v=>match g9 (ms.drop 1) r st with
   |some (cs,st')=>some (.sc v::cs,st')
   |none=>none
  |_,.nil z=>match g9 (ms.drop 1) r st with
   |some (cs,st')=>some (.sub z []::cs,st')
   |none=>none
  |_,.ref o none=>match aa o st.ob with
   |some ⟨true,z,rows⟩=>match g9 (ms.drop 1) r (iR o st) with
    |some (cs,st')=>some (.sub z rows::cs,st')
    |none=>none
   |_=>none
  |_,_=>none
def Rq (a:Bool):Nat:=match a with|true=>1|false=>0
def Kz (st:TS) (r:ResultVar) (K:TE→Ev R):Ev R:=match r with
 | .tmp t=>K (st.get t)
 | .cell a t=>w9 C st t (st.get a) K
def CA:List (List Mode)→List ResultVar→TS→(List (Nat×List TC)→TS→Ev R)→Ev R
 |_,[],st,K=>K [] st
 |ms,r::rs,st,K=>Kz C st r fun e=>match e with
  | .v false [.mk a cs]=>match u6 (ms.headD []) cs st with
    |some (ts,st')=>CA (ms.drop 1) rs st' fun vs AK=>K ((Rq a,ts)::vs) AK
    |none=> .fail
  | .kb b=>CA (ms.drop 1) rs st fun vs AK=>K ((0,[.sc (.bool b)])::vs) AK
  | .bp b 0=>match qN b,aa b st.bx with
    |true,some cs=>match u6 (ms.headD []) cs ⟨st.tm,kz b st.bx,st.ob⟩ with
     |some (ts,st')=>CA (ms.drop 1) rs st' fun vs AK=>K ((2,ts)::vs) AK
     |none=> .fail
    |_,_=> .fail
  |_=> .fail
def HK:List aZ→Nat→TS→Option (List TV)
 |[],_,_=>some []
 |p::ps,i,st=>match p with
  | .inout ms=>match ms,st.get i with
    |[],.v false [.mk false [e]]=>match g9 [] [e] st with
     |some ([c],st')=>match HK ps (i+1) st' with
      |some vs=>some (.c c::vs)
      |none=>none
     |_=>none
    |[],.v false [.mk true cs]=>match g9 [] cs st with
     |some (ts,st')=>match HK ps (i+1) st' with
      |some vs=>some (.ag ts::vs)
      |none=>none
     |none=>none
    |ms,.bp b 0=>match qN b,aa b st.bx with
     |true,some cs=>match g9 ms cs st with
      |some (ts,st')=>match HK ps (i+1) st' with
       |some vs=>some (.bx ts::vs)
       |none=>none
      |none=>none
     |_,_=>none
    |_,_=>none
  |_=>HK ps (i+1) st
def zP:List (Nat×List TC)→TV
 |[(0,[c])]=> .c c
 |[(1,cs)]=> .ag cs
 |[(2,cs)]=> .bx cs
 |vs=> .tu vs
def zQ:List aZ→Nat→List Nat
 |[],_=>[]
 | .inout _::r,i=>i::zQ r (i+1)
 |_::r,i=>zQ r (i+1)
def CB (g:Lu):List Nat:=match g.frz with|true=>777777::zQ g.ps 0|false=>zQ g.ps 0
def MI (g:Lu) (rs:List ResultVar) (x:TX) (st:TS):Ev (TV×List TV):=match x with
 | .ex _=> .fail
 |_=>CA C g.res rs st fun rs st'=>match HK g.ps 0 st' with
  |some fs=>Ri (zP rs) fun r=>fL Ri fs fun fs=> .ret (r,fs)
  |none=> .fail
def u7 (g:Lu) (vs:List TV):TS:=init true g.ps 0 vs
def body (f:FuncId) (vs:List TV):Ev (TV×List TV):=
 match C.P.funcs[f]? with
 |none=> .fail
 |some fn=>match fn.body with
  |none=> .fail
  |some c=>Lw (u7 (C.sig f) vs) fun st=>run C (CB (C.sig f)) f 0 c st (MI C (C.sig f) fn.results.toList)
end
abbrev Cf:=FuncId→List TV→TV→List TV→Prop
abbrev Lp:=FuncId→Nat→Code→TS→(TX→TS→Prop)→Prop
def Ev.holds {R:Type} (cf:Cf) (lp:Lp) (Q:R→Prop):Ev R→Prop
 | .fail=>False
 | .ret r=>Q r
 | .test b k=>(k b).holds cf lp Q
 | .row rows i k=> ∃c,rowAt rows i=some c∧(k c).holds cf lp Q
 | .byte s i k=> ∃b,zG s i=some b∧(k b).holds cf lp Q
 | .bytes rows k=> ∃ns,qU rows=some ns∧(k ns).holds cf lp Q
 | .call f vs k=> ∃r fs,cf f vs r fs∧(k r fs).holds cf lp Q
 | .loop f i c st k=>lp f i c st fun x st'=>(k x st').holds cf lp Q
 | .both a b=> ∃r,a.holds cf lp (fun r'=>r'=r)∧b.holds cf lp (fun r'=>r'=r)∧Q r
section
variable (C : g6)
def CC (x:TX) (st:TS):Ev (TX×TS):= .ret (x,st)
def iter (cf:Cf) (lp:Lp) (fx:List Nat) (f i:Nat) (c:Code) (Q:TX→TS→Prop):Nat→TS→Prop
 |0,_=>False
 |n+1,st=>(run C fx f i c st CC).holds cf lp fun p=>match p with
   |(.norm,st')=>Lw (HJ (C.lb f i) st') fun st'=>iter cf lp fx f i c Q n st'
   |(x,st')=>Q x st'
def Jp (cf:Cf) (k:Nat) (fx:List Nat):Nat→Lp
 |0=>fun _ _ _ _ _=>False
 |n+1=>fun f i c st Q=>iter C cf (Jp cf k fx n) fx f i c Q k st
def eZ:Nat→Cf
 |0=>fun _ _ _ _=>False
 |k+1=>fun f vs r fs=>match C.ext f with
  |some p=>p vs=some (r,fs)
  |none=>(body C f vs).holds (eZ k) (Jp C (eZ k) k (CB (C.sig f)) 4) fun p=>p=(r,fs)
end
end Go.T
set_option linter.all false
namespace Go.T
inductive An where
 |b (x:Bool)
 |row (c:List TC)
 |n (i:Int)
 |ns (l:List Int)
 |call (r:TV) (fs:List TV)
 |loop (x:TX) (st:TS)
inductive Qr where
 |test (b x:Bool)
 |row (rows:List (List TC)) (i:Int) (c:List TC)
 |byte (s:ByteArray) (i b:Int)
 |bytes (rows:List (List TC)) (ns:List Int)
 |call (f:FuncId) (vs:List TV) (r:TV) (fs:List TV)
 |loop (f:FuncId) (i:Nat) (c:Code) (st:TS) (x:TX) (st':TS)
def Ev.trace {R:Type}:Ev R→List An→List Qr→Option (R×List Qr)
 | .fail,_,_=>none
 | .ret r,as,qs=>match as with|[]=>some (r,qs)|_=>none
 | .test b k,as,qs=>match as with| .b x::as=>(k x).trace as (.test b x::qs)|_=>none
 | .row rows i k,as,qs=>match as with| .row c::as=>(k c).trace as (.row rows i c::qs)|_=>none
 | .byte s i k,as,qs=>match as with| .n b::as=>(k b).trace as (.byte s i b::qs)|_=>none
 | .bytes rows k,as,qs=>match as with| .ns l::as=>(k l).trace as (.bytes rows l::qs)|_=>none
 | .call f vs k,as,qs=>match as with| .call r fs::as=>fL Ri vs fun vs=>(k r fs).trace as (.call f vs r fs::qs)|_=>none
 | .loop f i c st k,as,qs=>match as with| .loop x st'::as=>(k x st').trace as (.loop f i c st x st'::qs)|_=>none
 | .both _ _,_,_=>none
def Qr.ok (cf:Cf) (lp:Lp):Qr→Prop
 | .test b x=>b=x
 | .row rows i c=>rowAt rows i=some c
 | .byte s i b=>zG s i=some b
 | .bytes rows ns=>qU rows=some ns
 | .call f vs r fs=>cf f vs r fs
 | .loop f i c st x st'=>lp f i c st fun x1 cj=>x1=x∧cj=st'
section
variable {Z : Type}
theorem oN {α:Type} {f:α→(α→Z)→Z} (h: ∀a K,f a K=K a): ∀(l:List α) (K:List α→Z),fL f l K=K l
 |[],K=>rfl
 |a::r,K=>by simp only[fL,h,oN h r]
theorem MJ (b:Bool) (K:Bool→Z):fB b K=K b:=by cases b<;>rfl
theorem MK (b:Nat) (K:Nat→Z):fN b K=K b:=rfl
theorem ML (p:Option (Int×Nat)) (K:Option (Int×Nat)→Z):Qw p K=K p:=by cases p<;>rfl
theorem O1 (p:Option (Int×Int)) (K:Option (Int×Int)→Z):SN p K=K p:=by cases p<;>rfl
theorem Rr (p:Option (Nat×Int×Nat)) (K:Option (Nat×Int×Nat)→Z):VI p K=K p:=by cases p<;>rfl
theorem QB (v:Value) (K:Value→Z):fV v K=K v:=by cases v<;>rfl
theorem Ga (c:TC) (K:TC→Z):SO c K=K c:=by cases c<;>simp only[SO,QB]
theorem MM (e:CE) (K:CE→Z):T7 e K=K e:=by
 cases e<;>simp only[T7,QB,O1,Rr,oN MK]
theorem MN (c:ku) (K:ku→Z):Mu c K=K c:=by cases c<;>simp only[Mu,MJ,oN MM]
theorem Rs (e:TE) (K:TE→Z):UA e K=K e:=by
 cases e<;>simp only[UA,MJ,oN MN,oN MK,oN Ga,ML]
theorem Rt (b:OB) (K:OB→Z):UB b K=K b:=by cases b;simp only[UB,MJ]
theorem MO (v:TV) (K:TV→Z):Ri v K=K v:=by
 cases v<;>simp only[Ri,Mv,Ga,oN Ga]
 rw[oN (fun a K=>by cases a;simp only[Mv,oN Ga])]
theorem lY (st:TS) (K:TS→Z):Lw st K=K st:=by
 cases st;simp only[Lw]
 rw[oN (fun a K=>by cases a;simp only[Rs]),oN (fun a K=>by cases a;simp only[oN MM]),oN (fun a K=>by cases a;simp only[Rt])]
end
theorem dg {R:Type} {cf cf':Cf} {lp lp':Lp} (hc: ∀f vs r fs,cf f vs r fs→cf' f vs r fs) (zz: ∀f i c st (Q Q':TX→TS→Prop),(∀x s,Q x s→Q' x s)→lp f i c st Q→lp' f i c st Q') {Q Q':R→Prop} (hQ: ∀r,Q r→Q' r):
 ∀(e:Ev R),e.holds cf lp Q→e.holds cf' lp' Q'
 | .fail,h=>h
 | .ret r,h=>hQ r h
 | .test b k,h=>dg hc zz hQ (k b) h
 | .row rows i k,⟨c,h1,h2⟩=>⟨c,h1,dg hc zz hQ (k c) h2⟩
 | .byte rows i k,⟨c,h1,h2⟩=>⟨c,h1,dg hc zz hQ (k c) h2⟩
 | .bytes rows k,⟨c,h1,h2⟩=>⟨c,h1,dg hc zz hQ (k c) h2⟩
 | .call f vs k,⟨r,fs,h1,h2⟩=>⟨r,fs,hc _ _ _ _ h1,dg hc zz hQ (k r fs) h2⟩
 | .loop f i c st k,h=>zz _ _ _ _ _ _ (fun x s hxs=>dg hc zz hQ (k x s) hxs) h
 | .both a b,⟨r,h1,h2,h3⟩=>⟨r,dg hc zz (fun _ h=>h) a h1,dg hc zz (fun _ h=>h) b h2,hQ r h3⟩
section
variable {C : g6}
theorem wD {cf cf':Cf} {lp lp':Lp} (hc: ∀f vs r fs,cf f vs r fs→cf' f vs r fs) (zz: ∀f i c st (Q Q':TX→TS→Prop),(∀x s,Q x s→Q' x s)→lp f i c st Q→lp' f i c st Q')
 {fx:List Nat} {f i:Nat} {c:Code} {Q Q':TX→TS→Prop} (hQ: ∀x s,Q x s→Q' x s): ∀(n n':Nat),n≤n'→ ∀(st:TS),iter C cf lp fx f i c Q n st→iter C cf' lp' fx f i c Q' n' st
 |0,_,_,_,h=>h.elim
 |n+1,0,hn,_,_=>absurd hn aA
 |n+1,n'+1,hn,st,h=>by
  refine dg hc zz (fun p hp=> ?_) _ h;obtain⟨x,s⟩:=p
  cases x with
  |norm=>
   simp only at hp ⊢;rw[lY] at hp ⊢;exact wD hc zz hQ n n' aA _ hp
  |ex id=>exact hQ _ _ hp
  |ret=>exact hQ _ _ hp
theorem kE {cf cf':Cf} (hc: ∀f vs r fs,cf f vs r fs→cf' f vs r fs) {k k':Nat} (hk:k≤k') {fx:List Nat}: ∀(n:Nat) (f i:Nat) (c:Code) (st:TS) (Q Q':TX→TS→Prop),(∀x s,Q x s→Q' x s)→
 Jp C cf k fx n f i c st Q→Jp C cf' k' fx n f i c st Q'
 |0,_,_,_,_,_,_,_,h=>h.elim
 |n+1,f,i,c,st,Q,Q',hQ,h=>wD hc (kE hc hk n) hQ k k' hk st h
theorem u9: ∀(k:Nat) (f:FuncId) (vs:List TV) (r:TV) (fs:List TV),eZ C k f vs r fs→eZ C (k+1) f vs r fs
 |0,_,_,_,_,h=>h.elim
 |k+1,f,vs,r,fs,h=>by
  unfold eZ at h ⊢
  cases hx:C.ext f with
  |some p=>rw[hx] at h;exact h
  |none=>rw[hx] at h;exact dg (u9 k) (kE (u9 k) (Nat.le_succ k) 4) (fun _ h=>h) _ h
theorem Jq {k:Nat} {f:FuncId} {vs:List TV} {r:TV} {fs:List TV} (hx:C.ext f=none) (h:(body C f vs).holds (eZ C k) (Jp C (eZ C k) k (CB (C.sig f)) 4) fun p=>p=(r,fs)):eZ C (k+1) f vs r fs:=by
 unfold eZ;rw[hx];exact h
theorem Lx {k:Nat} {f:FuncId} {vs:List TV} {r:TV} {fs:List TV} {p:List TV→Option (TV×List TV)} (hx:C.ext f=some p) (h:p vs=some (r,fs)):eZ C (k+1) f vs r fs:=by
 unfold eZ;rw[hx];exact h
theorem iL {k k':Nat} (hk:k≤k') {f:FuncId} {vs:List TV} {r:TV} {fs:List TV} (h:eZ C k f vs r fs):eZ C k' f vs r fs:=by
 induction hk with
 |refl=>exact h
 |step _ ih=>exact u9 _ _ _ _ _ ih
def zR (C:g6) (k:Nat) (fx:List Nat) (n:Nat) (f i:Nat) (c:Code) (m:Nat) (st:TS) (x:TX) (st':TS):Prop:=
 iter C (eZ C k) (Jp C (eZ C k) k fx n) fx f i c (fun x1 cj=>x1=x∧cj=st') m st
theorem zR.ok {k:Nat} {fx:List Nat} {n f i:Nat} {c:Code} {m:Nat} {st:TS} {x:TX} {st':TS} (h:zR C k fx n f i c m st x st') (hm:m≤k):(Qr.loop f i c st x st').ok (eZ C k) (Jp C (eZ C k) k fx (n+1)):=
 wD (fun _ _ _ _ h=>h) (kE (fun _ _ _ _ h=>h) (bT _) n) (fun _ _ h=>h) m k hm st h
end
end Go.T
namespace Go.T
def pX (rows:List (List TC)) (i f:Nat):Option TC:=(rows[i]?).bind fun r=>r[f]?
def Bj:Value→Prop
 | .int _ _=>True
 | .bool _=>True
 | .string _=>True
 | .slice _ _ _=>True
 |_=>False
def Mode.nx:Mode→Mode
 | .deep=> .deep
 |_=> .snap
structure SQ (w:World) (R:Nat→Prop) (m:Mode) (S:Nat→Prop) (z:Nat) (rows:List (List TC)) (A:Option Addr) (c:Nat) (u:Nat→Nat→Value) (T:Nat→Nat→Nat→Prop):Prop where
 len:rows.length≤c
 cap:c≤maxLen
 z0:0<z
 width: ∀r∈rows,r.length=z
 addr:rows≠[]→ ∃ad,A=some ad
 cell: ∀ad,A=some ad→ ∀i f tc,pX rows i f=some tc→w.cell? (ad.add (i*z+f))=some (u i f)
 read:m= .snap→ ∀ad,A=some ad→rows≠[]→R ad.block
 own:m≠ .snap→(A=none→c=0)∧ ∀ad,A=some ad→S ad.block∧ad.spot=none∧
  ∀j,j<c*z→(∃x,w.cell? ⟨ad.block,ad.off+j,none⟩=some x)∧w.frozen? ⟨ad.block,ad.off+j,none⟩=false
 soft:m≠ .snap→1<z→ ∀ad,A=some ad→ ∀i,w.frozen? ⟨ad.block,i,none⟩=false
 kj:m= .deep→ ∀i f k,T i f k→S k∧(∀ad,A=some ad→k≠ad.block)∧ ∀i' f',T i' f' k→i'=i∧f'=f
inductive ah (w:World) (R:Nat→Prop):Mode→(Nat→Prop)→TC→Value→Prop
 |sc (m:Mode) (S:Nat→Prop) (v:Value) (h:Bj v):ah w R m S (.sc v) v
 |sub (m:Mode) (S:Nat→Prop) (z:Nat) (rows:List (List TC)) (A:Option Addr) (c:Nat) (u:Nat→Nat→Value) (T:Nat→Nat→Nat→Prop)
   (h:SQ w R m S z rows A c u T) (hn: ∀i f tc,pX rows i f=some tc→ah w R m.nx (T i f) tc (u i f)):
   ah w R m S (.sub z rows) (.slice A rows.length c)
 |any (m:Mode) (S:Nat→Prop) (v:Value) (h:v.oneCell'=true∧v.cells= #[v]):ah w R m S .any v
variable {w w' : World} {R R' S S' : Nat → Prop} {m : Mode} {c : TC} {v : Value}
theorem zS {rows:List (List TC)} {i f:Nat} {tc:TC} (h:pX rows i f=some tc):rows≠[]:=by
 rintro rfl;simp[pX] at h
theorem dh {w w':World} {a:Addr} (h:w'.heap[a.block]?=w.heap[a.block]?):w'.cell? a=w.cell? a:=by
 unfold World.cell?;rw[h]
theorem gK {w w':World} {a:Addr} (h:w'.heap[a.block]?=w.heap[a.block]?):w'.frozen? a=w.frozen? a:=by
 unfold World.frozen?;rw[h]
theorem bu (a:Addr) (n:Nat):(a.add n).block=a.block:=by unfold Addr.add;split<;>rfl
theorem ah.mono (h:ah w R m S c v) (hS: ∀k,S k→S' k):ah w R m S' c v:=by
 cases h with
 |any _ _ _ h=>exact .any _ _ _ h
 |sc _ _ _ h=>exact .sc _ _ _ h
 |sub _ _ z rows A c u T h hn=>
  refine .sub _ _ z rows A c u T {h with own:=fun hm=>⟨(h.own hm).1,fun ad ha=>⟨hS _ ((h.own hm).2 ad ha).1,((h.own hm).2 ad ha).2⟩⟩,kj:=fun hm i f k hk=>⟨hS _ (h.kj hm i f k hk).1,(h.kj hm i f k hk).2⟩} hn
theorem oq {m:Mode} (h:m.nx≠ .snap):m= .deep:=by cases m<;>simp_all [Mode.nx]
theorem ah.move (h:ah w R m S c v):(∀k,R k→R' k∧w'.heap[k]?=w.heap[k]?)→(m≠ .snap→ ∀k,S k→w'.heap[k]?=w.heap[k]?)→ah w' R' m S c v:=by
 induction h with
 |any _ _ _ h=>exact fun _ _=> .any _ _ _ h
 |sc _ _ _ h=>exact fun _ _=> .sc _ _ _ h
 |sub m S z rows A c u T h hn ih=>
  intro hR hS;refine .sub _ _ z rows A c u T {h with cell:= ?_,read:= ?_,own:= ?_,soft:=fun hm h1 ad ha i=>by rw[gK (w:=w) (a:=⟨ad.block,i,none⟩) (hS hm _ ((h.own hm).2 ad ha).1)];exact h.soft hm h1 ad ha i} fun i f tc ht=>ih i f tc ht hR fun hm k hk=> ?_
  ·intro ad ha i f tc ht
   rw[dh (w:=w)]
   ·exact h.cell ad ha i f tc ht
   ·rw[bu]
    by_cases hm:m= .snap
    ·exact(hR _ (h.read hm ad ha (zS ht))).2
    ·exact hS hm _ ((h.own hm).2 ad ha).1
  ·exact fun hm ad ha hne=>(hR _ (h.read hm ad ha hne)).1
  ·intro hm
   refine⟨(h.own hm).1,fun ad ha=>⟨((h.own hm).2 ad ha).1,((h.own hm).2 ad ha).2.1,fun j hj=> ?_⟩⟩;have hb:=hS hm _ ((h.own hm).2 ad ha).1;obtain⟨⟨x,hx⟩,hf⟩:=((h.own hm).2 ad ha).2.2 j hj;exact⟨⟨x,by rw[dh (w:=w) (by exact hb)];exact hx⟩,by rw[gK (w:=w) (by exact hb)];exact hf⟩
  ·have:=oq hm
   subst this;exact hS dM k (h.kj rfl i f k hk).1
theorem ah.freeze (h:ah w R m S c v):(∀k,R k→R' k)→(m≠ .snap→ ∀k,S k→R' k)→ah w R' .snap S' c v:=by
 induction h generalizing S' with
 |any _ _ _ h=>exact fun _ _=> .any _ _ _ h
 |sc _ _ _ h=>exact fun _ _=> .sc _ _ _ h
 |sub m S z rows A c u T h hn ih=>
  intro hR hS;refine .sub _ _ z rows A c u (fun _ _ _=>False) {h with read:= ?_,own:=fun hm=>absurd rfl hm,soft:=fun hm=>absurd rfl hm,kj:=fun hm=>by cases hm} fun i f tc ht=>ih i f tc ht hR fun hm k hk=> ?_
  ·intro _ ad ha hne
   by_cases hm:m= .snap
   ·exact hR _ (h.read hm ad ha hne)
   ·exact hS hm _ ((h.own hm).2 ad ha).1
  ·have:=oq hm
   subst this;exact hS dM k (h.kj rfl i f k hk).1
theorem ah.kf (h:ah w R .snap S c v) (hR: ∀k,R k→R' k):ah w R' .snap S' c v:=h.freeze hR fun h=>absurd rfl h
end Go.T
namespace Go.T
theorem ga {o:Nat}: ∀{l:List Nat},gH o l=true↔o∈l
 |[]=>by simp[gH]
 |a::r=>by
  simp only[gH,bK]
  cases h:Nat.beq a o with
  |true=>simp[eB h]
  |false=>simp only[ga (l:=r)];have:=lT h;simp[Ne.symm this]
theorem cu {o:Nat} {l:List Nat}:gH o l=false↔o∉l:=by
 rw[←ga];simp
theorem qY {o d:Nat}: ∀{l:List Nat},d∈HB o l↔d∈l∧d≠o
 |[]=>by simp[HB]
 |a::r=>by
  simp only[HB]
  cases h:Nat.beq a o with
  |true=>
   have h1:=eB h;subst h1;simp only[qY (l:=r),bK];exact⟨fun⟨x,y⟩=>⟨.inr x,y⟩,fun⟨x,y⟩=>⟨x.resolve_left y,y⟩⟩
  |false=>
   have h1:=lT h;simp only[bK,qY (l:=r)]
   constructor
   ·rintro(rfl|⟨x,y⟩)
    ·exact⟨.inl rfl,h1⟩
    ·exact⟨.inr x,y⟩
   ·rintro⟨rfl|x,y⟩
    ·exact .inl rfl
    ·exact .inr ⟨x,y⟩
theorem lG {a:List Nat} {l:List Nat} (h:nU a l=false) {x:Nat} (hx:x∈a):x∉l:=by
 induction a with
 |nil=>cases hx
 |cons y r ih=>
  simp only[nU] at h
  cases h1:gH y l with
  |true=>rw[h1] at h;cases h
  |false=>
   rw[h1] at h;rcases bK.1 hx with rfl|hx
   ·exact cu.1 h1
   ·exact ih h hx
theorem beq_false {a b:Nat} (h:a≠b):Nat.beq a b=false:=by
 cases h1:Nat.beq a b with
 |true=>exact absurd (eB h1) h
 |false=>rfl
theorem va (a:Nat):Nat.beq a a=true:=by simp
section
variable {α β : Type}
theorem cQ (i j:Nat) (e:α): ∀(l:List (Nat×α)),aa j (jn i e l)=if j=i then some e else aa j l
 |[]=>by
  simp only[jn,aa]
  by_cases h:j=i
  ·subst h;simp
  ·rw[beq_false (Ne.symm h),aL h]
 |(a,x)::r=>by
  have ih:=cQ i j e r;simp only[jn]
  cases h1:Nat.beq a i with
  |true=>
   have h1:=eB h1;subst h1;simp only[aa]
   by_cases h:j=a
   ·subst h;simp
   ·rw[beq_false (Ne.symm h),aL h]
  |false=>
   have h1:=lT h1
   cases h2:Nat.ble i a with
   |true=>
    simp only[aa]
    by_cases h:j=i
    ·subst h;simp
    ·rw[beq_false (Ne.symm h),aL h]
   |false=>
    simp only[aa]
    by_cases h3:a=j
    ·subst h3;rw[va,aL h1]
    ·rw[beq_false h3];exact ih
theorem eP (i j:Nat): ∀(l:List (Nat×α)),aa j (kz i l)=if j=i then none else aa j l
 |[]=>by simp[kz,aa]
 |(a,x)::r=>by
  have ih:=eP i j r;simp only[kz]
  cases h1:Nat.beq a i with
  |true=>
   have h1:=eB h1;subst h1;simp only[aa,ih]
   by_cases h:j=a
   ·simp[h]
   ·rw[beq_false (Ne.symm h)]
  |false=>
   have h1:=lT h1;simp only[aa]
   by_cases h3:a=j
   ·subst h3;rw[va,aL h1]
   ·rw[beq_false h3];exact ih
theorem mJ (f:α→α) (j:Nat): ∀(l:List (Nat×α)),aa j (mapA f l)=(aa j l).map f
 |[]=>rfl
 |(a,x)::r=>by
  simp only[mapA,aa]
  cases Nat.beq a j with
  |true=>rfl
  |false=>exact mJ f j r
theorem CD (l:List Nat) (j:Nat): ∀(m:List (Nat×α)),aa j (sW l m)=if j∈l then aa j m else none
 |[]=>by simp[sW,aa]
 |(a,x)::r=>by
  have ih:=CD l j r;simp only[sW]
  cases h1:gH a l with
  |true=>
   have h1:=ga.1 h1;simp only[aa]
   by_cases h:a=j
   ·subst h;rw[va,aT h1]
   ·rw[beq_false h];exact ih
  |false=>
   have h1:=cu.1 h1;simp only[aa,ih]
   by_cases h:a=j
   ·subst h;rw[aL h1,aL h1]
   ·rw[beq_false h]
end
structure Fp where
 I:Nat→Prop
 S:Nat→Nat→Prop
 V:Nat→Value
 β:Nat→Addr
def rd (φ:Fp) (ds:List Nat) (k:Nat):Prop:=φ.I k∨ ∃d,d∈ds∧φ.S d k
abbrev zE:Nat→Prop:=fun _=>False
def OB.m (b:OB):Mode:=if b.deep then .deep else .top
def iT (w:World) (φ:Fp) (o:Nat) (b:OB):Prop:=ah w φ.I b.m (φ.S o) (.sub b.z b.rows) (φ.V o)
def sX (z n:Nat) (l h:Int) (V v:Value):Prop:=
 0≤l∧l≤h∧h≤n∧ ∃A A' c,V= .slice A n c∧v= .slice A' (h.toNat-l.toNat) (c-l.toNat)∧(c≠l.toNat→A'=A.map fun a=>a.add (l.toNat*z))∧(A=none→A'=none)∧
  ∀ad,A=some ad→ ∃ad',A'=some ad'∧ad'.block=ad.block∧(ad.spot=none→ad'.spot=none)
def av (ob:List (Nat×OB)) (d:Nat):Prop:= ∃b,aa d ob=some b
def KA (ob:List (Nat×OB)) (w:World) (φ:Fp) (z:Nat) (rows:List (List TC)) (v:Value) (o:Nat) (i:Int) (f:Nat):Prop:=
 ∃b,aa o ob=some b∧0≤i∧pX b.rows i.toNat f=some (.sub z rows)∧ ∃ad n c,φ.V o= .slice (some ad) n c∧w.cell? (ad.add (i.toNat*b.z+f))=some v
def bP (ob:List (Nat×OB)) (w:World) (φ:Fp) (e:CE) (v:Value):Prop:=
 match e with
 | .sc x=>v=x∧Bj x
 | .nil z=>v= .slice none 0 0∧0<z
 | .ref o cut=> ∃b,aa o ob=some b∧match cut with
   |none=>v=φ.V o
   |some (l,h)=>sX b.z b.rows.length l h (φ.V o) v
 | .snap ds loc z rows=>(∀d∈ds,d=0∨av ob d)∧ah w (rd φ ds) .snap zE (.sub z rows) v∧ ∀o i f,loc=some (o,i,f)→o∈ds∧KA ob w φ z rows v o i f
 | .gone=>True
def hD (ob:List (Nat×OB)) (w:World) (φ:Fp) (c:ku) (u:Value):Prop:=
 match c with
 | .mk true cs=> ∃xs:Array Value,u= .agg xs∧xs.size=cs.length∧ ∀(j:Nat) (e:CE),cs[j]?=some e→ ∃x,xs[j]?=some x∧x.cells= #[x]∧bP ob w φ e x
 | .mk false cs=> ∃e,cs=[e]∧u.cells= #[u]∧bP ob w φ e u
 | .ptr b=>u= .pointer (some (φ.β b))
def bD (ob:List (Nat×OB)) (w:World) (φ:Fp) (e:TE) (v:Value):Prop:=
 match e with
 | .dead=>True
 | .v true es=> ∃vs:Array Value,v= .tuple vs∧vs.size=es.length∧ ∀(k:Nat) (c:ku),es[k]?=some c→ ∃u,vs[k]?=some u∧hD ob w φ c u
 | .v false es=> ∃c,es=[c]∧hD ob w φ c v
 | .bp b off=>v= .pointer (some ((φ.β b).add off))
 | .ep ds cells=>(∀d∈ds,d=0∨av ob d)∧ ∃ad,v= .pointer (some ad)∧(cells≠[]→rd φ ds ad.block)∧ ∀(j:Nat) (tc:TC),cells[j]?=some tc→ ∃u,w.cell? (ad.add j)=some u∧ah w (rd φ ds) .snap zE tc u
 | .er o path i f=> ∃b,aa o ob=some b∧0≤i∧ ∃ad n c,φ.V o= .slice (some ad) n c∧match path with
   |none=>v= .pointer (some (ad.add (i.toNat*b.z+f)))
   |some (i0,f0)=>0≤i0∧ ∃z1 kQ,pX b.rows i0.toNat f0=some (.sub z1 kQ)∧ ∃ad1 n1 c1,w.cell? (ad.add (i0.toNat*b.z+f0))=some (.slice (some ad1) n1 c1)∧
    v= .pointer (some (ad1.add (i.toNat*z1+f)))
 | .fn f caps=>v= .func (.func f) #[] (caps.map fun b=>Value.pointer (some (φ.β b))).toArray
 | .kb b=>v= .bool b
structure KB (F:Nat→Prop) (w0 w:World):Prop where
 os:w.os=w0.os
 tape:w.tape=w0.tape
 output:w.output=w0.output
 size:w0.heap.size≤w.heap.size
 block: ∀k,k<w0.heap.size→ ¬F k→w.heap[k]?=w0.heap[k]?
structure Arg where
 all:Nat→Prop
 sh:Nat→Prop
structure Sep (F:Nat→Prop) (A:Arg) (w0 w:World) (φ:Fp) (bx:List (Nat×List CE)) (ob:List (Nat×OB)):Prop where
 arg:φ.S 0=A.all
 nz: ∀o,av ob o→o≠0
 apart: ∀o o' k,av ob o→av ob o'→φ.S o k→φ.S o' k→o=o'
 read: ∀o k,av ob o→φ.S o k→ ¬φ.I k
 fresh: ∀o k,av ob o→φ.S o k→k<w.heap.size∧(w0.heap.size≤k∨F k)
 ro: ∀k,φ.I k→k<w.heap.size∧(w0.heap.size≤k∨F k∨A.sh k)
 iQ: ∀k,A.all k→k<w0.heap.size∧ ¬F k
 box: ∀b cs,aa b bx=some cs→qN b=true→ ¬φ.I (φ.β b).block∧(∀o,av ob o→ ¬φ.S o (φ.β b).block)∧(w0.heap.size≤(φ.β b).block∨F (φ.β b).block)∧
  ∀b' cs',aa b' bx=some cs'→b'≠b→(φ.β b').block≠(φ.β b).block
 spot: ∀b cs,aa b bx=some cs→(qN b=true→(φ.β b).spot=none)∧(φ.β b).block<w.heap.size∧(qN b=false→A.all (φ.β b).block)
 soft: ∀b cs j,aa b bx=some cs→qN b=true→j<cs.length→w.frozen? ((φ.β b).add j)=false
structure aG (F:Nat→Prop) (A:Arg) (w0:World) (φ:Fp) (st:TS) (tm:Array Value) (w:World):Prop where
 tmp: ∀i,bD st.ob w φ (st.get i) (tm.getD i undef)
 box: ∀b cs,aa b st.bx=some cs→ ∀(j:Nat) (e:CE),cs[j]?=some e→ ∃v,w.cell? ((φ.β b).add j)=some v∧v.cells= #[v]∧bP st.ob w φ e v
 obj: ∀o b,aa o st.ob=some b→iT w φ o b
 sep:Sep F A w0 w φ st.bx st.ob
 frm:KB F w0 w
def Rel (F:Nat→Prop) (A:Arg) (w0:World) (st:TS) (tm:Array Value) (w:World):Prop:= ∃φ,aG F A w0 φ st tm w
section
variable {ob wm : List (Nat × OB)} {w w' : World} {φ φ' : Fp} {f : CE → CE} {g : TE → TE}
def oO (f:CE→CE):ku→ku
 | .mk a cs=> .mk a (cs.map f)
 | .ptr b=> .ptr b
theorem ot (f:CE→CE): ∀(es:List ku) (k:Nat),(gJ f es)[k]?=(es[k]?).map (oO f)
 |[],_=>by simp[gJ]
 | .mk a cs::r,0=>by simp[gJ,oO]
 | .ptr b::r,0=>by simp[gJ,oO]
 | .mk a cs::r,k+1=>by simp[gJ,ot f r k]
 | .ptr b::r,k+1=>by simp[gJ,ot f r k]
theorem kT (f:CE→CE): ∀(es:List ku),(gJ f es).length=es.length
 |[]=>rfl
 | .mk a cs::r=>by simp[gJ,kT f r]
 | .ptr b::r=>by simp[gJ,kT f r]
theorem hD.xG (hβ:φ'.β=φ.β) (hc: ∀e v,bP ob w φ e v→bP wm w' φ' (f e) v) {c:ku} {u:Value} (h:hD ob w φ c u):
 hD wm w' φ' (oO f c) u:=by
 cases c with
 |ptr b=>simp only[hD,oO] at h ⊢;rw[hβ];exact h
 |mk a cs=>
  cases a with
  |true=>
   obtain⟨xs,h1,h2,h3⟩:=h;refine⟨xs,h1,by simp[h2],fun j e he=> ?_⟩;rw[gG] at he
   cases h4:cs[j]? with
   |none=>rw[h4] at he;cases he
   |some e0=>
    rw[h4] at he;simp only[iE,aR] at he;subst he;obtain⟨x,hx,hx1,hok⟩:=h3 j e0 h4;exact⟨x,hx,hx1,hc _ _ hok⟩
  |false=>
   obtain⟨e,rfl,h2,h3⟩:=h;exact⟨f e,rfl,h2,hc _ _ h3⟩
theorem bD.xG (hβ:φ'.β=φ.β) (hc: ∀e v,bP ob w φ e v→bP wm w' φ' (f e) v) (ht: ∀e v,(∀t es,e≠ .v t es)→bD ob w φ e v→bD wm w' φ' (g e) v) {e:TE} {v:Value} (h:bD ob w φ e v):
 bD wm w' φ' (qz f g e) v:=by
 by_cases hv: ∃t es,e= .v t es
 ·obtain⟨tup,es,rfl⟩:=hv
  cases tup with
  |true=>
   obtain⟨vs,h1,h2,h3⟩:=h;refine⟨vs,h1,by rw[kT];exact h2,fun k c hk=> ?_⟩;rw[ot] at hk
   cases h4:es[k]? with
   |none=>rw[h4] at hk;cases hk
   |some c0=>
    rw[h4] at hk;simp only[iE,aR] at hk;obtain⟨u,hu,hok⟩:=h3 k c0 h4;exact⟨u,hu,by rw[←hk];exact hok.xG hβ hc⟩
  |false=>
   obtain⟨c,rfl,hok⟩:=h;refine⟨_,?_,hok.xG hβ hc⟩
   cases c<;>rfl
 ·have h1:qz f g e=g e:=by cases e<;>first|rfl|exact absurd ⟨_,_,rfl⟩ hv
  rw[h1];exact ht e v (fun t es he=>hv ⟨t,es,he⟩) h
end
theorem get_map (f:CE→CE) (g:TE→TE) (h:List (Nat×OB)→List (Nat×OB)) (hd:g .dead= .dead) (st:TS) (i:Nat):(pQ f g h st).get i=qz f g (st.get i):=by
 unfold TS.get pQ;simp only[mJ]
 cases aa i st.tm with
 |none=>exact hd.symm
 |some e=>rfl
variable {F : Nat → Prop} {A : Arg} {w0 w w' : World} {φ φ' : Fp} {st st' : TS} {tm xA : Array Value}
theorem aG.xG (h:aG F A w0 φ st tm w) {f:CE→CE} {g:TE→TE} {k:List (Nat×OB)→List (Nat×OB)} (hd:g .dead= .dead) (hβ:φ'.β=φ.β)
 (hc: ∀e v,bP st.ob w φ e v→bP (k st.ob) w' φ' (f e) v) (ht: ∀e v,(∀t es,e≠ .v t es)→bD st.ob w φ e v→bD (k st.ob) w' φ' (g e) v)
 (hw: ∀b cs,aa b st.bx=some cs→ ∀j,j<cs.length→w'.cell? ((φ.β b).add j)=w.cell? ((φ.β b).add j))
 (ho: ∀o b,aa o (k st.ob)=some b→iT w' φ' o b) (hs:Sep F A w0 w' φ' (mapA (List.map f) st.bx) (k st.ob)) (hf:KB F w0 w'):aG F A w0 φ' (pQ f g k st) tm w' where
 tmp i:=by rw[get_map f g k hd];exact(h.tmp i).xG hβ hc ht
 box b cs hb j e he:=by
  simp only[pQ,mJ] at hb
  cases h1:aa b st.bx with
  |none=>rw[h1] at hb;cases hb
  |some cs0=>
   rw[h1] at hb;simp only[iE,aR] at hb;subst hb;rw[gG] at he
   cases h2:cs0[j]? with
   |none=>rw[h2] at he;cases he
   |some e0=>
    rw[h2] at he;simp only[iE,aR] at he;subst he;obtain⟨v,hv,h1c,hok⟩:=h.box b cs0 h1 j e0 h2;refine⟨v,?_,h1c,hc _ _ hok⟩;rw[hβ,hw b cs0 h1 j (List.getElem?_eq_some_iff.1 h2).1];exact hv
 obj:=ho
 sep:=hs
 frm:=hf
theorem Sep.boxes {bx bx':List (Nat×List CE)} {ob:List (Nat×OB)} (h:Sep F A w0 w φ bx ob) (hb: ∀b cs',aa b bx'=some cs'→ ∃cs,aa b bx=some cs∧cs'.length=cs.length):Sep F A w0 w φ bx' ob where
 arg:=h.arg
 nz:=h.nz
 apart:=h.apart
 read:=h.read
 fresh:=h.fresh
 ro:=h.ro
 iQ:=h.iQ
 box b cs' hl hw:=by
  obtain⟨cs,h1,_⟩:=hb b cs' hl;obtain⟨a1,a2,a3,a4⟩:=h.box b cs h1 hw;refine⟨a1,a2,a3,fun b' Hh hl' hne=> ?_⟩;obtain⟨cs2,h2,_⟩:=hb b' Hh hl';exact a4 b' cs2 h2 hne
 spot b cs' hl:=by obtain⟨cs,h1,_⟩:=hb b cs' hl;exact h.spot b cs h1
 soft b cs' j hl hw hj:=by obtain⟨cs,h1,h2⟩:=hb b cs' hl;exact h.soft b cs j h1 hw aA
theorem dW (f:CE→CE) {bx:List (Nat×List CE)}: ∀b cs',aa b (mapA (List.map f) bx)=some cs'→ ∃cs,aa b bx=some cs∧cs'.length=cs.length:=by
 intro b cs' h;rw[mJ] at h
 cases h1:aa b bx with
 |none=>rw[h1] at h;cases h
 |some cs=>
  rw[h1] at h;simp only[iE,aR] at h;exact⟨cs,rfl,by rw[←h];simp⟩
theorem Sep.lt {bx:List (Nat×List CE)} {ob:List (Nat×OB)} (h:Sep F A w0 w φ bx ob) (hs:w0.heap.size≤w.heap.size) {d:Nat} (hd:d=0∨av ob d) {k:Nat} (hk:φ.S d k):k<w.heap.size:=by
 rcases hd with rfl|hd
 ·rw[h.arg] at hk;exact fJ (h.iQ k hk).1 hs
 ·exact(h.fresh d k hd hk).1
theorem Sep.Ru {bx:List (Nat×List CE)} {ob:List (Nat×OB)} (h:Sep F A w0 w φ bx ob) (hs:w0.heap.size≤w.heap.size) {ds:List Nat} (hd: ∀d∈ds,d=0∨av ob d) {k:Nat} (hk:rd φ ds k):k<w.heap.size:=by
 rcases hk with hk|⟨d,hm,hk⟩
 ·exact(h.ro k hk).1
 ·exact h.lt hs (hd d hm) hk
structure jI (w w':World):Prop where
 os:w'.os=w.os
 tape:w'.tape=w.tape
 output:w'.output=w.output
 size:w.heap.size≤w'.heap.size
 block: ∀k,k<w.heap.size→w'.heap[k]?=w.heap[k]?
theorem jI.refl (w:World):jI w w:=⟨rfl,rfl,rfl,bT _,fun _ _=>rfl⟩
theorem jI.alloc (w:World) (o:Obj):jI w (w.alloc o):=⟨rfl,rfl,rfl,by simp,fun k hk=>heap_alloc_old w o hk⟩
theorem jI.drew (w:World):jI w w.drew:=⟨rfl,rfl,rfl,bT _,fun _ _=>rfl⟩
theorem jI.trans {a b c:World} (h:jI a b) (k:jI b c):jI a c:=
 ⟨k.os.trans h.os,k.tape.trans h.tape,k.output.trans h.output,nS h.size k.size,fun i hi=>(k.block i (fJ hi h.size)).trans (h.block i hi)⟩
theorem KB.Jr (h:KB F w0 w) (g:jI w w'):KB F w0 w':=
 ⟨g.os.trans h.os,g.tape.trans h.tape,g.output.trans h.output,nS h.size g.size,fun k hk hf=>(g.block k (fJ hk h.size)).trans (h.block k hk hf)⟩
theorem jI.cell (g:jI w w') {a:Addr} {v:Value} (h:w.cell? a=some v):w'.cell? a=some v:=by
 rw[dh (w:=w) (g.block _ (World.block_lt_of_cell? w a h))];exact h
theorem jI.KC (g:jI w w') {a:Addr} (h:a.block<w.heap.size):w'.cell? a=w.cell? a:=dh (g.block _ h)
theorem bP.stay {ob:List (Nat×OB)} (hI: ∀k,φ.I k→w'.heap[k]?=w.heap[k]?) (hS: ∀d k,d=0∨av ob d→φ.S d k→w'.heap[k]?=w.heap[k]?)
 (hV: ∀o,av ob o→ ∀ad n c,φ.V o= .slice (some ad) n c→ ∀i v,w.cell? (ad.add i)=some v→w'.cell? (ad.add i)=some v) {e:CE} {v:Value} (h:bP ob w φ e v):bP ob w' φ e v:=by
 cases e with
 |snap ds loc z rows=>
  obtain⟨h1,h2,h3⟩:=h;refine⟨h1,h2.move (fun k hk=>⟨hk,?_⟩) (fun hm=>absurd rfl hm),fun o i f hl=>⟨(h3 o i f hl).1,?_⟩⟩
  ·rcases hk with hk|⟨d,hd,hk⟩
   ·exact hI k hk
   ·exact hS d k (h1 d hd) hk
  ·obtain⟨b,a1,a2,a3,ad,n,c,a4,a5⟩:=(h3 o i f hl).2
   exact⟨b,a1,a2,a3,ad,n,c,a4,hV o ⟨b,a1⟩ ad n c a4 _ _ a5⟩
 |_=>exact h
theorem bD.stay {ob:List (Nat×OB)} (hI: ∀k,φ.I k→w'.heap[k]?=w.heap[k]?) (hS: ∀d k,d=0∨av ob d→φ.S d k→w'.heap[k]?=w.heap[k]?)
 (hV: ∀o,av ob o→ ∀ad n c,φ.V o= .slice (some ad) n c→ ∀i v,w.cell? (ad.add i)=some v→w'.cell? (ad.add i)=some v)
 (hA: ∀ad v,w.cell? ad=some v→(∀k,ad.block=k→w'.heap[k]?=w.heap[k]?)→w'.cell? ad=some v) (hE: ∀ds cells v,bD ob w φ (.ep ds cells) v→bD ob w' φ (.ep ds cells) v) {e:TE} {v:Value} (hv: ∀t es,e≠ .v t es)
 (h:bD ob w φ e v):bD ob w' φ e v:=by
 cases e with
 |v t es=>exact absurd rfl (hv t es)
 |ep ds cells=>exact hE ds cells v h
 |er o path i f=>
  obtain⟨b,h1,h2,ad,n,c,h3,h4⟩:=h;refine⟨b,h1,h2,ad,n,c,h3,?_⟩
  cases path with
  |none=>exact h4
  |some q=>
   obtain⟨i0,f0⟩:=q;obtain⟨a1,z1,kQ,a2,ad1,n1,c1,a3,a4⟩:=h4;exact⟨a1,z1,kQ,a2,ad1,n1,c1,hV o ⟨b,h1⟩ ad n c h3 _ _ a3,a4⟩
 |_=>exact h
theorem oP (st:TS):pQ id id id st=st:=by
 have h1: ∀(es:List ku),gJ id es=es:=by
  intro es
  induction es with
  |nil=>rfl
  |cons c r ih=>cases c<;>simp[gJ,ih]
 have h2: ∀e:TE,qz id id e=e:=by
  intro e;cases e<;>first|rfl|(simp only[qz,h1])
 have h3: ∀{α:Type} (f:α→α) (hf: ∀a,f a=a) (l:List (Nat×α)),mapA f l=l:=by
  intro α f hf l
  induction l with
  |nil=>rfl
  |cons a r ih=>obtain⟨j,x⟩:=a;simp only[mapA,hf,ih]
 unfold pQ;rw[h3 _ h2,h3 _ (fun l=>List.map_id l)]
 rfl
theorem Sep.Jr {bx:List (Nat×List CE)} {ob:List (Nat×OB)} (h:Sep F A w0 w φ bx ob) (g:jI w w'):Sep F A w0 w' φ bx ob where
 arg:=h.arg
 nz:=h.nz
 apart:=h.apart
 read:=h.read
 fresh o k ho hk:=⟨fJ (h.fresh o k ho hk).1 g.size,(h.fresh o k ho hk).2⟩
 ro k hk:=⟨fJ (h.ro k hk).1 g.size,(h.ro k hk).2⟩
 iQ:=h.iQ
 box:=h.box
 spot b cs hb:=⟨(h.spot b cs hb).1,fJ (h.spot b cs hb).2.1 g.size,(h.spot b cs hb).2.2⟩
 soft b cs j hb hw hj:=by
  rw[gK (w:=w) (g.block _ (by rw[bu];exact(h.spot b cs hb).2.1))];exact h.soft b cs j hb hw hj
theorem aG.Jr (h:aG F A w0 φ st tm w) (g:jI w w'):aG F A w0 φ st tm w':=by
 have hI: ∀k,φ.I k→w'.heap[k]?=w.heap[k]?:=fun k hk=>g.block k (h.sep.ro k hk).1;have hS: ∀d k,d=0∨av st.ob d→φ.S d k→w'.heap[k]?=w.heap[k]?:=fun d k hd hk=>g.block k (h.sep.lt h.frm.size hd hk)
 have hE: ∀ds cells v,bD st.ob w φ (.ep ds cells) v→bD st.ob w' φ (.ep ds cells) v:=by
  intro ds cells v ⟨h1,ad,h2,hr,h3⟩;refine⟨h1,ad,h2,hr,fun j tc hj=> ?_⟩;obtain⟨u,h4,h5⟩:=h3 j tc hj;exact⟨u,g.cell h4,h5.move (fun k hk=>⟨hk,g.block k (h.sep.Ru h.frm.size h1 hk)⟩) (fun hm=>absurd rfl hm)⟩
 have:=h.xG (f:=id) (g:=id) (k:=id) (φ':=φ) (w':=w') rfl rfl (fun e v he=>he.stay hI hS (fun o ho ad n c hv i v hc=>g.cell hc))
  (fun e v hv he=>bD.stay hI hS (fun o ho ad n c hv i v hc=>g.cell hc) (fun ad v hc _=>g.cell hc) hE hv he)
  (fun b cs hb j hj=>g.KC (by rw[bu];exact(h.sep.spot b cs hb).2.1))
  (fun o b hb=>(h.obj o b hb).move (fun k hk=>⟨hk,hI k hk⟩) (fun _ k hk=>hS o k (.inr ⟨b,hb⟩) hk))
  (by
    have h3:mapA (List.map (id:CE→CE)) st.bx=st.bx:=by
     have:=congrArg TS.bx (oP st);exact this
    rw[h3]
    exact h.sep.Jr g) (h.frm.Jr g)
 rw[oP] at this;exact this
end Go.T
namespace Go.T
variable {F : Nat → Prop} {A : Arg} {w0 w w' : World} {φ φ' : Fp} {st st' : TS} {tm xA : Array Value}
theorem getD_set_ne (tm:Array Value) (d i:Nat) (v x:Value) (h:i≠d):(tm.setIfInBounds d v).getD i x=tm.getD i x:=by
 simp only[nQ,E3];rw[aL fun h'=>h h'.symm]
theorem Ee (tm:Array Value) (d:Nat) (v x:Value) (h:d<tm.size):(tm.setIfInBounds d v).getD d x=v:=by
 simp only[nQ,E3];simp[h]
theorem Gb (st:TS) (d i:Nat) (e:TE):(st.set d e).get i=if i=d then e else st.get i:=by
 unfold TS.get TS.set;simp only[cQ]
 by_cases h:i=d
 ·simp[h]
 ·simp[h]
theorem aG.Ef (h:aG F A w0 φ st tm w) {d:Nat} {e:TE} {v:Value} (hd:d<tm.size) (ht:bD st.ob w φ e v):aG F A w0 φ (st.set d e) (tm.setIfInBounds d v) w where
 tmp i:=by
  rw[Gb]
  by_cases hi:i=d
  ·subst hi;rw[aT rfl,Ee _ _ _ _ hd];exact ht
  ·rw[aL hi,getD_set_ne _ _ _ _ _ hi];exact h.tmp i
 box:=h.box
 obj:=h.obj
 sep:=h.sep
 frm:=h.frm
theorem aG.O2 (h:aG F A w0 φ st tm w) {d:Nat} {e:TE} (ht:bD st.ob w φ e (tm.getD d undef)):aG F A w0 φ (st.set d e) tm w where
 tmp i:=by
  rw[Gb]
  by_cases hi:i=d
  ·subst hi;rw[aT rfl];exact ht
  ·rw[aL hi];exact h.tmp i
 box:=h.box
 obj:=h.obj
 sep:=h.sep
 frm:=h.frm
theorem Sep.sub {bx:List (Nat×List CE)} {ob wm:List (Nat×OB)} (h:Sep F A w0 w φ bx ob) (hd: ∀o,av wm o→av ob o):Sep F A w0 w φ bx wm where
 arg:=h.arg
 nz o ho:=h.nz o (hd o ho)
 apart o o' k h1 h2:=h.apart o o' k (hd o h1) (hd o' h2)
 read o k ho:=h.read o k (hd o ho)
 fresh o k ho:=h.fresh o k (hd o ho)
 ro:=h.ro
 iQ:=h.iQ
 box b cs hb hw:=by
  obtain⟨a1,a2,a3,a4⟩:=h.box b cs hb hw;exact⟨a1,fun o ho=>a2 o (hd o ho),a3,a4⟩
 spot:=h.spot
 soft:=h.soft
theorem jd {o d:Nat} {ob:List (Nat×OB)}:av (kz o ob) d↔d≠o∧av ob d:=by
 unfold av;rw[eP]
 by_cases h:d=o
 ·simp[h]
 ·simp[h]
theorem oQ {o d:Nat} {ob:List (Nat×OB)} (h:d≠o):aa d (kz o ob)=aa d ob:=by rw[eP,aL h]
theorem bP.kill {o:Nat} {ob:List (Nat×OB)} {e:CE} {v:Value} (h:bP ob w φ e v):bP (kz o ob) w φ (E7 o e) v:=by
 unfold E7
 cases hd:gH o (dD e) with
 |true=>trivial
 |false=>
  have hd:=cu.1 hd
  cases e with
  |ref p cut=>
   simp only[dD,ff] at hd;obtain⟨b,h1,h2⟩:=h;exact⟨b,by rw[oQ (Ne.symm hd)];exact h1,h2⟩
  |snap ds loc z rows=>
   simp only[dD] at hd;obtain⟨h1,h2,h3⟩:=h;refine⟨fun d hm=> ?_,h2,fun p i f hl=> ?_⟩
   ·rcases h1 d hm with h|h
    ·exact .inl h
    ·exact .inr (jd.2 ⟨fun e=>hd (e▸hm),h⟩)
   ·obtain⟨a1,b,a2,a3⟩:=h3 p i f hl
    have hp:p≠o:=fun e=>by subst e;exact hd a1
    exact⟨a1,b,by rw[oQ hp];exact a2,a3⟩
  |_=>exact h
theorem bD.kill {o:Nat} {ob:List (Nat×OB)} {e:TE} {v:Value} (hv: ∀t es,e≠ .v t es) (h:bD ob w φ e v):bD (kz o ob) w φ (Kt o e) v:=by
 cases e with
 |v t es=>exact absurd rfl (hv t es)
 |ep ds cells=>
  simp only[Kt]
  cases hd:gH o ds with
  |true=>trivial
  |false=>
   have hd:=cu.1 hd;obtain⟨h1,h2⟩:=h;refine⟨fun d hm=> ?_,h2⟩;rcases h1 d hm with h|h
   ·exact .inl h
   ·exact .inr (jd.2 ⟨fun e=>hd (e▸hm),h⟩)
 |er p path i f=>
  simp only[Kt]
  cases hd:Nat.beq p o with
  |true=>trivial
  |false=>
   have hd:=lT hd;obtain⟨b,h1,h2⟩:=h;exact⟨b,by rw[oQ hd];exact h1,h2⟩
 |_=>exact h
theorem aG.iR (h:aG F A w0 φ st tm w) (o:Nat):aG F A w0 φ (iR o st) tm w:=by
 refine h.xG (φ':=φ) rfl rfl (fun e v he=>he.kill) (fun e v hv he=>he.kill hv) (fun _ _ _ _ _=>rfl) (fun p b hb=> ?_) ?_ h.frm
 ·rw[eP] at hb
  split at hb
  ·cases hb
  ·exact h.obj p b hb
 ·exact(h.sep.boxes (dW _)).sub fun d hd=>(jd.1 hd).2
theorem fR {o d:Nat}:av (T.iR o st).ob d↔d≠o∧av st.ob d:=jd
theorem Fb {o d:Nat} (h:d≠o):aa d (T.iR o st).ob=aa d st.ob:=oQ h
def Fp.more (φ:Fp) (X:Nat→Prop):Fp:={φ with I:=fun k=>φ.I k∨X k}
theorem Gc {X:Nat→Prop} {ds:List Nat} {k:Nat} (h:rd φ ds k):rd (φ.more X) ds k:=h.imp .inl id
theorem ah.jJ {R R' S:Nat→Prop} {m:Mode} {c:TC} {v:Value} (h:ah w R m S c v) (hR: ∀k,R k→R' k):ah w R' m S c v:=
 h.move (fun k hk=>⟨hR k hk,rfl⟩) fun _ _ _=>rfl
theorem bP.more {X:Nat→Prop} {ob:List (Nat×OB)} {e:CE} {v:Value} (h:bP ob w φ e v):bP ob w (φ.more X) e v:=by
 cases e with
 |snap ds loc z rows=>
  obtain⟨h1,h2,h3⟩:=h;exact⟨h1,h2.jJ fun k hk=>Gc hk,h3⟩
 |_=>exact h
theorem bD.more {X:Nat→Prop} {ob:List (Nat×OB)} {e:TE} {v:Value} (hv: ∀t es,e≠ .v t es) (h:bD ob w φ e v):bD ob w (φ.more X) e v:=by
 cases e with
 |v t es=>exact absurd rfl (hv t es)
 |ep ds cells=>
  obtain⟨h1,ad,h2,hr,h3⟩:=h;refine⟨h1,ad,h2,fun hc=>Gc (hr hc),fun j tc hj=> ?_⟩;obtain⟨u,h4,h5⟩:=h3 j tc hj;exact⟨u,h4,h5.jJ fun k hk=>Gc hk⟩
 |_=>exact h
theorem zT (st:TS):mapA (List.map (id:CE→CE)) st.bx=st.bx:=congrArg TS.bx (oP st)
theorem aG.more (h:aG F A w0 φ st tm w) {X:Nat→Prop} (hX: ∀k,X k→k<w.heap.size∧(w0.heap.size≤k∨F k∨A.sh k)) (hS: ∀k o,X k→av st.ob o→ ¬φ.S o k)
 (hB: ∀b cs,aa b st.bx=some cs→qN b=true→ ¬X (φ.β b).block):aG F A w0 (φ.more X) st tm w:=by
 have:=h.xG (f:=id) (g:=id) (k:=id) (φ':=φ.more X) (w':=w) rfl rfl (fun e v he=>he.more) (fun e v hv he=>he.more hv) (fun _ _ _ _ _=>rfl)
  (fun o b hb=>(h.obj o b hb).jJ fun k hk=> .inl hk)
  (by
    rw[zT]
    exact {
     arg:=h.sep.arg,nz:=h.sep.nz,apart:=h.sep.apart,fresh:=h.sep.fresh,iQ:=h.sep.iQ,spot:=h.sep.spot,soft:=h.sep.soft
     read:=fun o k ho hk hI=>hI.elim (h.sep.read o k ho hk) fun hx=>hS k o hx ho hk
     ro:=fun k hk=>hk.elim (h.sep.ro k) (hX k)
     box:=fun b cs hb hw=>by
      obtain⟨a1,a2,a3,a4⟩:=h.sep.box b cs hb hw
      exact⟨fun hI=>hI.elim a1 (hB b cs hb hw),a2,a3,a4⟩}) h.frm
 rw[oP] at this;exact this
def Fp.add (φ:Fp) (o:Nat) (X:Nat→Prop) (v:Value):Fp:={φ with S:=fun d k=>if d=o then X k else φ.S d k,V:=fun d=>if d=o then v else φ.V d}
theorem Gd {o:Nat} {X:Nat→Prop} {v:Value} {ds:List Nat} (hd:o∉ds) {k:Nat} (h:rd φ ds k):rd (φ.add o X v) ds k:=by
 rcases h with h|⟨d,hm,h⟩
 ·exact .inl h
 ·refine .inr ⟨d,hm,?_⟩
  show(if d=o then X k else φ.S d k)
  have hp:d≠o:=fun e=>by subst e;exact hd hm
  rw[aL hp];exact h
theorem nW {o d:Nat} {X:Nat→Prop} {v:Value} (h:d≠o) {k:Nat}:(φ.add o X v).S d k=φ.S d k:=aL h
theorem MP {o d:Nat} {X:Nat→Prop} {v:Value} (h:d≠o):(φ.add o X v).V d=φ.V d:=aL h
theorem fj {o d:Nat} {b:OB} {ob:List (Nat×OB)}:av (jn o b ob) d↔d=o∨av ob d:=by
 unfold av;rw[cQ]
 by_cases h:d=o
 ·simp[h]
 ·simp[h]
theorem gL {o d:Nat} {b:OB} {ob:List (Nat×OB)} (h:d≠o):aa d (jn o b ob)=aa d ob:=by rw[cQ,aL h]
theorem gV {o:Nat} {b:OB} {ob:List (Nat×OB)}:aa o (jn o b ob)=some b:=by rw[cQ,aT rfl]
theorem bP.add {o:Nat} {b:OB} {X:Nat→Prop} {V:Value} {ob:List (Nat×OB)} (h0:o≠0) (hn: ¬av ob o) {e:CE} {v:Value} (h:bP ob w φ e v):bP (jn o b ob) w (φ.add o X V) e v:=by
 cases e with
 |ref p cut=>
  obtain⟨b',h1,h2⟩:=h;have hp:p≠o:=fun e=>hn ⟨b',e▸h1⟩;refine⟨b',by rw[gL hp];exact h1,?_⟩;rw[MP hp];exact h2
 |snap ds loc z rows=>
  obtain⟨h1,h2,h3⟩:=h;have hd:o∉ds:=fun hm=>(h1 o hm).elim h0 hn;refine⟨fun d hm=>(h1 d hm).imp id fun h=>fj.2 (.inr h),h2.jJ fun k hk=>Gd hd hk,fun p i f hl=>⟨(h3 p i f hl).1,?_⟩⟩;obtain⟨a1,b',a2,a3,a4,ad,n,c,a5,a6⟩:=h3 p i f hl;have hp:p≠o:=fun e=>hn ⟨b',e▸a2⟩;exact⟨b',by rw[gL hp];exact a2,a3,a4,ad,n,c,by rw[MP hp];exact a5,a6⟩
 |_=>exact h
theorem bD.add {o:Nat} {b:OB} {X:Nat→Prop} {V:Value} {ob:List (Nat×OB)} (h0:o≠0) (hn: ¬av ob o) {e:TE} {v:Value} (hv: ∀t es,e≠ .v t es) (h:bD ob w φ e v):
 bD (jn o b ob) w (φ.add o X V) e v:=by
 cases e with
 |v t es=>exact absurd rfl (hv t es)
 |ep ds cells=>
  obtain⟨h1,ad,h2,hr,h3⟩:=h;have hd:o∉ds:=fun hm=>(h1 o hm).elim h0 hn;refine⟨fun d hm=>(h1 d hm).imp id fun h=>fj.2 (.inr h),ad,h2,fun hc=>Gd hd (hr hc),fun j tc hj=> ?_⟩;obtain⟨u,h4,h5⟩:=h3 j tc hj;exact⟨u,h4,h5.jJ fun k hk=>Gd hd hk⟩
 |er p path i f=>
  obtain⟨b',h1,h2,ad,n,c,h3,h4⟩:=h;have hp:p≠o:=fun e=>hn ⟨b',e▸h1⟩;exact⟨b',by rw[gL hp];exact h1,h2,ad,n,c,by rw[MP hp];exact h3,h4⟩
 |_=>exact h
theorem O3 (st:TS) (o:Nat) (b:OB):st.Rf o b=pQ id id (jn o b) st:=by
 have h:=oP st;unfold pQ at h ⊢;have h1:=congrArg TS.tm h;have h2:=congrArg TS.bx h;simp only at h1 h2;rw[h1,h2];rfl
theorem aG.add (h:aG F A w0 φ st tm w) {o:Nat} {b:OB} {X:Nat→Prop} {v:Value} (h0:o≠0) (hn: ¬av st.ob o) (hc:ah w φ.I b.m X (.sub b.z b.rows) v)
 (hX: ∀k,X k→k<w.heap.size∧(w0.heap.size≤k∨F k)) (hI: ∀k,X k→ ¬φ.I k) (hS: ∀k d,X k→av st.ob d→ ¬φ.S d k)
 (hB: ∀b cs,aa b st.bx=some cs→qN b=true→ ¬X (φ.β b).block):aG F A w0 (φ.add o X v) (st.Rf o b) tm w:=by
 rw[O3];refine h.xG (φ':=φ.add o X v) (w':=w) rfl rfl (fun e u he=>he.add h0 hn) (fun e u hv he=>he.add h0 hn hv) (fun _ _ _ _ _=>rfl) (fun p b' hb=> ?_) ?_ h.frm
 ·unfold iT
  by_cases hp:p=o
  ·subst hp
   rw[gV] at hb
   cases hb
   show ah w φ.I b.m (fun k=>if p=p then X k else φ.S p k) (.sub b.z b.rows) (if p=p then v else φ.V p);simp only[if_true];exact hc
  ·rw[gL hp] at hb
   have:=h.obj p b' hb;unfold iT at this;show ah w φ.I b'.m (fun k=>if p=o then X k else φ.S p k) (.sub b'.z b'.rows) (if p=o then v else φ.V p);simp only[aL hp];exact this
 ·rw[zT]
  exact {
   arg:=by
    show(fun k=>if 0=o then X k else φ.S 0 k)=A.all;simp only[aL (Ne.symm h0)];exact h.sep.arg
   nz:=fun d hd=>(fj.1 hd).elim (fun e=>e▸h0) (h.sep.nz d)
   apart:=fun d d' k h1 h2 h3 h4=>by
    by_cases e1:d=o
    ·by_cases e2:d'=o
     ·rw[e1,e2]
     ·subst e1
      rw[nW e2] at h4
      have h3:X k:=by have OP:(if d=d then X k else φ.S d k):=h3;simpa using OP
      exact absurd h4 (hS k d' h3 ((fj.1 h2).resolve_left e2))
    ·rw[nW e1] at h3
     by_cases e2:d'=o
     ·subst e2
      have h4:X k:=by have Ws:(if d'=d' then X k else φ.S d' k):=h4;simpa using Ws
      exact absurd h3 (hS k d h4 ((fj.1 h1).resolve_left e1))
     ·rw[nW e2] at h4
      exact h.sep.apart d d' k ((fj.1 h1).resolve_left e1) ((fj.1 h2).resolve_left e2) h3 h4
   read:=fun d k hd hk=>by
    by_cases e1:d=o
    ·subst e1
     have hk:X k:=by have hk':(if d=d then X k else φ.S d k):=hk;simpa using hk'
     exact hI k hk
    ·rw[nW e1] at hk
     exact h.sep.read d k ((fj.1 hd).resolve_left e1) hk
   fresh:=fun d k hd hk=>by
    by_cases e1:d=o
    ·subst e1
     have hk:X k:=by have hk':(if d=d then X k else φ.S d k):=hk;simpa using hk'
     exact hX k hk
    ·rw[nW e1] at hk
     exact h.sep.fresh d k ((fj.1 hd).resolve_left e1) hk
   ro:=h.sep.ro
   iQ:=h.sep.iQ
   box:=fun b' cs hb hw=>by
    obtain⟨a1,a2,a3,a4⟩:=h.sep.box b' cs hb hw;refine⟨a1,fun d hd hk=> ?_,a3,a4⟩
    by_cases e1:d=o
    ·subst e1
     have hk:X (φ.β b').block:=by have hk':(if d=d then X (φ.β b').block else φ.S d (φ.β b').block):=hk;simpa using hk'
     exact hB b' cs hb hw hk
    ·rw[nW e1] at hk
     exact a2 d ((fj.1 hd).resolve_left e1) hk
   spot:=h.sep.spot
   soft:=h.sep.soft}
theorem aG.uX (h:aG F A w0 φ st tm w) {o:Nat} {b:OB} {X:Nat→Prop} {v:Value} (h0:o≠0) (hc:ah w φ.I b.m X (.sub b.z b.rows) v)
 (hX: ∀k,X k→k<w.heap.size∧(w0.heap.size≤k∨F k)) (hI: ∀k,X k→ ¬φ.I k) (hS: ∀k d,X k→d≠o→av st.ob d→ ¬φ.S d k)
 (hB: ∀b cs,aa b st.bx=some cs→qN b=true→ ¬X (φ.β b).block):aG F A w0 (φ.add o X v) (T.uX o b st) tm w:=
 (h.iR o).add h0 (fun hd=>(fR.1 hd).1 rfl) hc hX hI (fun k d hx hd=>hS k d hx (fR.1 hd).1 (fR.1 hd).2)
   fun b cs hb hw=>by
    obtain⟨cs0,h1,_⟩:=dW _ b cs hb;exact hB b cs0 h1 hw
end Go.T
namespace Go.T
variable {F : Nat → Prop} {A : Arg} {w0 w w' : World} {φ φ' : Fp} {st st' : TS} {tm xA : Array Value}
attribute [local semireducible] aq in
theorem si (rows:List (List TC)) (l h:Int):aq rows l h=(rows.take h.toNat).drop l.toNat:=rfl
theorem CF {rows:List (List TC)} {l h:Int} (h2:h≤rows.length):(aq rows l h).length=h.toNat-l.toNat:=by
 rw[si,jE,eY]
 have:h.toNat≤rows.length:=by omega
 omega
theorem Ge {rows:List (List TC)} {l h:Int} {i f:Nat} {tc:TC} (ht:pX (aq rows l h) i f=some tc):pX rows (i+l.toNat) f=some tc∧i+l.toNat<h.toNat:=by
 unfold pX at ht ⊢;rw[si,kr,AQ] at ht
 by_cases hi:l.toNat+i<h.toNat
 ·rw[aT hi] at ht
  rw[Nat.add_comm];exact⟨ht,hi⟩
 ·rw[aL hi] at ht;cases ht
theorem ve {a:Addr} (n:Nat) (h:a.spot=none):(a.add n).spot=none:=by unfold Addr.add;split<;>simp[h]
theorem ou {a:Addr} (n:Nat) (h:a.spot=none):a.add n=⟨a.block,a.off+n,none⟩:=by
 unfold Addr.add;split
 ·subst n;cases a;simp_all
 ·rfl
theorem ah.cut {R S:Nat→Prop} {m:Mode} {z:Nat} {rows:List (List TC)} {V v:Value} {l h:Int} (k:ah w R m S (.sub z rows) V) (hc:sX z rows.length l h V v):
 ah w R m S (.sub z (aq rows l h)) v:=by
 cases k with
 |sub _ _ _ _ A c u T k hn=>
  obtain⟨h0,h1,h2,A1,A',c1,e1,rfl,e2,e3,e4⟩:=hc
  cases e1
  have hlen:=CF (rows:=rows) (l:=l) h2
  have hle:h.toNat≤rows.length:=by omega
  rw[←hlen];have hcl:=k.len
  have hne: ∀i f tc,pX (aq rows l h) i f=some tc→c≠l.toNat:=fun i f tc ht=>by
   have:=(Ge ht).2;omega
  refine .sub _ _ _ _ A' (c-l.toNat) (fun i f=>u (i+l.toNat) f) (fun i f=>T (i+l.toNat) f) ?_ fun i f tc ht=>hn _ _ _ (Ge ht).1
  have hb: ∀ad',A'=some ad'→ ∃ad,A=some ad∧ad'.block=ad.block∧(ad.spot=none→ad'.spot=none):=fun ad' ha=>by
   cases hA:A with
   |none=>rw[e3 hA] at ha;cases ha
   |some ad=>
    obtain⟨ad2,b1,b2,b3⟩:=e4 ad hA;rw[b1] at ha;cases ha;exact⟨ad,rfl,b2,b3⟩
  have hnm:rows=[]→aq rows l h=[]:=fun e=>by rw[si,e];simp
  refine⟨by omega,nS (Nat.sub_le _ _) k.cap,k.z0,fun r hr=>k.width r ?_,fun hr=> ?_,fun ad' ha i f tc ht=> ?_,fun hm ad' ha hr=> ?_,fun hm=>⟨fun ha=> ?_,fun ad' ha=> ?_⟩,fun hm Mh ad' ha i=> ?_,fun hm i f q hq=> ?_⟩
  ·rw[si] at hr
   exact qR (qQ hr)
  ·obtain⟨ad,ha⟩:=k.addr fun e=>hr (hnm e)
   obtain⟨ad',b1,_⟩:=e4 ad ha;exact⟨ad',b1⟩
  ·obtain⟨ad,hA,_⟩:=hb ad' ha
   have:=e2 (hne i f tc ht);rw[hA] at this;simp only[iE] at this;rw[this] at ha
   cases ha
   rw[Addr.add_add];have:=k.cell ad hA _ _ _ (Ge ht).1;rw[m9] at this;rw[show l.toNat*z+(i*z+f)=i*z+l.toNat*z+f by omega];exact this
  ·obtain⟨ad,hA,b1,_⟩:=hb ad' ha
   rw[b1];exact k.read hm ad hA fun e=>hr (hnm e)
  ·cases hA:A with
   |none=>rw[(k.own hm).1 hA];omega
   |some ad=>obtain⟨ad2,b1,_⟩:=e4 ad hA;rw[b1] at ha;cases ha
  ·obtain⟨ad,hA,b1,b2⟩:=hb ad' ha
   obtain⟨a1,a2,a3⟩:=(k.own hm).2 ad hA;refine⟨by rw[b1];exact a1,b2 a2,fun j hj=> ?_⟩
   have U6:c≠l.toNat:=fun e=>by rw[e] at hj;simp at hj
   have:=e2 U6;rw[hA] at this;simp only[iE] at this;rw[this] at ha
   cases ha
   rw[ou _ a2];simp only;rw[pN];refine a3 _ ?_
   have:l.toNat*z+(c-l.toNat)*z≤c*z:=by
    rw[←m9];exact lF _ aA
   omega
  ·obtain⟨ad,hA,b1,b2⟩:=hb ad' ha
   rw[b1];exact k.soft hm Mh ad hA i
  ·obtain⟨a1,a2,a3⟩:=k.kj hm _ _ _ hq
   refine⟨a1,fun ad' ha=> ?_,fun i' f' D5=> ?_⟩
   ·obtain⟨ad,hA,b1,_⟩:=hb ad' ha
    rw[b1];exact a2 ad hA
   ·obtain⟨c1,c2⟩:=a3 _ _ D5
    exact⟨by omega,c2⟩
theorem iT.cut {o:Nat} {b:OB} (h:iT w φ o b) {cut:Option (Int×Int)} {v:Value} (hc:match(generalizing:=false) cut with|none=>v=φ.V o|some (l,h)=>sX b.z b.rows.length l h (φ.V o) v):
 ah w φ.I b.m (φ.S o) (.sub b.z (HC cut b.rows)) v:=by
 cases cut with
 |none=>simp only at hc;rw[hc];exact h
 |some q=>obtain⟨l,h1⟩:=q;exact ah.cut h hc
theorem Ly {o:Nat} {l:Option (Nat×Int×Nat)} {p:Nat} {i:Int} {f:Nat} (h:Rh o l=some (p,i,f)):l=some (p,i,f)∧p≠o:=by
 unfold Rh at h
 cases l with
 |none=>cases h
 |some q=>
  obtain⟨a,b,c⟩:=q;simp only at h
  cases h1:Nat.beq a o with
  |true=>rw[h1] at h;cases h
  |false=>rw[h1] at h;cases h;exact⟨rfl,lT h1⟩
theorem Js {o:Nat} {ds:List Nat} {k:Nat} (h:rd φ ds k):rd (φ.more (φ.S o)) (HB o ds) k:=by
 rcases h with h|⟨d,hd,h⟩
 ·exact .inl (.inl h)
 ·by_cases e:d=o
  ·subst e;exact .inl (.inr h)
  ·exact .inr ⟨d,qY.2 ⟨hd,e⟩,h⟩
theorem bP.freeze {o:Nat} {b:OB} {ob:List (Nat×OB)} (hb:aa o ob=some b) (hO:iT w φ o b) {e:CE} {v:Value} (h:bP ob w φ e v):bP (kz o ob) w (φ.more (φ.S o)) (Cg o b e) v:=by
 cases e with
 |ref p cut=>
  obtain⟨b',h1,h2⟩:=h;simp only[Cg]
  cases hd:Nat.beq p o with
  |true=>
   have:=eB hd;subst this;rw[hb] at h1;cases h1;refine And.intro (fun d hm=>by cases hm) (And.intro ?_ (fun _ _ _ hl=>by cases hl));exact(hO.cut h2).freeze (fun k hk=> .inl (.inl hk)) fun _ k hk=> .inl (.inr hk)
  |false=>
   have:=lT hd;exact⟨b',by rw[oQ this];exact h1,h2⟩
 |snap ds loc z rows=>
  obtain⟨h1,h2,h3⟩:=h;refine⟨fun d hm=> ?_,h2.jJ fun k hk=>Js hk,fun p i f hl=> ?_⟩
  ·obtain⟨a1,a2⟩:=qY.1 hm
   exact(h1 d a1).imp id fun h=>jd.2 ⟨a2,h⟩
  ·obtain⟨a1,a2⟩:=Ly hl
   obtain⟨a3,b',a4,a5⟩:=h3 p i f a1;exact⟨qY.2 ⟨a3,a2⟩,b',by rw[oQ a2];exact a4,a5⟩
 |_=>exact h
theorem bD.freeze {o:Nat} {ob:List (Nat×OB)} {e:TE} {v:Value} (hv: ∀t es,e≠ .v t es) (h:bD ob w φ e v):bD (kz o ob) w (φ.more (φ.S o)) (F2 o e) v:=by
 cases e with
 |v t es=>exact absurd rfl (hv t es)
 |ep ds cells=>
  obtain⟨h1,ad,h2,hr,h3⟩:=h;refine⟨fun d hm=> ?_,ad,h2,fun hc=>Js (hr hc),fun j tc hj=> ?_⟩
  ·obtain⟨a1,a2⟩:=qY.1 hm
   exact(h1 d a1).imp id fun h=>jd.2 ⟨a2,h⟩
  ·obtain⟨u,h4,h5⟩:=h3 j tc hj
   exact⟨u,h4,h5.jJ fun k hk=>Js hk⟩
 |er p path i f=>
  simp only[F2]
  cases hd:Nat.beq p o with
  |true=>trivial
  |false=>
   obtain⟨b,h1,h2⟩:=h;exact⟨b,by rw[oQ (lT hd)];exact h1,h2⟩
 |_=>exact h
theorem aG.pR (h:aG F A w0 φ st tm w) (o:Nat): ∃φ',aG F A w0 φ' (pR st o) tm w∧φ'.β=φ.β∧φ'.V=φ.V∧φ'.S=φ.S∧ ∀k,φ'.I k↔φ.I k∨(av st.ob o∧φ.S o k):=by
 unfold T.pR
 cases hb:aa o st.ob with
 |none=>exact⟨φ,h,rfl,rfl,rfl,fun k=>⟨.inl,fun hk=>hk.elim id fun⟨⟨b,hb'⟩,_⟩=>by rw[hb] at hb';cases hb'⟩⟩
 |some b=>
  refine⟨φ.more (φ.S o),h.xG (φ':=φ.more (φ.S o)) (w':=w) rfl rfl (fun e v he=>he.freeze hb (h.obj o b hb)) (fun e v hv he=>he.freeze hv) (fun _ _ _ _ _=>rfl) (fun p b' hp=> ?_) ?_ h.frm,rfl,rfl,rfl,fun k=>⟨fun hk=>hk.imp id fun hk=>⟨⟨b,hb⟩,hk⟩,fun hk=>hk.imp id fun hk=>hk.2⟩⟩
  ·rw[eP] at hp
   split at hp
   ·cases hp
   ·exact(h.obj p b' hp).jJ fun k hk=> .inl hk
  ·have hs:=(h.sep.boxes (dW (Cg o b))).sub (wm:=kz o st.ob) fun d hd=>(jd.1 hd).2
   have hin:av st.ob o:=⟨b,hb⟩
   exact {
    arg:=hs.arg,nz:=hs.nz,apart:=hs.apart,fresh:=hs.fresh,iQ:=hs.iQ,spot:=hs.spot,soft:=hs.soft
    read:=fun p k hp hk hI=>by
     obtain⟨a1,a2⟩:=jd.1 hp;rcases hI with hI|hI
     ·exact h.sep.read p k a2 hk hI
     ·exact a1 (h.sep.apart p o k a2 hin hk hI)
    ro:=fun k hk=>hk.elim (h.sep.ro k) fun hk=>⟨(h.sep.fresh o k hin hk).1,(h.sep.fresh o k hin hk).2.imp id .inl⟩
    box:=fun b' cs hb' hw=>by
     obtain⟨a1,a2,a3,a4⟩:=hs.box b' cs hb' hw;obtain⟨cs0,c1,_⟩:=dW _ b' cs hb'
     exact⟨fun hI=>hI.elim a1 ((h.sep.box b' cs0 c1 hw).2.1 o hin),a2,a3,a4⟩}
theorem aG.nD (h:aG F A w0 φ st tm w) {o:Nat} {b b':OB} {X:Nat→Prop} (hb:aa o st.ob=some b) (hz:b'.z=b.z) (hl:b'.rows.length=b.rows.length)
 (hc:ah w' φ.I b'.m X (.sub b'.z b'.rows) (φ.V o)) (hf:KB F w0 w') (hsz:w.heap.size≤w'.heap.size) (hw: ∀k,k<w.heap.size→ ¬φ.S o k→w'.heap[k]?=w.heap[k]?)
 (hX: ∀k,X k→k<w'.heap.size∧(w0.heap.size≤k∨F k)) (hI: ∀k,X k→ ¬φ.I k) (hS: ∀k d,X k→d≠o→av st.ob d→ ¬φ.S d k)
 (hB: ∀b cs,aa b st.bx=some cs→qN b=true→ ¬X (φ.β b).block):aG F A w0 (φ.add o X (φ.V o)) (nD o b' st) tm w':=by
 have hin:av st.ob o:=⟨b,hb⟩;have h0:o≠0:=h.sep.nz o hin
 have hV:(φ.add o X (φ.V o)).V=φ.V:=by
  funext d
  show(if d=o then φ.V o else φ.V d)=φ.V d
  split
  ·subst_vars;rfl
  ·rfl
 have j9: ∀d,av (jn o b' st.ob) d↔av st.ob d:=fun d=>by
  rw[fj];exact⟨fun h=>h.elim (fun e=>e▸hin) id,.inr⟩
 have stI: ∀k,φ.I k→w'.heap[k]?=w.heap[k]?:=fun k hk=>hw k (h.sep.ro k hk).1 fun hs=>h.sep.read o k hin hs hk
 have stS: ∀d k,d≠o→d=0∨av st.ob d→φ.S d k→w'.heap[k]?=w.heap[k]?:=fun d k hne hd hk=>hw k (h.sep.lt h.frm.size hd hk) fun hs=>by
  rcases hd with rfl|hd
  ·rw[h.sep.arg] at hk
   have:=h.sep.iQ k hk;rcases (h.sep.fresh o k hin hs).2 with h3|h3
   ·omega
   ·exact this.2 h3
  ·exact hne (h.sep.apart d o k hd hin hk hs)
 have stR: ∀ds k,o∉ds→(∀d∈ds,d=0∨av st.ob d)→rd φ ds k→rd (φ.add o X (φ.V o)) ds k∧w'.heap[k]?=w.heap[k]?:=fun ds k hn hd hk=>by
  refine⟨Gd hn hk,?_⟩;rcases hk with hk|⟨d,hm,hk⟩
  ·exact stI k hk
  ·exact stS d k (fun e=>by subst e;exact hn hm) (hd d hm) hk
 have stV: ∀p b1 ad n c i f tc u,p≠o→aa p st.ob=some b1→φ.V p= .slice (some ad) n c→pX b1.rows i f=some tc→w.cell? (ad.add (i*b1.z+f))=some u→w'.cell? (ad.add (i*b1.z+f))=some u:=by
  intro p b1 ad n c i f tc u hne hp hv ht hcell;have hO:=h.obj p b1 hp;unfold iT at hO;rw[hv] at hO
  have hS:φ.S p ad.block:=by
   cases hO with
   |sub _ _ _ _ _ _ u T k hn=>exact(k.own (by unfold OB.m;split<;>simp)).2 ad rfl|>.1
  rw[dh (w:=w)]
  ·exact hcell
  ·rw[bu];exact stS p _ hne (.inr ⟨b1,hp⟩) hS
 have cbox: ∀p cs,aa p st.bx=some cs→w'.heap[(φ.β p).block]?=w.heap[(φ.β p).block]?:=fun p cs hp=>by
  obtain⟨a1,a2,a3⟩:=h.sep.spot p cs hp;refine hw _ a2 fun hs=> ?_
  cases wZ:qN p with
  |true=>exact(h.sep.box p cs hp wZ).2.1 o hin hs
  |false=>
   have:=h.sep.iQ _ (a3 wZ);rcases (h.sep.fresh o _ hin hs).2 with h3|h3
   ·omega
   ·exact this.2 h3
 refine h.xG (φ':=φ.add o X (φ.V o)) rfl rfl (fun e v he=> ?_) (fun e v hv he=> ?_) (fun p cs hp j hj=> ?_) (fun p b1 hp=> ?_) ?_ hf
 ·cases e with
  |ref p cut=>
   obtain⟨b1,h1,h2⟩:=he
   by_cases hp:p=o
   ·subst hp
    rw[hb] at h1;cases h1;refine⟨b',gV,?_⟩;rw[hV]
    cases cut with
    |none=>exact h2
    |some q=>obtain⟨l,r⟩:=q;simp only at h2 ⊢;rw[hz,hl];exact h2
   ·exact⟨b1,by rw[gL hp];exact h1,by rw[hV];exact h2⟩
  |snap ds loc z rows=>
   simp only[Jj]
   cases hd:gH o ds with
   |true=>trivial
   |false=>
    have hd:=cu.1 hd;obtain⟨h1,h2,h3⟩:=he;refine⟨fun d hm=>(h1 d hm).imp id (j9 d).2,h2.move (fun k hk=>stR ds k hd h1 hk) (fun hm=>absurd rfl hm),fun p i f hl=> ?_⟩;obtain⟨a1,b1,a2,a3,a4,ad,n,c,a5,a6⟩:=h3 p i f hl
    have hp:p≠o:=fun e=>by subst e;exact hd a1
    refine⟨a1,b1,by rw[gL hp];exact a2,a3,a4,ad,n,c,by rw[hV];exact a5,stV p b1 ad n c _ _ _ _ hp a2 a5 a4 a6⟩
  |_=>exact he
 ·cases e with
  |v t es=>exact absurd rfl (hv t es)
  |ep ds cells=>
   simp only[F1]
   cases hd:gH o ds with
   |true=>trivial
   |false=>
    have hd:=cu.1 hd;obtain⟨h1,ad,h2,hr,h3⟩:=he;refine⟨fun d hm=>(h1 d hm).imp id (j9 d).2,ad,h2,fun hc=>(stR ds _ hd h1 (hr hc)).1,fun j tc hj=> ?_⟩;obtain⟨u,h4,h5⟩:=h3 j tc hj
    have hc:cells≠[]:=fun e=>by rw[e] at hj;simp at hj
    exact⟨u,by rw[dh (w:=w) (by rw[bu];exact(stR ds _ hd h1 (hr hc)).2)];exact h4,h5.move (fun k hk=>stR ds k hd h1 hk) (fun hm=>absurd rfl hm)⟩
  |er p path i f=>
   obtain⟨b1,h1,h2,ad,n,c,h3,h4⟩:=he
   cases path with
   |none=>
    simp only[F1]
    by_cases hp:p=o
    ·subst hp
     rw[hb] at h1;cases h1;exact⟨b',gV,h2,ad,n,c,by rw[hV];exact h3,by rw[hz];exact h4⟩
    ·exact⟨b1,by rw[gL hp];exact h1,h2,ad,n,c,by rw[hV];exact h3,h4⟩
   |some q=>
    obtain⟨i0,f0⟩:=q;simp only[F1]
    cases hd:Nat.beq p o with
    |true=>trivial
    |false=>
     have hp:=lT hd;obtain⟨a1,z1,kQ,a2,ad1,n1,c1,a3,a4⟩:=h4;exact⟨b1,by rw[gL hp];exact h1,h2,ad,n,c,by rw[hV];exact h3,a1,z1,kQ,a2,ad1,n1,c1,stV p b1 ad n c _ _ _ _ hp h1 h3 a2 a3,a4⟩
  |_=>exact he
 ·exact dh (by rw[bu];exact cbox p cs hp)
 ·unfold iT
  by_cases Hi:p=o
  ·subst Hi
   rw[gV] at hp;cases hp;rw[hV];show ah w' φ.I b'.m (fun k=>if p=p then X k else φ.S p k) (.sub b'.z b'.rows) (φ.V p);simp only[if_true];exact hc
  ·rw[gL Hi] at hp
   rw[hV];show ah w' φ.I b1.m (fun k=>if p=o then X k else φ.S p k) (.sub b1.z b1.rows) (φ.V p);simp only[aL Hi];exact(h.obj p b1 hp).move (fun k hk=>⟨hk,stI k hk⟩) fun _ k hk=>stS p k Hi (.inr ⟨b1,hp⟩) hk
 ·have hs:=h.sep.boxes (dW (Jj o))
  have self: ∀k,(φ.add o X (φ.V o)).S o k→X k:=fun k hk=>by
   have hk':(if o=o then X k else φ.S o k):=hk;simpa using hk'
  exact {
   arg:=by
    show(fun k=>if 0=o then X k else φ.S 0 k)=A.all;simp only[aL (Ne.symm h0)];exact h.sep.arg
   nz:=fun d hd=>h.sep.nz d ((j9 d).1 hd)
   apart:=fun d d' k h1 h2 h3 h4=>by
    have i1:=(j9 d).1 h1;have i2:=(j9 d').1 h2
    by_cases e1:d=o
    ·subst e1
     by_cases e2:d'=d
     ·exact e2.symm
     ·rw[nW e2] at h4;exact absurd h4 (hS k d' (self k h3) e2 i2)
    ·rw[nW e1] at h3
     by_cases e2:d'=o
     ·subst e2;exact absurd h3 (hS k d (self k h4) e1 i1)
     ·rw[nW e2] at h4;exact h.sep.apart d d' k i1 i2 h3 h4
   read:=fun d k hd hk=>by
    have hd:=(j9 d).1 hd
    by_cases e1:d=o
    ·subst e1;exact hI k (self k hk)
    ·rw[nW e1] at hk;exact h.sep.read d k hd hk
   fresh:=fun d k hd hk=>by
    have hd:=(j9 d).1 hd
    by_cases e1:d=o
    ·subst e1;exact hX k (self k hk)
    ·rw[nW e1] at hk
     exact⟨fJ (h.sep.fresh d k hd hk).1 hsz,(h.sep.fresh d k hd hk).2⟩
   ro:=fun k hk=>⟨fJ (h.sep.ro k hk).1 hsz,(h.sep.ro k hk).2⟩
   iQ:=h.sep.iQ
   box:=fun p cs hp wZ=>by
    obtain⟨cs0,c1,_⟩:=dW _ p cs hp;obtain⟨a1,a2,a3,a4⟩:=hs.box p cs hp wZ;refine⟨a1,fun d hd hk=> ?_,a3,a4⟩;have hd:=(j9 d).1 hd
    by_cases e1:d=o
    ·subst e1;exact hB p cs0 c1 wZ (self _ hk)
    ·rw[nW e1] at hk;exact a2 d hd hk
   spot:=fun p cs hp=>⟨(hs.spot p cs hp).1,fJ (hs.spot p cs hp).2.1 hsz,(hs.spot p cs hp).2.2⟩
   soft:=fun p cs j hp wZ hj=>by
    obtain⟨cs0,c1,c2⟩:=dW _ p cs hp;rw[gK (w:=w) (by rw[bu];exact cbox p cs0 c1)]
    exact h.sep.soft p cs0 j c1 wZ aA}
end Go.T
namespace Go.T
variable {F : Nat → Prop} {A : Arg} {w0 w w' : World} {φ φ' : Fp} {st st' : TS} {tm xA : Array Value}
theorem aG.less (h:aG F A w0 φ st tm w) (ht: ∀i,st'.get i= .dead∨st'.get i=st.get i) (hb: ∀b cs,aa b st'.bx=some cs→aa b st.bx=some cs) (ho:st'.ob=st.ob):aG F A w0 φ st' tm w where
 tmp i:=by
  rw[ho];rcases ht i with h1|h1
  ·rw[h1];trivial
  ·rw[h1];exact h.tmp i
 box b cs h1:=by rw[ho];exact h.box b cs (hb b cs h1)
 obj:=by rw[ho];exact h.obj
 sep:=by rw[ho];exact h.sep.boxes fun b cs h1=>⟨cs,hb b cs h1,rfl⟩
 frm:=h.frm
theorem HL (st:TS) (l:List Nat) (bx:List (Nat×List CE)) (ob:List (Nat×OB)) (i:Nat):(⟨sW l st.tm,bx,ob⟩:TS).get i= .dead∨(⟨sW l st.tm,bx,ob⟩:TS).get i=st.get i:=by
 unfold TS.get;simp only[CD]
 by_cases h:i∈l
 ·right;rw[aT h]
 ·left;rw[aL h]
theorem aG.keep (h:aG F A w0 φ st tm w) (l:List Nat):aG F A w0 φ ⟨sW l st.tm,st.bx,st.ob⟩ tm w:=
 h.less (HL st l st.bx st.ob) (fun _ _ h=>h) rfl
theorem CG (l:List Nat) (j:Nat): ∀(m:List (Nat×List CE)) (cs:List CE),aa j (pW l m)=some cs→aa j m=some cs
 |[],cs,h=>by simp[pW,aa] at h
 |(a,x)::r,cs,h=>by
  have ih:=CG l j r cs
  have key:aa j ((a,x)::pW l r)=some cs→aa j ((a,x)::r)=some cs:=fun h=>by
   simp only[aa] at h ⊢
   cases h1:Nat.beq a j with
   |true=>rw[h1] at h;exact h
   |false=>rw[h1] at h;exact ih h
  have skip:(100000≤a→False)→a∉l→aa j (pW l r)=some cs→aa j ((a,x)::r)=some cs:=fun h1 h2 h=>by
   simp only[aa]
   cases h3:Nat.beq a j with
   |false=>exact ih h
   |true=>
    exfalso
    have h3:=eB h3;subst h3
    have: ∀(m:List (Nat×List CE)),aa a (pW l m)=none:=by
     intro m
     induction m with
     |nil=>rfl
     |cons p r ih=>
      obtain⟨c,y⟩:=p;simp only[pW]
      have hk: ∀(hc:c≠a),aa a ((c,y)::pW l r)=none:=fun hc=>by
       simp only[aa,beq_false hc];exact ih
      split
      ·rename_i h4
       exact hk fun e=>h1 (by subst e;exact lS h4)
      ·split
       ·rename_i h5
        exact hk fun e=>h2 (by subst e;exact ga.1 h5)
       ·exact ih
    rw[this] at h;cases h
  simp only[pW] at h
  split at h
  ·exact key h
  ·rename_i h4
   split at h
   ·exact key h
   ·rename_i h5
    exact skip (fun h6=>by rw[Cs h6] at h4;cases h4) (cu.1 h5) h
theorem aG.SR (h:aG F A w0 φ st tm w) (l:List Nat):aG F A w0 φ ⟨sW l st.tm,pW l st.bx,st.ob⟩ tm w:=
 h.less (HL st l (pW l st.bx) st.ob) (fun b cs hb=>CG l b st.bx cs hb) rfl
theorem LA {b:Nat} {ob:List (Nat×OB)} {β:Nat→Addr} (hβ: ∀c,c≠b→β c=φ.β c) {e:TE} {v:Value} (hn:Cw b e=false) (h:bD ob w φ e v):bD ob w {φ with β:=β} e v:=by
 have QW: ∀(c:ku) (u:Value),Qx b c=false→hD ob w φ c u→hD ob w {φ with β:=β} c u:=by
  intro c u hc h
  cases c with
  |ptr c=>
   simp only[hD] at h ⊢;rw[hβ c (lT hc)];exact h
  |mk a cs=>cases a<;>exact h
 cases e with
 |v t es=>
  simp only[Cw,List.any_eq_false] at hn
  cases t with
  |true=>
   obtain⟨vs,h1,h2,h3⟩:=h;refine⟨vs,h1,h2,fun k c hk=> ?_⟩;obtain⟨u,h4,h5⟩:=h3 k c hk;exact⟨u,h4,QW c u (by simpa using hn c (eD hk)) h5⟩
  |false=>
   obtain⟨c,rfl,h3⟩:=h;exact⟨c,rfl,QW c v (by simpa using hn c dM) h3⟩
 |bp c off=>
  simp only[bD] at h ⊢;rw[hβ c (lT hn)];exact h
 |fn f caps=>
  simp only[bD] at h ⊢;rw[h];have hn:=cu.1 hn
  congr 2
  refine List.map_congr_left fun c hc=> ?_;rw[hβ c fun e=>by subst e;exact hn hc]
 |_=>exact h
theorem Fc (b:Nat) (st:TS) (i:Nat):(E8 b st).get i=if Cw b (st.get i)=true then .dead else st.get i:=by
 unfold TS.get E8;simp only[mJ]
 cases aa i st.tm with
 |none=>simp
 |some e=>
  simp only[iE]
  cases Cw b e<;>simp
theorem aG.E8 (h:aG F A w0 φ st tm w) (b:Nat):aG F A w0 φ (E8 b st) tm w:=by
 refine h.less (fun i=> ?_) (fun c cs hc=> ?_) rfl
 ·rw[Fc];split<;>simp
 ·have:aa c (kz b st.bx)=some cs:=hc
  rw[eP] at this
  split at this
  ·cases this
  ·exact this
def Fp.box (φ:Fp) (b:Nat) (ad:Addr):Fp:={φ with β:=fun c=>if c=b then ad else φ.β c}
theorem oR {b:Nat} {ad:Addr}:(φ.box b ad).β b=ad:=aT rfl
theorem jq {b c:Nat} {ad:Addr} (h:c≠b):(φ.box b ad).β c=φ.β c:=aL h
theorem aG.zJ (h:aG F A w0 φ st tm w) {b:Nat} {cs:List CE} {ad:Addr} (hw:qN b=true) (hs:ad.spot=none) (hlt:ad.block<w.heap.size) (hS: ∀o,av st.ob o→ ¬φ.S o ad.block)
 (hI: ¬φ.I ad.block) (hF:w0.heap.size≤ad.block∨F ad.block) (hB: ∀b' cs',aa b' st.bx=some cs'→b'≠b→(φ.β b').block≠ad.block)
 (hc: ∀(j:Nat) (e:CE),cs[j]?=some e→ ∃v,w.cell? (ad.add j)=some v∧v.cells= #[v]∧bP st.ob w φ e v) (hf: ∀j,j<cs.length→w.frozen? (ad.add j)=false):aG F A w0 (φ.box b ad) (zJ b cs st) tm w:=by
 have pG: ∀c,aa c (T.zJ b cs st).bx=if c=b then some cs else aa c st.bx:=fun c=>by
  show aa c (jn b cs (kz b st.bx))=_;rw[cQ,eP]
  by_cases hc:c=b<;>simp[hc]
 refine⟨fun i=> ?_,fun c cs' pI j e he=> ?_,h.obj,?_,h.frm⟩
 ·show bD st.ob w (φ.box b ad) ((T.E8 b st).get i) (tm.getD i undef)
  rw[Fc]
  split
  ·trivial
  ·rename_i hn
   exact LA (fun c hc=>jq hc) (by simpa using hn) (h.tmp i)
 ·rw[pG] at pI
  by_cases hcb:c=b
  ·subst hcb
   rw[aT rfl] at pI;cases pI;rw[oR];exact hc j e he
  ·rw[aL hcb] at pI
   rw[jq hcb];exact h.box c cs' pI j e he
 ·exact {
   arg:=h.sep.arg,nz:=h.sep.nz,apart:=h.sep.apart,read:=h.sep.read,fresh:=h.sep.fresh,ro:=h.sep.ro,iQ:=h.sep.iQ
   box:=fun c cs' pI Qf=>by
    rw[pG] at pI
    by_cases hcb:c=b
    ·subst hcb
     rw[oR];refine⟨hI,hS,hF,fun b' Hh hb' hne=> ?_⟩;rw[pG,aL hne] at hb';rw[jq hne];exact hB b' Hh hb' hne
    ·rw[aL hcb] at pI
     rw[jq hcb];obtain⟨a1,a2,a3,a4⟩:=h.sep.box c cs' pI Qf;refine⟨a1,a2,a3,fun b' Hh hb' hne=> ?_⟩;rw[pG] at hb'
     by_cases hb2:b'=b
     ·subst hb2
      rw[oR];exact fun e=>hB c cs' pI hcb e.symm
     ·rw[aL hb2] at hb'
      rw[jq hb2];exact a4 b' Hh hb' hne
   spot:=fun c cs' pI=>by
    rw[pG] at pI
    by_cases hcb:c=b
    ·subst hcb
     rw[oR];exact⟨fun _=>hs,hlt,fun e=>by rw[hw] at e;cases e⟩
    ·rw[aL hcb] at pI
     rw[jq hcb];exact h.sep.spot c cs' pI
   soft:=fun c cs' j pI Qf hj=>by
    rw[pG] at pI
    by_cases hcb:c=b
    ·subst hcb
     rw[aT rfl] at pI;cases pI;rw[oR];exact hf j hj
    ·rw[aL hcb] at pI
     rw[jq hcb];exact h.sep.soft c cs' j pI Qf hj}
theorem aG.zI (h:aG F A w0 φ st tm w) {b:Nat} {cs old:List CE} (hb:aa b st.bx=some old) (wZ:qN b=true) (hl:cs.length=old.length) (hf:KB F w0 w') (hsz:w.heap.size≤w'.heap.size)
 (hw: ∀k,k<w.heap.size→k≠(φ.β b).block→w'.heap[k]?=w.heap[k]?) (hfz: ∀j,j<cs.length→w'.frozen? ((φ.β b).add j)=false)
 (hc: ∀(j:Nat) (e:CE),cs[j]?=some e→ ∃v,w'.cell? ((φ.β b).add j)=some v∧v.cells= #[v]∧bP st.ob w φ e v):aG F A w0 φ (st.zI b cs) tm w':=by
 obtain⟨b1,b2,b3,b4⟩:=h.sep.box b old hb wZ;have stI: ∀k,φ.I k→w'.heap[k]?=w.heap[k]?:=fun k hk=>hw k (h.sep.ro k hk).1 fun e=>b1 (e▸hk)
 have nA: ∀k,A.all k→k≠(φ.β b).block:=fun k hk e=>by
  subst e;have:=h.sep.iQ _ hk;rcases b3 with b3|b3
  ·omega
  ·exact this.2 b3
 have stS: ∀d k,d=0∨av st.ob d→φ.S d k→w'.heap[k]?=w.heap[k]?:=fun d k hd hk=>hw k (h.sep.lt h.frm.size hd hk) fun e=>by
  subst e;rcases hd with rfl|hd
  ·rw[h.sep.arg] at hk;exact nA _ hk rfl
  ·exact b2 d hd hk
 have own: ∀o ad n c,av st.ob o→φ.V o= .slice (some ad) n c→φ.S o ad.block:=fun o ad n c ⟨bo,ho⟩ hv=>by
  have hO:=h.obj o bo ho;unfold iT at hO;rw[hv] at hO
  cases hO with
  |sub _ _ _ _ _ _ u T k hn=>exact(k.own (by unfold OB.m;split<;>simp)).2 ad rfl|>.1
 have hV: ∀o,av st.ob o→ ∀ad n c,φ.V o= .slice (some ad) n c→ ∀i v,w.cell? (ad.add i)=some v→w'.cell? (ad.add i)=some v:=fun o ho ad n c hv i v hcell=>by
  rw[dh (w:=w)]
  ·exact hcell
  ·rw[bu];exact stS o _ (.inr ho) (own o ad n c ho hv)
 have U7: ∀e v,bP st.ob w φ e v→bP st.ob w' φ e v:=fun e v he=>he.stay stI stS hV
 have hE: ∀ds cells v,bD st.ob w φ (.ep ds cells) v→bD st.ob w' φ (.ep ds cells) v:=by
  intro ds cells v ⟨h1,ad,h2,hr,h3⟩;refine⟨h1,ad,h2,hr,fun j tc hj=> ?_⟩;obtain⟨u,h4,h5⟩:=h3 j tc hj
  have Wt:cells≠[]:=fun e=>by rw[e] at hj;simp at hj
  have stR: ∀k,rd φ ds k→w'.heap[k]?=w.heap[k]?:=fun k hk=>by
   rcases hk with hk|⟨d,hm,hk⟩
   ·exact stI k hk
   ·exact stS d k (h1 d hm) hk
  exact⟨u,by rw[dh (w:=w) (by rw[bu];exact stR _ (hr Wt))];exact h4,h5.move (fun k hk=>⟨hk,stR k hk⟩) (fun hm=>absurd rfl hm)⟩
 have hT: ∀e v,bD st.ob w φ e v→bD st.ob w' φ e v:=fun e v he=>by
  have:=bD.xG (f:=id) (g:=id) rfl U7 (fun e v hv he=>bD.stay stI stS hV (fun ad v hc hk=>by rw[dh (w:=w) (hk _ rfl)];exact hc) hE hv he) he
  have hid:qz id id e=e:=by
   have h1:=congrArg TS.tm (oP ⟨[(0,e)],[],[]⟩);simpa [pQ,mapA] using h1
  rw[hid] at this;exact this
 have pG: ∀c,aa c (st.zI b cs).bx=if c=b then some cs else aa c st.bx:=fun c=>cQ _ _ _ _
 have obox: ∀c cs',aa c st.bx=some cs'→c≠b→w'.heap[(φ.β c).block]?=w.heap[(φ.β c).block]?:=fun c cs' pI hne=>hw _ (h.sep.spot c cs' pI).2.1 (b4 c cs' pI hne);refine⟨fun i=>hT _ _ (h.tmp i),fun c cs' pI j e he=> ?_,fun o bo ho=> ?_,?_,hf⟩
 ·rw[pG] at pI
  by_cases hcb:c=b
  ·subst hcb
   rw[aT rfl] at pI;cases pI;obtain⟨v,h1,h3,h2⟩:=hc j e he;exact⟨v,h1,h3,U7 _ _ h2⟩
  ·rw[aL hcb] at pI
   obtain⟨v,h1,h3,h2⟩:=h.box c cs' pI j e he;exact⟨v,by rw[dh (w:=w) (by rw[bu];exact obox c cs' pI hcb)];exact h1,h3,U7 _ _ h2⟩
 ·exact(h.obj o bo ho).move (fun k hk=>⟨hk,stI k hk⟩) fun _ k hk=>stS o k (.inr ⟨bo,ho⟩) hk
 ·have len: ∀c cs',aa c (st.zI b cs).bx=some cs'→ ∃cs0,aa c st.bx=some cs0∧cs'.length=cs0.length:=fun c cs' pI=>by
   rw[pG] at pI
   by_cases hcb:c=b
   ·subst hcb
    rw[aT rfl] at pI;cases pI;exact⟨old,hb,hl⟩
   ·rw[aL hcb] at pI;exact⟨cs',pI,rfl⟩
  have hs:=h.sep.boxes len
  exact {
   arg:=hs.arg,nz:=hs.nz,apart:=hs.apart,read:=hs.read,iQ:=hs.iQ,box:=hs.box
   fresh:=fun o k ho hk=>⟨fJ (hs.fresh o k ho hk).1 hsz,(hs.fresh o k ho hk).2⟩
   ro:=fun k hk=>⟨fJ (hs.ro k hk).1 hsz,(hs.ro k hk).2⟩
   spot:=fun c cs' pI=>⟨(hs.spot c cs' pI).1,fJ (hs.spot c cs' pI).2.1 hsz,(hs.spot c cs' pI).2.2⟩
   soft:=fun c cs' j pI Qf hj=>by
    obtain⟨cs0,c1,c2⟩:=len c cs' pI
    by_cases hcb:c=b
    ·subst hcb
     rw[pG,aT rfl] at pI;cases pI;exact hfz j hj
    ·rw[gK (w:=w) (by rw[bu];exact obox c cs0 c1 hcb)]
     exact h.sep.soft c cs0 j c1 Qf aA}
end Go.T
namespace Go.T
variable {F : Nat → Prop} {A : Arg} {w0 w w' : World} {φ φ' : Fp} {st st' : TS} {tm xA : Array Value}
structure Ext (ob wm:List (Nat×OB)) (φ φ':Fp):Prop where
 look: ∀d b,aa d ob=some b→aa d wm=some b
 I:φ'.I=φ.I
 β:φ'.β=φ.β
 S: ∀d,d=0∨av ob d→φ'.S d=φ.S d
 V: ∀d,av ob d→φ'.V d=φ.V d
section
variable {ob wm : List (Nat × OB)}
theorem Ext.dom (x:Ext ob wm φ φ') {d:Nat} (h:av ob d):av wm d:=let ⟨b,h⟩:=h;⟨b,x.look d b h⟩
theorem Ext.rd (x:Ext ob wm φ φ') {ds:List Nat} (hd: ∀d∈ds,d=0∨av ob d) {k:Nat} (h:T.rd φ ds k):T.rd φ' ds k:=by
 rcases h with h|⟨d,hm,h⟩
 ·exact .inl (by rw[x.I];exact h)
 ·exact .inr ⟨d,hm,by rw[x.S d (hd d hm)];exact h⟩
theorem bP.ext (x:Ext ob wm φ φ') {e:CE} {v:Value} (h:bP ob w φ e v):bP wm w φ' e v:=by
 cases e with
 |ref o cut=>
  obtain⟨b,h1,h2⟩:=h;exact⟨b,x.look o b h1,by rw[x.V o ⟨b,h1⟩];exact h2⟩
 |snap ds loc z rows=>
  obtain⟨h1,h2,h3⟩:=h;refine⟨fun d hm=>(h1 d hm).imp id x.dom,h2.jJ fun k hk=>x.rd h1 hk,fun o i f hl=> ?_⟩;obtain⟨a1,b,a2,a3,a4,ad,n,c,a5,a6⟩:=h3 o i f hl;exact⟨a1,b,x.look o b a2,a3,a4,ad,n,c,by rw[x.V o ⟨b,a2⟩];exact a5,a6⟩
 |_=>exact h
theorem hD.ext (x:Ext ob wm φ φ') {c:ku} {v:Value} (h:hD ob w φ c v):hD wm w φ' c v:=by
 cases c with
 |ptr b=>simp only[hD] at h ⊢;rw[x.β];exact h
 |mk a cs=>
  cases a with
  |true=>obtain⟨xs,h1,h2,h3⟩:=h;exact⟨xs,h1,h2,fun j e he=>let ⟨y,h4,h6,h5⟩:=h3 j e he;⟨y,h4,h6,h5.ext x⟩⟩
  |false=>obtain⟨e,h1,h2,h3⟩:=h;exact⟨e,h1,h2,h3.ext x⟩
theorem bD.ext (x:Ext ob wm φ φ') {e:TE} {v:Value} (h:bD ob w φ e v):bD wm w φ' e v:=by
 cases e with
 |v t es=>
  cases t with
  |true=>obtain⟨vs,h1,h2,h3⟩:=h;exact⟨vs,h1,h2,fun j e he=>let ⟨y,h4,h5⟩:=h3 j e he;⟨y,h4,h5.ext x⟩⟩
  |false=>obtain⟨c,h1,h2⟩:=h;exact⟨c,h1,h2.ext x⟩
 |ep ds cells=>
  obtain⟨h1,ad,h2,hr,h3⟩:=h;refine⟨fun d hm=>(h1 d hm).imp id x.dom,ad,h2,fun hc=>x.rd h1 (hr hc),fun j tc hj=> ?_⟩;obtain⟨u,h4,h5⟩:=h3 j tc hj;exact⟨u,h4,h5.jJ fun k hk=>x.rd h1 hk⟩
 |er o path i f=>
  obtain⟨b,h1,h2,ad,n,c,h3,h4⟩:=h;exact⟨b,x.look o b h1,h2,ad,n,c,by rw[x.V o ⟨b,h1⟩];exact h3,h4⟩
 |bp b off=>simp only[bD] at h ⊢;rw[x.β];exact h
 |fn f caps=>simp only[bD] at h ⊢;rw[x.β];exact h
 |_=>exact h
end
def Hq:Nat→Nat→List (Nat×OB)→Prop
 |n,m,[]=>n≤m
 |n,m,(i,b)::r=>n≤i∧(b.deep=true∧b.rows=[]∧0<b.z)∧Hq (i+1) m r
theorem Hq.le: ∀{n m:Nat} {l:List (Nat×OB)},Hq n m l→n≤m
 |_,_,[],h=>h
 |_,_,(i,b)::r,h=>by have:=Hq.le h.2.2;have:=h.1;omega
theorem Hq.down {n n' m:Nat} {l:List (Nat×OB)} (h:Hq n m l) (hn:n'≤n):Hq n' m l:=by
 cases l with
 |nil=>exact nS hn h
 |cons p r=>obtain⟨i,b⟩:=p;exact⟨nS hn h.1,h.2⟩
theorem Hq.app: ∀{n m k:Nat} {l l':List (Nat×OB)},Hq n m l→Hq m k l'→Hq n k (l++l')
 |_,_,_,[],_,h,h'=>h'.down h
 |_,_,_,(i,b)::r,_,h,h'=>⟨h.1,h.2.1,h.2.2.app h'⟩
theorem Hq.mem: ∀{n m:Nat} {l:List (Nat×OB)} {i:Nat} {b:OB},Hq n m l→(i,b)∈l→n≤i∧i<m∧b.deep=true∧b.rows=[]∧0<b.z
 |n,m,(j,b')::r,i,b,h,hm=>by
  rcases bK.1 hm with e|hm
  ·cases e
   have:=h.2.2.le;exact⟨h.1,by omega,h.2.1⟩
  ·obtain⟨h1,h2,h3⟩:=h.2.2.mem hm
   exact⟨by have:=h.1;omega,h2,h3⟩
theorem AT: ∀{n m:Nat} {l:List (Nat×OB)} {ob:List (Nat×OB)},Hq n m l→(∀i b,(i,b)∈l→aa i (fZ l ob)=some b)∧ ∀d,d<n→aa d (fZ l ob)=aa d ob
 |_,_,[],ob,_=>⟨fun _ _ h=>(by cases h),fun _ _=>rfl⟩
 |n,m,(j,b')::r,ob,h=>by
  obtain⟨h1,h2⟩:=AT (ob:=ob) h.2.2;refine⟨fun i b hm=> ?_,fun d hd=> ?_⟩
  ·simp only[fZ,cQ]
   rcases bK.1 hm with e|hm
   ·cases e;rw[aT rfl]
   ·have:=(h.2.2.mem hm).1
    rw[aL aA];exact h1 i b hm
  ·have:=h.1
   simp only[fZ,cQ];rw[aL aA];exact h2 d aA
theorem xH: ∀{l:List (Nat×OB)} {ob:List (Nat×OB)} {d:Nat} {b:OB},aa d (fZ l ob)=some b→(d,b)∈l∨aa d ob=some b
 |[],_,_,_,h=> .inr h
 |(j,b')::r,ob,d,b,h=>by
  simp only[fZ,cQ] at h
  by_cases hd:d=j
  ·rw[aT hd] at h;cases h;subst hd;exact .inl (.head _)
  ·rw[aL hd] at h
   exact(xH h).imp (.tail _) id
def Rv:Value:= .slice none 0 0
def opened (N:Nat) (φ:Fp):Fp:={φ with S:=fun d k=>d<N∧φ.S d k,V:=fun d=>if d<N then φ.V d else Rv}
section
variable {ob wm : List (Nat × OB)} {N : Nat} (x : Ext ob wm φ (opened N φ))
include x
theorem xI: ∀(cs:List CE) (n:Nat),N≤n→Hq n (ee n cs).2.1 (ee n cs).2.2∧(ee n cs).1.length=cs.length∧
 ((∀i b,(i,b)∈(ee n cs).2.2→aa i wm=some b)→ ∀(j:Nat) (e':CE),(ee n cs).1[j]?=some e'→ ∃e,cs[j]?=some e∧ ∀v,bP ob w φ e v→bP wm w (opened N φ) e' v)
 |[],n,hn=>⟨bT _,rfl,fun _ j e' h=>by simp[ee] at h⟩
 |e::r,n,hn=>by
  have keep: ∀(e:CE),(∀z,Nat.ble 1 z=true→e≠ .nil z)→ee n (e::r)=(e::(ee n r).1,(ee n r).2.1,(ee n r).2.2):=by
   intro e he
   cases e with
   |nil z=>
    simp only[ee]
    cases h:Nat.ble 1 z with
    |true=>exact absurd rfl (he z h)
    |false=>rfl
   |_=>rfl
  by_cases hz: ∃z,Nat.ble 1 z=true∧e= .nil z
  ·obtain⟨z,hz,rfl⟩:=hz
   have heq:ee n (.nil z::r)=(.ref n none::(ee (n+1) r).1,(ee (n+1) r).2.1,(n,⟨true,z,[]⟩)::(ee (n+1) r).2.2):=by simp only[ee,hz]
   rw[heq];obtain⟨h1,h2,h3⟩:=xI r (n+1) aA;refine⟨⟨bT _,⟨rfl,rfl,lS hz⟩,h1⟩,by simp[h2],fun hl j e' he=> ?_⟩
   cases j with
   |zero=>
    simp only[cz,aR] at he;subst he;refine⟨_,rfl,fun v hv=>⟨_,hl n _ (.head _),?_⟩⟩
    show v=if n<N then φ.V n else Rv
    rw[aL aA];exact hv.1
   |succ j=>
    simp only[lR] at he ⊢;exact h3 (fun i b hm=>hl i b (.tail _ hm)) j e' he
  ·rw[keep e fun z QY he=>hz ⟨z,QY,he⟩]
   obtain⟨h1,h2,h3⟩:=xI r n hn;refine⟨h1,by simp[h2],fun hl j e' he=> ?_⟩
   cases j with
   |zero=>
    simp only[cz,aR] at he;subst he;exact⟨_,rfl,fun v hv=>hv.ext x⟩
   |succ j=>
    simp only[lR] at he ⊢;exact h3 hl j e' he
theorem sj: ∀(cs:List ku) (n:Nat),N≤n→Hq n (dK n cs).2.1 (dK n cs).2.2∧(dK n cs).1.length=cs.length∧
 ((∀i b,(i,b)∈(dK n cs).2.2→aa i wm=some b)→ ∀(j:Nat) (e':ku),(dK n cs).1[j]?=some e'→ ∃e,cs[j]?=some e∧ ∀v,hD ob w φ e v→hD wm w (opened N φ) e' v)
 |[],n,hn=>⟨bT _,rfl,fun _ j e' h=>by simp[dK] at h⟩
 | .ptr b::r,n,hn=>by
   obtain⟨h1,h2,h3⟩:=sj r n hn;refine⟨h1,by simp[dK,h2],fun hl j e' he=> ?_⟩
   cases j with
   |zero=>
    simp only[dK,cz,aR] at he;subst he;exact⟨_,rfl,fun v hv=>hv.ext x⟩
   |succ j=>
    simp only[dK,lR] at he ⊢;exact h3 hl j e' he
 | .mk a cs::r,n,hn=>by
   obtain⟨g1,g2,g3⟩:=xI (w:=w) x cs n hn;obtain⟨h1,h2,h3⟩:=sj r (ee n cs).2.1 (nS hn g1.le);refine⟨g1.app h1,by simp[dK,h2],fun hl j e' he=> ?_⟩
   cases j with
   |zero=>
    simp only[dK,cz,aR] at he;subst he;refine⟨_,rfl,fun v hv=> ?_⟩;have g4:=g3 fun i b hm=>hl i b (fe _ hm)
    cases a with
    |true=>
     obtain⟨xs,k1,k2,k3⟩:=hv;refine⟨xs,k1,by rw[g2];exact k2,fun j e' he=> ?_⟩;obtain⟨e,k4,k5⟩:=g4 j e' he;obtain⟨y,k6,k8,k7⟩:=k3 j e k4;exact⟨y,k6,k8,k5 y k7⟩
    |false=>
     obtain⟨e,rfl,k2,k3⟩:=hv;have hlen:(ee n [e]).1.length=1:=g2
     obtain⟨e',he'⟩: ∃e',(ee n [e]).1=[e']:=by
      cases hq:(ee n [e]).1 with
      |nil=>rw[hq] at hlen;cases hlen
      |cons y t=>cases t with
       |nil=>exact⟨y,rfl⟩
       |cons _ _=>rw[hq] at hlen;simp at hlen
     obtain⟨e0,k4,k5⟩:=g4 0 e' (by rw[he'];rfl);simp only[cz,aR] at k4;subst k4;exact⟨e',he',k2,k5 v k3⟩
   |succ j=>
    simp only[dK,lR] at he ⊢;exact h3 (fun i b hm=>hl i b (jv _ hm)) j e' he
theorem LB (e:TE) (n:Nat) (hn:N≤n):Hq n (xF n e).2.1 (xF n e).2.2∧
 ((∀i b,(i,b)∈(xF n e).2.2→aa i wm=some b)→ ∀v,bD ob w φ e v→bD wm w (opened N φ) (xF n e).1 v):=by
 cases e with
 |v t es=>
  obtain⟨h1,h2,h3⟩:=sj (w:=w) x es n hn;refine⟨h1,fun hl v hv=> ?_⟩;have h4:=h3 hl;simp only[xF]
  cases t with
  |true=>
   obtain⟨vs,k1,k2,k3⟩:=hv;refine⟨vs,k1,by rw[h2];exact k2,fun j e' he=> ?_⟩;obtain⟨e,k4,k5⟩:=h4 j e' he;obtain⟨y,k6,k7⟩:=k3 j e k4;exact⟨y,k6,k5 y k7⟩
  |false=>
   obtain⟨c,rfl,k1⟩:=hv;have hlen:(dK n [c]).1.length=1:=h2
   obtain⟨e',he'⟩: ∃e',(dK n [c]).1=[e']:=by
    cases hq:(dK n [c]).1 with
    |nil=>rw[hq] at hlen;cases hlen
    |cons y t=>cases t with
     |nil=>exact⟨y,rfl⟩
     |cons _ _=>rw[hq] at hlen;simp at hlen
   obtain⟨e0,k4,k5⟩:=h4 0 e' (by rw[he'];rfl);simp only[cz,aR] at k4;subst k4;exact⟨e',he',k5 v k1⟩
 |kb b=>
  refine⟨bT _,fun _ v hv=> ?_⟩;simp only[bD] at hv;subst hv;exact⟨_,rfl,_,rfl,rfl,rfl,trivial⟩
 |_=>exact⟨bT _,fun _ v hv=>hv.ext x⟩
theorem CH: ∀(l:List (Nat×TE)) (n:Nat),N≤n→(∃m,Hq n m (qW n l).2)∧
 ((∀i b,(i,b)∈(qW n l).2→aa i wm=some b)→ ∀(i:Nat) (e':TE),aa i (qW n l).1=some e'→ ∃e,aa i l=some e∧ ∀v,bD ob w φ e v→bD wm w (opened N φ) e' v)
 |[],n,hn=>⟨⟨n,bT _⟩,fun _ i e' h=>by simp[qW,aa] at h⟩
 |(j,e)::r,n,hn=>by
  obtain⟨g1,g2⟩:=LB (w:=w) x e n hn;obtain⟨⟨m,h1⟩,h2⟩:=CH r (xF n e).2.1 (nS hn g1.le);refine⟨⟨m,g1.app h1⟩,fun hl i e' he=> ?_⟩;simp only[qW,aa] at he ⊢
  cases hj:Nat.beq j i with
  |true=>
   rw[hj] at he;simp only[aR] at he;subst he;exact⟨e,rfl,g2 fun i b hm=>hl i b (fe _ hm)⟩
  |false=>
   rw[hj] at he;exact h2 (fun i b hm=>hl i b (jv _ hm)) i e' he
end
theorem HM {n:Nat}: ∀{ob:List (Nat×OB)},HH n ob=true→ ∀o,av ob o→o<n
 |[],_,o,⟨b,h⟩=>by cases h
 |(i,x)::r,ha,o,⟨b,h⟩=>by
  simp only[HH] at ha
  cases h1:Nat.ble n i with
  |true=>rw[h1] at ha;cases ha
  |false=>
   rw[h1] at ha;simp only[aa] at h
   cases h2:Nat.beq i o with
   |true=>
    have:=eB h2;subst this
    exact Nat.lt_of_not_le fun h3=>by rw[Cs h3] at h1;cases h1
   |false=>rw[h2] at h;exact HM ha o ⟨b,h⟩
theorem aG.HI (h:aG F A w0 φ st tm w): ∃φ',aG F A w0 φ' (HI st) tm w∧φ'.β=φ.β:=by
 unfold T.HI
 cases ha:HH 900000000 st.ob with
 |false=>exact⟨φ,h,rfl⟩
 |true=>
  have hlt:=HM ha
  have x1: ∀wm,(∀d b,aa d st.ob=some b→aa d wm=some b)→Ext st.ob wm φ (opened 900000000 φ):=fun wm hl=>
   ⟨hl,rfl,rfl,fun d hd=>by
     have:d<900000000:=hd.elim (fun e=>by omega) (hlt d)
     funext k
     simp[opened,this],fun d hd=>aT (hlt d hd)⟩
  obtain⟨⟨m,R4⟩,_⟩:=CH (w:=w) (x1 st.ob fun _ _ h=>h) st.tm 900000000 (bT _);obtain⟨l1,l2⟩:=AT (ob:=st.ob) R4
  have x:Ext st.ob (fZ (qW 900000000 st.tm).2 st.ob) φ (opened 900000000 φ):=x1 _ fun d b hd=>by rw[l2 d (hlt d ⟨b,hd⟩)];exact hd
  obtain⟨_,hT⟩:=CH (w:=w) x st.tm 900000000 (bT _);have hT:=hT l1
  have old: ∀d,av (fZ (qW 900000000 st.tm).2 st.ob) d→(d<900000000∧av st.ob d)∨900000000≤d:=fun d ⟨b,hd⟩=>by
   rcases xH hd with h1|h1
   ·exact .inr (R4.mem h1).1
   ·exact .inl ⟨hlt d ⟨b,h1⟩,b,h1⟩
  have oldS: ∀d k,av (fZ (qW 900000000 st.tm).2 st.ob) d→(opened 900000000 φ).S d k→av st.ob d∧φ.S d k:=fun d k hd hk=>by
   rcases old d hd with h1|h1
   ·exact⟨h1.2,hk.2⟩
   ·exact absurd hk.1 aA
  refine⟨opened 900000000 φ,⟨fun i=> ?_,fun b cs hb j e he=> ?_,fun o b ho=> ?_,?_,h.frm⟩,rfl⟩
  ·show bD (fZ (qW 900000000 st.tm).2 st.ob) w (opened 900000000 φ) (match aa i (qW 900000000 st.tm).1 with|some e=>e|none=> .dead) (tm.getD i undef)
   cases hi:aa i (qW 900000000 st.tm).1 with
   |none=>trivial
   |some e'=>
    obtain⟨e,h1,h2⟩:=hT i e' hi;have:=h.tmp i;unfold TS.get at this;rw[h1] at this;exact h2 _ this
  ·obtain⟨v,h1,h3,h2⟩:=h.box b cs hb j e he
   exact⟨v,h1,h3,h2.ext x⟩
  ·unfold iT
   rcases xH ho with h1|h1
   ·obtain⟨a1,a2,a3,a4,a5⟩:=R4.mem h1
    obtain⟨bd,bz,br⟩:=b;simp only at a3 a4 a5;subst a3 a4;have hv:(opened 900000000 φ).V o=Rv:=aL aA;rw[hv]
    refine ah.sub _ _ bz [] none 0 (fun _ _=>default) (fun _ _ _=>False) ⟨bT _,AR _,a5,fun r hr=>(by cases hr),fun hr=>absurd rfl hr,fun _ ha=>(by cases ha),fun _ _ ha=>(by cases ha),
     fun _=>⟨fun _=>rfl,fun _ ha=>(by cases ha)⟩,fun _ _ _ ha=>(by cases ha),fun _ _ _ _ hk=>hk.elim⟩ fun i f tc ht=>absurd rfl (zS ht)
   ·have hd:=hlt o ⟨b,h1⟩
    have:=h.obj o b h1;unfold iT at this;rw[x.V o ⟨b,h1⟩,x.S o (.inr ⟨b,h1⟩)];exact this
  ·exact {
    arg:=by rw[x.S 0 (.inl rfl)];exact h.sep.arg
    nz:=fun o ho e=>by
     rcases old o ho with h1|h1
     ·exact h.sep.nz o h1.2 e
     ·omega
    apart:=fun o o' k h1 h2 h3 h4=>h.sep.apart o o' k (oldS o k h1 h3).1 (oldS o' k h2 h4).1 (oldS o k h1 h3).2 (oldS o' k h2 h4).2
    read:=fun o k h1 h2=>h.sep.read o k (oldS o k h1 h2).1 (oldS o k h1 h2).2
    fresh:=fun o k h1 h2=>h.sep.fresh o k (oldS o k h1 h2).1 (oldS o k h1 h2).2
    ro:=h.sep.ro
    iQ:=h.sep.iQ
    box:=fun b cs hb hw=>by
     obtain⟨a1,a2,a3,a4⟩:=h.sep.box b cs hb hw;exact⟨a1,fun o ho hk=>a2 o (oldS o _ ho hk).1 (oldS o _ ho hk).2,a3,a4⟩
    spot:=h.sep.spot
    soft:=h.sep.soft}
end Go.T
namespace Go.T
variable {F : Nat → Prop} {A : Arg} {w0 w w' : World} {φ φ' : Fp} {st st' : TS} {tm xA : Array Value}
structure CI (n:Nat) (ρ:List (Nat×Nat)):Prop where
 rng: ∀o m,(o,m)∈ρ→1≤m∧m<n∧o≠0
 apart:ρ.Pairwise fun a b=>a.1≠b.1∧a.2≠b.2
theorem e7 {α:Type} {o:Nat} {m:α}: ∀{ρ:List (Nat×α)},aa o ρ=some m→(o,m)∈ρ
 |(a,x)::r,h=>by
  simp only[aa] at h
  cases h1:Nat.beq a o with
  |true=>
   rw[h1] at h
   cases h
   have:=eB h1;subst this;exact .head _
  |false=>rw[h1] at h;exact .tail _ (e7 h)
theorem nF {α:Type} {o:Nat}: ∀{ρ:List (Nat×α)},aa o ρ=none→ ∀m,(o,m)∉ρ
 |[],_,_=>by simp
 |(a,x)::r,h,m=>by
  simp only[aa] at h
  cases h1:Nat.beq a o with
  |true=>rw[h1] at h;cases h
  |false=>
   rw[h1] at h;intro hm;rcases bK.1 hm with e|hm
   ·cases e;exact lT h1 rfl
   ·exact nF h m hm
theorem vf {n o m:Nat}: ∀{ρ:List (Nat×Nat)},(ρ.Pairwise fun a b=>a.1≠b.1∧a.2≠b.2)→(o,m)∈ρ→aa o ρ=some m
 |(a,x)::r,h,hm=>by
  simp only[aa];rw[List.pairwise_cons] at h;rcases bK.1 hm with e|hm
  ·cases e;rw[va]
  ·have:=(h.1 _ hm).1
   rw[beq_false this];exact vf (n:=n) h.2 hm
theorem wE: ∀(l:List Nat) (n:Nat) (ρ:List (Nat×Nat)),1≤n→CI n ρ→ ∃n',CI n' (number l n ρ)∧(∀o m,aa o ρ=some m→aa o (number l n ρ)=some m)∧ ∀o∈l,o≠0→ ∃m,aa o (number l n ρ)=some m
 |[],n,ρ,_,h=>⟨n,h,fun _ _ h=>h,fun _ h=>by cases h⟩
 |o::r,n,ρ,hn,h=>by
  simp only[number]
  cases h0:Nat.beq o 0 with
  |true=>
   obtain⟨n',h1,h2,h3⟩:=wE r n ρ hn h;refine⟨n',h1,h2,fun p hp Sx=> ?_⟩;rcases bK.1 hp with e|hp
   ·exact absurd (e.trans (eB h0)) Sx
   ·exact h3 p hp Sx
  |false=>
   have h0:=lT h0
   cases hl:aa o ρ with
   |some m=>
    obtain⟨n',h1,h2,h3⟩:=wE r n ρ hn h;refine⟨n',h1,h2,fun p hp Sx=> ?_⟩;rcases bK.1 hp with e|hp
    ·subst e;exact⟨m,h2 _ _ hl⟩
    ·exact h3 p hp Sx
   |none=>
    have hk:CI (n+1) ((o,n)::ρ):=by
     refine⟨fun p m hm=> ?_,List.pairwise_cons.2 ⟨fun a ha=>⟨fun e=> ?_,fun e=> ?_⟩,h.apart⟩⟩
     ·rcases bK.1 hm with e|hm
      ·cases e;exact⟨hn,by omega,h0⟩
      ·have:=h.rng p m hm;exact⟨this.1,by omega,this.2.2⟩
     ·obtain⟨a1,a2⟩:=a
      simp only at e;subst e;exact nF hl a2 ha
     ·obtain⟨a1,a2⟩:=a
      simp only at e;have:=(h.rng a1 a2 ha).2.1;omega
    obtain⟨n',h1,h2,h3⟩:=wE r (n+1) ((o,n)::ρ) aA hk
    have Wu:aa o ((o,n)::ρ)=some n:=by simp only[aa,va]
    refine⟨n',h1,fun p m hp=>h2 p m ?_,fun p hp Sx=> ?_⟩
    ·simp only[aa]
     rw[beq_false fun e=>by subst e;rw[hl] at hp;cases hp];exact hp
    ·rcases bK.1 hp with e|hp
     ·subst e;exact⟨n,h2 _ _ Wu⟩
     ·exact h3 p hp Sx
theorem QC {o o' m:Nat}: ∀{ρ:List (Nat×Nat)},(ρ.Pairwise fun a b=>a.1≠b.1∧a.2≠b.2)→(o,m)∈ρ→(o',m)∈ρ→o=o'
 |p::r,h,h1,h2=>by
  rw[List.pairwise_cons] at h;rcases bK.1 h1 with e1|h1
  ·rcases bK.1 h2 with e2|h2
   ·rw[←e1] at e2;cases e2;rfl
   ·exact absurd (by rw[←e1]) (h.1 _ h2).2
  ·rcases bK.1 h2 with e2|h2
   ·exact absurd (by rw[←e2]) (h.1 _ h1).2
   ·exact QC h.2 h1 h2
def inv (ρ:List (Nat×Nat)) (m:Nat):Nat:=match ρ.find? fun p=>Nat.beq p.2 m with|some p=>p.1|none=>0
theorem inv_eq {n o m:Nat} {ρ:List (Nat×Nat)} (h:CI n ρ) (hl:aa o ρ=some m):inv ρ m=o:=by
 unfold inv;have hm:=e7 hl
 cases hf:ρ.find? fun p=>Nat.beq p.2 m with
 |none=>
  have:=List.find?_eq_none.1 hf _ hm;simp at this
 |some p=>
  have h1:=List.mem_of_find?_eq_some hf;have h2:=List.find?_some hf;have h2:=eB h2;simp only;obtain⟨p1,p2⟩:=p;simp only at h2;subst h2;exact QC h.apart h1 hm
theorem inv_zero {n:Nat} {ρ:List (Nat×Nat)} (h:CI n ρ):inv ρ 0=0:=by
 unfold inv
 cases hf:ρ.find? fun p=>Nat.beq p.2 0 with
 |none=>rfl
 |some p=>
  have h1:=List.mem_of_find?_eq_some hf;have h2:=List.find?_some hf;have h2:=eB h2;obtain⟨p1,p2⟩:=p;have:=(h.rng p1 p2 h1).1;simp only at h2;omega
theorem yG {o m:Nat} {ρ:List (Nat×Nat)} (hl:aa o ρ=some m):zN ρ o=m:=by unfold zN;rw[hl]
theorem Fe {n:Nat} {ρ:List (Nat×Nat)} (h:CI n ρ):zN ρ 0=0:=by
 unfold zN
 cases hl:aa 0 ρ with
 |none=>rfl
 |some m=>exact absurd rfl (h.rng 0 m (e7 hl)).2.2
theorem yH {ob:List (Nat×OB)} {m:Nat} {b:OB}: ∀{ρ:List (Nat×Nat)},aa m (nV ob ρ)=some b→ ∃o,(o,m)∈ρ∧aa o ob=some b
 |(o,n)::r,h=>by
  simp only[nV] at h
  cases ho:aa o ob with
  |none=>
   rw[ho] at h;obtain⟨o',h1,h2⟩:=yH h;exact⟨o',.tail _ h1,h2⟩
  |some b'=>
   rw[ho] at h;simp only[cQ] at h
   by_cases hm:m=n
   ·rw[aT hm] at h;cases h;subst hm;exact⟨o,.head _,ho⟩
   ·rw[aL hm] at h
    obtain⟨o',h1,h2⟩:=yH h;exact⟨o',.tail _ h1,h2⟩
theorem HN {ob:List (Nat×OB)} {o m:Nat} {b:OB} (ho:aa o ob=some b): ∀{ρ:List (Nat×Nat)},(ρ.Pairwise fun a b=>a.1≠b.1∧a.2≠b.2)→(o,m)∈ρ→aa m (nV ob ρ)=some b
 |(o',n)::r,h,hm=>by
  rw[List.pairwise_cons] at h;simp only[nV];rcases bK.1 hm with e|hm
  ·cases e
   rw[ho];simp only[cQ,aT]
  ·have h1:=(h.1 _ hm).2
   have ih:=HN ho h.2 hm
   cases ho':aa o' ob with
   |none=>exact ih
   |some b'=>
    simp only[cQ];rw[aL (Ne.symm h1)];exact ih
def Fp.HO (φ:Fp) (ρ:List (Nat×Nat)):Fp:={φ with S:=fun m=>φ.S (inv ρ m),V:=fun m=>φ.V (inv ρ m)}
section
variable {ob : List (Nat × OB)} {n : Nat} {ρ : List (Nat × Nat)} (hρ : CI n ρ)
include hρ
theorem yI {o m:Nat} {b:OB} (hm:aa o ρ=some m) (ho:aa o ob=some b):aa m (nV ob ρ)=some b:=HN ho hρ.apart (e7 hm)
theorem MQ {o m:Nat} (hm:aa o ρ=some m):(φ.HO ρ).S m=φ.S o:=by show φ.S (inv ρ m)=_;rw[inv_eq hρ hm]
theorem KD {o m:Nat} (hm:aa o ρ=some m):(φ.HO ρ).V m=φ.V o:=by show φ.V (inv ρ m)=_;rw[inv_eq hρ hm]
theorem MR:(φ.HO ρ).S 0=φ.S 0:=by show φ.S (inv ρ 0)=_;rw[inv_zero hρ]
theorem MS {ds:List Nat} (hz: ∀d,av ob d→d≠0) (hd: ∀d∈ds,d=0∨av ob d) (hc: ∀o∈ds,o≠0→ ∃m,aa o ρ=some m):
 (∀d∈ds.map (zN ρ),d=0∨av (nV ob ρ) d)∧ ∀k,rd φ ds k→rd (φ.HO ρ) (ds.map (zN ρ)) k:=by
 refine⟨fun d hm=> ?_,fun k hk=> ?_⟩
 ·obtain⟨o,h1,rfl⟩:=List.mem_map.1 hm
  rcases hd o h1 with rfl|h2
  ·exact .inl (Fe hρ)
  ·obtain⟨m,h3⟩:=hc o h1 (hz o h2)
   obtain⟨b,h4⟩:=h2;rw[yG h3];exact .inr ⟨b,yI hρ h3 h4⟩
 ·rcases hk with hk|⟨d,hm,hk⟩
  ·exact .inl hk
  ·refine .inr ⟨zN ρ d,List.mem_map_of_mem hm,?_⟩
   rcases hd d hm with rfl|h2
   ·rw[Fe hρ,MR hρ];exact hk
   ·obtain⟨m,h3⟩:=hc d hm (hz d h2)
    rw[yG h3,MQ hρ h3];exact hk
theorem bP.HO (hz: ∀d,av ob d→d≠0) {e:CE} {v:Value} (hc: ∀o∈dD e,o≠0→ ∃m,aa o ρ=some m) (h:bP ob w φ e v):bP (nV ob ρ) w (φ.HO ρ) (yF ρ e) v:=by
 cases e with
 |ref o cut=>
  obtain⟨b,h1,h2⟩:=h;obtain⟨m,h3⟩:=hc o (by simp[dD]) (hz o ⟨b,h1⟩);simp only[yF];rw[yG h3];exact⟨b,yI hρ h3 h1,by rw[KD hρ h3];exact h2⟩
 |snap ds loc z rows=>
  obtain⟨h1,h2,h3⟩:=h;obtain⟨g1,g2⟩:=MS hρ (φ:=φ) hz h1 hc;refine⟨g1,h2.jJ g2,fun o i f hl=> ?_⟩
  cases loc with
  |none=>cases hl
  |some q=>
   obtain⟨o',i',f'⟩:=q;simp only[aR,sV] at hl;obtain⟨rfl,rfl,rfl⟩:=hl;obtain⟨a1,b,a2,a3,a4,ad,n,c,a5,a6⟩:=h3 o' i' f' rfl;obtain⟨m,a7⟩:=hc o' a1 (hz o' ⟨b,a2⟩);refine⟨List.mem_map_of_mem a1,?_⟩;rw[yG a7];exact⟨b,yI hρ a7 a2,a3,a4,ad,n,c,by rw[KD hρ a7];exact a5,a6⟩
 |_=>exact h
theorem bD.HO (hz: ∀d,av ob d→d≠0) {e:TE} {v:Value} (hc: ∀o∈qA e,o≠0→ ∃m,aa o ρ=some m) (h:bD ob w φ e v):bD (nV ob ρ) w (φ.HO ρ) (qz (yF ρ) (MG ρ) e) v:=by
 have comp: ∀(c:ku) (u:Value),(∀o∈eO [c],o≠0→ ∃m,aa o ρ=some m)→hD ob w φ c u→hD (nV ob ρ) w (φ.HO ρ) (oO (yF ρ) c) u:=by
  intro c u hc h
  cases c with
  |ptr b=>exact h
  |mk a cs=>
   simp only[eO,ke] at hc;have OQ: ∀e∈cs,∀o∈dD e,o≠0→ ∃m,aa o ρ=some m:=fun e he o ho=>hc o (List.mem_flatMap.2 ⟨e,he,ho⟩)
   cases a with
   |true=>
    obtain⟨xs,h1,h2,h3⟩:=h;refine⟨xs,h1,by simp[h2],fun j e he=> ?_⟩;rw[gG] at he
    cases h4:cs[j]? with
    |none=>rw[h4] at he;cases he
    |some e0=>
     rw[h4] at he;simp only[iE,aR] at he;subst he;obtain⟨x,hx,hx1,hok⟩:=h3 j e0 h4;exact⟨x,hx,hx1,hok.HO hρ hz (OQ e0 (eD h4))⟩
   |false=>
    obtain⟨e,rfl,h2,h3⟩:=h;exact⟨_,rfl,h2,h3.HO hρ hz (OQ e dM)⟩
 have dcomp: ∀(es:List ku) (c:ku),c∈es→ ∀o,o∈eO [c]→o∈eO es:=by
  intro es
  induction es with
  |nil=>intro c hc;cases hc
  |cons x r ih=>
   intro c hc o ho;rcases bK.1 hc with rfl|hc
   ·cases c with
    |ptr b=>simp[eO] at ho
    |mk a cs=>
     simp only[eO,ke] at ho;simp only[eO];exact fe _ ho
   ·have:=ih c hc o ho
    cases x with
    |ptr b=>exact this
    |mk a cs=>simp only[eO];exact jv _ this
 cases e with
 |v t es=>
  cases t with
  |true=>
   obtain⟨vs,h1,h2,h3⟩:=h;refine⟨vs,h1,by rw[kT];exact h2,fun k c hk=> ?_⟩;rw[ot] at hk
   cases h4:es[k]? with
   |none=>rw[h4] at hk;cases hk
   |some c0=>
    rw[h4] at hk;simp only[iE,aR] at hk;obtain⟨u,hu,hok⟩:=h3 k c0 h4;exact⟨u,hu,by rw[←hk];exact comp c0 u (fun o ho=>hc o (dcomp es c0 (eD h4) o ho)) hok⟩
  |false=>
   obtain⟨c,rfl,hok⟩:=h;refine⟨oO (yF ρ) c,?_,comp c v hc hok⟩
   cases c<;>rfl
 |ep ds cells=>
  obtain⟨h1,ad,h2,hr,h3⟩:=h;obtain⟨g1,g2⟩:=MS hρ (φ:=φ) hz h1 hc;refine⟨g1,ad,h2,fun hne=>g2 _ (hr hne),fun j tc hj=> ?_⟩;obtain⟨u,h4,h5⟩:=h3 j tc hj;exact⟨u,h4,h5.jJ g2⟩
 |er o path i f=>
  obtain⟨b,h1,h2,ad,n,c,h3,h4⟩:=h;obtain⟨m,h5⟩:=hc o (by simp[qA]) (hz o ⟨b,h1⟩);show bD (nV ob ρ) w (φ.HO ρ) (.er (zN ρ o) path i f) v;rw[yG h5];exact⟨b,yI hρ h5 h1,h2,ad,n,c,by rw[KD hρ h5];exact h3,h4⟩
 |_=>exact h
end
theorem aG.canon (h:aG F A w0 φ st tm w): ∃φ',aG F A w0 φ' (canon st) tm w∧φ'.β=φ.β:=by
 obtain⟨n,hρ,_,hall⟩:=wE (Ro st) 1 [] (bT _) ⟨fun _ _ h=>(by cases h),List.Pairwise.nil⟩;unfold T.canon SP;generalize number (Ro st) 1 []=ρ at hρ hall;have hz:=h.sep.nz
 have dom: ∀m,av (nV st.ob ρ) m→ ∃o,aa o ρ=some m∧av st.ob o:=fun m ⟨b,hm⟩=>by
  obtain⟨o,h1,h2⟩:=yH hm;exact⟨o,vf (n:=n) hρ.apart h1,b,h2⟩
 have domS: ∀m k,av (nV st.ob ρ) m→(φ.HO ρ).S m k→ ∃o,aa o ρ=some m∧av st.ob o∧φ.S o k:=fun m k hm hk=>by
  obtain⟨o,h1,h2⟩:=dom m hm;rw[MQ hρ h1] at hk;exact⟨o,h1,h2,hk⟩
 refine⟨φ.HO ρ,⟨fun i=> ?_,fun b cs hb j e he=> ?_,fun m b hm=> ?_,?_,h.frm⟩,rfl⟩
 ·show bD (nV st.ob ρ) w (φ.HO ρ) (match aa i (mapA (qz (yF ρ) (MG ρ)) st.tm) with|some e=>e|none=> .dead) (tm.getD i undef)
  rw[mJ]
  cases hi:aa i st.tm with
  |none=>trivial
  |some e=>
   have:=h.tmp i;unfold TS.get at this;rw[hi] at this;exact this.HO hρ hz fun o ho Tm=>hall o (fe _ (List.mem_flatMap.2 ⟨_,e7 hi,ho⟩)) Tm
 ·simp only[mJ] at hb
  cases h1:aa b st.bx with
  |none=>rw[h1] at hb;cases hb
  |some cs0=>
   rw[h1] at hb;simp only[iE,aR] at hb;subst hb;rw[gG] at he
   cases h2:cs0[j]? with
   |none=>rw[h2] at he;cases he
   |some e0=>
    rw[h2] at he;simp only[iE,aR] at he;subst he;obtain⟨v,h3,h5,h4⟩:=h.box b cs0 h1 j e0 h2;exact⟨v,h3,h5,h4.HO hρ hz fun o ho Tm=>hall o (jv _ (List.mem_flatMap.2 ⟨_,e7 h1,List.mem_flatMap.2 ⟨e0,eD h2,ho⟩⟩)) Tm⟩
 ·obtain⟨o,h1,h2⟩:=yH hm
  have h1:=vf (n:=n) hρ.apart h1;unfold iT;rw[MQ hρ h1,KD hρ h1];exact h.obj o b h2
 ·have hs:=h.sep.boxes (dW (yF ρ))
  exact {
   arg:=by rw[MR hρ];exact h.sep.arg
   nz:=fun m hm e=>by
    obtain⟨o,h1,_⟩:=dom m hm;have:=(hρ.rng o m (e7 h1)).1;omega
   apart:=fun m m' k h1 h2 h3 h4=>by
    obtain⟨o,a1,a2,a3⟩:=domS m k h1 h3;obtain⟨o',b1,b2,b3⟩:=domS m' k h2 h4;have:=h.sep.apart o o' k a2 b2 a3 b3;subst this;rw[a1] at b1;cases b1;rfl
   read:=fun m k h1 h2=>by obtain⟨o,a1,a2,a3⟩:=domS m k h1 h2;exact h.sep.read o k a2 a3
   fresh:=fun m k h1 h2=>by obtain⟨o,a1,a2,a3⟩:=domS m k h1 h2;exact h.sep.fresh o k a2 a3
   ro:=hs.ro
   iQ:=hs.iQ
   box:=fun b cs hb hw=>by
    obtain⟨a1,a2,a3,a4⟩:=hs.box b cs hb hw;refine⟨a1,fun m hm hk=> ?_,a3,a4⟩;obtain⟨o,c1,c2,c3⟩:=domS m _ hm hk;exact a2 o c2 c3
   spot:=hs.spot
   soft:=hs.soft}
theorem aG.head (h:aG F A w0 φ st tm w) (l:List Nat):Rel F A w0 (HJ l st) tm w:=by
 obtain⟨φ1,h1,_⟩:=(h.SR l).HI;obtain⟨φ2,h2,_⟩:=h1.canon;exact⟨φ2,h2⟩
end Go.T
