import Derived.Below
import Derived.WalkKit
import Derived.Laws.AppendOwn
import Derived.DataElems
namespace Go.T
theorem tT {P Q:Prop} (h:P:=by rfl) (k:Q:=by trivial):P∧Q:=⟨h,k⟩
theorem Sj {P:Prop} (h:P:=by first|rfl|(simp;done)|(simp;omega)):P:=h
theorem az {P:Prop} (h:P:=by omega):P:=h
theorem MF {P:Prop} (h:P:=by assumption):P:=h
theorem rZ {P:Prop} (h:P:=by simp;omega):P:=h
theorem ov {P:Prop} (h:P:=by simp<;>omega):P:=h
theorem dh {P:Prop} (h:P:=by simp):P:=h
theorem Sk {P:Prop} (h:P:=by trivial):P:=h
theorem Q3 {P:Prop} (h:P:=by rfl):P:=h
abbrev ko:= @Array.getD_eq_getD_getElem?
abbrev lq:= @Array.getElem?_eq_getElem
abbrev AF:= @Array.getElem?_setIfInBounds
abbrev CT:= @Array.getElem?_toList
abbrev nH:= @Array.length_toList
abbrev cJ:= @Bool.and_eq_true
abbrev o8:= @Bool.and_true
abbrev tU:= @Bool.false_eq_true
abbrev yl:= @Bool.false_or
abbrev o9:= @Bool.not_eq_true'
abbrev AG:= @Bool.not_true
abbrev fA:= @Bool.true_and
abbrev si:= @Int.ofNat_eq_natCast
abbrev Hh:= @Int.toNat_natCast
abbrev tV:= @List.all_cons
abbrev AH:= @List.all_nil
abbrev sj:= @List.append_assoc
abbrev lu:= @List.append_nil
abbrev sk:= @List.cons_append
abbrev CU:= @List.drop_eq_getElem_cons
abbrev mh:= @List.drop_length
abbrev AI:= @List.drop_of_length_le
abbrev sn:= @List.eq_nil_of_length_eq_zero
abbrev Fo:= @List.flatten_append
abbrev qn:= @List.flatten_cons
abbrev ym:= @List.getD_eq_getElem?_getD
abbrev e9:= @List.getElem?_append_left
abbrev fZ:= @List.getElem?_append_right
abbrev ju:= @List.getElem?_cons_succ
abbrev bK:= @List.getElem?_cons_zero
abbrev iL:= @List.getElem?_drop
abbrev aO:= @List.getElem?_eq_getElem
abbrev M8:= @List.getElem?_eq_none
abbrev ei:= @List.getElem?_map
abbrev wI:= @List.getElem?_take
abbrev qo:= @List.getElem_mem
abbrev cE:= @List.length_append
abbrev dL:= @List.length_cons
abbrev pg:= @List.length_drop
abbrev KO:= @List.length_filter_le
abbrev dH:= @List.length_map
abbrev lz:= @List.length_singleton
abbrev g7:= @List.length_take
abbrev yo:= @List.map_append
abbrev AJ:= @List.map_drop
abbrev CV:= @List.map_take
abbrev dD:= @List.mem_append_left
abbrev ga:= @List.mem_append_right
abbrev bC:= @List.mem_cons
abbrev dw:= @List.mem_of_getElem?
abbrev yp:= @List.mem_of_mem_drop
abbrev wJ:= @List.mem_of_mem_take
abbrev eG:= @List.mem_singleton
abbrev mj:= @List.nil_append
abbrev Hi:= @List.take_append_drop
abbrev Hj:= @List.take_length
abbrev KP:= @List.take_of_length_le
abbrev mm:= @Nat.add_assoc
abbrev jT:= @Nat.add_mul
abbrev jU:= @Nat.add_zero
abbrev yq:= @Nat.ble_eq_true_of_le
abbrev tW:= @Nat.div_add_mod'
abbrev cY:= @Nat.eq_of_beq_eq_true
abbrev AK:= @Nat.le_max_left
abbrev iX:= @Nat.le_of_ble_eq_true
abbrev bE:= @Nat.le_refl
abbrev kr:= @Nat.le_trans
abbrev dI:= @Nat.lt_of_lt_of_le
abbrev nI:= @Nat.min
abbrev iM:= @Nat.mul_le_mul_right
abbrev iY:= @Nat.ne_of_beq_eq_false
abbrev pk:= @Nat.sub_self
abbrev yt:= @Nat.succ_mul
abbrev eK:= @Nat.zero_add
abbrev so:= @Nat.zero_le
abbrev eL:= @Option.map_some
abbrev aE:= @Option.some.injEq
abbrev pn:= @Prod.mk.injEq
abbrev wK:= @decide_eq_false
abbrev Hl:= @decide_eq_true
abbrev ku:= @exists_eq_left
abbrev kJ:= @exists_eq_left'
abbrev aH:= @if_neg
abbrev aY:= @if_pos
abbrev tX:= @of_decide_eq_true
inductive TC where
 |sc (v:Value)
 |sub (s:Nat) (rows:List (List TC))
 |any
 deriving Inhabited
inductive Mode where
 |snap|top|deep
 deriving DecidableEq,Inhabited
inductive CE where
 |sc (v:Value)
 |nil (z:Nat)
 |ref (o:Nat) (cut:Option (Int×Int))
 |snap (ds:List Nat) (loc:Option (Nat×Int×Nat)) (z:Nat) (rows:List (List TC))
 |gone
 deriving Inhabited
inductive g8 where
 |mk (agg:Bool) (cs:List CE)
 |ptr (b:Nat)
inductive TE where
 |dead
 |v (tup:Bool) (es:List g8)
 |bp (b off:Nat)
 |ep (ds:List Nat) (cells:List TC)
 |er (o:Nat) (path:Option (Int×Nat)) (i:Int) (f:Nat)
 |fn (f:FuncId) (caps:List Nat)
 |kb (b:Bool)
 deriving Inhabited
structure OB where
 deep:Bool
 z:Nat
 rows:List (List TC)
structure TS where
 tm:List (Nat×TE)
 bx:List (Nat×List CE)
 ob:List (Nat×OB)
inductive TI where
 |int (k:IntKind)
 |bool
 |str
 |slice (e:TypeId)
 |ptr (e:TypeId)
 |struct (fs:List (Nat×TypeId))
 |other
 deriving Inhabited
structure ec where
 ti:TI
 size:Nat
 bytes:Nat
 flat:Bool
 zero:List TC
 eqs:List Nat:=[]
 deriving Inhabited
inductive TV where
 |c (c:TC)
 |ag (cs:List TC)
 |tu (vs:List (Nat×List TC))
 |bx (cs:List TC)
 |fn (f:FuncId) (caps:List (List TC))
inductive aF where
 |borrow|inout (ms:List Mode)|consume (ms:List Mode)
 deriving DecidableEq
def aF.mc:aF→Nat→Mode
 | .borrow,_=> .snap
 | .inout ms,j=>match ms[j]? with|some m=>m|none=> .deep
 | .consume ms,j=>match ms[j]? with|some m=>m|none=> .deep
structure Gr where
 ps:List aF
 shares:Bool
 res:List (List Mode)
 frz:Bool:=false
inductive rF where
 |nil
 |op (i:Nat) (fl:List Nat) (r:rF)
 |alt (a b:rF)
structure e7 where
 P:Program
 tt:TypeId→ec
 sig:FuncId→Gr
 lr:FuncId→Nat→List Nat
 lb:FuncId→Nat→List Nat
 yj:FuncId→Nat→Option rF
 ext:FuncId→Option (List TV→Option (TV×List TV))
inductive TX where
 |norm|ex (id:Nat)|ret
 deriving DecidableEq
inductive Ev (R:Type) where
 |fail
 |ret (r:R)
 |test (b:Bool) (k:Bool→Ev R)
 |row (rows:List (List TC)) (i:Int) (k:List TC→Ev R)
 |byte (s:ByteArray) (i:Int) (k:Int→Ev R)
 |bytes (rows:List (List TC)) (k:List Int→Ev R)
 |call (f:FuncId) (vs:List TV) (k:TV→List TV→Ev R)
 |loop (f:FuncId) (i:Nat) (c:Code) (st:TS) (k:TX→TS→Ev R)
 |both (a b:Ev R)
@[irreducible] def ej (a b:Int):Bool:=decide (a<b)
@[irreducible] def sQ (a b:Int):Bool:=decide (a≤b)
@[irreducible] def gW (a b:Int):Bool:=a==b
@[irreducible] def Jv (a b:Bool):Bool:=a==b
@[irreducible] def Ee (a b:ByteArray):Bool:=a.toList==b.toList
@[irreducible] def CW (a b:ByteArray):Bool:=Op.bytesLess a.toList b.toList
@[irreducible] def fits (n b:Nat):Bool:=decide (n*b≤140737488355328∧n≤140737488355328)
@[irreducible] def cM (rows:List (List TC)):Bool:=rows.all fun r=>r.all fun c=>match c with| .sc _=>true|_=>false
@[irreducible] def AL (l h n:Int):Bool:=decide (0≤l∧l≤h∧h≤n)
@[irreducible] def rowAt (rows:List (List TC)) (i:Int):Option (List TC):=if 0≤i then rows[i.toNat]? else none
@[irreducible] def vi (s:ByteArray) (i:Int):Option Int:=if 0≤i then(s[i.toNat]?).map fun b=>(b.toNat:Int) else none
@[irreducible] def cF (rows:List (List TC)) (l h:Int):List (List TC):=(rows.take h.toNat).drop l.toNat
@[irreducible] def dO (z:Nat) (rows:List (List TC)) (l h:Int):List (List TC):=rows.take l.toNat++List.replicate (h.toNat-l.toNat) (List.replicate z .any)++rows.drop h.toNat
@[irreducible] def gr (rows ax:List (List TC)):List (List TC):=ax.take rows.length++rows.drop ax.length
@[irreducible] def setRow (rows:List (List TC)) (i:Int) (f:Nat) (cs:List TC):List (List TC):=
  match rows[i.toNat]? with
  |some r=>rows.set i.toNat (r.take f++cs++r.drop (f+cs.length))
  |none=>rows
@[irreducible] def Ho (a b:Int):Int:=if b<a then b else a
@[irreducible] def tY (n:Int):Nat:=n.toNat
@[irreducible] def tZ (a b:Int):Int:=a+b
@[irreducible] def Ef (k:IntKind) (a b:Int):Int:=k.wrap (a+b)
@[irreducible] def yu (k:IntKind) (a b:Int):Int:=k.wrap (a-b)
@[irreducible] def Eg (k:IntKind) (a b:Int):Int:=k.wrap (a*b)
@[irreducible] def Hp (k:IntKind) (a b:Int):Int:=k.wrap (a.tdiv b)
@[irreducible] def Eh (a b:Int):Int:=a.tmod b
@[irreducible] def Lu (k:IntKind) (a b:Int):Int:=k.wrap (a*2 ^ (min b.toNat k.bits))
@[irreducible] def Gs (k:IntKind) (a b:Int):Int:=a.fdiv (2 ^ (min b.toNat k.bits))
@[irreducible] def qp (op:BinOp) (k:IntKind) (a b:Int):Int:=Go.bits op k a b
@[irreducible] def wL (k:IntKind) (n:Int):Int:=k.wrap n
@[irreducible] def M9 (a b:ByteArray):ByteArray:=a++b
@[irreducible] def Na (s:ByteArray) (l h:Int):ByteArray:=s.extract l.toNat h.toNat
def k9:List (List TC)→Option (List Int)
 |[]=>some []
 |[.sc (.int .u8 n)]::r=>(k9 r).map fun ns=>n::ns
 |_=>none
@[irreducible] def nJ (rows:List (List TC)):Option (List Int):=k9 rows
@[irreducible] def CX (ns:List Int):ByteArray:=⟨(ns.map fun n:Int=>UInt8.ofNat n.toNat).toArray⟩
@[irreducible] def sq (s:ByteArray):List (List TC):=s.data.toList.map fun b=>[TC.sc (.int .u8 b.toNat)]
abbrev one (c:CE):TE:= .v false [.mk false [c]]
abbrev S (v:Value):TE:=one (.sc v)
def ek (o:Nat):List Nat→Bool
 |[]=>false
 |a::r=>match Nat.beq a o with|true=>true|false=>ek o r
def CY (o:Nat):List Nat→List Nat
 |[]=>[]
 |a::r=>match Nat.beq a o with|true=>CY o r|false=>a::CY o r
def kz:List Nat→List Nat→Bool
 |[],_=>false
 |a::r,l=>match ek a l with|true=>true|false=>kz r l
section
variable {α : Type}
def aa (i:Nat):List (Nat×α)→Option α
 |[]=>none
 |(j,e)::r=>match Nat.beq j i with|true=>some e|false=>aa i r
def fR (i:Nat) (e:α):List (Nat×α)→List (Nat×α)
 |[]=>[(i,e)]
 |(j,e')::r=>match Nat.beq j i with
  |true=>(i,e)::r
  |false=>match Nat.ble i j with
   |true=>(i,e)::(j,e')::r
   |false=>(j,e')::fR i e r
def g9 (i:Nat):List (Nat×α)→List (Nat×α)
 |[]=>[]
 |(j,e)::r=>match Nat.beq j i with|true=>g9 i r|false=>(j,e)::g9 i r
def mapA (f:α→α):List (Nat×α)→List (Nat×α)
 |[]=>[]
 |(j,e)::r=>(j,f e)::mapA f r
end
def TS.get (st:TS) (i:Nat):TE:=match aa i st.tm with|some e=>e|none=> .dead
def TS.set (st:TS) (i:Nat) (e:TE):TS:=⟨fR i e st.tm,st.bx,st.ob⟩
def TS.vj (st:TS) (i:Nat) (cs:List CE):TS:=⟨st.tm,fR i cs st.bx,st.ob⟩
def TS.Lv (st:TS) (i:Nat) (o:OB):TS:=⟨st.tm,st.bx,fR i o st.ob⟩
def eo (f:CE→CE):List g8→List g8
 |[]=>[]
 | .mk a cs::r=> .mk a (cs.map f)::eo f r
 | .ptr b::r=> .ptr b::eo f r
def nh (f:CE→CE) (g:TE→TE):TE→TE
 | .v tup es=> .v tup (eo f es)
 |e=>g e
def mo (f:CE→CE) (g:TE→TE) (h:List (Nat×OB)→List (Nat×OB)) (st:TS):TS:=
 ⟨mapA (nh f g) st.tm,mapA (List.map f) st.bx,h st.ob⟩
def cr:CE→List Nat
 | .ref o _=>[o]
 | .snap d _ _ _=>d
 |_=>[]
def dn:List g8→List Nat
 |[]=>[]
 | .mk _ cs::r=>cs.flatMap cr++dn r
 | .ptr _::r=>dn r
def ni:TE→List Nat
 | .v _ es=>dn es
 | .ep d _=>d
 | .er o _ _ _=>[o]
 |_=>[]
def AM (o:Nat) (e:CE):CE:=match ek o (cr e) with|true=> .gone|false=>e
def Fq (o:Nat):TE→TE
 | .ep d cells=>match ek o d with|true=> .dead|false=> .ep d cells
 | .er p path i f=>match Nat.beq p o with|true=> .dead|false=> .er p path i f
 |e=>e
def fC (o:Nat) (st:TS):TS:=mo (AM o) (Fq o) (g9 o) st
def Ei (o:Nat) (e:CE):CE:=match e with
 | .snap d l z rows=>match ek o d with|true=> .gone|false=> .snap d l z rows
 |e=>e
def BC (o:Nat):TE→TE
 | .ep d cells=>match ek o d with|true=> .dead|false=> .ep d cells
 | .er p (some q) i f=>match Nat.beq p o with|true=> .dead|false=> .er p (some q) i f
 |e=>e
def j7 (o:Nat) (b:OB) (st:TS):TS:=mo (Ei o) (BC o) (fR o b) st
def CZ (cut:Option (Int×Int)) (rows:List (List TC)):List (List TC):=match cut with
 |none=>rows
 |some (l,h)=>cF rows l h
def Lw (o:Nat) (l:Option (Nat×Int×Nat)):Option (Nat×Int×Nat):=match l with
 |some (p,i,f)=>match Nat.beq p o with|true=>none|false=>some (p,i,f)
 |none=>none
def xY (o:Nat) (b:OB) (e:CE):CE:=match e with
 | .ref p cut=>match Nat.beq p o with|true=> .snap [] none b.z (CZ cut b.rows)|false=> .ref p cut
 | .snap d l z rows=> .snap (CY o d) (Lw o l) z rows
 |e=>e
def BD (o:Nat):TE→TE
 | .ep d cells=> .ep (CY o d) cells
 | .er p path i f=>match Nat.beq p o with|true=> .dead|false=> .er p path i f
 |e=>e
def mq (st:TS) (o:Nat):TS:=match aa o st.ob with
 |some b=>mo (xY o b) (BD o) (g9 o) st
 |none=>st
def qq (o:Nat) (b:OB) (st:TS):TS:=(fC o st).Lv o b
def dP:List (Nat×OB)→List (Nat×OB)→List (Nat×OB)
 |[],ob=>ob
 |(i,b)::r,ob=>fR i b (dP r ob)
def jv {α:Type}:List (Nat×α)→List Nat
 |[]=>[]
 |(o,_)::r=>o::jv r
def rG (l:List Nat) (e:CE):CE:=match e with
 | .snap d l' z rows=>match kz d l with|true=> .gone|false=> .snap d l' z rows
 |e=>e
def oy (l:List Nat):TE→TE
 | .ep d cells=>match kz d l with|true=> .dead|false=> .ep d cells
 | .er p (some q) i f=>match ek p l with|true=> .dead|false=> .er p (some q) i f
 |e=>e
def j8 (W:List (Nat×OB)) (st:TS):TS:=match W with
 |[]=>st
 |W=>mo (rG (jv W)) (oy (jv W)) (dP W) st
section
variable {Z : Type}
def fL {α:Type} (f:α→(α→Z)→Z):List α→(List α→Z)→Z
 |[],K=>K []
 |a::r,K=>f a fun a'=>fL f r fun r'=>K (a'::r')
def fB (b:Bool) (K:Bool→Z):Z:=match b with|true=>K true|false=>K false
def fN (n:Nat) (K:Nat→Z):Z:=K n
def KQ (p:Option (Int×Nat)) (K:Option (Int×Nat)→Z):Z:=match p with|none=>K none|some (a,b)=>K (some (a,b))
def Nb (p:Option (Int×Int)) (K:Option (Int×Int)→Z):Z:=match p with|none=>K none|some (a,b)=>K (some (a,b))
def Qm (p:Option (Nat×Int×Nat)) (K:Option (Nat×Int×Nat)→Z):Z:=match p with|none=>K none|some (a,b,c)=>K (some (a,b,c))
def fV (v:Value) (K:Value→Z):Z:=match v with
 | .int k n=>K (.int k n)
 | .bool b=>K (.bool b)
 | .string s=>K (.string s)
 |v=>K v
def Nc (c:TC) (K:TC→Z):Z:=match c with| .sc v=>fV v fun v=>K (.sc v)| .sub z rows=>K (.sub z rows)| .any=>K .any
def Ox (e:CE) (K:CE→Z):Z:=match e with
 | .sc v=>fV v fun v=>K (.sc v)
 | .nil z=>K (.nil z)
 | .ref o cut=>Nb cut fun cut=>K (.ref o cut)
 | .snap d l z rows=>fL fN d fun d=>Qm l fun l=>K (.snap d l z rows)
 | .gone=>K .gone
def Hq (c:g8) (K:g8→Z):Z:=match c with
 | .mk a cs=>fB a fun a=>fL Ox cs fun cs=>K (.mk a cs)
 | .ptr b=>K (.ptr b)
def O5 (e:TE) (K:TE→Z):Z:=match e with
 | .dead=>K .dead
 | .v tup es=>fB tup fun tup=>fL Hq es fun es=>K (.v tup es)
 | .bp b off=>K (.bp b off)
 | .ep d cells=>fL fN d fun d=>fL Nc cells fun cells=>K (.ep d cells)
 | .er r path i f=>KQ path fun path=>K (.er r path i f)
 | .fn f caps=>K (.fn f caps)
 | .kb b=>fB b fun b=>K (.kb b)
def O6 (b:OB) (K:OB→Z):Z:=match b with|⟨d,z,rows⟩=>fB d fun d=>K ⟨d,z,rows⟩
def Hr (cs:List TC) (K:List TC→Z):Z:=fL Nc cs K
def Lx (v:TV) (K:TV→Z):Z:=match v with
 | .c c=>Nc c fun c=>K (.c c)
 | .ag cs=>Hr cs fun cs=>K (.ag cs)
 | .tu vs=>fL (fun p K=>match p with|(i,cs)=>Hr cs fun cs=>K (i,cs)) vs fun vs=>K (.tu vs)
 | .bx cs=>Hr cs fun cs=>K (.bx cs)
 | .fn f caps=>K (.fn f caps)
def Gt (st:TS) (K:TS→Z):Z:=
 fL (fun p K=>match p with|(i,e)=>O5 e fun e=>K (i,e)) st.tm fun tm=>
 fL (fun p K=>match p with|(i,cs)=>fL Ox cs fun cs=>K (i,cs)) st.bx fun bx=>
 fL (fun p K=>match p with|(i,b)=>O6 b fun b=>K (i,b)) st.ob fun ob=>K ⟨tm,bx,ob⟩
end
def fT (st:TS):CE→Option (Nat×List (List TC))
 | .nil z=>some (z,[])
 | .ref o cut=>match aa o st.ob with|some ⟨_,z,rows⟩=>some (z,CZ cut rows)|none=>none
 | .snap _ _ z rows=>some (z,rows)
 |_=>none
def oz (st:TS) (e:CE):Option TC:=match e with
 | .sc v=>some (.sc v)
 |e=>match fT st e with|some (z,rows)=>some (.sub z rows)|none=>none
def kK (st:TS):List CE→Option (List TC)
 |[]=>some []
 |e::r=>match oz st e,kK st r with
  |some c,some cs=>some (c::cs)
  |_,_=>none
def BE (c:TC):CE:=match c with| .sc v=> .sc v| .sub z _=> .nil z| .any=> .gone
section
variable (C : e7)
def BF (ty:TypeId):Value→TE
 | .slice none 0 0=>match(C.tt ty).ti with
   | .slice e=>one (.nil (C.tt e).size)
   |_=> .dead
 | .int k n=>S (.int k n)
 | .bool b=> .kb b
 | .string s=>S (.string s)
 |_=> .dead
def iZ (st:TS) (ty:TypeId):Operand→TE
 | .tmp i=>st.get i
 | .const v=>BF C ty v
 | .func f=> .fn f []
 | .global _=> .dead
def Hs:TE→Option Value
 | .v false [.mk false [.sc v]]=>some v
 | .kb b=>some (.bool b)
 |_=>none
def asInt:TE→Option Int
 | .v false [.mk false [.sc (.int _ n)]]=>some n
 |_=>none
def me:TE→Option CE
 | .v false [.mk false [e]]=>some e
 | .kb b=>some (.sc (.bool b))
 |_=>none
def rH:TE→Option (List CE)
 | .v false [.mk _ cs]=>some cs
 | .kb b=>some [.sc (.bool b)]
 |_=>none
def Ht (op:BinOp):Value→Value→Option Value
 | .int k a,.int k' b=>
   match op with
   | .shl=>if 0≤b then some (.int k (Lu k a b)) else none
   | .shr=>if 0≤b then some (.int k (Gs k a b)) else none
   |_=>if k=k' then
    match op with
    | .add=>some (.int k (Ef k a b))
    | .sub=>some (.int k (yu k a b))
    | .mul=>some (.int k (Eg k a b))
    | .and=>some (.int k (qp .and k a b))
    | .or=>some (.int k (qp .or k a b))
    | .xor=>some (.int k (qp .xor k a b))
    | .eql=>some (.bool (gW a b))
    | .neq=>some (.bool (!gW a b))
    | .lss=>some (.bool (ej a b))
    | .leq=>some (.bool (sQ a b))
    | .gtr=>some (.bool (ej b a))
    | .geq=>some (.bool (sQ b a))
    |_=>none
    else none
 | .string a,.string b=>match op with
   | .eql=>some (.bool (Ee a b))
   | .neq=>some (.bool (!Ee a b))
   | .lss=>some (.bool (CW a b))
   | .leq=>some (.bool (CW a b||Ee a b))
   | .gtr=>some (.bool (!(CW a b||Ee a b)))
   | .geq=>some (.bool (!CW a b))
   |_=>none
 |_,_=>none
def mu:List Nat→List CE→List CE→Option Bool
 |[],[],[]=>some true
 |1::ks,.sc (.int k a)::r,.sc (.int k' b)::r'=>if k=k' then(match mu ks r r' with|some q=>some (gW a b&&q)|none=>none) else none
 |2::ks,.sc (.bool a)::r,.sc (.bool b)::r'=>match mu ks r r' with|some q=>some (Jv a b&&q)|none=>none
 |3::ks,.sc (.string a)::r,.sc (.string b)::r'=>match mu ks r r' with|some q=>some (Ee a b&&q)|none=>none
 |_,_,_=>none
def ua (t:TypeId):Bool:=match(C.tt t).ti with| .struct _=>true|_=>false
def hD (t:TypeId) (f:Nat):Option (Nat×TypeId):=match(C.tt t).ti with| .struct fs=>fs[f]?|_=>none
def JH (t:TypeId) (f:Nat):TypeId:=match hD C t f with|some (_,ft)=>ft|none=>0
def nj (t:TypeId):Option TypeId:=match(C.tt t).ti with| .slice e=>some e|_=>none
def Ly (ds:List Nat) (loc:Option (Nat×Int×Nat)) (j:Nat) (c:TC):CE:=
 match c with
 | .sc v=> .sc v
 | .sub z rows=> .snap ds (match loc with|some (o,i,f)=>some (o,i,f+j)|none=>none) z rows
 | .any=> .gone
def oA (ds:List Nat) (loc:Option (Nat×Int×Nat)):Nat→List TC→List CE
 |_,[]=>[]
 |j,c::r=>Ly ds loc j c::oA ds loc (j+1) r
def known (i:ec):Bool:=match i.ti with| .other=>false|_=>true
def nk (i:ec):Bool:=match i.ti with| .other=>false| .ptr _=>false|_=>true
def Hu (t:TypeId) (xs:List CE):TE:= .v false [.mk (ua C t) xs]
variable {R : Type}
def sr (t:TypeId) (xs:List CE) (K:TE→Ev R):Ev R:=match known (C.tt t),Nat.beq xs.length (C.tt t).size with
 |true,true=>K (Hu C t xs)
 |_,_=> .fail
def BG (e:TypeId) (z:Nat):Bool:=match known (C.tt e) with|true=>Nat.beq z (C.tt e).size|false=>false
def Fs (st:TS) (o:Nat) (path:Option (Int×Nat)) (i:Int) (f:Nat) (K:List TC→Ev R):Ev R:=
 match aa o st.ob with
 |some ⟨_,_,rows⟩=>match path with
  |none=> .row rows i fun row=>K (row.drop f)
  |some (i0,f0)=> .row rows i0 fun row0=>match row0[f0]? with
   |some (.sub _ ie)=> .row ie i fun row=>K (row.drop f)
   |_=> .fail
 |none=> .fail
def su (st:TS) (t:TypeId) (e:TE) (K:TE→Ev R):Ev R:=
 match e with
 | .bp b off=>match aa b st.bx with
   |some cs=>sr C t ((cs.drop off).take (C.tt t).size) K
   |none=> .fail
 | .ep ds cells=>sr C t (oA ds none 0 (cells.take (C.tt t).size)) K
 | .er o path i f=>Fs st o path i f fun cells=>
     sr C t (oA [o] (match path with|none=>some (o,i,f)|some _=>none) 0 (cells.take (C.tt t).size)) K
 |_=> .fail
def oB (t:TypeId):List (Nat×TE)→List CE→Option (List CE)
 |[],cs=>some cs
 |(f,e)::r,cs=>match hD C t f,rH e with
  |some (off,ft),some c=>match Nat.beq c.length (C.tt ft).size with
   |true=>oB t r (cs.take off++c++cs.drop (off+c.length))
   |false=>none
  |_,_=>none
def xZ (st:TS):List Operand→Option (List Nat)
 |[]=>some []
 |x::r=>match iZ C st 0 x,xZ st r with
  | .bp b 0,some bs=>some (b::bs)
  |_,_=>none
def bound (st:TS) (d:Int):Option Operand→Option Int
 |none=>some d
 |some a=>asInt (iZ C st 0 a)
def plain:TE→TE
 | .kb b=>S (.bool b)
 |e=>e
def Hv (e:CE) (l h:Int):CE:=match e with
 | .nil z=> .nil z
 | .ref o none=> .ref o (some (l,h))
 | .ref o (some (a,_))=> .ref o (some (tZ a l,tZ a h))
 | .snap ds _ z rows=> .snap ds none z (cF rows l h)
 |e=>e
def Hw (e:CE) (n:Int) (cells:List TC):TE:=match e with
 | .ref o none=> .er o none n 0
 | .ref o (some _)=> .ep [o] cells
 | .snap _ (some (o,i,f)) _ _=> .er o (some (i,f)) n 0
 | .snap ds none _ _=> .ep ds cells
 |_=> .dead
def x8 (t:TypeId):Bool:=match(C.tt t).ti with| .bool=>true|_=>false
def LA (bt:Bool) (op:BinOp) (a b:Value) (K:TE→Ev R):Ev R:=match op,a,b with
 | .eql,.bool p,.bool q=>match bt with|true=>K (S (.bool (Jv p q)))|false=> .fail
 | .neq,.bool p,.bool q=>match bt with|true=>K (S (.bool (!Jv p q)))|false=> .fail
 | .rem,.int k p,.int k' q=>if k=k' then .test (gW q 0) fun z=>match z with
     |false=>K (S (.int k (Eh p q)))
     |true=> .fail
   else .fail
 | .quo,.int k p,.int k' q=>if k=k' then .test (gW q 0) fun z=>match z with
     |false=>K (S (.int k (Hp k p q)))
     |true=> .fail
   else .fail
 | .add,.string p,.string q=> .test (fits (p.size+q.size) 1) fun z=>match z with
   |true=>K (S (.string (M9 p q)))
   |false=> .fail
 |_,_,_=>match Ht op a b with
  |some v=>K (S v)
  |none=> .fail
def LB (st:TS) (t:TypeId) (e:CE) (K:Value→Ev R):Ev R:=match(C.tt t).ti,e with
 | .str,.sc (.string s)=>K (.int .i64 s.size)
 | .slice _,e=>match fT st e with
   |some (_,rows)=>K (.int .i64 rows.length)
   |none=> .fail
 |_,_=> .fail
def c6 (st:TS) (o:Oper) (K:TE→Ev R):Ev R:=
 match o.op with
 | .move x=>K (iZ C st o.type x)
 | .assign x=>K (iZ C st o.type x)
 | .pick c a b=>match iZ C st o.type c with
   | .kb p=>match p with
     |true=>K (iZ C st o.type a)
     |false=>K (iZ C st o.type b)
   |_=> .fail
 | .load t a=>su C st t (iZ C st 0 a) K
 | .nilCheck x=>match iZ C st 0 x with
   | .bp b off=>K (.bp b off)
   | .ep d c=>K (.ep d c)
   | .er r p i f=>K (.er r p i f)
   |_=> .fail
 | .binOp op t x y _=>match plain (iZ C st t x),plain (iZ C st t y) with
   | .v false [.mk false [.sc a]],.v false [.mk false [.sc b]]=>LA (x8 C t) op a b K
   | .v false [.mk true xs],.v false [.mk true ys]=>match known (C.tt t),(C.tt t).eqs with
     |false,_=> .fail
     |true,[]=> .fail
     |true,k::ks=>match op,mu (k::ks) xs ys with
      | .eql,some b=>K (S (.bool b))
      | .neq,some b=>K (S (.bool (!b)))
      |_,_=> .fail
   |_,_=> .fail
 | .unOp op _ x=>match op,iZ C st o.type x with
   | .not,.kb b=>match b with|true=>K (.kb false)|false=>K (.kb true)
   | .not,.v false [.mk false [.sc (.bool b)]]=>K (S (.bool (!b)))
   | .neg,.v false [.mk false [.sc (.int k n)]]=>K (S (.int k (yu k 0 n)))
   |_,_=> .fail
 | .convert src dst x=>match(C.tt dst).ti,(C.tt src).ti,iZ C st src x with
   | .int k,.int _,.v false [.mk false [.sc (.int _ n)]]=>K (S (.int k (wL k n)))
   | .str,.str,.v false [.mk false [.sc (.string s)]]=>K (S (.string s))
   | .str,.slice et,.v false [.mk false [e]]=>match(C.tt et).ti,fT st e with
     | .int .u8,some (_,rows)=> .bytes rows fun ns=>K (S (.string (CX ns)))
     |_,_=> .fail
   |_,_,_=> .fail
 | .fieldAddr s x f=>match hD C s f,iZ C st 0 x with
   |some (off,_),.bp b o=>K (.bp b (o+off))
   |some (off,_),.ep d cells=>K (.ep d (cells.drop off))
   |some (off,_),.er r p i g=>K (.er r p i (g+off))
   |_,_=> .fail
 | .field t x f=>match hD C t f,iZ C st t x with
   |some (off,ft),.v false [.mk true cs]=>sr C ft ((cs.drop off).take (C.tt ft).size) K
   |_,_=> .fail
 | .indexAddr t x i=>match nj C t,me (iZ C st t x),asInt (iZ C st 0 i) with
   |some et,some e,some n=>match fT st e with
    |some (z,rows)=>match BG C et z with
     |true=> .row rows n fun cells=>K (Hw e n cells)
     |false=> .fail
    |none=> .fail
   |_,_,_=> .fail
 | .index t x i=>match(C.tt t).ti,Hs (iZ C st t x),asInt (iZ C st 0 i) with
   | .str,some (.string s),some n=> .byte s n fun b=>K (S (.int .u8 b))
   |_,_,_=> .fail
 | .slice t x lo hi mx=>match mx,(C.tt t).ti,me (iZ C st t x) with
   |none,.str,some (.sc (.string s))=>match bound C st 0 lo,bound C st s.size hi with
    |some l,some h=> .test (AL l h s.size) fun z=>match z with
     |true=>K (S (.string (Na s l h)))
     |false=> .fail
    |_,_=> .fail
   |none,.slice et,some e=>match fT st e with
    |some (z,rows)=>match BG C et z,bound C st 0 lo,bound C st rows.length hi with
     |true,some l,some h=> .test (AL l h rows.length) fun b=>match b with
      |true=>K (one (Hv e l h))
      |false=> .fail
     |_,_,_=> .fail
    |none=> .fail
   |_,_,_=> .fail
 | .extract x i=>match iZ C st 0 x with
   | .v true es=>match es[i]? with
     |some (.mk a cs)=>K (.v false [.mk a cs])
     |some (.ptr b)=>K (.bp b 0)
     |none=> .fail
   |_=> .fail
 | .build t ps=>match ua C t,oB C t (ps.toList.map fun p=>(p.1,iZ C st (JH C t p.1) p.2)) ((C.tt t).zero.map BE) with
   |true,some cs=>K (.v false [.mk true cs])
   |_,_=> .fail
 | .makeFunc fn first caps=>match fn,first.toList,xZ C st caps.toList with
   | .func f,[],some bs=>K (.fn f bs)
   |_,_,_=> .fail
 | .call {callee:= .builtin .len,args,argTypes}=>match args.toList,argTypes.toList with
   |[x],[t]=>match me (iZ C st t x) with
    |some e=>LB C st t e fun v=>K (S v)
    |none=> .fail
   |_,_=> .fail
 | .call {callee:= .builtin .min,args,argTypes}=>match args.toList,argTypes.toList with
   |[x,y],t::_=>match Hs (iZ C st t x),asInt (iZ C st t y) with
    |some (.int k a),some b=>K (S (.int k (Ho a b)))
    |_,_=> .fail
   |_,_=> .fail
 |_=> .fail
def gu (e:CE) (st:TS):Option (TC×TS×Bool):=
 match e with
 | .sc v=>some (.sc v,st,true)
 | .nil z=>some (.sub z [],st,true)
 | .ref o cut=>match aa o st.ob with
   |some ⟨d,z,rows⟩=>some (.sub z (CZ cut rows),fC o st,d)
   |none=>none
 | .snap [] _ z rows=>some (.sub z rows,st,false)
 |_=>none
def yw:List CE→TS→Option (List TC×TS×Bool)
 |[],st=>some ([],st,true)
 |e::r,st=>match gu e st with
  |some (c,bD,d1)=>match yw r bD with
   |some (cs,gn,d2)=>some (c::cs,gn,d1&&d2)
   |none=>none
  |none=>none
def rowsOf (st:TS) (ty:TypeId):List (Nat×Operand)→Nat→Option (List (List TC)×TS×Bool)
 |[],_=>some ([],st,true)
 |(i,x)::r,n=>match Nat.beq i n,rH (iZ C st ty x) with
  |true,some cs=>match Nat.beq cs.length (C.tt ty).size,yw cs st with
   |true,some (cs',bD,d1)=>match rowsOf bD ty r (n+1) with
    |some (rs,gn,d2)=>some (cs'::rs,gn,d1&&d2)
    |none=>none
   |_,_=>none
  |_,_=>none
def jr (d k j:Nat):Nat:=1000+400*d+20*k+j
def LC (b j:Nat):Nat:=1000000000+100*b+j
def nG (b:Nat):Bool:=match Nat.ble 200000 b with|true=>Nat.ble 300000 b|false=>true
def KR (b:Nat):g8→Bool
 | .ptr c=>Nat.beq c b
 | .mk _ _=>false
def yx (b:Nat):TE→Bool
 | .bp c _=>Nat.beq c b
 | .fn _ caps=>ek b caps
 | .v _ es=>es.any (KR b)
 |_=>false
def AN (b:Nat) (st:TS):TS:=⟨mapA (fun e=>match yx b e with|true=> .dead|false=>e) st.tm,g9 b st.bx,st.ob⟩
def vk (b:Nat) (cs:List CE) (st:TS):TS:=(AN b st).vj b cs
def setCells (f:Nat) (cs:List TC) (rows:List (List TC)) (i:Int):List (List TC):=setRow rows i f cs
def yy (o:Nat) (e:CE):CE:=match e with
 | .snap d (some (p,i,f)) z rows=>match Nat.beq p o with|true=> .snap [] none z rows|false=> .snap d (some (p,i,f)) z rows
 |e=>e
def KS (o:Nat):TE→TE
 | .er p (some q) i f=>match Nat.beq p o with|true=> .dead|false=> .er p (some q) i f
 |e=>e
def Ab (b:OB):OB:=⟨false,b.z,b.rows⟩
def nK (o:Nat) (st:TS):TS:=match aa o st.ob with
 |some b=>mo (yy o) (KS o) (fR o (Ab b)) st
 |none=>st
def Ej (o:Nat):List CE→Bool
 |[]=>false
 | .snap _ (some (p,_,_)) _ _::r=>match Nat.beq p o with|true=>true|false=>Ej o r
 |_::r=>Ej o r
def uc (o:Nat) (path:Option (Int×Nat)) (i:Int) (f:Nat) (cs:List CE) (st:TS) (K:TS→Ev R):Ev R:=
 match yw cs st with
 |some (ts,bD,d1)=>match aa o bD.ob with
  |some ⟨d,z,rows⟩=>match path with
   |none=> .row rows i fun row=>match Nat.ble (f+ts.length) row.length with
    |true=>K (j8 [(o,⟨d&&d1,z,setRow rows i f ts⟩)] bD)
    |false=> .fail
   |some (i0,f0)=>match d,d1 with
    |true,true=> .row rows i0 fun row0=>match row0[f0]? with
     |some (.sub z1 ie)=> .row ie i fun row=>match Nat.ble (f+ts.length) row.length with
      |true=>K (j8 [(o,⟨true,z,setRow rows i0 f0 [.sub z1 (setRow ie i f ts)]⟩)] bD)
      |false=> .fail
     |_=> .fail
    |_,_=> .fail
  |none=> .fail
 |none=> .fail
def x9:List CE→Bool
 |[]=>false
 | .gone::_=>true
 |_::r=>x9 r
def yz (b off:Nat) (cs:List CE) (st:TS):Option TS:=
 match aa b st.bx with
 |some old=>match nG b&& !x9 cs,Nat.ble (off+cs.length) old.length with
  |true,true=>some (st.vj b (old.take off++cs++old.drop (off+cs.length)))
  |_,_=>none
 |none=>none
def nq (st:TS) (e:CE):Option (Option Nat×Nat×Bool×List (List TC)):=
 match e with
 | .nil z=>some (none,z,true,[])
 | .ref o cut=>match aa o st.ob with
   |some ⟨d,z,rows⟩=>some (some o,z,d,CZ cut rows)
   |none=>none
 |_=>none
def gf (o:Option Nat) (st:TS):TS:=match o with|some o=>fC o st|none=>st
def mg (d:Nat) (b:OB) (st:TS):TS:=(qq (jr d 0 0) b st).set d (one (.ref (jr d 0 0) none))
def vl (e:TypeId) (z:Nat):Bool:=match nk (C.tt e) with|true=>Nat.beq z (C.tt e).size|false=>false
def sR (g o':Nat) (b:OB) (l h:Int) (st:TS):TS:=qq g ⟨true,1,[]⟩ (j7 o' ⟨b.deep,b.z,dO b.z b.rows l h⟩ st)
def Ek (d:Nat) (o:Option Nat) (dp:Bool) (cx:CE) (st:TS):Option (Nat×List (List TC)×TS):=match cx with
 | .ref o' (some (l,h))=>match dp,aa o' st.ob,(match o with|some o=>Nat.beq o o'||Nat.beq o (jr d 1 0)|none=>false)||Nat.beq o' (jr d 1 0) with
   |true,some ⟨true,z,rows⟩,false=>some (z,cF rows l h,fC (jr d 1 0) (gf o (sR (jr d 1 0) o' ⟨true,z,rows⟩ l h st)))
   |_,_,_=>none
 |_=>none
def Hy (st:TS) (cx:CE):Option (Nat×List (List TC)):=match cx with
 | .ref o' cut=>match aa o' st.ob with
   |some ⟨false,z,rows⟩=>some (z,CZ cut rows)
   |_=>none
 |_=>none
def Ft (st:TS) (d:Nat) (t t':TypeId) (s:TE) (x:TE) (K:TS→Ev R):Ev R:=
 match nj C t,me s,me x with
 |some e,some cs,some cx=>match nq st cs,(C.tt t').ti with
  |some (o,z,dp,rows),.str=>match vl C e z,Nat.beq z 1,cx with
   |true,true,.sc (.string b)=> .test (fits (rows.length+b.size) (C.tt e).bytes) fun q=>match q with
    |true=>K (mg d ⟨dp,z,rows++sq b⟩ (gf o st))
    |false=> .fail
   |_,_,_=> .fail
  |some (o,z,dp,rows),.slice _=>match vl C e z with
   |false=> .fail
   |true=>match(C.tt e).flat with
     |true=>match fT st cx with
      |some (z',ax)=>match Nat.beq z z' with
       |true=> .test (cM ax&&fits (rows.length+ax.length) (C.tt e).bytes) fun q=>match q with
        |true=>K (mg d ⟨dp,z,rows++ax⟩ (gf o st))
        |false=> .fail
       |false=> .fail
      |none=> .fail
     |false=>match Ek d o dp cx st with
      |some (z',ax,bD)=>match Nat.beq z z' with
        |true=> .test (fits (rows.length+ax.length) (C.tt e).bytes) fun q=>match q with
         |true=>K (mg d ⟨dp,z,rows++ax⟩ bD)
         |false=> .fail
        |false=> .fail
      |none=>match Hy st cx with
       |some (z',ax)=>match Nat.beq z z' with
        |true=> .test (fits (rows.length+ax.length) (C.tt e).bytes) fun q=>match q with
         |true=>K (mg d ⟨false,z,rows++ax⟩ (gf o st))
         |false=> .fail
        |false=> .fail
       |none=>match gu cx (gf o st) with
       |some (.sub z' ax,bD,d1)=>match Nat.beq z z' with
        |true=> .test (fits (rows.length+ax.length) (C.tt e).bytes) fun q=>match q with
         |true=>K (mg d ⟨dp&&d1,z,rows++ax⟩ bD)
         |false=> .fail
        |false=> .fail
       |_=> .fail
  |_,_=> .fail
 |_,_,_=> .fail
def KT (st:TS) (d:Option Nat) (t:TypeId) (s:TE) (x:TE) (K:TS→Ev R):Ev R:=
 match nj C t,me s,me x with
 |some e,some (.ref o none),some cx=>match aa o st.ob,fT st cx,nk (C.tt e) with
  |some ⟨true,z,rows⟩,some (z',ax),true=>match Nat.beq z z'&&Nat.beq z (C.tt e).size with
   |true=> .test (cM ax) fun q=>match q with
    |true=>match d with
     |some d=>K ((j7 o ⟨true,z,gr rows ax⟩ st).set d (one (.sc (.int .i64 (Int.ofNat (nI ax.length rows.length))))))
     |none=>K (j7 o ⟨true,z,gr rows ax⟩ st)
    |false=> .fail
   |false=> .fail
  |_,_,_=> .fail
 |_,_,_=> .fail
def BH (st:TS):List Nat→Option (List (List TC))
 |[]=>some []
 |b::r=>match aa b st.bx with
  |some cs=>match kK st cs,BH st r with
   |some c,some cs=>some (c::cs)
   |_,_=>none
  |none=>none
def Hz (st:TS) (e:TE) (K:TV→Ev R):Ev R:=
 match e with
 | .v false [.mk a cs]=>match kK st cs with
   |some ts=>match a,ts with
    |true,ts=>K (.ag ts)
    |false,[c]=>K (.c c)
    |_,_=> .fail
   |none=> .fail
 | .kb b=>K (.c (.sc (.bool b)))
 | .bp b off=>match aa b st.bx with
   |some cs=>match kK st (cs.drop off) with
    |some ts=>K (.bx ts)
    |none=> .fail
   |none=> .fail
 | .ep _ (c::cells)=>K (.bx (c::cells))
 | .er r p i f=>Fs st r p i f fun cells=>match cells with
   |[]=> .fail
   |c::cells=>K (.bx (c::cells))
 | .fn f caps=>match BH st caps with
   |some xs=>K (.fn f xs)
   |none=> .fail
 |_=> .fail
def C0 (st:TS):List TE→(List TV→Ev R)→Ev R
 |[],K=>K []
 |e::r,K=>Hz st e fun v=>C0 st r fun vs=>K (v::vs)
def oC (st:TS) (b:Nat):List Nat:=match aa b st.bx with
 |some cs=>(2*b+1)::(cs.flatMap cr).map (2* ·)
 |none=>[2*b+1]
def ja (st:TS):TE→List Nat
 | .v _ es=>(dn es).map (2* ·)
 | .ep d _=>d.map (2* ·)
 | .er o _ _ _=>[2*o]
 | .bp b _=>oC st b
 | .fn _ caps=>caps.flatMap (oC st)
 |_=>[]
def mw (st:TS) (o:Nat):Bool:=match aa o st.ob with|some ⟨true,_,_⟩=>true|_=>false
def vm (st:TS) (o:Nat):Bool:=match aa o st.ob with|some ⟨false,_,_⟩=>true|_=>false
def jb (st:TS) (c:Bool):List Mode→List CE→Option (List Nat)
 |_,[]=>some []
 |ms,e::r=>match jb st c (ms.drop 1) r with
  |some l=>match ms.headD .deep,e with
   |_,.sc _=>some l
   |_,.nil _=>some l
   | .snap,.snap [] none _ _=>some l
   | .snap,_=>none
   | .top,.ref o none=>match vm st o with|true=>some ((2*o)::l)|false=>none
   | .top,_=>none
   |_,.ref o none=>match mw st o with|true=>some ((2*o)::l)|false=>none
   |_,.ref o (some _)=>match c,mw st o with|true,true=>some ((2*o)::l)|_,_=>none
   |_,.snap _ (some (o,_,_)) _ _=>match c,mw st o with|false,true=>some ((2*o)::l)|_,_=>none
   |_,_=>none
  |none=>none
def iD (st:TS) (c:Bool) (ms:List Mode) (e:TE):Option (List Nat):=match e with
 | .v false [.mk _ cs]=>match c,ms with|true,ms=>jb st true ms cs|false,[]=>jb st false [] cs|_,_=>none
 | .bp b 0=>match c,nG b,aa b st.bx with
   |false,true,some cs=>match jb st true ms cs with
    |some l=>some ((2*b+1)::l)
    |none=>none
   |_,_,_=>none
 |_=>none
def aF.ms:aF→List Mode
 | .inout ms=>ms
 | .consume ms=>ms
 |_=>[]
def sS:List Nat→Bool
 |[]=>true
 |a::r=>match ek a r with|true=>false|false=>sS r
def oD (st:TS):List aF→List TE→Option (List Nat×List Nat)
 |[],[]=>some ([],[])
 |p::ps,e::es=>match oD st ps es with
  |some (own,rd)=>match p with
   | .borrow=>some (own,ja st e++rd)
   | .inout ms=>match iD st false ms e with|some l=>some (l++own,rd)|none=>none
   | .consume ms=>match iD st true ms e with|some l=>some (l++own,rd)|none=>none
  |none=>none
 |_,_=>none
def kL:List CE→TS→TS
 |[],st=>st
 | .ref o _::r,st=>kL r (fC o st)
 |_::r,st=>kL r st
def jw (st:TS) (e:CE) (c:TC):Option (List (Nat×OB)):=
 match e,c with
 | .sc _,.sc _=>some []
 | .nil _,.sub _ []=>some []
 | .ref o none,.sub z rows=>match aa o st.ob with
   |some ⟨true,z0,_⟩=>match Nat.beq z z0 with|true=>some [(o,⟨true,z,rows⟩)]|false=>none
   |_=>none
 | .snap _ (some (o,i,f)) z0 _,.sub z' ax=>match aa o st.ob,Nat.beq z' z0 with
   |some ⟨true,z,rows⟩,true=>some [(o,⟨true,z,setRow rows i f [.sub z' ax]⟩)]
   |_,_=>none
 |_,_=>none
def ya (st:TS):List CE→List TC→Option (List (Nat×OB))
 |[],[]=>some []
 |e::r,c::cs=>match jw st e c,ya st r cs with
  |some a,some b=>some (a++b)
  |_,_=>none
 |_,_=>none
def aK (f:Nat→Nat):List Mode→Nat→List TC→TS→List CE×TS
 |_,_,[],st=>([],st)
 |ms,j,c::cs,st=>match c with
  | .sc v=>match aK f (ms.drop 1) (j+1) cs st with|(r,st')=>(.sc v::r,st')
  | .sub z rows=>match ms.headD .snap with
    | .snap=>match aK f (ms.drop 1) (j+1) cs st with|(r,st')=>(.snap [] none z rows::r,st')
    | .top=>match aK f (ms.drop 1) (j+1) cs (qq (f j) ⟨false,z,rows⟩ st) with|(r,st')=>(.ref (f j) none::r,st')
    | .deep=>match aK f (ms.drop 1) (j+1) cs (qq (f j) ⟨true,z,rows⟩ st) with|(r,st')=>(.ref (f j) none::r,st')
  | .any=>match aK f (ms.drop 1) (j+1) cs st with|(r,st')=>(.gone::r,st')
def jV (g6:TS):List aF→List TE→TS→TS
 |p::ps,e::es,st=>match p,e with
  | .consume _,.v false [.mk _ cs]=>jV g6 ps es (kL cs st)
  | .inout _,.bp b _=>match aa b g6.bx with
    |some cs=>jV g6 ps es ⟨(kL cs st).tm,g9 b (kL cs st).bx,(kL cs st).ob⟩
    |none=>jV g6 ps es st
  |_,_=>jV g6 ps es st
 |_,_,st=>st
def kM (st:TS):List aF→List TE→List TV→Option (List (Nat×OB)×List (Nat×List Mode×List TC))
 |p::ps,e::es,fs=>match p with
  | .inout ms=>match e,fs with
    | .v false [.mk false [e]],.c c::fs=>match jw st e c,kM st ps es fs with
      |some a,some (b,bs)=>some (a++b,bs)
      |_,_=>none
    | .v false [.mk true cs],.ag ts::fs=>match ya st cs ts,kM st ps es fs with
      |some a,some (b,bs)=>some (a++b,bs)
      |_,_=>none
    | .bp b 0,.bx ts::fs=>match aa b st.bx,kM st ps es fs with
      |some cs,some (a,bs)=>match Nat.beq cs.length ts.length with|true=>some (a,(b,ms,ts)::bs)|false=>none
      |_,_=>none
    |_,_=>none
  |_=>kM st ps es fs
 |[],[],[]=>some ([],[])
 |_,_,_=>none
def C1:List Mode→List TC→List Mode
 |_,[]=>[]
 |ms,_::r=>(match ms.headD .deep with| .snap=> .snap|_=> .deep)::C1 (ms.drop 1) r
def ud:List (Nat×List Mode×List TC)→TS→TS
 |[],st=>st
 |(b,ms,ts)::r,st=>match aK (LC b) (C1 ms ts) 0 ts st with
  |(cs,st')=>ud r (st'.vj b cs)
def jx (st:TS):List Nat→TS
 |[]=>st
 |o::r=>jx (mq st o) r
def qt (st:TS):TE→List Nat
 | .bp b _=>match aa b st.bx with|some cs=>cs.flatMap cr|none=>[]
 | .fn _ caps=>caps.flatMap fun b=>match aa b st.bx with|some cs=>cs.flatMap cr|none=>[]
 |e=>ni e
def borrowed (st:TS):List aF→List TE→List Nat
 | .borrow::ps,e::es=>qt st e++borrowed st ps es
 |_::ps,_::es=>borrowed st ps es
 |_,_=>[]
def kN (d k:Nat):Nat:=400000+20*d+k
def cN (d:Nat):Nat→List (List Mode)→List (Nat×List TC)→TS→List g8×TS
 |_,_,[],st=>([],st)
 |k,ms,(a,cs)::r,st=>match aK (jr d k) (ms.headD []) 0 cs st with
  |(cs',st')=>match Nat.beq a 2 with
   |true=>match cN d (k+1) (ms.drop 1) r (vk (kN d k) cs' st') with
    |(es,wC)=>(.ptr (kN d k)::es,wC)
   |false=>match cN d (k+1) (ms.drop 1) r st' with
    |(es,wC)=>(.mk (Nat.beq a 1) cs'::es,wC)
def rI:List (Nat×List TC)→Bool
 |[]=>true
 |(_,cs)::r=>match Nat.ble cs.length 20 with|true=>rI r|false=>false
def HA (d:Nat) (ms:List (List Mode)) (v:TV) (st:TS):Option TS:=
 match v with
 | .c c=>match aK (jr d 0) (ms.headD []) 0 [c] st with|(cs,st')=>some (st'.set d (.v false [.mk false cs]))
 | .ag cs=>match aK (jr d 0) (ms.headD []) 0 cs st with|(cs,st')=>some (st'.set d (.v false [.mk true cs]))
 | .tu vs=>match rI vs with
   |true=>match cN d 0 ms vs st with|(es,st')=>some (st'.set d (.v true es))
   |false=>none
 | .bx cs=>match aK (jr d 0) (ms.headD []) 0 cs st with|(cs',st')=>some ((vk (kN d 0) cs' st').set d (.bp (kN d 0) 0))
 |_=>none
def mz:TV→Bool
 | .c _=>true
 | .ag cs=>Nat.ble cs.length 16
 | .bx cs=>Nat.ble cs.length 16
 | .fn _ caps=>Nat.ble caps.length 900
 | .tu _=>false
def hJ:List TV→Bool
 |[]=>true
 |v::r=>match mz v with|true=>hJ r|false=>false
def lA (vs:List TV):Bool:=match Nat.ble vs.length 50 with|true=>hJ vs|false=>false
def qu (sh:Bool) (st:TS) (ps:List aF) (es:List TE):TS:=match sh with
 |true=>jx (jV st ps es st) (borrowed st ps es)
 |false=>jV st ps es st
def gL:List Mode→List TC→Bool
 |_,[]=>true
 |ms,.sc _::r=>gL (ms.drop 1) r
 |ms,.sub _ _::r=>match ms.headD .snap with| .deep=>gL (ms.drop 1) r|_=>false
 |ms,.any::r=>match ms.headD .snap with| .deep=>gL (ms.drop 1) r|_=>false
def yc:List (List Mode)→List (Nat×List TC)→Bool
 |_,[]=>true
 |ms,(_,cs)::r=>match gL (ms.headD []) cs with|true=>yc (ms.drop 1) r|false=>false
def Fu (ms:List (List Mode)):TV→Bool
 | .c c=>gL (ms.headD []) [c]
 | .ag cs=>gL (ms.headD []) cs
 | .bx cs=>gL (ms.headD []) cs
 | .tu vs=>yc ms vs
 | .fn _ _=>false
def BI:List aF→Bool
 |[]=>true
 | .inout (_::_)::_=>false
 |_::r=>BI r
def HB:List aF→Bool
 |[]=>true
 | .inout (_::_)::_=>false
 | .consume (_::_)::_=>false
 |_::r=>HB r
def El (g:Gr) (r:TV):Bool:=match g.shares with
 |true=>true
 |false=>match BI g.ps with|true=>Fu g.res r|false=>false
def ue (d:Option Tmp) (f:FuncId) (es:List TE) (st:TS) (K:TS→Ev R):Ev R:=
 match oD st (C.sig f).ps es with
 |some (own,rd)=>match sS own,kz own rd,(C.sig f).shares&&ek 0 rd with
  |true,false,false=>C0 st es fun vs=>match lA vs with
   |true=> .call f vs fun r fs=>match El (C.sig f) r with
    |false=> .fail
    |true=>match kM st (C.sig f).ps es fs with
     |some (W,B)=>Gt (ud B (j8 W (qu (C.sig f).shares st (C.sig f).ps es))) fun gn=>match d with
      |some d=>match HA d (C.sig f).res r gn with
       |some st4=>K st4
       |none=> .fail
      |none=>K gn
     |none=> .fail
   |false=> .fail
  |_,_,_=> .fail
 |none=> .fail
def uf (st:TS):List Operand→List TypeId→List TE
 |x::xs,t::ts=>iZ C st t x::uf st xs ts
 |_,_=>[]
def AO (st:TS) (o:Oper) (K:TS→Ev R):Ev R:=match o.dst with
 |some d=>c6 C st o fun e=>K (st.set d e)
 |none=> .fail
def gv (st:TS) (o:Oper) (K:TS→Ev R):Ev R:=
 match o.op with
 | .alloc t=>match o.dst,nk (C.tt t) with
   |some d,true=>match nG d with
    |true=>K ((vk d ((C.tt t).zero.map BE) st).set d (.bp d 0))
    |false=> .fail
   |_,_=> .fail
 | .box t x=>match o.dst,rH (iZ C st t x) with
   |some d,some cs=>match nG d with
    |true=>K ((vk d cs st).set d (.bp d 0))
    |false=> .fail
   |_,_=> .fail
 | .store t a x=>match o.dst,known (C.tt t),rH (iZ C st t x) with
   |none,true,some cs=>match Nat.beq cs.length (C.tt t).size,iZ C st 0 a with
    |true,.bp b off=>match yz b off cs st with
     |some st'=>K st'
     |none=> .fail
    |true,.er r none i f=>match Ej r cs with
     |true=>uc r none i f (cs.map (yy r)) (nK r st) K
     |false=>uc r none i f cs st K
    |true,.er r p i f=>uc r p i f cs st K
    |_,_=> .fail
   |_,_,_=> .fail
 | .buildSlice t n ps=>match o.dst,nj C t with
   |some d,some e=>match Nat.beq n ps.size&&Nat.ble (n*(C.tt e).size) 16777216&&nk (C.tt e),rowsOf C st e ps.toList 0 with
    |true,some (rs,st',dp)=>K (mg d ⟨dp,(C.tt e).size,rs⟩ st')
    |_,_=> .fail
   |_,_=> .fail
 | .makeSlice t l c=>match o.dst,nj C t,asInt (iZ C st 3 l),asInt (iZ C st 3 c) with
   |some d,some e,some n,some n'=> .test (nk (C.tt e)&&gW n n'&&sQ 0 n&&fits (tY n) (C.tt e).bytes) fun z=>match z with
    |true=>K (mg d ⟨true,(C.tt e).size,List.replicate (tY n) (C.tt e).zero⟩ st)
    |false=> .fail
   |_,_,_,_=> .fail
 | .convert src dst x=>match(C.tt dst).ti,(C.tt src).ti with
   | .slice et,.str=>match o.dst,(C.tt et).ti,Hs (iZ C st src x) with
     |some d,.int .u8,some (.string s)=> .test (fits s.size 1) fun z=>match z with
      |true=>K (mg d ⟨true,1,sq s⟩ st)
      |false=> .fail
     |_,_,_=> .fail
   |_,_=>AO C st o K
 | .call {callee:= .builtin .append,args,argTypes}=>match o.dst,args.toList,argTypes.toList with
   |some d,[s,x],[t,t']=>Ft C st d t t' (iZ C st t s) (iZ C st t' x) K
   |_,_,_=> .fail
 | .call {callee:= .builtin .copy,args,argTypes}=>match args.toList,argTypes.toList with
   |[s,x],[t,t']=>KT C st o.dst t (iZ C st t s) (iZ C st t' x) K
   |_,_=> .fail
 | .call {callee:= .value (.func f),args,argTypes}=>match Nat.beq args.toList.length argTypes.toList.length with
   |true=>ue C o.dst f (uf C st args.toList argTypes.toList) st K
   |false=> .fail
 | .call {callee:= .value (.tmp i),args,argTypes}=>match Nat.beq args.toList.length argTypes.toList.length with
   |true=>match st.get i with
    | .fn f caps=>ue C o.dst f (uf C st args.toList argTypes.toList++caps.map fun b=> .bp b 0) st K
    |_=> .fail
   |false=> .fail
 |_=>AO C st o K
def BJ (st:TS) (b:Nat):List Nat:=match aa b st.bx with
 |some cs=>(2*b+1)::(cs.flatMap cr).map (2* ·)
 |none=>[2*b+1]
def qv (st:TS):TE→List Nat
 | .v _ es=>(dn es).map (2* ·)
 | .bp b _=>BJ st b
 |_=>[]
def iE (st:TS):List aF→List TE→List Nat
 | .borrow::ps,_::es=>iE st ps es
 |_::ps,e::es=>qv st e++iE st ps es
 |_,_=>[]
def writes (st:TS) (o:Oper):List Nat:=match o.op with
 | .store _ a _=>match iZ C st 0 a with
   | .bp b _=>[2*b+1]
   | .er o _ _ _=>[2*o]
   |_=>[]
 | .call {callee:= .builtin .append,args,argTypes}=>match args.toList,argTypes.toList with
   |s::_,t::_=>(ni (iZ C st t s)).map (2* ·)
   |_,_=>[]
 | .call {callee:= .builtin .copy,args,argTypes}=>match args.toList,argTypes.toList with
   |s::_,t::_=>(ni (iZ C st t s)).map (2* ·)
   |_,_=>[]
 | .call {callee:= .value (.func f),args,argTypes}=>iE st (C.sig f).ps (uf C st args.toList argTypes.toList)
 | .call {callee:= .value (.tmp i),args,argTypes}=>match st.get i with
   | .fn f caps=>iE st (C.sig f).ps (uf C st args.toList argTypes.toList++caps.map fun b=> .bp b 0)
   |_=>[]
 |_=>[]
def HC (st:TS) (o:Oper):Option (List Nat):=match o.op with
 | .load _ a=>match iZ C st 0 a with
   | .bp b _=>match aa b st.bx with
     |some _=>some [2*b+1]
     |none=>none
   | .ep d (_::_)=>some (d.map (2* ·))
   | .er o none _ _=>some [2*o]
   | .er o (some _) _ _=>match aa o st.ob with
     |some ⟨true,_,_⟩=>some [2*o]
     |_=>none
   |_=>none
 |_=>none
def KU (ops:Array Oper) (st:TS) (o:Oper):Bool:=match o.guard with
 |none=>false
 |some (j,want)=>match ops[j]? with
  |some oj=>match oj.dst with
   |some t=>match st.get t with
    | .kb b=>match b,want with
      |true,false=>true
      |false,true=>true
      |_,_=>false
    | .v true []=>true
    |_=>false
   |none=>false
  |none=>false
def qw (ops:Array Oper) (st:TS) (o:Oper):List Nat→Bool
 |[]=>true
 |l::r=>match ops[l]? with
  |some ol=>match KU ops st ol with
   |true=>qw ops st o r
   |false=>match HC C st ol with
    |some rd=>match kz rd (writes C st o) with|true=>false|false=>qw ops st o r
    |none=>false
  |none=>false
def ug:List Mode→List CE→List Nat
 |_,[]=>[]
 |ms,e::r=>match ms.headD .deep,e with
  | .snap,.ref o none=>o::ug (ms.drop 1) r
  |_,_=>ug (ms.drop 1) r
def AP (st:TS):List aF→List TE→List Nat
 |p::ps,e::es=>match p,e with
  | .inout (m::ms),.bp b _=>match aa b st.bx with
    |some cs=>ug (m::ms) cs++AP st ps es
    |none=>AP st ps es
  | .consume (m::ms),.v false [.mk _ cs]=>ug (m::ms) cs++AP st ps es
  |_,_=>AP st ps es
 |_,_=>[]
def yA:List CE→List Nat
 |[]=>[]
 | .ref o _::r=>o::yA r
 |_::r=>yA r
def vn:List g8→List Nat
 |[]=>[]
 | .mk _ cs::r=>yA cs++vn r
 |_::r=>vn r
def Fv (st:TS) (e:TypeId):List (Nat×Operand)→List Nat
 |[]=>[]
 |(_,x)::r=>match iZ C st e x with
  | .v _ es=>vn es++Fv st e r
  |_=>Fv st e r
def LD (fx:List Nat) (st:TS) (o:Oper):TS:=match o.op with
 | .buildSlice t _ ps=>match ek 777777 fx,nj C t with
   |true,some e=>jx st (Fv C st e ps.toList)
   |_,_=>st
 | .call {callee:= .value (.func f),args,argTypes}=>match HB (C.sig f).ps with
   |true=>st
   |false=>jx st (AP st (C.sig f).ps (uf C st args.toList argTypes.toList))
 |_=>st
def C2 (fx fl:List Nat) (ops:Array Oper) (st:TS) (o:Oper) (K:TS→Ev R):Ev R:=Gt (LD C fx st o) fun st=>match qw C ops st o fl with
 |true=>gv C st o K
 |false=> .fail
def C3 (st:TS) (o:Oper) (K:TS→Ev R):Ev R:=match o.dst with
 |some d=>K (st.set d (.v true []))
 |none=>K st
def Em (fx fl:List Nat) (ops:Array Oper) (st:TS) (o:Oper) (b want:Bool) (K:TS→Ev R):Ev R:=
 match b,want with
 |true,true=>C2 C fx fl ops st o K
 |false,false=>C2 C fx fl ops st o K
 |_,_=>C3 st o K
def Fw (fx:List Nat) (o:Oper):Bool:=match o.dst with|some d=> !ek d fx|none=>true
def guarded (fx fl:List Nat) (ops:Array Oper) (st:TS) (o:Oper) (K:TS→Ev R):Ev R:=
 match Fw fx o with
 |false=> .fail
 |true=>match o.guard with
  |none=>C2 C fx fl ops st o K
  |some (j,want)=>match ops[j]? with
   |some oj=>match oj.dst with
    |some t=>match st.get t with
     | .kb b=>Em C fx fl ops st o b want K
     | .v false [.mk false [.sc (.bool b)]]=> .test b fun b=>Em C fx fl ops (st.set t (.kb b)) o b want K
     | .v true []=>C3 st o K
     |_=> .fail
    |none=> .fail
   |none=> .fail
def pz {α:Type} (l:List Nat):List (Nat×α)→List (Nat×α)
 |[]=>[]
 |(i,e)::r=>match ek i l with|true=>(i,e)::pz l r|false=>pz l r
def BK (fx:List Nat) (l:List Nat) (ops:Array Oper):List Oper→TS→(TS→Ev R)→Ev R
 |[],st,K=>Gt ⟨pz l st.tm,st.bx,st.ob⟩ K
 |o::r,st,K=>guarded C fx [] ops st o fun st'=>Gt st' fun st'=>BK fx l ops r st' K
def jc (fx:List Nat) (l:List Nat) (ops:Array Oper):rF→TS→(TS→Ev R)→Ev R
 | .nil,st,K=>Gt ⟨pz l st.tm,st.bx,st.ob⟩ K
 | .op i fl r,st,K=>match ops[i]? with
   |some o=>guarded C fx fl ops st o fun st'=>Gt st' fun st'=>jc fx l ops r st' K
   |none=> .fail
 | .alt a b,st,K=> .both (jc fx l ops a st K) (jc fx l ops b st K)
def mA (l:List Nat):List (Nat×List CE)→List (Nat×List CE)
 |[]=>[]
 |(i,cs)::r=>match Nat.ble 100000 i with
  |true=>(i,cs)::mA l r
  |false=>match ek i l with|true=>(i,cs)::mA l r|false=>mA l r
def cS (n:Nat):List CE→List CE×Nat×List (Nat×OB)
 |[]=>([],n,[])
 | .nil z::r=>match Nat.ble 1 z with
   |true=>match cS (n+1) r with|(cs,m,obs)=>(.ref n none::cs,m,(n,⟨true,z,[]⟩)::obs)
   |false=>match cS n r with|(cs,m,obs)=>(.nil z::cs,m,obs)
 |e::r=>match cS n r with|(cs,m,obs)=>(e::cs,m,obs)
def cA (n:Nat):List g8→List g8×Nat×List (Nat×OB)
 |[]=>([],n,[])
 | .mk a cs::r=>match cS n cs with
   |(cs',m,o1)=>match cA m r with|(es,m',o2)=>(.mk a cs'::es,m',o1++o2)
 | .ptr b::r=>match cA n r with|(es,m,o2)=>(.ptr b::es,m,o2)
def sU (n:Nat) (e:TE):TE×Nat×List (Nat×OB):=match e with
 | .v tup es=>match cA n es with|(es',m,o)=>(.v tup es',m,o)
 | .kb b=>(S (.bool b),n,[])
 |e=>(e,n,[])
def nL (n:Nat):List (Nat×TE)→List (Nat×TE)×List (Nat×OB)
 |[]=>([],[])
 |(i,e)::r=>match sU n e with
  |(e',m,o1)=>match nL m r with|(r',o2)=>((i,e')::r',o1++o2)
def C4 (n:Nat):List (Nat×OB)→Bool
 |[]=>true
 |(i,_)::r=>match Nat.ble n i with|true=>false|false=>C4 n r
def C5 (st:TS):TS:=match C4 900000000 st.ob with
 |true=>match nL 900000000 st.tm with|(tm,obs)=>⟨tm,st.bx,dP obs st.ob⟩
 |false=>st
def LF (st:TS):List Nat:=(st.tm.flatMap fun p=>ni p.2)++st.bx.flatMap fun p=>p.2.flatMap cr
def number:List Nat→Nat→List (Nat×Nat)→List (Nat×Nat)
 |[],_,ρ=>ρ
 |o::r,n,ρ=>match Nat.beq o 0 with
  |true=>number r n ρ
  |false=>match aa o ρ with
   |some _=>number r n ρ
   |none=>number r (n+1) ((o,n)::ρ)
def vo (ρ:List (Nat×Nat)) (o:Nat):Nat:=match aa o ρ with|some n=>n|none=>0
def uh (ρ:List (Nat×Nat)):CE→CE
 | .ref o cut=> .ref (vo ρ o) cut
 | .snap d l z rows=> .snap (d.map (vo ρ)) (match l with|some (o,i,f)=>some (vo ρ o,i,f)|none=>none) z rows
 |e=>e
def HD (ρ:List (Nat×Nat)):TE→TE
 | .ep d cells=> .ep (d.map (vo ρ)) cells
 | .er o p i f=> .er (vo ρ o) p i f
 |e=>e
def kC (ob:List (Nat×OB)):List (Nat×Nat)→List (Nat×OB)
 |[]=>[]
 |(o,n)::r=>match aa o ob with|some b=>fR n b (kC ob r)|none=>kC ob r
def Nf (ρ:List (Nat×Nat)) (st:TS):TS:=⟨mapA (nh (uh ρ) (HD ρ)) st.tm,mapA (List.map (uh ρ)) st.bx,kC st.ob ρ⟩
def canon (st:TS):TS:=Nf (number (LF st) 1 []) st
def C6 (l:List Nat) (st:TS):TS:=canon (C5 ⟨pz l st.tm,mA l st.bx,st.ob⟩)
def run (fx:List Nat) (f:FuncId):Nat→Code→TS→(TX→TS→Ev R)→Ev R
 |_,.skip,st,K=>K .norm st
 |_,.region id ops draw,st,K=>match draw with
  |false=>BK C fx (C.lr f id) ops ops.toList st (K .norm)
  |true=>match C.yj f id with
   |some l=>jc C fx (C.lr f id) ops l st (K .norm)
   |none=> .fail
 |i,.seq a b,st,K=>run fx f i a st fun x st'=>match x with
  | .norm=>run fx f i b st' K
  |x=>K x st'
 |i,.cond c a b,st,K=>match iZ C st 0 c with
  | .kb p=>match p with
    |true=>run fx f i a st K
    |false=>run fx f i b st K
  | .v false [.mk false [.sc (.bool p)]]=> .test p fun p=>match p with
    |true=>run fx f i a st K
    |false=>run fx f i b st K
  |_=> .fail
 |_,.block id body,st,K=>run fx f id body st fun x st'=>match x with
  | .ex id'=>match Nat.beq id' id with|true=>K .norm st'|false=>K (.ex id') st'
  |x=>K x st'
 |i,.loop body,st,K=>Gt (C6 (C.lb f i) st) fun st=> .loop f i body st K
 |_,.exit id,st,K=>K (.ex id) st
 |_,.ret,st,K=>K .ret st
 |_,_,_,_=> .fail
def HE:Mode→Bool
 | .deep=>true
 |_=>false
def bB (sh:Bool) (p:aF) (n:Nat):Nat→List TC→List CE×List (Nat×OB)
 |_,[]=>([],[])
 |j,c::r=>match bB sh p n (j+1) r with
  |(es,obs)=>match c with
   | .sc v=>(.sc v::es,obs)
   | .sub z rows=>match p.mc j with
     | .snap=>(.snap (match sh with|true=>[]|false=>[0]) none z rows::es,obs)
     |m=>(.ref (n+j) none::es,(n+j,⟨HE m,z,rows⟩)::obs)
   | .any=>(.gone::es,obs)
def vp (sh:Bool) (i:Nat):List (List TC)→List (Nat×List CE)
 |[]=>[]
 |c::r=>(i,(bB sh .borrow 0 0 c).1)::vp sh (i+1) r
def nM (p:aF) (i:Nat):Nat:=match p with| .borrow=>200000+1000*i|_=>100000+1000*i
def init (sh:Bool) (ps:List aF) (i:Nat):List TV→TS
 |[]=>⟨[],[],[]⟩
 |v::r=>match init sh (ps.drop 1) (i+1) r with
  |⟨tm,bx,ob⟩=>match v with
   | .c c=>match bB sh (ps.headD .borrow) (500+16*i) 0 [c] with|(cs,o)=>⟨(i,.v false [.mk false cs])::tm,bx,o++ob⟩
   | .ag cs=>match bB sh (ps.headD .borrow) (500+16*i) 0 cs with|(cs,o)=>⟨(i,.v false [.mk true cs])::tm,bx,o++ob⟩
   | .bx cs=>match bB sh (ps.headD .borrow) (500+16*i) 0 cs with
     |(cs,o)=>⟨(i,.bp (nM (ps.headD .borrow) i) 0)::tm,(nM (ps.headD .borrow) i,cs)::bx,o++ob⟩
   | .fn f caps=>⟨(i,.fn f (List.range' (200000+1000*i+1) caps.length))::tm,vp sh (200000+1000*i+1) caps++bx,ob⟩
   | .tu _=>⟨tm,bx,ob⟩
def En (m:Mode) (e:CE) (deep:Bool):Bool:=match m,e with
 |_,.sc _=>true
 | .snap,_=>true
 |_,.nil _=>true
 | .top,.ref _ _=>true
 | .deep,.ref _ _=>deep
 |_,_=>false
def qx:List Mode→List CE→TS→Option (List TC×TS)
 |_,[],st=>some ([],st)
 |ms,e::r,st=>match gu e st with
  |some (c,st',d)=>match En (ms.headD .snap) e d with
   |true=>match qx (ms.drop 1) r st' with
    |some (cs,wC)=>some (c::cs,wC)
    |none=>none
   |false=>none
  |none=>none
def eM:List Mode→List CE→TS→Option (List TC×TS)
 |_,[],st=>some ([],st)
 |ms,e::r,st=>match ms.headD .deep,e with
  | .snap,e=>match gu e st with
    |some (c,st',_)=>match eM (ms.drop 1) r st' with
     |some (cs,wC)=>some (c::cs,wC)
     |none=>none
    |none=>none
  |_,.sc v=>match eM (ms.drop 1) r st with
   |some (cs,st')=>some (.sc v::cs,st')
   |none=>none
  |_,.nil z=>match eM (ms.drop 1) r st with
   |some (cs,st')=>some (.sub z []::cs,st')
   |none=>none
  |_,.ref o none=>match aa o st.ob with
   |some ⟨true,z,rows⟩=>match eM (ms.drop 1) r (fC o st) with
    |some (cs,st')=>some (.sub z rows::cs,st')
    |none=>none
   |_=>none
  |_,_=>none
def LG (a:Bool):Nat:=match a with|true=>1|false=>0
def Fx (st:TS) (r:ResultVar) (K:TE→Ev R):Ev R:=match r with
 | .tmp t=>K (st.get t)
 | .cell a t=>su C st t (st.get a) K
def yB:List (List Mode)→List ResultVar→TS→(List (Nat×List TC)→TS→Ev R)→Ev R
 |_,[],st,K=>K [] st
 |ms,r::rs,st,K=>Fx C st r fun e=>match e with
  | .v false [.mk a cs]=>match qx (ms.headD []) cs st with
    |some (ts,st')=>yB (ms.drop 1) rs st' fun vs wC=>K ((LG a,ts)::vs) wC
    |none=> .fail
  | .kb b=>yB (ms.drop 1) rs st fun vs wC=>K ((0,[.sc (.bool b)])::vs) wC
  | .bp b 0=>match nG b,aa b st.bx with
    |true,some cs=>match qx (ms.headD []) cs ⟨st.tm,g9 b st.bx,st.ob⟩ with
     |some (ts,st')=>yB (ms.drop 1) rs st' fun vs wC=>K ((2,ts)::vs) wC
     |none=> .fail
    |_,_=> .fail
  |_=> .fail
def C7:List aF→Nat→TS→Option (List TV)
 |[],_,_=>some []
 |p::ps,i,st=>match p with
  | .inout ms=>match ms,st.get i with
    |[],.v false [.mk false [e]]=>match eM [] [e] st with
     |some ([c],st')=>match C7 ps (i+1) st' with
      |some vs=>some (.c c::vs)
      |none=>none
     |_=>none
    |[],.v false [.mk true cs]=>match eM [] cs st with
     |some (ts,st')=>match C7 ps (i+1) st' with
      |some vs=>some (.ag ts::vs)
      |none=>none
     |none=>none
    |ms,.bp b 0=>match nG b,aa b st.bx with
     |true,some cs=>match eM ms cs st with
      |some (ts,st')=>match C7 ps (i+1) st' with
       |some vs=>some (.bx ts::vs)
       |none=>none
      |none=>none
     |_,_=>none
    |_,_=>none
  |_=>C7 ps (i+1) st
def vq:List (Nat×List TC)→TV
 |[(0,[c])]=> .c c
 |[(1,cs)]=> .ag cs
 |[(2,cs)]=> .bx cs
 |vs=> .tu vs
def vr:List aF→Nat→List Nat
 |[],_=>[]
 | .inout _::r,i=>i::vr r (i+1)
 |_::r,i=>vr r (i+1)
def yC (g:Gr):List Nat:=match g.frz with|true=>777777::vr g.ps 0|false=>vr g.ps 0
def HF (g:Gr) (rs:List ResultVar) (x:TX) (st:TS):Ev (TV×List TV):=match x with
 | .ex _=> .fail
 |_=>yB C g.res rs st fun rs st'=>match C7 g.ps 0 st' with
  |some fs=>Lx (vq rs) fun r=>fL Lx fs fun fs=> .ret (r,fs)
  |none=> .fail
def qy (g:Gr) (vs:List TV):TS:=init true g.ps 0 vs
def body (f:FuncId) (vs:List TV):Ev (TV×List TV):=
 match C.P.funcs[f]? with
 |none=> .fail
 |some fn=>match fn.body with
  |none=> .fail
  |some c=>Gt (qy (C.sig f) vs) fun st=>run C (yC (C.sig f)) f 0 c st (HF C (C.sig f) fn.results.toList)
end
abbrev Cf:=FuncId→List TV→TV→List TV→Prop
abbrev Lp:=FuncId→Nat→Code→TS→(TX→TS→Prop)→Prop
def Ev.holds {R:Type} (cf:Cf) (lp:Lp) (Q:R→Prop):Ev R→Prop
 | .fail=>False
 | .ret r=>Q r
 | .test b k=>(k b).holds cf lp Q
 | .row rows i k=> ∃c,rowAt rows i=some c∧(k c).holds cf lp Q
 | .byte s i k=> ∃b,vi s i=some b∧(k b).holds cf lp Q
 | .bytes rows k=> ∃ns,nJ rows=some ns∧(k ns).holds cf lp Q
 | .call f vs k=> ∃r fs,cf f vs r fs∧(k r fs).holds cf lp Q
 | .loop f i c st k=>lp f i c st fun x st'=>(k x st').holds cf lp Q
 | .both a b=> ∃r,a.holds cf lp (fun r'=>r'=r)∧b.holds cf lp (fun r'=>r'=r)∧Q r
section
variable (C : e7)
def AQ (x:TX) (st:TS):Ev (TX×TS):= .ret (x,st)
def iter (cf:Cf) (lp:Lp) (fx:List Nat) (f i:Nat) (c:Code) (Q:TX→TS→Prop):Nat→TS→Prop
 |0,_=>False
 |n+1,st=>(run C fx f i c st AQ).holds cf lp fun p=>match p with
   |(.norm,st')=>Gt (C6 (C.lb f i) st') fun st'=>iter cf lp fx f i c Q n st'
   |(x,st')=>Q x st'
def Eo (cf:Cf) (k:Nat) (fx:List Nat):Nat→Lp
 |0=>fun _ _ _ _ _=>False
 |n+1=>fun f i c st Q=>iter C cf (Eo cf k fx n) fx f i c Q k st
def dz:Nat→Cf
 |0=>fun _ _ _ _=>False
 |k+1=>fun f vs r fs=>match C.ext f with
  |some p=>p vs=some (r,fs)
  |none=>(body C f vs).holds (dz k) (Eo C (dz k) k (yC (C.sig f)) 4) fun p=>p=(r,fs)
end
end Go.T
set_option linter.all false
namespace Go.T
inductive An where
 |b (x:Bool)
 |row (c:List TC)
 |n (i:Int)
 |ns (l:List Int)
 |call (r:TV) (fs:List TV)
 |loop (x:TX) (st:TS)
inductive Qr where
 |test (b x:Bool)
 |row (rows:List (List TC)) (i:Int) (c:List TC)
 |byte (s:ByteArray) (i b:Int)
 |bytes (rows:List (List TC)) (ns:List Int)
 |call (f:FuncId) (vs:List TV) (r:TV) (fs:List TV)
 |loop (f:FuncId) (i:Nat) (c:Code) (st:TS) (x:TX) (st':TS)
def Ev.trace {R:Type}:Ev R→List An→List Qr→Option (R×List Qr)
 | .fail,_,_=>none
 | .ret r,as,qs=>match as with|[]=>some (r,qs)|_=>none
 | .test b k,as,qs=>match as with| .b x::as=>(k x).trace as (.test b x::qs)|_=>none
 | .row rows i k,as,qs=>match as with| .row c::as=>(k c).trace as (.row rows i c::qs)|_=>none
 | .byte s i k,as,qs=>match as with| .n b::as=>(k b).trace as (.byte s i b::qs)|_=>none
 | .bytes rows k,as,qs=>match as with| .ns l::as=>(k l).trace as (.bytes rows l::qs)|_=>none
 | .call f vs k,as,qs=>match as with| .call r fs::as=>fL Lx vs fun vs=>(k r fs).trace as (.call f vs r fs::qs)|_=>none
 | .loop f i c st k,as,qs=>match as with| .loop x st'::as=>(k x st').trace as (.loop f i c st x st'::qs)|_=>none
 | .both _ _,_,_=>none
def Qr.ok (cf:Cf) (lp:Lp):Qr→Prop
 | .test b x=>b=x
 | .row rows i c=>rowAt rows i=some c
 | .byte s i b=>vi s i=some b
 | .bytes rows ns=>nJ rows=some ns
 | .call f vs r fs=>cf f vs r fs
 | .loop f i c st x st'=>lp f i c st fun x1 bD=>x1=x∧bD=st'
section
variable {Z : Type}
theorem lB {α:Type} {f:α→(α→Z)→Z} (h: ∀a K,f a K=K a): ∀(l:List α) (K:List α→Z),fL f l K=K l
 |[],K=>rfl
 |a::r,K=>by simp only[fL,h,lB h r]
theorem HG (b:Bool) (K:Bool→Z):fB b K=K b:=by cases b<;>rfl
theorem HH (b:Nat) (K:Nat→Z):fN b K=K b:=rfl
theorem HI (p:Option (Int×Nat)) (K:Option (Int×Nat)→Z):KQ p K=K p:=by cases p<;>rfl
theorem JI (p:Option (Int×Int)) (K:Option (Int×Int)→Z):Nb p K=K p:=by cases p<;>rfl
theorem LH (p:Option (Nat×Int×Nat)) (K:Option (Nat×Int×Nat)→Z):Qm p K=K p:=by cases p<;>rfl
theorem KV (v:Value) (K:Value→Z):fV v K=K v:=by cases v<;>rfl
theorem BL (c:TC) (K:TC→Z):Nc c K=K c:=by cases c<;>simp only[Nc,KV]
theorem HJ (e:CE) (K:CE→Z):Ox e K=K e:=by
 cases e<;>simp only[Ox,KV,JI,LH,lB HH]
theorem HK (c:g8) (K:g8→Z):Hq c K=K c:=by cases c<;>simp only[Hq,HG,lB HJ]
theorem LI (e:TE) (K:TE→Z):O5 e K=K e:=by
 cases e<;>simp only[O5,HG,lB HK,lB HH,lB BL,HI]
theorem LJ (b:OB) (K:OB→Z):O6 b K=K b:=by cases b;simp only[O6,HG]
theorem HL (v:TV) (K:TV→Z):Lx v K=K v:=by
 cases v<;>simp only[Lx,Hr,BL,lB BL]
 rw[lB (fun a K=>by cases a;simp only[Hr,lB BL])]
theorem jd (st:TS) (K:TS→Z):Gt st K=K st:=by
 cases st;simp only[Gt]
 rw[lB (fun a K=>by cases a;simp only[LI]),lB (fun a K=>by cases a;simp only[lB HJ]),lB (fun a K=>by cases a;simp only[LJ])]
end
theorem bY {R:Type} {cf cf':Cf} {lp lp':Lp} (hc: ∀f vs r fs,cf f vs r fs→cf' f vs r fs) (vf: ∀f i c st (Q Q':TX→TS→Prop),(∀x s,Q x s→Q' x s)→lp f i c st Q→lp' f i c st Q') {Q Q':R→Prop} (hQ: ∀r,Q r→Q' r):
 ∀(e:Ev R),e.holds cf lp Q→e.holds cf' lp' Q'
 | .fail,h=>h
 | .ret r,h=>hQ r h
 | .test b k,h=>bY hc vf hQ (k b) h
 | .row rows i k,⟨c,h1,h2⟩=>⟨c,h1,bY hc vf hQ (k c) h2⟩
 | .byte rows i k,⟨c,h1,h2⟩=>⟨c,h1,bY hc vf hQ (k c) h2⟩
 | .bytes rows k,⟨c,h1,h2⟩=>⟨c,h1,bY hc vf hQ (k c) h2⟩
 | .call f vs k,⟨r,fs,h1,h2⟩=>⟨r,fs,hc _ _ _ _ h1,bY hc vf hQ (k r fs) h2⟩
 | .loop f i c st k,h=>vf _ _ _ _ _ _ (fun x s hxs=>bY hc vf hQ (k x s) hxs) h
 | .both a b,⟨r,h1,h2,h3⟩=>⟨r,bY hc vf (fun _ h=>h) a h1,bY hc vf (fun _ h=>h) b h2,hQ r h3⟩
section
variable {C : e7}
theorem rJ {cf cf':Cf} {lp lp':Lp} (hc: ∀f vs r fs,cf f vs r fs→cf' f vs r fs) (vf: ∀f i c st (Q Q':TX→TS→Prop),(∀x s,Q x s→Q' x s)→lp f i c st Q→lp' f i c st Q')
 {fx:List Nat} {f i:Nat} {c:Code} {Q Q':TX→TS→Prop} (hQ: ∀x s,Q x s→Q' x s): ∀(n n':Nat),n≤n'→ ∀(st:TS),iter C cf lp fx f i c Q n st→iter C cf' lp' fx f i c Q' n' st
 |0,_,_,_,h=>h.elim
 |n+1,0,hn,_,_=>absurd hn az
 |n+1,n'+1,hn,st,h=>by
  refine bY hc vf (fun p hp=> ?_) _ h;obtain⟨x,s⟩:=p
  cases x with
  |norm=>
   simp only at hp ⊢;rw[jd] at hp ⊢;exact rJ hc vf hQ n n' az _ hp
  |ex id=>exact hQ _ _ hp
  |ret=>exact hQ _ _ hp
theorem h9 {cf cf':Cf} (hc: ∀f vs r fs,cf f vs r fs→cf' f vs r fs) {k k':Nat} (hk:k≤k') {fx:List Nat}: ∀(n:Nat) (f i:Nat) (c:Code) (st:TS) (Q Q':TX→TS→Prop),(∀x s,Q x s→Q' x s)→
 Eo C cf k fx n f i c st Q→Eo C cf' k' fx n f i c st Q'
 |0,_,_,_,_,_,_,_,h=>h.elim
 |n+1,f,i,c,st,Q,Q',hQ,h=>rJ hc (h9 hc hk n) hQ k k' hk st h
theorem qz: ∀(k:Nat) (f:FuncId) (vs:List TV) (r:TV) (fs:List TV),dz C k f vs r fs→dz C (k+1) f vs r fs
 |0,_,_,_,_,h=>h.elim
 |k+1,f,vs,r,fs,h=>by
  unfold dz at h ⊢
  cases hx:C.ext f with
  |some p=>rw[hx] at h;exact h
  |none=>rw[hx] at h;exact bY (qz k) (h9 (qz k) (Nat.le_succ k) 4) (fun _ h=>h) _ h
theorem Ep {k:Nat} {f:FuncId} {vs:List TV} {r:TV} {fs:List TV} (hx:C.ext f=none) (h:(body C f vs).holds (dz C k) (Eo C (dz C k) k (yC (C.sig f)) 4) fun p=>p=(r,fs)):dz C (k+1) f vs r fs:=by
 unfold dz;rw[hx];exact h
theorem Gu {k:Nat} {f:FuncId} {vs:List TV} {r:TV} {fs:List TV} {p:List TV→Option (TV×List TV)} (hx:C.ext f=some p) (h:p vs=some (r,fs)):dz C (k+1) f vs r fs:=by
 unfold dz;rw[hx];exact h
theorem fm {k k':Nat} (hk:k≤k') {f:FuncId} {vs:List TV} {r:TV} {fs:List TV} (h:dz C k f vs r fs):dz C k' f vs r fs:=by
 induction hk with
 |refl=>exact h
 |step _ ih=>exact qz _ _ _ _ _ ih
def vt (C:e7) (k:Nat) (fx:List Nat) (n:Nat) (f i:Nat) (c:Code) (m:Nat) (st:TS) (x:TX) (st':TS):Prop:=
 iter C (dz C k) (Eo C (dz C k) k fx n) fx f i c (fun x1 bD=>x1=x∧bD=st') m st
theorem vt.ok {k:Nat} {fx:List Nat} {n f i:Nat} {c:Code} {m:Nat} {st:TS} {x:TX} {st':TS} (h:vt C k fx n f i c m st x st') (hm:m≤k):(Qr.loop f i c st x st').ok (dz C k) (Eo C (dz C k) k fx (n+1)):=
 rJ (fun _ _ _ _ h=>h) (h9 (fun _ _ _ _ h=>h) (bE _) n) (fun _ _ h=>h) m k hm st h
end
end Go.T
namespace Go.T
def mB (rows:List (List TC)) (i f:Nat):Option TC:=(rows[i]?).bind fun r=>r[f]?
def xe:Value→Prop
 | .int _ _=>True
 | .bool _=>True
 | .string _=>True
 | .slice _ _ _=>True
 |_=>False
def Mode.nx:Mode→Mode
 | .deep=> .deep
 |_=> .snap
structure Ng (w:World) (R:Nat→Prop) (m:Mode) (S:Nat→Prop) (z:Nat) (rows:List (List TC)) (A:Option Addr) (c:Nat) (u:Nat→Nat→Value) (T:Nat→Nat→Nat→Prop):Prop where
 len:rows.length≤c
 cap:c≤maxLen
 z0:0<z
 width: ∀r∈rows,r.length=z
 addr:rows≠[]→ ∃ad,A=some ad
 cell: ∀ad,A=some ad→ ∀i f tc,mB rows i f=some tc→w.cell? (ad.add (i*z+f))=some (u i f)
 read:m= .snap→ ∀ad,A=some ad→rows≠[]→R ad.block
 own:m≠ .snap→(A=none→c=0)∧ ∀ad,A=some ad→S ad.block∧ad.spot=none∧
  ∀j,j<c*z→(∃x,w.cell? ⟨ad.block,ad.off+j,none⟩=some x)∧w.frozen? ⟨ad.block,ad.off+j,none⟩=false
 soft:m≠ .snap→1<z→ ∀ad,A=some ad→ ∀i,w.frozen? ⟨ad.block,i,none⟩=false
 gZ:m= .deep→ ∀i f k,T i f k→S k∧(∀ad,A=some ad→k≠ad.block)∧ ∀i' f',T i' f' k→i'=i∧f'=f
inductive ah (w:World) (R:Nat→Prop):Mode→(Nat→Prop)→TC→Value→Prop
 |sc (m:Mode) (S:Nat→Prop) (v:Value) (h:xe v):ah w R m S (.sc v) v
 |sub (m:Mode) (S:Nat→Prop) (z:Nat) (rows:List (List TC)) (A:Option Addr) (c:Nat) (u:Nat→Nat→Value) (T:Nat→Nat→Nat→Prop)
   (h:Ng w R m S z rows A c u T) (hn: ∀i f tc,mB rows i f=some tc→ah w R m.nx (T i f) tc (u i f)):
   ah w R m S (.sub z rows) (.slice A rows.length c)
 |any (m:Mode) (S:Nat→Prop) (v:Value) (h:v.oneCell'=true∧v.cells= #[v]):ah w R m S .any v
variable {w w' : World} {R R' S S' : Nat → Prop} {m : Mode} {c : TC} {v : Value}
theorem vu {rows:List (List TC)} {i f:Nat} {tc:TC} (h:mB rows i f=some tc):rows≠[]:=by
 rintro rfl;simp[mB] at h
theorem bZ {w w':World} {a:Addr} (h:w'.heap[a.block]?=w.heap[a.block]?):w'.cell? a=w.cell? a:=by
 unfold World.cell?;rw[h]
theorem eu {w w':World} {a:Addr} (h:w'.heap[a.block]?=w.heap[a.block]?):w'.frozen? a=w.frozen? a:=by
 unfold World.frozen?;rw[h]
theorem aQ (a:Addr) (n:Nat):(a.add n).block=a.block:=by unfold Addr.add;split<;>rfl
theorem ah.mono (h:ah w R m S c v) (hS: ∀k,S k→S' k):ah w R m S' c v:=by
 cases h with
 |any _ _ _ h=>exact .any _ _ _ h
 |sc _ _ _ h=>exact .sc _ _ _ h
 |sub _ _ z rows A c u T h hn=>
  refine .sub _ _ z rows A c u T {h with own:=fun hm=>⟨(h.own hm).1,fun ad ha=>⟨hS _ ((h.own hm).2 ad ha).1,((h.own hm).2 ad ha).2⟩⟩,gZ:=fun hm i f k hk=>⟨hS _ (h.gZ hm i f k hk).1,(h.gZ hm i f k hk).2⟩} hn
theorem kO {m:Mode} (h:m.nx≠ .snap):m= .deep:=by cases m<;>simp_all [Mode.nx]
theorem ah.move (h:ah w R m S c v):(∀k,R k→R' k∧w'.heap[k]?=w.heap[k]?)→(m≠ .snap→ ∀k,S k→w'.heap[k]?=w.heap[k]?)→ah w' R' m S c v:=by
 induction h with
 |any _ _ _ h=>exact fun _ _=> .any _ _ _ h
 |sc _ _ _ h=>exact fun _ _=> .sc _ _ _ h
 |sub m S z rows A c u T h hn ih=>
  intro hR hS;refine .sub _ _ z rows A c u T {h with cell:= ?_,read:= ?_,own:= ?_,soft:=fun hm h1 ad ha i=>by rw[eu (w:=w) (a:=⟨ad.block,i,none⟩) (hS hm _ ((h.own hm).2 ad ha).1)];exact h.soft hm h1 ad ha i} fun i f tc ht=>ih i f tc ht hR fun hm k hk=> ?_
  ·intro ad ha i f tc ht
   rw[bZ (w:=w)]
   ·exact h.cell ad ha i f tc ht
   ·rw[aQ]
    by_cases hm:m= .snap
    ·exact(hR _ (h.read hm ad ha (vu ht))).2
    ·exact hS hm _ ((h.own hm).2 ad ha).1
  ·exact fun hm ad ha hne=>(hR _ (h.read hm ad ha hne)).1
  ·intro hm
   refine⟨(h.own hm).1,fun ad ha=>⟨((h.own hm).2 ad ha).1,((h.own hm).2 ad ha).2.1,fun j hj=> ?_⟩⟩;have hb:=hS hm _ ((h.own hm).2 ad ha).1;obtain⟨⟨x,hx⟩,hf⟩:=((h.own hm).2 ad ha).2.2 j hj;exact⟨⟨x,by rw[bZ (w:=w) (by exact hb)];exact hx⟩,by rw[eu (w:=w) (by exact hb)];exact hf⟩
  ·have:=kO hm
   subst this;exact hS dh k (h.gZ rfl i f k hk).1
theorem ah.freeze (h:ah w R m S c v):(∀k,R k→R' k)→(m≠ .snap→ ∀k,S k→R' k)→ah w R' .snap S' c v:=by
 induction h generalizing S' with
 |any _ _ _ h=>exact fun _ _=> .any _ _ _ h
 |sc _ _ _ h=>exact fun _ _=> .sc _ _ _ h
 |sub m S z rows A c u T h hn ih=>
  intro hR hS;refine .sub _ _ z rows A c u (fun _ _ _=>False) {h with read:= ?_,own:=fun hm=>absurd rfl hm,soft:=fun hm=>absurd rfl hm,gZ:=fun hm=>by cases hm} fun i f tc ht=>ih i f tc ht hR fun hm k hk=> ?_
  ·intro _ ad ha hne
   by_cases hm:m= .snap
   ·exact hR _ (h.read hm ad ha hne)
   ·exact hS hm _ ((h.own hm).2 ad ha).1
  ·have:=kO hm
   subst this;exact hS dh k (h.gZ rfl i f k hk).1
theorem ah.gU (h:ah w R .snap S c v) (hR: ∀k,R k→R' k):ah w R' .snap S' c v:=h.freeze hR fun h=>absurd rfl h
end Go.T
namespace Go.T
theorem dQ {o:Nat}: ∀{l:List Nat},ek o l=true↔o∈l
 |[]=>by simp[ek]
 |a::r=>by
  simp only[ek,bC]
  cases h:Nat.beq a o with
  |true=>simp[cY h]
  |false=>simp only[dQ (l:=r)];have:=iY h;simp[Ne.symm this]
theorem bF {o:Nat} {l:List Nat}:ek o l=false↔o∉l:=by
 rw[←dQ];simp
theorem nN {o d:Nat}: ∀{l:List Nat},d∈CY o l↔d∈l∧d≠o
 |[]=>by simp[CY]
 |a::r=>by
  simp only[CY]
  cases h:Nat.beq a o with
  |true=>
   have h1:=cY h;subst h1;simp only[nN (l:=r),bC];exact⟨fun⟨x,y⟩=>⟨.inr x,y⟩,fun⟨x,y⟩=>⟨x.resolve_left y,y⟩⟩
  |false=>
   have h1:=iY h;simp only[bC,nN (l:=r)]
   constructor
   ·rintro(rfl|⟨x,y⟩)
    ·exact⟨.inl rfl,h1⟩
    ·exact⟨.inr x,y⟩
   ·rintro⟨rfl|x,y⟩
    ·exact .inl rfl
    ·exact .inr ⟨x,y⟩
theorem iN {a:List Nat} {l:List Nat} (h:kz a l=false) {x:Nat} (hx:x∈a):x∉l:=by
 induction a with
 |nil=>cases hx
 |cons y r ih=>
  simp only[kz] at h
  cases h1:ek y l with
  |true=>rw[h1] at h;cases h
  |false=>
   rw[h1] at h;rcases bC.1 hx with rfl|hx
   ·exact bF.1 h1
   ·exact ih h hx
theorem beq_false {a b:Nat} (h:a≠b):Nat.beq a b=false:=by
 cases h1:Nat.beq a b with
 |true=>exact absurd (cY h1) h
 |false=>rfl
theorem qA (a:Nat):Nat.beq a a=true:=by simp
section
variable {α β : Type}
theorem bS (i j:Nat) (e:α): ∀(l:List (Nat×α)),aa j (fR i e l)=if j=i then some e else aa j l
 |[]=>by
  simp only[fR,aa]
  by_cases h:j=i
  ·subst h;simp
  ·rw[beq_false (Ne.symm h),aH h]
 |(a,x)::r=>by
  have ih:=bS i j e r;simp only[fR]
  cases h1:Nat.beq a i with
  |true=>
   have h1:=cY h1;subst h1;simp only[aa]
   by_cases h:j=a
   ·subst h;simp
   ·rw[beq_false (Ne.symm h),aH h]
  |false=>
   have h1:=iY h1
   cases h2:Nat.ble i a with
   |true=>
    simp only[aa]
    by_cases h:j=i
    ·subst h;simp
    ·rw[beq_false (Ne.symm h),aH h]
   |false=>
    simp only[aa]
    by_cases h3:a=j
    ·subst h3;rw[qA,aH h1]
    ·rw[beq_false h3];exact ih
theorem dr (i j:Nat): ∀(l:List (Nat×α)),aa j (g9 i l)=if j=i then none else aa j l
 |[]=>by simp[g9,aa]
 |(a,x)::r=>by
  have ih:=dr i j r;simp only[g9]
  cases h1:Nat.beq a i with
  |true=>
   have h1:=cY h1;subst h1;simp only[aa,ih]
   by_cases h:j=a
   ·simp[h]
   ·rw[beq_false (Ne.symm h)]
  |false=>
   have h1:=iY h1;simp only[aa]
   by_cases h3:a=j
   ·subst h3;rw[qA,aH h1]
   ·rw[beq_false h3];exact ih
theorem jy (f:α→α) (j:Nat): ∀(l:List (Nat×α)),aa j (mapA f l)=(aa j l).map f
 |[]=>rfl
 |(a,x)::r=>by
  simp only[mapA,aa]
  cases Nat.beq a j with
  |true=>rfl
  |false=>exact jy f j r
theorem yD (l:List Nat) (j:Nat): ∀(m:List (Nat×α)),aa j (pz l m)=if j∈l then aa j m else none
 |[]=>by simp[pz,aa]
 |(a,x)::r=>by
  have ih:=yD l j r;simp only[pz]
  cases h1:ek a l with
  |true=>
   have h1:=dQ.1 h1;simp only[aa]
   by_cases h:a=j
   ·subst h;rw[qA,aY h1]
   ·rw[beq_false h];exact ih
  |false=>
   have h1:=bF.1 h1;simp only[aa,ih]
   by_cases h:a=j
   ·subst h;rw[aH h1,aH h1]
   ·rw[beq_false h]
end
structure Fp where
 I:Nat→Prop
 S:Nat→Nat→Prop
 V:Nat→Value
 β:Nat→Addr
def rd (φ:Fp) (ds:List Nat) (k:Nat):Prop:=φ.I k∨ ∃d,d∈ds∧φ.S d k
abbrev vg:Nat→Prop:=fun _=>False
def OB.m (b:OB):Mode:=if b.deep then .deep else .top
def fD (w:World) (φ:Fp) (o:Nat) (b:OB):Prop:=ah w φ.I b.m (φ.S o) (.sub b.z b.rows) (φ.V o)
def pE (z n:Nat) (l h:Int) (V v:Value):Prop:=
 0≤l∧l≤h∧h≤n∧ ∃A A' c,V= .slice A n c∧v= .slice A' (h.toNat-l.toNat) (c-l.toNat)∧(c≠l.toNat→A'=A.map fun a=>a.add (l.toNat*z))∧(A=none→A'=none)∧
  ∀ad,A=some ad→ ∃ad',A'=some ad'∧ad'.block=ad.block∧(ad.spot=none→ad'.spot=none)
def aj (ob:List (Nat×OB)) (d:Nat):Prop:= ∃b,aa d ob=some b
def Fy (ob:List (Nat×OB)) (w:World) (φ:Fp) (z:Nat) (rows:List (List TC)) (v:Value) (o:Nat) (i:Int) (f:Nat):Prop:=
 ∃b,aa o ob=some b∧0≤i∧mB b.rows i.toNat f=some (.sub z rows)∧ ∃ad n c,φ.V o= .slice (some ad) n c∧w.cell? (ad.add (i.toNat*b.z+f))=some v
def bn (ob:List (Nat×OB)) (w:World) (φ:Fp) (e:CE) (v:Value):Prop:=
 match e with
 | .sc x=>v=x∧xe x
 | .nil z=>v= .slice none 0 0∧0<z
 | .ref o cut=> ∃b,aa o ob=some b∧match cut with
   |none=>v=φ.V o
   |some (l,h)=>pE b.z b.rows.length l h (φ.V o) v
 | .snap ds loc z rows=>(∀d∈ds,d=0∨aj ob d)∧ah w (rd φ ds) .snap vg (.sub z rows) v∧ ∀o i f,loc=some (o,i,f)→o∈ds∧Fy ob w φ z rows v o i f
 | .gone=>True
def eN (ob:List (Nat×OB)) (w:World) (φ:Fp) (c:g8) (u:Value):Prop:=
 match c with
 | .mk true cs=> ∃xs:Array Value,u= .agg xs∧xs.size=cs.length∧ ∀(j:Nat) (e:CE),cs[j]?=some e→ ∃x,xs[j]?=some x∧x.cells= #[x]∧bn ob w φ e x
 | .mk false cs=> ∃e,cs=[e]∧u.cells= #[u]∧bn ob w φ e u
 | .ptr b=>u= .pointer (some (φ.β b))
def aU (ob:List (Nat×OB)) (w:World) (φ:Fp) (e:TE) (v:Value):Prop:=
 match e with
 | .dead=>True
 | .v true es=> ∃vs:Array Value,v= .tuple vs∧vs.size=es.length∧ ∀(k:Nat) (c:g8),es[k]?=some c→ ∃u,vs[k]?=some u∧eN ob w φ c u
 | .v false es=> ∃c,es=[c]∧eN ob w φ c v
 | .bp b off=>v= .pointer (some ((φ.β b).add off))
 | .ep ds cells=>(∀d∈ds,d=0∨aj ob d)∧ ∃ad,v= .pointer (some ad)∧(cells≠[]→rd φ ds ad.block)∧ ∀(j:Nat) (tc:TC),cells[j]?=some tc→ ∃u,w.cell? (ad.add j)=some u∧ah w (rd φ ds) .snap vg tc u
 | .er o path i f=> ∃b,aa o ob=some b∧0≤i∧ ∃ad n c,φ.V o= .slice (some ad) n c∧match path with
   |none=>v= .pointer (some (ad.add (i.toNat*b.z+f)))
   |some (i0,f0)=>0≤i0∧ ∃z1 ie,mB b.rows i0.toNat f0=some (.sub z1 ie)∧ ∃ad1 n1 c1,w.cell? (ad.add (i0.toNat*b.z+f0))=some (.slice (some ad1) n1 c1)∧
    v= .pointer (some (ad1.add (i.toNat*z1+f)))
 | .fn f caps=>v= .func (.func f) #[] (caps.map fun b=>Value.pointer (some (φ.β b))).toArray
 | .kb b=>v= .bool b
structure Fz (F:Nat→Prop) (w0 w:World):Prop where
 os:w.os=w0.os
 tape:w.tape=w0.tape
 output:w.output=w0.output
 size:w0.heap.size≤w.heap.size
 block: ∀k,k<w0.heap.size→ ¬F k→w.heap[k]?=w0.heap[k]?
structure Arg where
 all:Nat→Prop
 sh:Nat→Prop
structure Sep (F:Nat→Prop) (A:Arg) (w0 w:World) (φ:Fp) (bx:List (Nat×List CE)) (ob:List (Nat×OB)):Prop where
 arg:φ.S 0=A.all
 nz: ∀o,aj ob o→o≠0
 apart: ∀o o' k,aj ob o→aj ob o'→φ.S o k→φ.S o' k→o=o'
 read: ∀o k,aj ob o→φ.S o k→ ¬φ.I k
 fresh: ∀o k,aj ob o→φ.S o k→k<w.heap.size∧(w0.heap.size≤k∨F k)
 ro: ∀k,φ.I k→k<w.heap.size∧(w0.heap.size≤k∨F k∨A.sh k)
 fz: ∀k,A.all k→k<w0.heap.size∧ ¬F k
 box: ∀b cs,aa b bx=some cs→nG b=true→ ¬φ.I (φ.β b).block∧(∀o,aj ob o→ ¬φ.S o (φ.β b).block)∧(w0.heap.size≤(φ.β b).block∨F (φ.β b).block)∧
  ∀b' cs',aa b' bx=some cs'→b'≠b→(φ.β b').block≠(φ.β b).block
 spot: ∀b cs,aa b bx=some cs→(nG b=true→(φ.β b).spot=none)∧(φ.β b).block<w.heap.size∧(nG b=false→A.all (φ.β b).block)
 soft: ∀b cs j,aa b bx=some cs→nG b=true→j<cs.length→w.frozen? ((φ.β b).add j)=false
structure aq (F:Nat→Prop) (A:Arg) (w0:World) (φ:Fp) (st:TS) (tm:Array Value) (w:World):Prop where
 tmp: ∀i,aU st.ob w φ (st.get i) (tm.getD i undef)
 box: ∀b cs,aa b st.bx=some cs→ ∀(j:Nat) (e:CE),cs[j]?=some e→ ∃v,w.cell? ((φ.β b).add j)=some v∧v.cells= #[v]∧bn st.ob w φ e v
 obj: ∀o b,aa o st.ob=some b→fD w φ o b
 sep:Sep F A w0 w φ st.bx st.ob
 frm:Fz F w0 w
def Rel (F:Nat→Prop) (A:Arg) (w0:World) (st:TS) (tm:Array Value) (w:World):Prop:= ∃φ,aq F A w0 φ st tm w
section
variable {ob rC : List (Nat × OB)} {w w' : World} {φ φ' : Fp} {f : CE → CE} {g : TE → TE}
def lC (f:CE→CE):g8→g8
 | .mk a cs=> .mk a (cs.map f)
 | .ptr b=> .ptr b
theorem kP (f:CE→CE): ∀(es:List g8) (k:Nat),(eo f es)[k]?=(es[k]?).map (lC f)
 |[],_=>by simp[eo]
 | .mk a cs::r,0=>by simp[eo,lC]
 | .ptr b::r,0=>by simp[eo,lC]
 | .mk a cs::r,k+1=>by simp[eo,kP f r k]
 | .ptr b::r,k+1=>by simp[eo,kP f r k]
theorem ij (f:CE→CE): ∀(es:List g8),(eo f es).length=es.length
 |[]=>rfl
 | .mk a cs::r=>by simp[eo,ij f r]
 | .ptr b::r=>by simp[eo,ij f r]
theorem eN.sV (hβ:φ'.β=φ.β) (hc: ∀e v,bn ob w φ e v→bn rC w' φ' (f e) v) {c:g8} {u:Value} (h:eN ob w φ c u):
 eN rC w' φ' (lC f c) u:=by
 cases c with
 |ptr b=>simp only[eN,lC] at h ⊢;rw[hβ];exact h
 |mk a cs=>
  cases a with
  |true=>
   obtain⟨xs,h1,h2,h3⟩:=h;refine⟨xs,h1,by simp[h2],fun j e he=> ?_⟩;rw[ei] at he
   cases h4:cs[j]? with
   |none=>rw[h4] at he;cases he
   |some e0=>
    rw[h4] at he;simp only[eL,aE] at he;subst he;obtain⟨x,hx,hx1,hok⟩:=h3 j e0 h4;exact⟨x,hx,hx1,hc _ _ hok⟩
  |false=>
   obtain⟨e,rfl,h2,h3⟩:=h;exact⟨f e,rfl,h2,hc _ _ h3⟩
theorem aU.sV (hβ:φ'.β=φ.β) (hc: ∀e v,bn ob w φ e v→bn rC w' φ' (f e) v) (ht: ∀e v,(∀t es,e≠ .v t es)→aU ob w φ e v→aU rC w' φ' (g e) v) {e:TE} {v:Value} (h:aU ob w φ e v):
 aU rC w' φ' (nh f g e) v:=by
 by_cases hv: ∃t es,e= .v t es
 ·obtain⟨tup,es,rfl⟩:=hv
  cases tup with
  |true=>
   obtain⟨vs,h1,h2,h3⟩:=h;refine⟨vs,h1,by rw[ij];exact h2,fun k c hk=> ?_⟩;rw[kP] at hk
   cases h4:es[k]? with
   |none=>rw[h4] at hk;cases hk
   |some c0=>
    rw[h4] at hk;simp only[eL,aE] at hk;obtain⟨u,hu,hok⟩:=h3 k c0 h4;exact⟨u,hu,by rw[←hk];exact hok.sV hβ hc⟩
  |false=>
   obtain⟨c,rfl,hok⟩:=h;refine⟨_,?_,hok.sV hβ hc⟩
   cases c<;>rfl
 ·have h1:nh f g e=g e:=by cases e<;>first|rfl|exact absurd ⟨_,_,rfl⟩ hv
  rw[h1];exact ht e v (fun t es he=>hv ⟨t,es,he⟩) h
end
theorem get_map (f:CE→CE) (g:TE→TE) (h:List (Nat×OB)→List (Nat×OB)) (hd:g .dead= .dead) (st:TS) (i:Nat):(mo f g h st).get i=nh f g (st.get i):=by
 unfold TS.get mo;simp only[jy]
 cases aa i st.tm with
 |none=>exact hd.symm
 |some e=>rfl
variable {F : Nat → Prop} {A : Arg} {w0 w w' : World} {φ φ' : Fp} {st st' : TS} {tm sO : Array Value}
theorem aq.sV (h:aq F A w0 φ st tm w) {f:CE→CE} {g:TE→TE} {k:List (Nat×OB)→List (Nat×OB)} (hd:g .dead= .dead) (hβ:φ'.β=φ.β)
 (hc: ∀e v,bn st.ob w φ e v→bn (k st.ob) w' φ' (f e) v) (ht: ∀e v,(∀t es,e≠ .v t es)→aU st.ob w φ e v→aU (k st.ob) w' φ' (g e) v)
 (hw: ∀b cs,aa b st.bx=some cs→ ∀j,j<cs.length→w'.cell? ((φ.β b).add j)=w.cell? ((φ.β b).add j))
 (ho: ∀o b,aa o (k st.ob)=some b→fD w' φ' o b) (hs:Sep F A w0 w' φ' (mapA (List.map f) st.bx) (k st.ob)) (hf:Fz F w0 w'):aq F A w0 φ' (mo f g k st) tm w' where
 tmp i:=by rw[get_map f g k hd];exact(h.tmp i).sV hβ hc ht
 box b cs hb j e he:=by
  simp only[mo,jy] at hb
  cases h1:aa b st.bx with
  |none=>rw[h1] at hb;cases hb
  |some cs0=>
   rw[h1] at hb;simp only[eL,aE] at hb;subst hb;rw[ei] at he
   cases h2:cs0[j]? with
   |none=>rw[h2] at he;cases he
   |some e0=>
    rw[h2] at he;simp only[eL,aE] at he;subst he;obtain⟨v,hv,h1c,hok⟩:=h.box b cs0 h1 j e0 h2;refine⟨v,?_,h1c,hc _ _ hok⟩;rw[hβ,hw b cs0 h1 j (List.getElem?_eq_some_iff.1 h2).1];exact hv
 obj:=ho
 sep:=hs
 frm:=hf
theorem Sep.boxes {bx bx':List (Nat×List CE)} {ob:List (Nat×OB)} (h:Sep F A w0 w φ bx ob) (hb: ∀b cs',aa b bx'=some cs'→ ∃cs,aa b bx=some cs∧cs'.length=cs.length):Sep F A w0 w φ bx' ob where
 arg:=h.arg
 nz:=h.nz
 apart:=h.apart
 read:=h.read
 fresh:=h.fresh
 ro:=h.ro
 fz:=h.fz
 box b cs' hl hw:=by
  obtain⟨cs,h1,_⟩:=hb b cs' hl;obtain⟨a1,a2,a3,a4⟩:=h.box b cs h1 hw;refine⟨a1,a2,a3,fun b' CF hl' hne=> ?_⟩;obtain⟨cs2,h2,_⟩:=hb b' CF hl';exact a4 b' cs2 h2 hne
 spot b cs' hl:=by obtain⟨cs,h1,_⟩:=hb b cs' hl;exact h.spot b cs h1
 soft b cs' j hl hw hj:=by obtain⟨cs,h1,h2⟩:=hb b cs' hl;exact h.soft b cs j h1 hw az
theorem cO (f:CE→CE) {bx:List (Nat×List CE)}: ∀b cs',aa b (mapA (List.map f) bx)=some cs'→ ∃cs,aa b bx=some cs∧cs'.length=cs.length:=by
 intro b cs' h;rw[jy] at h
 cases h1:aa b bx with
 |none=>rw[h1] at h;cases h
 |some cs=>
  rw[h1] at h;simp only[eL,aE] at h;exact⟨cs,rfl,by rw[←h];simp⟩
theorem Sep.lt {bx:List (Nat×List CE)} {ob:List (Nat×OB)} (h:Sep F A w0 w φ bx ob) (hs:w0.heap.size≤w.heap.size) {d:Nat} (hd:d=0∨aj ob d) {k:Nat} (hk:φ.S d k):k<w.heap.size:=by
 rcases hd with rfl|hd
 ·rw[h.arg] at hk;exact dI (h.fz k hk).1 hs
 ·exact(h.fresh d k hd hk).1
theorem Sep.LK {bx:List (Nat×List CE)} {ob:List (Nat×OB)} (h:Sep F A w0 w φ bx ob) (hs:w0.heap.size≤w.heap.size) {ds:List Nat} (hd: ∀d∈ds,d=0∨aj ob d) {k:Nat} (hk:rd φ ds k):k<w.heap.size:=by
 rcases hk with hk|⟨d,hm,hk⟩
 ·exact(h.ro k hk).1
 ·exact h.lt hs (hd d hm) hk
structure gx (w w':World):Prop where
 os:w'.os=w.os
 tape:w'.tape=w.tape
 output:w'.output=w.output
 size:w.heap.size≤w'.heap.size
 block: ∀k,k<w.heap.size→w'.heap[k]?=w.heap[k]?
theorem gx.refl (w:World):gx w w:=⟨rfl,rfl,rfl,bE _,fun _ _=>rfl⟩
theorem gx.alloc (w:World) (o:Obj):gx w (w.alloc o):=⟨rfl,rfl,rfl,by simp,fun k hk=>heap_alloc_old w o hk⟩
theorem gx.drew (w:World):gx w w.drew:=⟨rfl,rfl,rfl,bE _,fun _ _=>rfl⟩
theorem gx.trans {a b c:World} (h:gx a b) (k:gx b c):gx a c:=
 ⟨k.os.trans h.os,k.tape.trans h.tape,k.output.trans h.output,kr h.size k.size,fun i hi=>(k.block i (dI hi h.size)).trans (h.block i hi)⟩
theorem Fz.Er (h:Fz F w0 w) (g:gx w w'):Fz F w0 w':=
 ⟨g.os.trans h.os,g.tape.trans h.tape,g.output.trans h.output,kr h.size g.size,fun k hk hf=>(g.block k (dI hk h.size)).trans (h.block k hk hf)⟩
theorem gx.cell (g:gx w w') {a:Addr} {v:Value} (h:w.cell? a=some v):w'.cell? a=some v:=by
 rw[bZ (w:=w) (g.block _ (World.block_lt_of_cell? w a h))];exact h
theorem gx.FA (g:gx w w') {a:Addr} (h:a.block<w.heap.size):w'.cell? a=w.cell? a:=bZ (g.block _ h)
theorem bn.stay {ob:List (Nat×OB)} (hI: ∀k,φ.I k→w'.heap[k]?=w.heap[k]?) (hS: ∀d k,d=0∨aj ob d→φ.S d k→w'.heap[k]?=w.heap[k]?)
 (hV: ∀o,aj ob o→ ∀ad n c,φ.V o= .slice (some ad) n c→ ∀i v,w.cell? (ad.add i)=some v→w'.cell? (ad.add i)=some v) {e:CE} {v:Value} (h:bn ob w φ e v):bn ob w' φ e v:=by
 cases e with
 |snap ds loc z rows=>
  obtain⟨h1,h2,h3⟩:=h;refine⟨h1,h2.move (fun k hk=>⟨hk,?_⟩) (fun hm=>absurd rfl hm),fun o i f hl=>⟨(h3 o i f hl).1,?_⟩⟩
  ·rcases hk with hk|⟨d,hd,hk⟩
   ·exact hI k hk
   ·exact hS d k (h1 d hd) hk
  ·obtain⟨b,a1,a2,a3,ad,n,c,a4,a5⟩:=(h3 o i f hl).2
   exact⟨b,a1,a2,a3,ad,n,c,a4,hV o ⟨b,a1⟩ ad n c a4 _ _ a5⟩
 |_=>exact h
theorem aU.stay {ob:List (Nat×OB)} (hI: ∀k,φ.I k→w'.heap[k]?=w.heap[k]?) (hS: ∀d k,d=0∨aj ob d→φ.S d k→w'.heap[k]?=w.heap[k]?)
 (hV: ∀o,aj ob o→ ∀ad n c,φ.V o= .slice (some ad) n c→ ∀i v,w.cell? (ad.add i)=some v→w'.cell? (ad.add i)=some v)
 (hA: ∀ad v,w.cell? ad=some v→(∀k,ad.block=k→w'.heap[k]?=w.heap[k]?)→w'.cell? ad=some v) (hE: ∀ds cells v,aU ob w φ (.ep ds cells) v→aU ob w' φ (.ep ds cells) v) {e:TE} {v:Value} (hv: ∀t es,e≠ .v t es)
 (h:aU ob w φ e v):aU ob w' φ e v:=by
 cases e with
 |v t es=>exact absurd rfl (hv t es)
 |ep ds cells=>exact hE ds cells v h
 |er o path i f=>
  obtain⟨b,h1,h2,ad,n,c,h3,h4⟩:=h;refine⟨b,h1,h2,ad,n,c,h3,?_⟩
  cases path with
  |none=>exact h4
  |some q=>
   obtain⟨i0,f0⟩:=q;obtain⟨a1,z1,ie,a2,ad1,n1,c1,a3,a4⟩:=h4;exact⟨a1,z1,ie,a2,ad1,n1,c1,hV o ⟨b,h1⟩ ad n c h3 _ _ a3,a4⟩
 |_=>exact h
theorem lD (st:TS):mo id id id st=st:=by
 have h1: ∀(es:List g8),eo id es=es:=by
  intro es
  induction es with
  |nil=>rfl
  |cons c r ih=>cases c<;>simp[eo,ih]
 have h2: ∀e:TE,nh id id e=e:=by
  intro e;cases e<;>first|rfl|(simp only[nh,h1])
 have h3: ∀{α:Type} (f:α→α) (hf: ∀a,f a=a) (l:List (Nat×α)),mapA f l=l:=by
  intro α f hf l
  induction l with
  |nil=>rfl
  |cons a r ih=>obtain⟨j,x⟩:=a;simp only[mapA,hf,ih]
 unfold mo;rw[h3 _ h2,h3 _ (fun l=>List.map_id l)]
 rfl
theorem Sep.Er {bx:List (Nat×List CE)} {ob:List (Nat×OB)} (h:Sep F A w0 w φ bx ob) (g:gx w w'):Sep F A w0 w' φ bx ob where
 arg:=h.arg
 nz:=h.nz
 apart:=h.apart
 read:=h.read
 fresh o k ho hk:=⟨dI (h.fresh o k ho hk).1 g.size,(h.fresh o k ho hk).2⟩
 ro k hk:=⟨dI (h.ro k hk).1 g.size,(h.ro k hk).2⟩
 fz:=h.fz
 box:=h.box
 spot b cs hb:=⟨(h.spot b cs hb).1,dI (h.spot b cs hb).2.1 g.size,(h.spot b cs hb).2.2⟩
 soft b cs j hb hw hj:=by
  rw[eu (w:=w) (g.block _ (by rw[aQ];exact(h.spot b cs hb).2.1))];exact h.soft b cs j hb hw hj
theorem aq.Er (h:aq F A w0 φ st tm w) (g:gx w w'):aq F A w0 φ st tm w':=by
 have hI: ∀k,φ.I k→w'.heap[k]?=w.heap[k]?:=fun k hk=>g.block k (h.sep.ro k hk).1;have hS: ∀d k,d=0∨aj st.ob d→φ.S d k→w'.heap[k]?=w.heap[k]?:=fun d k hd hk=>g.block k (h.sep.lt h.frm.size hd hk)
 have hE: ∀ds cells v,aU st.ob w φ (.ep ds cells) v→aU st.ob w' φ (.ep ds cells) v:=by
  intro ds cells v ⟨h1,ad,h2,hr,h3⟩;refine⟨h1,ad,h2,hr,fun j tc hj=> ?_⟩;obtain⟨u,h4,h5⟩:=h3 j tc hj;exact⟨u,g.cell h4,h5.move (fun k hk=>⟨hk,g.block k (h.sep.LK h.frm.size h1 hk)⟩) (fun hm=>absurd rfl hm)⟩
 have:=h.sV (f:=id) (g:=id) (k:=id) (φ':=φ) (w':=w') rfl rfl (fun e v he=>he.stay hI hS (fun o ho ad n c hv i v hc=>g.cell hc))
  (fun e v hv he=>aU.stay hI hS (fun o ho ad n c hv i v hc=>g.cell hc) (fun ad v hc _=>g.cell hc) hE hv he)
  (fun b cs hb j hj=>g.FA (by rw[aQ];exact(h.sep.spot b cs hb).2.1))
  (fun o b hb=>(h.obj o b hb).move (fun k hk=>⟨hk,hI k hk⟩) (fun _ k hk=>hS o k (.inr ⟨b,hb⟩) hk))
  (by
    have h3:mapA (List.map (id:CE→CE)) st.bx=st.bx:=by
     have:=congrArg TS.bx (lD st);exact this
    rw[h3]
    exact h.sep.Er g) (h.frm.Er g)
 rw[lD] at this;exact this
end Go.T
namespace Go.T
variable {F : Nat → Prop} {A : Arg} {w0 w w' : World} {φ φ' : Fp} {st st' : TS} {tm sO : Array Value}
theorem getD_set_ne (tm:Array Value) (d i:Nat) (v x:Value) (h:i≠d):(tm.setIfInBounds d v).getD i x=tm.getD i x:=by
 simp only[ko,AF];rw[aH fun h'=>h h'.symm]
theorem Ac (tm:Array Value) (d:Nat) (v x:Value) (h:d<tm.size):(tm.setIfInBounds d v).getD d x=v:=by
 simp only[ko,AF];simp[h]
theorem BM (st:TS) (d i:Nat) (e:TE):(st.set d e).get i=if i=d then e else st.get i:=by
 unfold TS.get TS.set;simp only[bS]
 by_cases h:i=d
 ·simp[h]
 ·simp[h]
theorem aq.Ae (h:aq F A w0 φ st tm w) {d:Nat} {e:TE} {v:Value} (hd:d<tm.size) (ht:aU st.ob w φ e v):aq F A w0 φ (st.set d e) (tm.setIfInBounds d v) w where
 tmp i:=by
  rw[BM]
  by_cases hi:i=d
  ·subst hi;rw[aY rfl,Ac _ _ _ _ hd];exact ht
  ·rw[aH hi,getD_set_ne _ _ _ _ _ hi];exact h.tmp i
 box:=h.box
 obj:=h.obj
 sep:=h.sep
 frm:=h.frm
theorem aq.JJ (h:aq F A w0 φ st tm w) {d:Nat} {e:TE} (ht:aU st.ob w φ e (tm.getD d undef)):aq F A w0 φ (st.set d e) tm w where
 tmp i:=by
  rw[BM]
  by_cases hi:i=d
  ·subst hi;rw[aY rfl];exact ht
  ·rw[aH hi];exact h.tmp i
 box:=h.box
 obj:=h.obj
 sep:=h.sep
 frm:=h.frm
theorem Sep.sub {bx:List (Nat×List CE)} {ob rC:List (Nat×OB)} (h:Sep F A w0 w φ bx ob) (hd: ∀o,aj rC o→aj ob o):Sep F A w0 w φ bx rC where
 arg:=h.arg
 nz o ho:=h.nz o (hd o ho)
 apart o o' k h1 h2:=h.apart o o' k (hd o h1) (hd o' h2)
 read o k ho:=h.read o k (hd o ho)
 fresh o k ho:=h.fresh o k (hd o ho)
 ro:=h.ro
 fz:=h.fz
 box b cs hb hw:=by
  obtain⟨a1,a2,a3,a4⟩:=h.box b cs hb hw;exact⟨a1,fun o ho=>a2 o (hd o ho),a3,a4⟩
 spot:=h.spot
 soft:=h.soft
theorem fI {o d:Nat} {ob:List (Nat×OB)}:aj (g9 o ob) d↔d≠o∧aj ob d:=by
 unfold aj;rw[dr]
 by_cases h:d=o
 ·simp[h]
 ·simp[h]
theorem lE {o d:Nat} {ob:List (Nat×OB)} (h:d≠o):aa d (g9 o ob)=aa d ob:=by rw[dr,aH h]
theorem bn.kill {o:Nat} {ob:List (Nat×OB)} {e:CE} {v:Value} (h:bn ob w φ e v):bn (g9 o ob) w φ (AM o e) v:=by
 unfold AM
 cases hd:ek o (cr e) with
 |true=>trivial
 |false=>
  have hd:=bF.1 hd
  cases e with
  |ref p cut=>
   simp only[cr,eG] at hd;obtain⟨b,h1,h2⟩:=h;exact⟨b,by rw[lE (Ne.symm hd)];exact h1,h2⟩
  |snap ds loc z rows=>
   simp only[cr] at hd;obtain⟨h1,h2,h3⟩:=h;refine⟨fun d hm=> ?_,h2,fun p i f hl=> ?_⟩
   ·rcases h1 d hm with h|h
    ·exact .inl h
    ·exact .inr (fI.2 ⟨fun e=>hd (e▸hm),h⟩)
   ·obtain⟨a1,b,a2,a3⟩:=h3 p i f hl
    have hp:p≠o:=fun e=>by subst e;exact hd a1
    exact⟨a1,b,by rw[lE hp];exact a2,a3⟩
  |_=>exact h
theorem aU.kill {o:Nat} {ob:List (Nat×OB)} {e:TE} {v:Value} (hv: ∀t es,e≠ .v t es) (h:aU ob w φ e v):aU (g9 o ob) w φ (Fq o e) v:=by
 cases e with
 |v t es=>exact absurd rfl (hv t es)
 |ep ds cells=>
  simp only[Fq]
  cases hd:ek o ds with
  |true=>trivial
  |false=>
   have hd:=bF.1 hd;obtain⟨h1,h2⟩:=h;refine⟨fun d hm=> ?_,h2⟩;rcases h1 d hm with h|h
   ·exact .inl h
   ·exact .inr (fI.2 ⟨fun e=>hd (e▸hm),h⟩)
 |er p path i f=>
  simp only[Fq]
  cases hd:Nat.beq p o with
  |true=>trivial
  |false=>
   have hd:=iY hd;obtain⟨b,h1,h2⟩:=h;exact⟨b,by rw[lE hd];exact h1,h2⟩
 |_=>exact h
theorem aq.fC (h:aq F A w0 φ st tm w) (o:Nat):aq F A w0 φ (fC o st) tm w:=by
 refine h.sV (φ':=φ) rfl rfl (fun e v he=>he.kill) (fun e v hv he=>he.kill hv) (fun _ _ _ _ _=>rfl) (fun p b hb=> ?_) ?_ h.frm
 ·rw[dr] at hb
  split at hb
  ·cases hb
  ·exact h.obj p b hb
 ·exact(h.sep.boxes (cO _)).sub fun d hd=>(fI.1 hd).2
theorem dN {o d:Nat}:aj (T.fC o st).ob d↔d≠o∧aj st.ob d:=fI
theorem AR {o d:Nat} (h:d≠o):aa d (T.fC o st).ob=aa d st.ob:=lE h
def Fp.more (φ:Fp) (X:Nat→Prop):Fp:={φ with I:=fun k=>φ.I k∨X k}
theorem BN {X:Nat→Prop} {ds:List Nat} {k:Nat} (h:rd φ ds k):rd (φ.more X) ds k:=h.imp .inl id
theorem ah.gy {R R' S:Nat→Prop} {m:Mode} {c:TC} {v:Value} (h:ah w R m S c v) (hR: ∀k,R k→R' k):ah w R' m S c v:=
 h.move (fun k hk=>⟨hR k hk,rfl⟩) fun _ _ _=>rfl
theorem bn.more {X:Nat→Prop} {ob:List (Nat×OB)} {e:CE} {v:Value} (h:bn ob w φ e v):bn ob w (φ.more X) e v:=by
 cases e with
 |snap ds loc z rows=>
  obtain⟨h1,h2,h3⟩:=h;exact⟨h1,h2.gy fun k hk=>BN hk,h3⟩
 |_=>exact h
theorem aU.more {X:Nat→Prop} {ob:List (Nat×OB)} {e:TE} {v:Value} (hv: ∀t es,e≠ .v t es) (h:aU ob w φ e v):aU ob w (φ.more X) e v:=by
 cases e with
 |v t es=>exact absurd rfl (hv t es)
 |ep ds cells=>
  obtain⟨h1,ad,h2,hr,h3⟩:=h;refine⟨h1,ad,h2,fun hc=>BN (hr hc),fun j tc hj=> ?_⟩;obtain⟨u,h4,h5⟩:=h3 j tc hj;exact⟨u,h4,h5.gy fun k hk=>BN hk⟩
 |_=>exact h
theorem vv (st:TS):mapA (List.map (id:CE→CE)) st.bx=st.bx:=congrArg TS.bx (lD st)
theorem aq.more (h:aq F A w0 φ st tm w) {X:Nat→Prop} (hX: ∀k,X k→k<w.heap.size∧(w0.heap.size≤k∨F k∨A.sh k)) (hS: ∀k o,X k→aj st.ob o→ ¬φ.S o k)
 (hB: ∀b cs,aa b st.bx=some cs→nG b=true→ ¬X (φ.β b).block):aq F A w0 (φ.more X) st tm w:=by
 have:=h.sV (f:=id) (g:=id) (k:=id) (φ':=φ.more X) (w':=w) rfl rfl (fun e v he=>he.more) (fun e v hv he=>he.more hv) (fun _ _ _ _ _=>rfl)
  (fun o b hb=>(h.obj o b hb).gy fun k hk=> .inl hk)
  (by
    rw[vv]
    exact {
     arg:=h.sep.arg,nz:=h.sep.nz,apart:=h.sep.apart,fresh:=h.sep.fresh,fz:=h.sep.fz,spot:=h.sep.spot,soft:=h.sep.soft
     read:=fun o k ho hk hI=>hI.elim (h.sep.read o k ho hk) fun hx=>hS k o hx ho hk
     ro:=fun k hk=>hk.elim (h.sep.ro k) (hX k)
     box:=fun b cs hb hw=>by
      obtain⟨a1,a2,a3,a4⟩:=h.sep.box b cs hb hw
      exact⟨fun hI=>hI.elim a1 (hB b cs hb hw),a2,a3,a4⟩}) h.frm
 rw[lD] at this;exact this
def Fp.add (φ:Fp) (o:Nat) (X:Nat→Prop) (v:Value):Fp:={φ with S:=fun d k=>if d=o then X k else φ.S d k,V:=fun d=>if d=o then v else φ.V d}
theorem BO {o:Nat} {X:Nat→Prop} {v:Value} {ds:List Nat} (hd:o∉ds) {k:Nat} (h:rd φ ds k):rd (φ.add o X v) ds k:=by
 rcases h with h|⟨d,hm,h⟩
 ·exact .inl h
 ·refine .inr ⟨d,hm,?_⟩
  show(if d=o then X k else φ.S d k)
  have hp:d≠o:=fun e=>by subst e;exact hd hm
  rw[aH hp];exact h
theorem kD {o d:Nat} {X:Nat→Prop} {v:Value} (h:d≠o) {k:Nat}:(φ.add o X v).S d k=φ.S d k:=aH h
theorem HM {o d:Nat} {X:Nat→Prop} {v:Value} (h:d≠o):(φ.add o X v).V d=φ.V d:=aH h
theorem dF {o d:Nat} {b:OB} {ob:List (Nat×OB)}:aj (fR o b ob) d↔d=o∨aj ob d:=by
 unfold aj;rw[bS]
 by_cases h:d=o
 ·simp[h]
 ·simp[h]
theorem ew {o d:Nat} {b:OB} {ob:List (Nat×OB)} (h:d≠o):aa d (fR o b ob)=aa d ob:=by rw[bS,aH h]
theorem eF {o:Nat} {b:OB} {ob:List (Nat×OB)}:aa o (fR o b ob)=some b:=by rw[bS,aY rfl]
theorem bn.add {o:Nat} {b:OB} {X:Nat→Prop} {V:Value} {ob:List (Nat×OB)} (h0:o≠0) (hn: ¬aj ob o) {e:CE} {v:Value} (h:bn ob w φ e v):bn (fR o b ob) w (φ.add o X V) e v:=by
 cases e with
 |ref p cut=>
  obtain⟨b',h1,h2⟩:=h;have hp:p≠o:=fun e=>hn ⟨b',e▸h1⟩;refine⟨b',by rw[ew hp];exact h1,?_⟩;rw[HM hp];exact h2
 |snap ds loc z rows=>
  obtain⟨h1,h2,h3⟩:=h;have hd:o∉ds:=fun hm=>(h1 o hm).elim h0 hn;refine⟨fun d hm=>(h1 d hm).imp id fun h=>dF.2 (.inr h),h2.gy fun k hk=>BO hd hk,fun p i f hl=>⟨(h3 p i f hl).1,?_⟩⟩;obtain⟨a1,b',a2,a3,a4,ad,n,c,a5,a6⟩:=h3 p i f hl;have hp:p≠o:=fun e=>hn ⟨b',e▸a2⟩;exact⟨b',by rw[ew hp];exact a2,a3,a4,ad,n,c,by rw[HM hp];exact a5,a6⟩
 |_=>exact h
theorem aU.add {o:Nat} {b:OB} {X:Nat→Prop} {V:Value} {ob:List (Nat×OB)} (h0:o≠0) (hn: ¬aj ob o) {e:TE} {v:Value} (hv: ∀t es,e≠ .v t es) (h:aU ob w φ e v):
 aU (fR o b ob) w (φ.add o X V) e v:=by
 cases e with
 |v t es=>exact absurd rfl (hv t es)
 |ep ds cells=>
  obtain⟨h1,ad,h2,hr,h3⟩:=h;have hd:o∉ds:=fun hm=>(h1 o hm).elim h0 hn;refine⟨fun d hm=>(h1 d hm).imp id fun h=>dF.2 (.inr h),ad,h2,fun hc=>BO hd (hr hc),fun j tc hj=> ?_⟩;obtain⟨u,h4,h5⟩:=h3 j tc hj;exact⟨u,h4,h5.gy fun k hk=>BO hd hk⟩
 |er p path i f=>
  obtain⟨b',h1,h2,ad,n,c,h3,h4⟩:=h;have hp:p≠o:=fun e=>hn ⟨b',e▸h1⟩;exact⟨b',by rw[ew hp];exact h1,h2,ad,n,c,by rw[HM hp];exact h3,h4⟩
 |_=>exact h
theorem JK (st:TS) (o:Nat) (b:OB):st.Lv o b=mo id id (fR o b) st:=by
 have h:=lD st;unfold mo at h ⊢;have h1:=congrArg TS.tm h;have h2:=congrArg TS.bx h;simp only at h1 h2;rw[h1,h2];rfl
theorem aq.add (h:aq F A w0 φ st tm w) {o:Nat} {b:OB} {X:Nat→Prop} {v:Value} (h0:o≠0) (hn: ¬aj st.ob o) (hc:ah w φ.I b.m X (.sub b.z b.rows) v)
 (hX: ∀k,X k→k<w.heap.size∧(w0.heap.size≤k∨F k)) (hI: ∀k,X k→ ¬φ.I k) (hS: ∀k d,X k→aj st.ob d→ ¬φ.S d k)
 (hB: ∀b cs,aa b st.bx=some cs→nG b=true→ ¬X (φ.β b).block):aq F A w0 (φ.add o X v) (st.Lv o b) tm w:=by
 rw[JK];refine h.sV (φ':=φ.add o X v) (w':=w) rfl rfl (fun e u he=>he.add h0 hn) (fun e u hv he=>he.add h0 hn hv) (fun _ _ _ _ _=>rfl) (fun p b' hb=> ?_) ?_ h.frm
 ·unfold fD
  by_cases hp:p=o
  ·subst hp
   rw[eF] at hb
   cases hb
   show ah w φ.I b.m (fun k=>if p=p then X k else φ.S p k) (.sub b.z b.rows) (if p=p then v else φ.V p);simp only[if_true];exact hc
  ·rw[ew hp] at hb
   have:=h.obj p b' hb;unfold fD at this;show ah w φ.I b'.m (fun k=>if p=o then X k else φ.S p k) (.sub b'.z b'.rows) (if p=o then v else φ.V p);simp only[aH hp];exact this
 ·rw[vv]
  exact {
   arg:=by
    show(fun k=>if 0=o then X k else φ.S 0 k)=A.all;simp only[aH (Ne.symm h0)];exact h.sep.arg
   nz:=fun d hd=>(dF.1 hd).elim (fun e=>e▸h0) (h.sep.nz d)
   apart:=fun d d' k h1 h2 h3 h4=>by
    by_cases e1:d=o
    ·by_cases e2:d'=o
     ·rw[e1,e2]
     ·subst e1
      rw[kD e2] at h4
      have h3:X k:=by have JA:(if d=d then X k else φ.S d k):=h3;simpa using JA
      exact absurd h4 (hS k d' h3 ((dF.1 h2).resolve_left e2))
    ·rw[kD e1] at h3
     by_cases e2:d'=o
     ·subst e2
      have h4:X k:=by have Rh:(if d'=d' then X k else φ.S d' k):=h4;simpa using Rh
      exact absurd h3 (hS k d h4 ((dF.1 h1).resolve_left e1))
     ·rw[kD e2] at h4
      exact h.sep.apart d d' k ((dF.1 h1).resolve_left e1) ((dF.1 h2).resolve_left e2) h3 h4
   read:=fun d k hd hk=>by
    by_cases e1:d=o
    ·subst e1
     have hk:X k:=by have hk':(if d=d then X k else φ.S d k):=hk;simpa using hk'
     exact hI k hk
    ·rw[kD e1] at hk
     exact h.sep.read d k ((dF.1 hd).resolve_left e1) hk
   fresh:=fun d k hd hk=>by
    by_cases e1:d=o
    ·subst e1
     have hk:X k:=by have hk':(if d=d then X k else φ.S d k):=hk;simpa using hk'
     exact hX k hk
    ·rw[kD e1] at hk
     exact h.sep.fresh d k ((dF.1 hd).resolve_left e1) hk
   ro:=h.sep.ro
   fz:=h.sep.fz
   box:=fun b' cs hb hw=>by
    obtain⟨a1,a2,a3,a4⟩:=h.sep.box b' cs hb hw;refine⟨a1,fun d hd hk=> ?_,a3,a4⟩
    by_cases e1:d=o
    ·subst e1
     have hk:X (φ.β b').block:=by have hk':(if d=d then X (φ.β b').block else φ.S d (φ.β b').block):=hk;simpa using hk'
     exact hB b' cs hb hw hk
    ·rw[kD e1] at hk
     exact a2 d ((dF.1 hd).resolve_left e1) hk
   spot:=h.sep.spot
   soft:=h.sep.soft}
theorem aq.qq (h:aq F A w0 φ st tm w) {o:Nat} {b:OB} {X:Nat→Prop} {v:Value} (h0:o≠0) (hc:ah w φ.I b.m X (.sub b.z b.rows) v)
 (hX: ∀k,X k→k<w.heap.size∧(w0.heap.size≤k∨F k)) (hI: ∀k,X k→ ¬φ.I k) (hS: ∀k d,X k→d≠o→aj st.ob d→ ¬φ.S d k)
 (hB: ∀b cs,aa b st.bx=some cs→nG b=true→ ¬X (φ.β b).block):aq F A w0 (φ.add o X v) (T.qq o b st) tm w:=
 (h.fC o).add h0 (fun hd=>(dN.1 hd).1 rfl) hc hX hI (fun k d hx hd=>hS k d hx (dN.1 hd).1 (dN.1 hd).2)
   fun b cs hb hw=>by
    obtain⟨cs0,h1,_⟩:=cO _ b cs hb;exact hB b cs0 h1 hw
end Go.T
namespace Go.T
variable {F : Nat → Prop} {A : Arg} {w0 w w' : World} {φ φ' : Fp} {st st' : TS} {tm sO : Array Value}
attribute [local semireducible] cF in
theorem oE (rows:List (List TC)) (l h:Int):cF rows l h=(rows.take h.toNat).drop l.toNat:=rfl
theorem yE {rows:List (List TC)} {l h:Int} (h2:h≤rows.length):(cF rows l h).length=h.toNat-l.toNat:=by
 rw[oE,pg,g7]
 have:h.toNat≤rows.length:=by omega
 omega
theorem BP {rows:List (List TC)} {l h:Int} {i f:Nat} {tc:TC} (ht:mB (cF rows l h) i f=some tc):mB rows (i+l.toNat) f=some tc∧i+l.toNat<h.toNat:=by
 unfold mB at ht ⊢;rw[oE,iL,wI] at ht
 by_cases hi:l.toNat+i<h.toNat
 ·rw[aY hi] at ht
  rw[Nat.add_comm];exact⟨ht,hi⟩
 ·rw[aH hi] at ht;cases ht
theorem qB {a:Addr} (n:Nat) (h:a.spot=none):(a.add n).spot=none:=by unfold Addr.add;split<;>simp[h]
theorem kQ {a:Addr} (n:Nat) (h:a.spot=none):a.add n=⟨a.block,a.off+n,none⟩:=by
 unfold Addr.add;split
 ·subst n;cases a;simp_all
 ·rfl
theorem ah.cut {R S:Nat→Prop} {m:Mode} {z:Nat} {rows:List (List TC)} {V v:Value} {l h:Int} (k:ah w R m S (.sub z rows) V) (hc:pE z rows.length l h V v):
 ah w R m S (.sub z (cF rows l h)) v:=by
 cases k with
 |sub _ _ _ _ A c u T k hn=>
  obtain⟨h0,h1,h2,A1,A',c1,e1,rfl,e2,e3,e4⟩:=hc
  cases e1
  have hlen:=yE (rows:=rows) (l:=l) h2
  have hle:h.toNat≤rows.length:=by omega
  rw[←hlen];have hcl:=k.len
  have hne: ∀i f tc,mB (cF rows l h) i f=some tc→c≠l.toNat:=fun i f tc ht=>by
   have:=(BP ht).2;omega
  refine .sub _ _ _ _ A' (c-l.toNat) (fun i f=>u (i+l.toNat) f) (fun i f=>T (i+l.toNat) f) ?_ fun i f tc ht=>hn _ _ _ (BP ht).1
  have hb: ∀ad',A'=some ad'→ ∃ad,A=some ad∧ad'.block=ad.block∧(ad.spot=none→ad'.spot=none):=fun ad' ha=>by
   cases hA:A with
   |none=>rw[e3 hA] at ha;cases ha
   |some ad=>
    obtain⟨ad2,b1,b2,b3⟩:=e4 ad hA;rw[b1] at ha;cases ha;exact⟨ad,rfl,b2,b3⟩
  have hnm:rows=[]→cF rows l h=[]:=fun e=>by rw[oE,e];simp
  refine⟨by omega,kr (Nat.sub_le _ _) k.cap,k.z0,fun r hr=>k.width r ?_,fun hr=> ?_,fun ad' ha i f tc ht=> ?_,fun hm ad' ha hr=> ?_,fun hm=>⟨fun ha=> ?_,fun ad' ha=> ?_⟩,fun hm G6 ad' ha i=> ?_,fun hm i f q hq=> ?_⟩
  ·rw[oE] at hr
   exact wJ (yp hr)
  ·obtain⟨ad,ha⟩:=k.addr fun e=>hr (hnm e)
   obtain⟨ad',b1,_⟩:=e4 ad ha;exact⟨ad',b1⟩
  ·obtain⟨ad,hA,_⟩:=hb ad' ha
   have:=e2 (hne i f tc ht);rw[hA] at this;simp only[eL] at this;rw[this] at ha
   cases ha
   rw[Addr.add_add];have:=k.cell ad hA _ _ _ (BP ht).1;rw[jT] at this;rw[show l.toNat*z+(i*z+f)=i*z+l.toNat*z+f by omega];exact this
  ·obtain⟨ad,hA,b1,_⟩:=hb ad' ha
   rw[b1];exact k.read hm ad hA fun e=>hr (hnm e)
  ·cases hA:A with
   |none=>rw[(k.own hm).1 hA];omega
   |some ad=>obtain⟨ad2,b1,_⟩:=e4 ad hA;rw[b1] at ha;cases ha
  ·obtain⟨ad,hA,b1,b2⟩:=hb ad' ha
   obtain⟨a1,a2,a3⟩:=(k.own hm).2 ad hA;refine⟨by rw[b1];exact a1,b2 a2,fun j hj=> ?_⟩
   have PI:c≠l.toNat:=fun e=>by rw[e] at hj;simp at hj
   have:=e2 PI;rw[hA] at this;simp only[eL] at this;rw[this] at ha
   cases ha
   rw[kQ _ a2];simp only;rw[mm];refine a3 _ ?_
   have:l.toNat*z+(c-l.toNat)*z≤c*z:=by
    rw[←jT];exact iM _ az
   omega
  ·obtain⟨ad,hA,b1,b2⟩:=hb ad' ha
   rw[b1];exact k.soft hm G6 ad hA i
  ·obtain⟨a1,a2,a3⟩:=k.gZ hm _ _ _ hq
   refine⟨a1,fun ad' ha=> ?_,fun i' f' zW=> ?_⟩
   ·obtain⟨ad,hA,b1,_⟩:=hb ad' ha
    rw[b1];exact a2 ad hA
   ·obtain⟨c1,c2⟩:=a3 _ _ zW
    exact⟨by omega,c2⟩
theorem fD.cut {o:Nat} {b:OB} (h:fD w φ o b) {cut:Option (Int×Int)} {v:Value} (hc:match(generalizing:=false) cut with|none=>v=φ.V o|some (l,h)=>pE b.z b.rows.length l h (φ.V o) v):
 ah w φ.I b.m (φ.S o) (.sub b.z (CZ cut b.rows)) v:=by
 cases cut with
 |none=>simp only at hc;rw[hc];exact h
 |some q=>obtain⟨l,h1⟩:=q;exact ah.cut h hc
theorem Gv {o:Nat} {l:Option (Nat×Int×Nat)} {p:Nat} {i:Int} {f:Nat} (h:Lw o l=some (p,i,f)):l=some (p,i,f)∧p≠o:=by
 unfold Lw at h
 cases l with
 |none=>cases h
 |some q=>
  obtain⟨a,b,c⟩:=q;simp only at h
  cases h1:Nat.beq a o with
  |true=>rw[h1] at h;cases h
  |false=>rw[h1] at h;cases h;exact⟨rfl,iY h1⟩
theorem Es {o:Nat} {ds:List Nat} {k:Nat} (h:rd φ ds k):rd (φ.more (φ.S o)) (CY o ds) k:=by
 rcases h with h|⟨d,hd,h⟩
 ·exact .inl (.inl h)
 ·by_cases e:d=o
  ·subst e;exact .inl (.inr h)
  ·exact .inr ⟨d,nN.2 ⟨hd,e⟩,h⟩
theorem bn.freeze {o:Nat} {b:OB} {ob:List (Nat×OB)} (hb:aa o ob=some b) (hO:fD w φ o b) {e:CE} {v:Value} (h:bn ob w φ e v):bn (g9 o ob) w (φ.more (φ.S o)) (xY o b e) v:=by
 cases e with
 |ref p cut=>
  obtain⟨b',h1,h2⟩:=h;simp only[xY]
  cases hd:Nat.beq p o with
  |true=>
   have:=cY hd;subst this;rw[hb] at h1;cases h1;refine And.intro (fun d hm=>by cases hm) (And.intro ?_ (fun _ _ _ hl=>by cases hl));exact(hO.cut h2).freeze (fun k hk=> .inl (.inl hk)) fun _ k hk=> .inl (.inr hk)
  |false=>
   have:=iY hd;exact⟨b',by rw[lE this];exact h1,h2⟩
 |snap ds loc z rows=>
  obtain⟨h1,h2,h3⟩:=h;refine⟨fun d hm=> ?_,h2.gy fun k hk=>Es hk,fun p i f hl=> ?_⟩
  ·obtain⟨a1,a2⟩:=nN.1 hm
   exact(h1 d a1).imp id fun h=>fI.2 ⟨a2,h⟩
  ·obtain⟨a1,a2⟩:=Gv hl
   obtain⟨a3,b',a4,a5⟩:=h3 p i f a1;exact⟨nN.2 ⟨a3,a2⟩,b',by rw[lE a2];exact a4,a5⟩
 |_=>exact h
theorem aU.freeze {o:Nat} {ob:List (Nat×OB)} {e:TE} {v:Value} (hv: ∀t es,e≠ .v t es) (h:aU ob w φ e v):aU (g9 o ob) w (φ.more (φ.S o)) (BD o e) v:=by
 cases e with
 |v t es=>exact absurd rfl (hv t es)
 |ep ds cells=>
  obtain⟨h1,ad,h2,hr,h3⟩:=h;refine⟨fun d hm=> ?_,ad,h2,fun hc=>Es (hr hc),fun j tc hj=> ?_⟩
  ·obtain⟨a1,a2⟩:=nN.1 hm
   exact(h1 d a1).imp id fun h=>fI.2 ⟨a2,h⟩
  ·obtain⟨u,h4,h5⟩:=h3 j tc hj
   exact⟨u,h4,h5.gy fun k hk=>Es hk⟩
 |er p path i f=>
  simp only[BD]
  cases hd:Nat.beq p o with
  |true=>trivial
  |false=>
   obtain⟨b,h1,h2⟩:=h;exact⟨b,by rw[lE (iY hd)];exact h1,h2⟩
 |_=>exact h
theorem aq.mq (h:aq F A w0 φ st tm w) (o:Nat): ∃φ',aq F A w0 φ' (mq st o) tm w∧φ'.β=φ.β∧φ'.V=φ.V∧φ'.S=φ.S∧ ∀k,φ'.I k↔φ.I k∨(aj st.ob o∧φ.S o k):=by
 unfold T.mq
 cases hb:aa o st.ob with
 |none=>exact⟨φ,h,rfl,rfl,rfl,fun k=>⟨.inl,fun hk=>hk.elim id fun⟨⟨b,hb'⟩,_⟩=>by rw[hb] at hb';cases hb'⟩⟩
 |some b=>
  refine⟨φ.more (φ.S o),h.sV (φ':=φ.more (φ.S o)) (w':=w) rfl rfl (fun e v he=>he.freeze hb (h.obj o b hb)) (fun e v hv he=>he.freeze hv) (fun _ _ _ _ _=>rfl) (fun p b' hp=> ?_) ?_ h.frm,rfl,rfl,rfl,fun k=>⟨fun hk=>hk.imp id fun hk=>⟨⟨b,hb⟩,hk⟩,fun hk=>hk.imp id fun hk=>hk.2⟩⟩
  ·rw[dr] at hp
   split at hp
   ·cases hp
   ·exact(h.obj p b' hp).gy fun k hk=> .inl hk
  ·have hs:=(h.sep.boxes (cO (xY o b))).sub (rC:=g9 o st.ob) fun d hd=>(fI.1 hd).2
   have hin:aj st.ob o:=⟨b,hb⟩
   exact {
    arg:=hs.arg,nz:=hs.nz,apart:=hs.apart,fresh:=hs.fresh,fz:=hs.fz,spot:=hs.spot,soft:=hs.soft
    read:=fun p k hp hk hI=>by
     obtain⟨a1,a2⟩:=fI.1 hp;rcases hI with hI|hI
     ·exact h.sep.read p k a2 hk hI
     ·exact a1 (h.sep.apart p o k a2 hin hk hI)
    ro:=fun k hk=>hk.elim (h.sep.ro k) fun hk=>⟨(h.sep.fresh o k hin hk).1,(h.sep.fresh o k hin hk).2.imp id .inl⟩
    box:=fun b' cs hb' hw=>by
     obtain⟨a1,a2,a3,a4⟩:=hs.box b' cs hb' hw;obtain⟨cs0,c1,_⟩:=cO _ b' cs hb'
     exact⟨fun hI=>hI.elim a1 ((h.sep.box b' cs0 c1 hw).2.1 o hin),a2,a3,a4⟩}
theorem aq.j7 (h:aq F A w0 φ st tm w) {o:Nat} {b b':OB} {X:Nat→Prop} (hb:aa o st.ob=some b) (hz:b'.z=b.z) (hl:b'.rows.length=b.rows.length)
 (hc:ah w' φ.I b'.m X (.sub b'.z b'.rows) (φ.V o)) (hf:Fz F w0 w') (hsz:w.heap.size≤w'.heap.size) (hw: ∀k,k<w.heap.size→ ¬φ.S o k→w'.heap[k]?=w.heap[k]?)
 (hX: ∀k,X k→k<w'.heap.size∧(w0.heap.size≤k∨F k)) (hI: ∀k,X k→ ¬φ.I k) (hS: ∀k d,X k→d≠o→aj st.ob d→ ¬φ.S d k)
 (hB: ∀b cs,aa b st.bx=some cs→nG b=true→ ¬X (φ.β b).block):aq F A w0 (φ.add o X (φ.V o)) (j7 o b' st) tm w':=by
 have hin:aj st.ob o:=⟨b,hb⟩;have h0:o≠0:=h.sep.nz o hin
 have hV:(φ.add o X (φ.V o)).V=φ.V:=by
  funext d
  show(if d=o then φ.V o else φ.V d)=φ.V d
  split
  ·subst_vars;rfl
  ·rfl
 have gT: ∀d,aj (fR o b' st.ob) d↔aj st.ob d:=fun d=>by
  rw[dF];exact⟨fun h=>h.elim (fun e=>e▸hin) id,.inr⟩
 have stI: ∀k,φ.I k→w'.heap[k]?=w.heap[k]?:=fun k hk=>hw k (h.sep.ro k hk).1 fun hs=>h.sep.read o k hin hs hk
 have stS: ∀d k,d≠o→d=0∨aj st.ob d→φ.S d k→w'.heap[k]?=w.heap[k]?:=fun d k hne hd hk=>hw k (h.sep.lt h.frm.size hd hk) fun hs=>by
  rcases hd with rfl|hd
  ·rw[h.sep.arg] at hk
   have:=h.sep.fz k hk;rcases (h.sep.fresh o k hin hs).2 with h3|h3
   ·omega
   ·exact this.2 h3
  ·exact hne (h.sep.apart d o k hd hin hk hs)
 have stR: ∀ds k,o∉ds→(∀d∈ds,d=0∨aj st.ob d)→rd φ ds k→rd (φ.add o X (φ.V o)) ds k∧w'.heap[k]?=w.heap[k]?:=fun ds k hn hd hk=>by
  refine⟨BO hn hk,?_⟩;rcases hk with hk|⟨d,hm,hk⟩
  ·exact stI k hk
  ·exact stS d k (fun e=>by subst e;exact hn hm) (hd d hm) hk
 have stV: ∀p b1 ad n c i f tc u,p≠o→aa p st.ob=some b1→φ.V p= .slice (some ad) n c→mB b1.rows i f=some tc→w.cell? (ad.add (i*b1.z+f))=some u→w'.cell? (ad.add (i*b1.z+f))=some u:=by
  intro p b1 ad n c i f tc u hne hp hv ht hcell;have hO:=h.obj p b1 hp;unfold fD at hO;rw[hv] at hO
  have hS:φ.S p ad.block:=by
   cases hO with
   |sub _ _ _ _ _ _ u T k hn=>exact(k.own (by unfold OB.m;split<;>simp)).2 ad rfl|>.1
  rw[bZ (w:=w)]
  ·exact hcell
  ·rw[aQ];exact stS p _ hne (.inr ⟨b1,hp⟩) hS
 have cbox: ∀p cs,aa p st.bx=some cs→w'.heap[(φ.β p).block]?=w.heap[(φ.β p).block]?:=fun p cs hp=>by
  obtain⟨a1,a2,a3⟩:=h.sep.spot p cs hp;refine hw _ a2 fun hs=> ?_
  cases r9:nG p with
  |true=>exact(h.sep.box p cs hp r9).2.1 o hin hs
  |false=>
   have:=h.sep.fz _ (a3 r9);rcases (h.sep.fresh o _ hin hs).2 with h3|h3
   ·omega
   ·exact this.2 h3
 refine h.sV (φ':=φ.add o X (φ.V o)) rfl rfl (fun e v he=> ?_) (fun e v hv he=> ?_) (fun p cs hp j hj=> ?_) (fun p b1 hp=> ?_) ?_ hf
 ·cases e with
  |ref p cut=>
   obtain⟨b1,h1,h2⟩:=he
   by_cases hp:p=o
   ·subst hp
    rw[hb] at h1;cases h1;refine⟨b',eF,?_⟩;rw[hV]
    cases cut with
    |none=>exact h2
    |some q=>obtain⟨l,r⟩:=q;simp only at h2 ⊢;rw[hz,hl];exact h2
   ·exact⟨b1,by rw[ew hp];exact h1,by rw[hV];exact h2⟩
  |snap ds loc z rows=>
   simp only[Ei]
   cases hd:ek o ds with
   |true=>trivial
   |false=>
    have hd:=bF.1 hd;obtain⟨h1,h2,h3⟩:=he;refine⟨fun d hm=>(h1 d hm).imp id (gT d).2,h2.move (fun k hk=>stR ds k hd h1 hk) (fun hm=>absurd rfl hm),fun p i f hl=> ?_⟩;obtain⟨a1,b1,a2,a3,a4,ad,n,c,a5,a6⟩:=h3 p i f hl
    have hp:p≠o:=fun e=>by subst e;exact hd a1
    refine⟨a1,b1,by rw[ew hp];exact a2,a3,a4,ad,n,c,by rw[hV];exact a5,stV p b1 ad n c _ _ _ _ hp a2 a5 a4 a6⟩
  |_=>exact he
 ·cases e with
  |v t es=>exact absurd rfl (hv t es)
  |ep ds cells=>
   simp only[BC]
   cases hd:ek o ds with
   |true=>trivial
   |false=>
    have hd:=bF.1 hd;obtain⟨h1,ad,h2,hr,h3⟩:=he;refine⟨fun d hm=>(h1 d hm).imp id (gT d).2,ad,h2,fun hc=>(stR ds _ hd h1 (hr hc)).1,fun j tc hj=> ?_⟩;obtain⟨u,h4,h5⟩:=h3 j tc hj
    have hc:cells≠[]:=fun e=>by rw[e] at hj;simp at hj
    exact⟨u,by rw[bZ (w:=w) (by rw[aQ];exact(stR ds _ hd h1 (hr hc)).2)];exact h4,h5.move (fun k hk=>stR ds k hd h1 hk) (fun hm=>absurd rfl hm)⟩
  |er p path i f=>
   obtain⟨b1,h1,h2,ad,n,c,h3,h4⟩:=he
   cases path with
   |none=>
    simp only[BC]
    by_cases hp:p=o
    ·subst hp
     rw[hb] at h1;cases h1;exact⟨b',eF,h2,ad,n,c,by rw[hV];exact h3,by rw[hz];exact h4⟩
    ·exact⟨b1,by rw[ew hp];exact h1,h2,ad,n,c,by rw[hV];exact h3,h4⟩
   |some q=>
    obtain⟨i0,f0⟩:=q;simp only[BC]
    cases hd:Nat.beq p o with
    |true=>trivial
    |false=>
     have hp:=iY hd;obtain⟨a1,z1,ie,a2,ad1,n1,c1,a3,a4⟩:=h4;exact⟨b1,by rw[ew hp];exact h1,h2,ad,n,c,by rw[hV];exact h3,a1,z1,ie,a2,ad1,n1,c1,stV p b1 ad n c _ _ _ _ hp h1 h3 a2 a3,a4⟩
  |_=>exact he
 ·exact bZ (by rw[aQ];exact cbox p cs hp)
 ·unfold fD
  by_cases CG:p=o
  ·subst CG
   rw[eF] at hp;cases hp;rw[hV];show ah w' φ.I b'.m (fun k=>if p=p then X k else φ.S p k) (.sub b'.z b'.rows) (φ.V p);simp only[if_true];exact hc
  ·rw[ew CG] at hp
   rw[hV];show ah w' φ.I b1.m (fun k=>if p=o then X k else φ.S p k) (.sub b1.z b1.rows) (φ.V p);simp only[aH CG];exact(h.obj p b1 hp).move (fun k hk=>⟨hk,stI k hk⟩) fun _ k hk=>stS p k CG (.inr ⟨b1,hp⟩) hk
 ·have hs:=h.sep.boxes (cO (Ei o))
  have self: ∀k,(φ.add o X (φ.V o)).S o k→X k:=fun k hk=>by
   have hk':(if o=o then X k else φ.S o k):=hk;simpa using hk'
  exact {
   arg:=by
    show(fun k=>if 0=o then X k else φ.S 0 k)=A.all;simp only[aH (Ne.symm h0)];exact h.sep.arg
   nz:=fun d hd=>h.sep.nz d ((gT d).1 hd)
   apart:=fun d d' k h1 h2 h3 h4=>by
    have i1:=(gT d).1 h1;have i2:=(gT d').1 h2
    by_cases e1:d=o
    ·subst e1
     by_cases e2:d'=d
     ·exact e2.symm
     ·rw[kD e2] at h4;exact absurd h4 (hS k d' (self k h3) e2 i2)
    ·rw[kD e1] at h3
     by_cases e2:d'=o
     ·subst e2;exact absurd h3 (hS k d (self k h4) e1 i1)
     ·rw[kD e2] at h4;exact h.sep.apart d d' k i1 i2 h3 h4
   read:=fun d k hd hk=>by
    have hd:=(gT d).1 hd
    by_cases e1:d=o
    ·subst e1;exact hI k (self k hk)
    ·rw[kD e1] at hk;exact h.sep.read d k hd hk
   fresh:=fun d k hd hk=>by
    have hd:=(gT d).1 hd
    by_cases e1:d=o
    ·subst e1;exact hX k (self k hk)
    ·rw[kD e1] at hk
     exact⟨dI (h.sep.fresh d k hd hk).1 hsz,(h.sep.fresh d k hd hk).2⟩
   ro:=fun k hk=>⟨dI (h.sep.ro k hk).1 hsz,(h.sep.ro k hk).2⟩
   fz:=h.sep.fz
   box:=fun p cs hp r9=>by
    obtain⟨cs0,c1,_⟩:=cO _ p cs hp;obtain⟨a1,a2,a3,a4⟩:=hs.box p cs hp r9;refine⟨a1,fun d hd hk=> ?_,a3,a4⟩;have hd:=(gT d).1 hd
    by_cases e1:d=o
    ·subst e1;exact hB p cs0 c1 r9 (self _ hk)
    ·rw[kD e1] at hk;exact a2 d hd hk
   spot:=fun p cs hp=>⟨(hs.spot p cs hp).1,dI (hs.spot p cs hp).2.1 hsz,(hs.spot p cs hp).2.2⟩
   soft:=fun p cs j hp r9 hj=>by
    obtain⟨cs0,c1,c2⟩:=cO _ p cs hp;rw[eu (w:=w) (by rw[aQ];exact cbox p cs0 c1)]
    exact h.sep.soft p cs0 j c1 r9 az}
end Go.T
namespace Go.T
variable {F : Nat → Prop} {A : Arg} {w0 w w' : World} {φ φ' : Fp} {st st' : TS} {tm sO : Array Value}
theorem aq.less (h:aq F A w0 φ st tm w) (ht: ∀i,st'.get i= .dead∨st'.get i=st.get i) (hb: ∀b cs,aa b st'.bx=some cs→aa b st.bx=some cs) (ho:st'.ob=st.ob):aq F A w0 φ st' tm w where
 tmp i:=by
  rw[ho];rcases ht i with h1|h1
  ·rw[h1];trivial
  ·rw[h1];exact h.tmp i
 box b cs h1:=by rw[ho];exact h.box b cs (hb b cs h1)
 obj:=by rw[ho];exact h.obj
 sep:=by rw[ho];exact h.sep.boxes fun b cs h1=>⟨cs,hb b cs h1,rfl⟩
 frm:=h.frm
theorem C8 (st:TS) (l:List Nat) (bx:List (Nat×List CE)) (ob:List (Nat×OB)) (i:Nat):(⟨pz l st.tm,bx,ob⟩:TS).get i= .dead∨(⟨pz l st.tm,bx,ob⟩:TS).get i=st.get i:=by
 unfold TS.get;simp only[yD]
 by_cases h:i∈l
 ·right;rw[aY h]
 ·left;rw[aH h]
theorem aq.keep (h:aq F A w0 φ st tm w) (l:List Nat):aq F A w0 φ ⟨pz l st.tm,st.bx,st.ob⟩ tm w:=
 h.less (C8 st l st.bx st.ob) (fun _ _ h=>h) rfl
theorem yF (l:List Nat) (j:Nat): ∀(m:List (Nat×List CE)) (cs:List CE),aa j (mA l m)=some cs→aa j m=some cs
 |[],cs,h=>by simp[mA,aa] at h
 |(a,x)::r,cs,h=>by
  have ih:=yF l j r cs
  have key:aa j ((a,x)::mA l r)=some cs→aa j ((a,x)::r)=some cs:=fun h=>by
   simp only[aa] at h ⊢
   cases h1:Nat.beq a j with
   |true=>rw[h1] at h;exact h
   |false=>rw[h1] at h;exact ih h
  have skip:(100000≤a→False)→a∉l→aa j (mA l r)=some cs→aa j ((a,x)::r)=some cs:=fun h1 h2 h=>by
   simp only[aa]
   cases h3:Nat.beq a j with
   |false=>exact ih h
   |true=>
    exfalso
    have h3:=cY h3;subst h3
    have: ∀(m:List (Nat×List CE)),aa a (mA l m)=none:=by
     intro m
     induction m with
     |nil=>rfl
     |cons p r ih=>
      obtain⟨c,y⟩:=p;simp only[mA]
      have hk: ∀(hc:c≠a),aa a ((c,y)::mA l r)=none:=fun hc=>by
       simp only[aa,beq_false hc];exact ih
      split
      ·rename_i h4
       exact hk fun e=>h1 (by subst e;exact iX h4)
      ·split
       ·rename_i h5
        exact hk fun e=>h2 (by subst e;exact dQ.1 h5)
       ·exact ih
    rw[this] at h;cases h
  simp only[mA] at h
  split at h
  ·exact key h
  ·rename_i h4
   split at h
   ·exact key h
   ·rename_i h5
    exact skip (fun h6=>by rw[yq h6] at h4;cases h4) (bF.1 h5) h
theorem aq.Nh (h:aq F A w0 φ st tm w) (l:List Nat):aq F A w0 φ ⟨pz l st.tm,mA l st.bx,st.ob⟩ tm w:=
 h.less (C8 st l (mA l st.bx) st.ob) (fun b cs hb=>yF l b st.bx cs hb) rfl
theorem Gw {b:Nat} {ob:List (Nat×OB)} {β:Nat→Addr} (hβ: ∀c,c≠b→β c=φ.β c) {e:TE} {v:Value} (hn:yx b e=false) (h:aU ob w φ e v):aU ob w {φ with β:=β} e v:=by
 have Lb: ∀(c:g8) (u:Value),KR b c=false→eN ob w φ c u→eN ob w {φ with β:=β} c u:=by
  intro c u hc h
  cases c with
  |ptr c=>
   simp only[eN] at h ⊢;rw[hβ c (iY hc)];exact h
  |mk a cs=>cases a<;>exact h
 cases e with
 |v t es=>
  simp only[yx,List.any_eq_false] at hn
  cases t with
  |true=>
   obtain⟨vs,h1,h2,h3⟩:=h;refine⟨vs,h1,h2,fun k c hk=> ?_⟩;obtain⟨u,h4,h5⟩:=h3 k c hk;exact⟨u,h4,Lb c u (by simpa using hn c (dw hk)) h5⟩
  |false=>
   obtain⟨c,rfl,h3⟩:=h;exact⟨c,rfl,Lb c v (by simpa using hn c dh) h3⟩
 |bp c off=>
  simp only[aU] at h ⊢;rw[hβ c (iY hn)];exact h
 |fn f caps=>
  simp only[aU] at h ⊢;rw[h];have hn:=bF.1 hn
  congr 2
  refine List.map_congr_left fun c hc=> ?_;rw[hβ c fun e=>by subst e;exact hn hc]
 |_=>exact h
theorem AS (b:Nat) (st:TS) (i:Nat):(AN b st).get i=if yx b (st.get i)=true then .dead else st.get i:=by
 unfold TS.get AN;simp only[jy]
 cases aa i st.tm with
 |none=>simp
 |some e=>
  simp only[eL]
  cases yx b e<;>simp
theorem aq.AN (h:aq F A w0 φ st tm w) (b:Nat):aq F A w0 φ (AN b st) tm w:=by
 refine h.less (fun i=> ?_) (fun c cs hc=> ?_) rfl
 ·rw[AS];split<;>simp
 ·have:aa c (g9 b st.bx)=some cs:=hc
  rw[dr] at this
  split at this
  ·cases this
  ·exact this
def Fp.box (φ:Fp) (b:Nat) (ad:Addr):Fp:={φ with β:=fun c=>if c=b then ad else φ.β c}
theorem lF {b:Nat} {ad:Addr}:(φ.box b ad).β b=ad:=aY rfl
theorem fU {b c:Nat} {ad:Addr} (h:c≠b):(φ.box b ad).β c=φ.β c:=aH h
theorem aq.vk (h:aq F A w0 φ st tm w) {b:Nat} {cs:List CE} {ad:Addr} (hw:nG b=true) (hs:ad.spot=none) (hlt:ad.block<w.heap.size) (hS: ∀o,aj st.ob o→ ¬φ.S o ad.block)
 (hI: ¬φ.I ad.block) (hF:w0.heap.size≤ad.block∨F ad.block) (hB: ∀b' cs',aa b' st.bx=some cs'→b'≠b→(φ.β b').block≠ad.block)
 (hc: ∀(j:Nat) (e:CE),cs[j]?=some e→ ∃v,w.cell? (ad.add j)=some v∧v.cells= #[v]∧bn st.ob w φ e v) (hf: ∀j,j<cs.length→w.frozen? (ad.add j)=false):aq F A w0 (φ.box b ad) (vk b cs st) tm w:=by
 have lX: ∀c,aa c (T.vk b cs st).bx=if c=b then some cs else aa c st.bx:=fun c=>by
  show aa c (fR b cs (g9 b st.bx))=_;rw[bS,dr]
  by_cases hc:c=b<;>simp[hc]
 refine⟨fun i=> ?_,fun c cs' lZ j e he=> ?_,h.obj,?_,h.frm⟩
 ·show aU st.ob w (φ.box b ad) ((T.AN b st).get i) (tm.getD i undef)
  rw[AS]
  split
  ·trivial
  ·rename_i hn
   exact Gw (fun c hc=>fU hc) (by simpa using hn) (h.tmp i)
 ·rw[lX] at lZ
  by_cases hcb:c=b
  ·subst hcb
   rw[aY rfl] at lZ;cases lZ;rw[lF];exact hc j e he
  ·rw[aH hcb] at lZ
   rw[fU hcb];exact h.box c cs' lZ j e he
 ·exact {
   arg:=h.sep.arg,nz:=h.sep.nz,apart:=h.sep.apart,read:=h.sep.read,fresh:=h.sep.fresh,ro:=h.sep.ro,fz:=h.sep.fz
   box:=fun c cs' lZ KA=>by
    rw[lX] at lZ
    by_cases hcb:c=b
    ·subst hcb
     rw[lF];refine⟨hI,hS,hF,fun b' CF hb' hne=> ?_⟩;rw[lX,aH hne] at hb';rw[fU hne];exact hB b' CF hb' hne
    ·rw[aH hcb] at lZ
     rw[fU hcb];obtain⟨a1,a2,a3,a4⟩:=h.sep.box c cs' lZ KA;refine⟨a1,a2,a3,fun b' CF hb' hne=> ?_⟩;rw[lX] at hb'
     by_cases hb2:b'=b
     ·subst hb2
      rw[lF];exact fun e=>hB c cs' lZ hcb e.symm
     ·rw[aH hb2] at hb'
      rw[fU hb2];exact a4 b' CF hb' hne
   spot:=fun c cs' lZ=>by
    rw[lX] at lZ
    by_cases hcb:c=b
    ·subst hcb
     rw[lF];exact⟨fun _=>hs,hlt,fun e=>by rw[hw] at e;cases e⟩
    ·rw[aH hcb] at lZ
     rw[fU hcb];exact h.sep.spot c cs' lZ
   soft:=fun c cs' j lZ KA hj=>by
    rw[lX] at lZ
    by_cases hcb:c=b
    ·subst hcb
     rw[aY rfl] at lZ;cases lZ;rw[lF];exact hf j hj
    ·rw[aH hcb] at lZ
     rw[fU hcb];exact h.sep.soft c cs' j lZ KA hj}
theorem aq.vj (h:aq F A w0 φ st tm w) {b:Nat} {cs old:List CE} (hb:aa b st.bx=some old) (r9:nG b=true) (hl:cs.length=old.length) (hf:Fz F w0 w') (hsz:w.heap.size≤w'.heap.size)
 (hw: ∀k,k<w.heap.size→k≠(φ.β b).block→w'.heap[k]?=w.heap[k]?) (hfz: ∀j,j<cs.length→w'.frozen? ((φ.β b).add j)=false)
 (hc: ∀(j:Nat) (e:CE),cs[j]?=some e→ ∃v,w'.cell? ((φ.β b).add j)=some v∧v.cells= #[v]∧bn st.ob w φ e v):aq F A w0 φ (st.vj b cs) tm w':=by
 obtain⟨b1,b2,b3,b4⟩:=h.sep.box b old hb r9;have stI: ∀k,φ.I k→w'.heap[k]?=w.heap[k]?:=fun k hk=>hw k (h.sep.ro k hk).1 fun e=>b1 (e▸hk)
 have nA: ∀k,A.all k→k≠(φ.β b).block:=fun k hk e=>by
  subst e;have:=h.sep.fz _ hk;rcases b3 with b3|b3
  ·omega
  ·exact this.2 b3
 have stS: ∀d k,d=0∨aj st.ob d→φ.S d k→w'.heap[k]?=w.heap[k]?:=fun d k hd hk=>hw k (h.sep.lt h.frm.size hd hk) fun e=>by
  subst e;rcases hd with rfl|hd
  ·rw[h.sep.arg] at hk;exact nA _ hk rfl
  ·exact b2 d hd hk
 have own: ∀o ad n c,aj st.ob o→φ.V o= .slice (some ad) n c→φ.S o ad.block:=fun o ad n c ⟨bo,ho⟩ hv=>by
  have hO:=h.obj o bo ho;unfold fD at hO;rw[hv] at hO
  cases hO with
  |sub _ _ _ _ _ _ u T k hn=>exact(k.own (by unfold OB.m;split<;>simp)).2 ad rfl|>.1
 have hV: ∀o,aj st.ob o→ ∀ad n c,φ.V o= .slice (some ad) n c→ ∀i v,w.cell? (ad.add i)=some v→w'.cell? (ad.add i)=some v:=fun o ho ad n c hv i v hcell=>by
  rw[bZ (w:=w)]
  ·exact hcell
  ·rw[aQ];exact stS o _ (.inr ho) (own o ad n c ho hv)
 have PJ: ∀e v,bn st.ob w φ e v→bn st.ob w' φ e v:=fun e v he=>he.stay stI stS hV
 have hE: ∀ds cells v,aU st.ob w φ (.ep ds cells) v→aU st.ob w' φ (.ep ds cells) v:=by
  intro ds cells v ⟨h1,ad,h2,hr,h3⟩;refine⟨h1,ad,h2,hr,fun j tc hj=> ?_⟩;obtain⟨u,h4,h5⟩:=h3 j tc hj
  have Ri:cells≠[]:=fun e=>by rw[e] at hj;simp at hj
  have stR: ∀k,rd φ ds k→w'.heap[k]?=w.heap[k]?:=fun k hk=>by
   rcases hk with hk|⟨d,hm,hk⟩
   ·exact stI k hk
   ·exact stS d k (h1 d hm) hk
  exact⟨u,by rw[bZ (w:=w) (by rw[aQ];exact stR _ (hr Ri))];exact h4,h5.move (fun k hk=>⟨hk,stR k hk⟩) (fun hm=>absurd rfl hm)⟩
 have hT: ∀e v,aU st.ob w φ e v→aU st.ob w' φ e v:=fun e v he=>by
  have:=aU.sV (f:=id) (g:=id) rfl PJ (fun e v hv he=>aU.stay stI stS hV (fun ad v hc hk=>by rw[bZ (w:=w) (hk _ rfl)];exact hc) hE hv he) he
  have hid:nh id id e=e:=by
   have h1:=congrArg TS.tm (lD ⟨[(0,e)],[],[]⟩);simpa [mo,mapA] using h1
  rw[hid] at this;exact this
 have lX: ∀c,aa c (st.vj b cs).bx=if c=b then some cs else aa c st.bx:=fun c=>bS _ _ _ _
 have obox: ∀c cs',aa c st.bx=some cs'→c≠b→w'.heap[(φ.β c).block]?=w.heap[(φ.β c).block]?:=fun c cs' lZ hne=>hw _ (h.sep.spot c cs' lZ).2.1 (b4 c cs' lZ hne);refine⟨fun i=>hT _ _ (h.tmp i),fun c cs' lZ j e he=> ?_,fun o bo ho=> ?_,?_,hf⟩
 ·rw[lX] at lZ
  by_cases hcb:c=b
  ·subst hcb
   rw[aY rfl] at lZ;cases lZ;obtain⟨v,h1,h3,h2⟩:=hc j e he;exact⟨v,h1,h3,PJ _ _ h2⟩
  ·rw[aH hcb] at lZ
   obtain⟨v,h1,h3,h2⟩:=h.box c cs' lZ j e he;exact⟨v,by rw[bZ (w:=w) (by rw[aQ];exact obox c cs' lZ hcb)];exact h1,h3,PJ _ _ h2⟩
 ·exact(h.obj o bo ho).move (fun k hk=>⟨hk,stI k hk⟩) fun _ k hk=>stS o k (.inr ⟨bo,ho⟩) hk
 ·have len: ∀c cs',aa c (st.vj b cs).bx=some cs'→ ∃cs0,aa c st.bx=some cs0∧cs'.length=cs0.length:=fun c cs' lZ=>by
   rw[lX] at lZ
   by_cases hcb:c=b
   ·subst hcb
    rw[aY rfl] at lZ;cases lZ;exact⟨old,hb,hl⟩
   ·rw[aH hcb] at lZ;exact⟨cs',lZ,rfl⟩
  have hs:=h.sep.boxes len
  exact {
   arg:=hs.arg,nz:=hs.nz,apart:=hs.apart,read:=hs.read,fz:=hs.fz,box:=hs.box
   fresh:=fun o k ho hk=>⟨dI (hs.fresh o k ho hk).1 hsz,(hs.fresh o k ho hk).2⟩
   ro:=fun k hk=>⟨dI (hs.ro k hk).1 hsz,(hs.ro k hk).2⟩
   spot:=fun c cs' lZ=>⟨(hs.spot c cs' lZ).1,dI (hs.spot c cs' lZ).2.1 hsz,(hs.spot c cs' lZ).2.2⟩
   soft:=fun c cs' j lZ KA hj=>by
    obtain⟨cs0,c1,c2⟩:=len c cs' lZ
    by_cases hcb:c=b
    ·subst hcb
     rw[lX,aY rfl] at lZ;cases lZ;exact hfz j hj
    ·rw[eu (w:=w) (by rw[aQ];exact obox c cs0 c1 hcb)]
     exact h.sep.soft c cs0 j c1 KA az}
end Go.T
namespace Go.T
variable {F : Nat → Prop} {A : Arg} {w0 w w' : World} {φ φ' : Fp} {st st' : TS} {tm sO : Array Value}
structure Ext (ob rC:List (Nat×OB)) (φ φ':Fp):Prop where
 look: ∀d b,aa d ob=some b→aa d rC=some b
 I:φ'.I=φ.I
 β:φ'.β=φ.β
 S: ∀d,d=0∨aj ob d→φ'.S d=φ.S d
 V: ∀d,aj ob d→φ'.V d=φ.V d
section
variable {ob rC : List (Nat × OB)}
theorem Ext.dom (x:Ext ob rC φ φ') {d:Nat} (h:aj ob d):aj rC d:=let ⟨b,h⟩:=h;⟨b,x.look d b h⟩
theorem Ext.rd (x:Ext ob rC φ φ') {ds:List Nat} (hd: ∀d∈ds,d=0∨aj ob d) {k:Nat} (h:T.rd φ ds k):T.rd φ' ds k:=by
 rcases h with h|⟨d,hm,h⟩
 ·exact .inl (by rw[x.I];exact h)
 ·exact .inr ⟨d,hm,by rw[x.S d (hd d hm)];exact h⟩
theorem bn.ext (x:Ext ob rC φ φ') {e:CE} {v:Value} (h:bn ob w φ e v):bn rC w φ' e v:=by
 cases e with
 |ref o cut=>
  obtain⟨b,h1,h2⟩:=h;exact⟨b,x.look o b h1,by rw[x.V o ⟨b,h1⟩];exact h2⟩
 |snap ds loc z rows=>
  obtain⟨h1,h2,h3⟩:=h;refine⟨fun d hm=>(h1 d hm).imp id x.dom,h2.gy fun k hk=>x.rd h1 hk,fun o i f hl=> ?_⟩;obtain⟨a1,b,a2,a3,a4,ad,n,c,a5,a6⟩:=h3 o i f hl;exact⟨a1,b,x.look o b a2,a3,a4,ad,n,c,by rw[x.V o ⟨b,a2⟩];exact a5,a6⟩
 |_=>exact h
theorem eN.ext (x:Ext ob rC φ φ') {c:g8} {v:Value} (h:eN ob w φ c v):eN rC w φ' c v:=by
 cases c with
 |ptr b=>simp only[eN] at h ⊢;rw[x.β];exact h
 |mk a cs=>
  cases a with
  |true=>obtain⟨xs,h1,h2,h3⟩:=h;exact⟨xs,h1,h2,fun j e he=>let ⟨y,h4,h6,h5⟩:=h3 j e he;⟨y,h4,h6,h5.ext x⟩⟩
  |false=>obtain⟨e,h1,h2,h3⟩:=h;exact⟨e,h1,h2,h3.ext x⟩
theorem aU.ext (x:Ext ob rC φ φ') {e:TE} {v:Value} (h:aU ob w φ e v):aU rC w φ' e v:=by
 cases e with
 |v t es=>
  cases t with
  |true=>obtain⟨vs,h1,h2,h3⟩:=h;exact⟨vs,h1,h2,fun j e he=>let ⟨y,h4,h5⟩:=h3 j e he;⟨y,h4,h5.ext x⟩⟩
  |false=>obtain⟨c,h1,h2⟩:=h;exact⟨c,h1,h2.ext x⟩
 |ep ds cells=>
  obtain⟨h1,ad,h2,hr,h3⟩:=h;refine⟨fun d hm=>(h1 d hm).imp id x.dom,ad,h2,fun hc=>x.rd h1 (hr hc),fun j tc hj=> ?_⟩;obtain⟨u,h4,h5⟩:=h3 j tc hj;exact⟨u,h4,h5.gy fun k hk=>x.rd h1 hk⟩
 |er o path i f=>
  obtain⟨b,h1,h2,ad,n,c,h3,h4⟩:=h;exact⟨b,x.look o b h1,h2,ad,n,c,by rw[x.V o ⟨b,h1⟩];exact h3,h4⟩
 |bp b off=>simp only[aU] at h ⊢;rw[x.β];exact h
 |fn f caps=>simp only[aU] at h ⊢;rw[x.β];exact h
 |_=>exact h
end
def CL:Nat→Nat→List (Nat×OB)→Prop
 |n,m,[]=>n≤m
 |n,m,(i,b)::r=>n≤i∧(b.deep=true∧b.rows=[]∧0<b.z)∧CL (i+1) m r
theorem CL.le: ∀{n m:Nat} {l:List (Nat×OB)},CL n m l→n≤m
 |_,_,[],h=>h
 |_,_,(i,b)::r,h=>by have:=CL.le h.2.2;have:=h.1;omega
theorem CL.down {n n' m:Nat} {l:List (Nat×OB)} (h:CL n m l) (hn:n'≤n):CL n' m l:=by
 cases l with
 |nil=>exact kr hn h
 |cons p r=>obtain⟨i,b⟩:=p;exact⟨kr hn h.1,h.2⟩
theorem CL.app: ∀{n m k:Nat} {l l':List (Nat×OB)},CL n m l→CL m k l'→CL n k (l++l')
 |_,_,_,[],_,h,h'=>h'.down h
 |_,_,_,(i,b)::r,_,h,h'=>⟨h.1,h.2.1,h.2.2.app h'⟩
theorem CL.mem: ∀{n m:Nat} {l:List (Nat×OB)} {i:Nat} {b:OB},CL n m l→(i,b)∈l→n≤i∧i<m∧b.deep=true∧b.rows=[]∧0<b.z
 |n,m,(j,b')::r,i,b,h,hm=>by
  rcases bC.1 hm with e|hm
  ·cases e
   have:=h.2.2.le;exact⟨h.1,by omega,h.2.1⟩
  ·obtain⟨h1,h2,h3⟩:=h.2.2.mem hm
   exact⟨by have:=h.1;omega,h2,h3⟩
theorem wM: ∀{n m:Nat} {l:List (Nat×OB)} {ob:List (Nat×OB)},CL n m l→(∀i b,(i,b)∈l→aa i (dP l ob)=some b)∧ ∀d,d<n→aa d (dP l ob)=aa d ob
 |_,_,[],ob,_=>⟨fun _ _ h=>(by cases h),fun _ _=>rfl⟩
 |n,m,(j,b')::r,ob,h=>by
  obtain⟨h1,h2⟩:=wM (ob:=ob) h.2.2;refine⟨fun i b hm=> ?_,fun d hd=> ?_⟩
  ·simp only[dP,bS]
   rcases bC.1 hm with e|hm
   ·cases e;rw[aY rfl]
   ·have:=(h.2.2.mem hm).1
    rw[aH az];exact h1 i b hm
  ·have:=h.1
   simp only[dP,bS];rw[aH az];exact h2 d az
theorem sW: ∀{l:List (Nat×OB)} {ob:List (Nat×OB)} {d:Nat} {b:OB},aa d (dP l ob)=some b→(d,b)∈l∨aa d ob=some b
 |[],_,_,_,h=> .inr h
 |(j,b')::r,ob,d,b,h=>by
  simp only[dP,bS] at h
  by_cases hd:d=j
  ·rw[aY hd] at h;cases h;subst hd;exact .inl (.head _)
  ·rw[aH hd] at h
   exact(sW h).imp (.tail _) id
def LL:Value:= .slice none 0 0
def opened (N:Nat) (φ:Fp):Fp:={φ with S:=fun d k=>d<N∧φ.S d k,V:=fun d=>if d<N then φ.V d else LL}
section
variable {ob rC : List (Nat × OB)} {N : Nat} (x : Ext ob rC φ (opened N φ))
include x
theorem sX: ∀(cs:List CE) (n:Nat),N≤n→CL n (cS n cs).2.1 (cS n cs).2.2∧(cS n cs).1.length=cs.length∧
 ((∀i b,(i,b)∈(cS n cs).2.2→aa i rC=some b)→ ∀(j:Nat) (e':CE),(cS n cs).1[j]?=some e'→ ∃e,cs[j]?=some e∧ ∀v,bn ob w φ e v→bn rC w (opened N φ) e' v)
 |[],n,hn=>⟨bE _,rfl,fun _ j e' h=>by simp[cS] at h⟩
 |e::r,n,hn=>by
  have keep: ∀(e:CE),(∀z,Nat.ble 1 z=true→e≠ .nil z)→cS n (e::r)=(e::(cS n r).1,(cS n r).2.1,(cS n r).2.2):=by
   intro e he
   cases e with
   |nil z=>
    simp only[cS]
    cases h:Nat.ble 1 z with
    |true=>exact absurd rfl (he z h)
    |false=>rfl
   |_=>rfl
  by_cases hz: ∃z,Nat.ble 1 z=true∧e= .nil z
  ·obtain⟨z,hz,rfl⟩:=hz
   have heq:cS n (.nil z::r)=(.ref n none::(cS (n+1) r).1,(cS (n+1) r).2.1,(n,⟨true,z,[]⟩)::(cS (n+1) r).2.2):=by simp only[cS,hz]
   rw[heq];obtain⟨h1,h2,h3⟩:=sX r (n+1) az;refine⟨⟨bE _,⟨rfl,rfl,iX hz⟩,h1⟩,by simp[h2],fun hl j e' he=> ?_⟩
   cases j with
   |zero=>
    simp only[bK,aE] at he;subst he;refine⟨_,rfl,fun v hv=>⟨_,hl n _ (.head _),?_⟩⟩
    show v=if n<N then φ.V n else LL
    rw[aH az];exact hv.1
   |succ j=>
    simp only[ju] at he ⊢;exact h3 (fun i b hm=>hl i b (.tail _ hm)) j e' he
  ·rw[keep e fun z Lc he=>hz ⟨z,Lc,he⟩]
   obtain⟨h1,h2,h3⟩:=sX r n hn;refine⟨h1,by simp[h2],fun hl j e' he=> ?_⟩
   cases j with
   |zero=>
    simp only[bK,aE] at he;subst he;exact⟨_,rfl,fun v hv=>hv.ext x⟩
   |succ j=>
    simp only[ju] at he ⊢;exact h3 hl j e' he
theorem oF: ∀(cs:List g8) (n:Nat),N≤n→CL n (cA n cs).2.1 (cA n cs).2.2∧(cA n cs).1.length=cs.length∧
 ((∀i b,(i,b)∈(cA n cs).2.2→aa i rC=some b)→ ∀(j:Nat) (e':g8),(cA n cs).1[j]?=some e'→ ∃e,cs[j]?=some e∧ ∀v,eN ob w φ e v→eN rC w (opened N φ) e' v)
 |[],n,hn=>⟨bE _,rfl,fun _ j e' h=>by simp[cA] at h⟩
 | .ptr b::r,n,hn=>by
   obtain⟨h1,h2,h3⟩:=oF r n hn;refine⟨h1,by simp[cA,h2],fun hl j e' he=> ?_⟩
   cases j with
   |zero=>
    simp only[cA,bK,aE] at he;subst he;exact⟨_,rfl,fun v hv=>hv.ext x⟩
   |succ j=>
    simp only[cA,ju] at he ⊢;exact h3 hl j e' he
 | .mk a cs::r,n,hn=>by
   obtain⟨g1,g2,g3⟩:=sX (w:=w) x cs n hn;obtain⟨h1,h2,h3⟩:=oF r (cS n cs).2.1 (kr hn g1.le);refine⟨g1.app h1,by simp[cA,h2],fun hl j e' he=> ?_⟩
   cases j with
   |zero=>
    simp only[cA,bK,aE] at he;subst he;refine⟨_,rfl,fun v hv=> ?_⟩;have g4:=g3 fun i b hm=>hl i b (dD _ hm)
    cases a with
    |true=>
     obtain⟨xs,k1,k2,k3⟩:=hv;refine⟨xs,k1,by rw[g2];exact k2,fun j e' he=> ?_⟩;obtain⟨e,k4,k5⟩:=g4 j e' he;obtain⟨y,k6,k8,k7⟩:=k3 j e k4;exact⟨y,k6,k8,k5 y k7⟩
    |false=>
     obtain⟨e,rfl,k2,k3⟩:=hv;have hlen:(cS n [e]).1.length=1:=g2
     obtain⟨e',he'⟩: ∃e',(cS n [e]).1=[e']:=by
      cases hq:(cS n [e]).1 with
      |nil=>rw[hq] at hlen;cases hlen
      |cons y t=>cases t with
       |nil=>exact⟨y,rfl⟩
       |cons _ _=>rw[hq] at hlen;simp at hlen
     obtain⟨e0,k4,k5⟩:=g4 0 e' (by rw[he'];rfl);simp only[bK,aE] at k4;subst k4;exact⟨e',he',k2,k5 v k3⟩
   |succ j=>
    simp only[cA,ju] at he ⊢;exact h3 (fun i b hm=>hl i b (ga _ hm)) j e' he
theorem Gx (e:TE) (n:Nat) (hn:N≤n):CL n (sU n e).2.1 (sU n e).2.2∧
 ((∀i b,(i,b)∈(sU n e).2.2→aa i rC=some b)→ ∀v,aU ob w φ e v→aU rC w (opened N φ) (sU n e).1 v):=by
 cases e with
 |v t es=>
  obtain⟨h1,h2,h3⟩:=oF (w:=w) x es n hn;refine⟨h1,fun hl v hv=> ?_⟩;have h4:=h3 hl;simp only[sU]
  cases t with
  |true=>
   obtain⟨vs,k1,k2,k3⟩:=hv;refine⟨vs,k1,by rw[h2];exact k2,fun j e' he=> ?_⟩;obtain⟨e,k4,k5⟩:=h4 j e' he;obtain⟨y,k6,k7⟩:=k3 j e k4;exact⟨y,k6,k5 y k7⟩
  |false=>
   obtain⟨c,rfl,k1⟩:=hv;have hlen:(cA n [c]).1.length=1:=h2
   obtain⟨e',he'⟩: ∃e',(cA n [c]).1=[e']:=by
    cases hq:(cA n [c]).1 with
    |nil=>rw[hq] at hlen;cases hlen
    |cons y t=>cases t with
     |nil=>exact⟨y,rfl⟩
     |cons _ _=>rw[hq] at hlen;simp at hlen
   obtain⟨e0,k4,k5⟩:=h4 0 e' (by rw[he'];rfl);simp only[bK,aE] at k4;subst k4;exact⟨e',he',k5 v k1⟩
 |kb b=>
  refine⟨bE _,fun _ v hv=> ?_⟩;simp only[aU] at hv;subst hv;exact⟨_,rfl,_,rfl,rfl,rfl,trivial⟩
 |_=>exact⟨bE _,fun _ v hv=>hv.ext x⟩
theorem yG: ∀(l:List (Nat×TE)) (n:Nat),N≤n→(∃m,CL n m (nL n l).2)∧
 ((∀i b,(i,b)∈(nL n l).2→aa i rC=some b)→ ∀(i:Nat) (e':TE),aa i (nL n l).1=some e'→ ∃e,aa i l=some e∧ ∀v,aU ob w φ e v→aU rC w (opened N φ) e' v)
 |[],n,hn=>⟨⟨n,bE _⟩,fun _ i e' h=>by simp[nL,aa] at h⟩
 |(j,e)::r,n,hn=>by
  obtain⟨g1,g2⟩:=Gx (w:=w) x e n hn;obtain⟨⟨m,h1⟩,h2⟩:=yG r (sU n e).2.1 (kr hn g1.le);refine⟨⟨m,g1.app h1⟩,fun hl i e' he=> ?_⟩;simp only[nL,aa] at he ⊢
  cases hj:Nat.beq j i with
  |true=>
   rw[hj] at he;simp only[aE] at he;subst he;exact⟨e,rfl,g2 fun i b hm=>hl i b (dD _ hm)⟩
  |false=>
   rw[hj] at he;exact h2 (fun i b hm=>hl i b (ga _ hm)) i e' he
end
theorem C9 {n:Nat}: ∀{ob:List (Nat×OB)},C4 n ob=true→ ∀o,aj ob o→o<n
 |[],_,o,⟨b,h⟩=>by cases h
 |(i,x)::r,ha,o,⟨b,h⟩=>by
  simp only[C4] at ha
  cases h1:Nat.ble n i with
  |true=>rw[h1] at ha;cases ha
  |false=>
   rw[h1] at ha;simp only[aa] at h
   cases h2:Nat.beq i o with
   |true=>
    have:=cY h2;subst this
    exact Nat.lt_of_not_le fun h3=>by rw[yq h3] at h1;cases h1
   |false=>rw[h2] at h;exact C9 ha o ⟨b,h⟩
theorem aq.C5 (h:aq F A w0 φ st tm w): ∃φ',aq F A w0 φ' (C5 st) tm w∧φ'.β=φ.β:=by
 unfold T.C5
 cases ha:C4 900000000 st.ob with
 |false=>exact⟨φ,h,rfl⟩
 |true=>
  have hlt:=C9 ha
  have x1: ∀rC,(∀d b,aa d st.ob=some b→aa d rC=some b)→Ext st.ob rC φ (opened 900000000 φ):=fun rC hl=>
   ⟨hl,rfl,rfl,fun d hd=>by
     have:d<900000000:=hd.elim (fun e=>by omega) (hlt d)
     funext k
     simp[opened,this],fun d hd=>aY (hlt d hd)⟩
  obtain⟨⟨m,Ml⟩,_⟩:=yG (w:=w) (x1 st.ob fun _ _ h=>h) st.tm 900000000 (bE _);obtain⟨l1,l2⟩:=wM (ob:=st.ob) Ml
  have x:Ext st.ob (dP (nL 900000000 st.tm).2 st.ob) φ (opened 900000000 φ):=x1 _ fun d b hd=>by rw[l2 d (hlt d ⟨b,hd⟩)];exact hd
  obtain⟨_,hT⟩:=yG (w:=w) x st.tm 900000000 (bE _);have hT:=hT l1
  have old: ∀d,aj (dP (nL 900000000 st.tm).2 st.ob) d→(d<900000000∧aj st.ob d)∨900000000≤d:=fun d ⟨b,hd⟩=>by
   rcases sW hd with h1|h1
   ·exact .inr (Ml.mem h1).1
   ·exact .inl ⟨hlt d ⟨b,h1⟩,b,h1⟩
  have oldS: ∀d k,aj (dP (nL 900000000 st.tm).2 st.ob) d→(opened 900000000 φ).S d k→aj st.ob d∧φ.S d k:=fun d k hd hk=>by
   rcases old d hd with h1|h1
   ·exact⟨h1.2,hk.2⟩
   ·exact absurd hk.1 az
  refine⟨opened 900000000 φ,⟨fun i=> ?_,fun b cs hb j e he=> ?_,fun o b ho=> ?_,?_,h.frm⟩,rfl⟩
  ·show aU (dP (nL 900000000 st.tm).2 st.ob) w (opened 900000000 φ) (match aa i (nL 900000000 st.tm).1 with|some e=>e|none=> .dead) (tm.getD i undef)
   cases hi:aa i (nL 900000000 st.tm).1 with
   |none=>trivial
   |some e'=>
    obtain⟨e,h1,h2⟩:=hT i e' hi;have:=h.tmp i;unfold TS.get at this;rw[h1] at this;exact h2 _ this
  ·obtain⟨v,h1,h3,h2⟩:=h.box b cs hb j e he
   exact⟨v,h1,h3,h2.ext x⟩
  ·unfold fD
   rcases sW ho with h1|h1
   ·obtain⟨a1,a2,a3,a4,a5⟩:=Ml.mem h1
    obtain⟨bd,bz,br⟩:=b;simp only at a3 a4 a5;subst a3 a4;have hv:(opened 900000000 φ).V o=LL:=aH az;rw[hv]
    refine ah.sub _ _ bz [] none 0 (fun _ _=>default) (fun _ _ _=>False) ⟨bE _,so _,a5,fun r hr=>(by cases hr),fun hr=>absurd rfl hr,fun _ ha=>(by cases ha),fun _ _ ha=>(by cases ha),
     fun _=>⟨fun _=>rfl,fun _ ha=>(by cases ha)⟩,fun _ _ _ ha=>(by cases ha),fun _ _ _ _ hk=>hk.elim⟩ fun i f tc ht=>absurd rfl (vu ht)
   ·have hd:=hlt o ⟨b,h1⟩
    have:=h.obj o b h1;unfold fD at this;rw[x.V o ⟨b,h1⟩,x.S o (.inr ⟨b,h1⟩)];exact this
  ·exact {
    arg:=by rw[x.S 0 (.inl rfl)];exact h.sep.arg
    nz:=fun o ho e=>by
     rcases old o ho with h1|h1
     ·exact h.sep.nz o h1.2 e
     ·omega
    apart:=fun o o' k h1 h2 h3 h4=>h.sep.apart o o' k (oldS o k h1 h3).1 (oldS o' k h2 h4).1 (oldS o k h1 h3).2 (oldS o' k h2 h4).2
    read:=fun o k h1 h2=>h.sep.read o k (oldS o k h1 h2).1 (oldS o k h1 h2).2
    fresh:=fun o k h1 h2=>h.sep.fresh o k (oldS o k h1 h2).1 (oldS o k h1 h2).2
    ro:=h.sep.ro
    fz:=h.sep.fz
    box:=fun b cs hb hw=>by
     obtain⟨a1,a2,a3,a4⟩:=h.sep.box b cs hb hw;exact⟨a1,fun o ho hk=>a2 o (oldS o _ ho hk).1 (oldS o _ ho hk).2,a3,a4⟩
    spot:=h.sep.spot
    soft:=h.sep.soft}
end Go.T
namespace Go.T
variable {F : Nat → Prop} {A : Arg} {w0 w w' : World} {φ φ' : Fp} {st st' : TS} {tm sO : Array Value}
structure yH (n:Nat) (ρ:List (Nat×Nat)):Prop where
 rng: ∀o m,(o,m)∈ρ→1≤m∧m<n∧o≠0
 apart:ρ.Pairwise fun a b=>a.1≠b.1∧a.2≠b.2
theorem dA {α:Type} {o:Nat} {m:α}: ∀{ρ:List (Nat×α)},aa o ρ=some m→(o,m)∈ρ
 |(a,x)::r,h=>by
  simp only[aa] at h
  cases h1:Nat.beq a o with
  |true=>
   rw[h1] at h
   cases h
   have:=cY h1;subst this;exact .head _
  |false=>rw[h1] at h;exact .tail _ (dA h)
theorem j9 {α:Type} {o:Nat}: ∀{ρ:List (Nat×α)},aa o ρ=none→ ∀m,(o,m)∉ρ
 |[],_,_=>by simp
 |(a,x)::r,h,m=>by
  simp only[aa] at h
  cases h1:Nat.beq a o with
  |true=>rw[h1] at h;cases h
  |false=>
   rw[h1] at h;intro hm;rcases bC.1 hm with e|hm
   ·cases e;exact iY h1 rfl
   ·exact j9 h m hm
theorem qC {n o m:Nat}: ∀{ρ:List (Nat×Nat)},(ρ.Pairwise fun a b=>a.1≠b.1∧a.2≠b.2)→(o,m)∈ρ→aa o ρ=some m
 |(a,x)::r,h,hm=>by
  simp only[aa];rw[List.pairwise_cons] at h;rcases bC.1 hm with e|hm
  ·cases e;rw[qA]
  ·have:=(h.1 _ hm).1
   rw[beq_false this];exact qC (n:=n) h.2 hm
theorem rK: ∀(l:List Nat) (n:Nat) (ρ:List (Nat×Nat)),1≤n→yH n ρ→ ∃n',yH n' (number l n ρ)∧(∀o m,aa o ρ=some m→aa o (number l n ρ)=some m)∧ ∀o∈l,o≠0→ ∃m,aa o (number l n ρ)=some m
 |[],n,ρ,_,h=>⟨n,h,fun _ _ h=>h,fun _ h=>by cases h⟩
 |o::r,n,ρ,hn,h=>by
  simp only[number]
  cases h0:Nat.beq o 0 with
  |true=>
   obtain⟨n',h1,h2,h3⟩:=rK r n ρ hn h;refine⟨n',h1,h2,fun p hp MS=> ?_⟩;rcases bC.1 hp with e|hp
   ·exact absurd (e.trans (cY h0)) MS
   ·exact h3 p hp MS
  |false=>
   have h0:=iY h0
   cases hl:aa o ρ with
   |some m=>
    obtain⟨n',h1,h2,h3⟩:=rK r n ρ hn h;refine⟨n',h1,h2,fun p hp MS=> ?_⟩;rcases bC.1 hp with e|hp
    ·subst e;exact⟨m,h2 _ _ hl⟩
    ·exact h3 p hp MS
   |none=>
    have hk:yH (n+1) ((o,n)::ρ):=by
     refine⟨fun p m hm=> ?_,List.pairwise_cons.2 ⟨fun a ha=>⟨fun e=> ?_,fun e=> ?_⟩,h.apart⟩⟩
     ·rcases bC.1 hm with e|hm
      ·cases e;exact⟨hn,by omega,h0⟩
      ·have:=h.rng p m hm;exact⟨this.1,by omega,this.2.2⟩
     ·obtain⟨a1,a2⟩:=a
      simp only at e;subst e;exact j9 hl a2 ha
     ·obtain⟨a1,a2⟩:=a
      simp only at e;have:=(h.rng a1 a2 ha).2.1;omega
    obtain⟨n',h1,h2,h3⟩:=rK r (n+1) ((o,n)::ρ) az hk
    have Rj:aa o ((o,n)::ρ)=some n:=by simp only[aa,qA]
    refine⟨n',h1,fun p m hp=>h2 p m ?_,fun p hp MS=> ?_⟩
    ·simp only[aa]
     rw[beq_false fun e=>by subst e;rw[hl] at hp;cases hp];exact hp
    ·rcases bC.1 hp with e|hp
     ·subst e;exact⟨n,h2 _ _ Rj⟩
     ·exact h3 p hp MS
theorem KW {o o' m:Nat}: ∀{ρ:List (Nat×Nat)},(ρ.Pairwise fun a b=>a.1≠b.1∧a.2≠b.2)→(o,m)∈ρ→(o',m)∈ρ→o=o'
 |p::r,h,h1,h2=>by
  rw[List.pairwise_cons] at h;rcases bC.1 h1 with e1|h1
  ·rcases bC.1 h2 with e2|h2
   ·rw[←e1] at e2;cases e2;rfl
   ·exact absurd (by rw[←e1]) (h.1 _ h2).2
  ·rcases bC.1 h2 with e2|h2
   ·exact absurd (by rw[←e2]) (h.1 _ h1).2
   ·exact KW h.2 h1 h2
def inv (ρ:List (Nat×Nat)) (m:Nat):Nat:=match ρ.find? fun p=>Nat.beq p.2 m with|some p=>p.1|none=>0
theorem inv_eq {n o m:Nat} {ρ:List (Nat×Nat)} (h:yH n ρ) (hl:aa o ρ=some m):inv ρ m=o:=by
 unfold inv;have hm:=dA hl
 cases hf:ρ.find? fun p=>Nat.beq p.2 m with
 |none=>
  have:=List.find?_eq_none.1 hf _ hm;simp at this
 |some p=>
  have h1:=List.mem_of_find?_eq_some hf;have h2:=List.find?_some hf;have h2:=cY h2;simp only;obtain⟨p1,p2⟩:=p;simp only at h2;subst h2;exact KW h.apart h1 hm
theorem inv_zero {n:Nat} {ρ:List (Nat×Nat)} (h:yH n ρ):inv ρ 0=0:=by
 unfold inv
 cases hf:ρ.find? fun p=>Nat.beq p.2 0 with
 |none=>rfl
 |some p=>
  have h1:=List.mem_of_find?_eq_some hf;have h2:=List.find?_some hf;have h2:=cY h2;obtain⟨p1,p2⟩:=p;have:=(h.rng p1 p2 h1).1;simp only at h2;omega
theorem uj {o m:Nat} {ρ:List (Nat×Nat)} (hl:aa o ρ=some m):vo ρ o=m:=by unfold vo;rw[hl]
theorem AT {n:Nat} {ρ:List (Nat×Nat)} (h:yH n ρ):vo ρ 0=0:=by
 unfold vo
 cases hl:aa 0 ρ with
 |none=>rfl
 |some m=>exact absurd rfl (h.rng 0 m (dA hl)).2.2
theorem uk {ob:List (Nat×OB)} {m:Nat} {b:OB}: ∀{ρ:List (Nat×Nat)},aa m (kC ob ρ)=some b→ ∃o,(o,m)∈ρ∧aa o ob=some b
 |(o,n)::r,h=>by
  simp only[kC] at h
  cases ho:aa o ob with
  |none=>
   rw[ho] at h;obtain⟨o',h1,h2⟩:=uk h;exact⟨o',.tail _ h1,h2⟩
  |some b'=>
   rw[ho] at h;simp only[bS] at h
   by_cases hm:m=n
   ·rw[aY hm] at h;cases h;subst hm;exact⟨o,.head _,ho⟩
   ·rw[aH hm] at h
    obtain⟨o',h1,h2⟩:=uk h;exact⟨o',.tail _ h1,h2⟩
theorem Da {ob:List (Nat×OB)} {o m:Nat} {b:OB} (ho:aa o ob=some b): ∀{ρ:List (Nat×Nat)},(ρ.Pairwise fun a b=>a.1≠b.1∧a.2≠b.2)→(o,m)∈ρ→aa m (kC ob ρ)=some b
 |(o',n)::r,h,hm=>by
  rw[List.pairwise_cons] at h;simp only[kC];rcases bC.1 hm with e|hm
  ·cases e
   rw[ho];simp only[bS,aY]
  ·have h1:=(h.1 _ hm).2
   have ih:=Da ho h.2 hm
   cases ho':aa o' ob with
   |none=>exact ih
   |some b'=>
    simp only[bS];rw[aH (Ne.symm h1)];exact ih
def Fp.Db (φ:Fp) (ρ:List (Nat×Nat)):Fp:={φ with S:=fun m=>φ.S (inv ρ m),V:=fun m=>φ.V (inv ρ m)}
section
variable {ob : List (Nat × OB)} {n : Nat} {ρ : List (Nat × Nat)} (hρ : yH n ρ)
include hρ
theorem um {o m:Nat} {b:OB} (hm:aa o ρ=some m) (ho:aa o ob=some b):aa m (kC ob ρ)=some b:=Da ho hρ.apart (dA hm)
theorem HN {o m:Nat} (hm:aa o ρ=some m):(φ.Db ρ).S m=φ.S o:=by show φ.S (inv ρ m)=_;rw[inv_eq hρ hm]
theorem FB {o m:Nat} (hm:aa o ρ=some m):(φ.Db ρ).V m=φ.V o:=by show φ.V (inv ρ m)=_;rw[inv_eq hρ hm]
theorem HO:(φ.Db ρ).S 0=φ.S 0:=by show φ.S (inv ρ 0)=_;rw[inv_zero hρ]
theorem HP {ds:List Nat} (hz: ∀d,aj ob d→d≠0) (hd: ∀d∈ds,d=0∨aj ob d) (hc: ∀o∈ds,o≠0→ ∃m,aa o ρ=some m):
 (∀d∈ds.map (vo ρ),d=0∨aj (kC ob ρ) d)∧ ∀k,rd φ ds k→rd (φ.Db ρ) (ds.map (vo ρ)) k:=by
 refine⟨fun d hm=> ?_,fun k hk=> ?_⟩
 ·obtain⟨o,h1,rfl⟩:=List.mem_map.1 hm
  rcases hd o h1 with rfl|h2
  ·exact .inl (AT hρ)
  ·obtain⟨m,h3⟩:=hc o h1 (hz o h2)
   obtain⟨b,h4⟩:=h2;rw[uj h3];exact .inr ⟨b,um hρ h3 h4⟩
 ·rcases hk with hk|⟨d,hm,hk⟩
  ·exact .inl hk
  ·refine .inr ⟨vo ρ d,List.mem_map_of_mem hm,?_⟩
   rcases hd d hm with rfl|h2
   ·rw[AT hρ,HO hρ];exact hk
   ·obtain⟨m,h3⟩:=hc d hm (hz d h2)
    rw[uj h3,HN hρ h3];exact hk
theorem bn.Db (hz: ∀d,aj ob d→d≠0) {e:CE} {v:Value} (hc: ∀o∈cr e,o≠0→ ∃m,aa o ρ=some m) (h:bn ob w φ e v):bn (kC ob ρ) w (φ.Db ρ) (uh ρ e) v:=by
 cases e with
 |ref o cut=>
  obtain⟨b,h1,h2⟩:=h;obtain⟨m,h3⟩:=hc o (by simp[cr]) (hz o ⟨b,h1⟩);simp only[uh];rw[uj h3];exact⟨b,um hρ h3 h1,by rw[FB hρ h3];exact h2⟩
 |snap ds loc z rows=>
  obtain⟨h1,h2,h3⟩:=h;obtain⟨g1,g2⟩:=HP hρ (φ:=φ) hz h1 hc;refine⟨g1,h2.gy g2,fun o i f hl=> ?_⟩
  cases loc with
  |none=>cases hl
  |some q=>
   obtain⟨o',i',f'⟩:=q;simp only[aE,pn] at hl;obtain⟨rfl,rfl,rfl⟩:=hl;obtain⟨a1,b,a2,a3,a4,ad,n,c,a5,a6⟩:=h3 o' i' f' rfl;obtain⟨m,a7⟩:=hc o' a1 (hz o' ⟨b,a2⟩);refine⟨List.mem_map_of_mem a1,?_⟩;rw[uj a7];exact⟨b,um hρ a7 a2,a3,a4,ad,n,c,by rw[FB hρ a7];exact a5,a6⟩
 |_=>exact h
theorem aU.Db (hz: ∀d,aj ob d→d≠0) {e:TE} {v:Value} (hc: ∀o∈ni e,o≠0→ ∃m,aa o ρ=some m) (h:aU ob w φ e v):aU (kC ob ρ) w (φ.Db ρ) (nh (uh ρ) (HD ρ) e) v:=by
 have comp: ∀(c:g8) (u:Value),(∀o∈dn [c],o≠0→ ∃m,aa o ρ=some m)→eN ob w φ c u→eN (kC ob ρ) w (φ.Db ρ) (lC (uh ρ) c) u:=by
  intro c u hc h
  cases c with
  |ptr b=>exact h
  |mk a cs=>
   simp only[dn,lu] at hc;have JB: ∀e∈cs,∀o∈cr e,o≠0→ ∃m,aa o ρ=some m:=fun e he o ho=>hc o (List.mem_flatMap.2 ⟨e,he,ho⟩)
   cases a with
   |true=>
    obtain⟨xs,h1,h2,h3⟩:=h;refine⟨xs,h1,by simp[h2],fun j e he=> ?_⟩;rw[ei] at he
    cases h4:cs[j]? with
    |none=>rw[h4] at he;cases he
    |some e0=>
     rw[h4] at he;simp only[eL,aE] at he;subst he;obtain⟨x,hx,hx1,hok⟩:=h3 j e0 h4;exact⟨x,hx,hx1,hok.Db hρ hz (JB e0 (dw h4))⟩
   |false=>
    obtain⟨e,rfl,h2,h3⟩:=h;exact⟨_,rfl,h2,h3.Db hρ hz (JB e dh)⟩
 have dcomp: ∀(es:List g8) (c:g8),c∈es→ ∀o,o∈dn [c]→o∈dn es:=by
  intro es
  induction es with
  |nil=>intro c hc;cases hc
  |cons x r ih=>
   intro c hc o ho;rcases bC.1 hc with rfl|hc
   ·cases c with
    |ptr b=>simp[dn] at ho
    |mk a cs=>
     simp only[dn,lu] at ho;simp only[dn];exact dD _ ho
   ·have:=ih c hc o ho
    cases x with
    |ptr b=>exact this
    |mk a cs=>simp only[dn];exact ga _ this
 cases e with
 |v t es=>
  cases t with
  |true=>
   obtain⟨vs,h1,h2,h3⟩:=h;refine⟨vs,h1,by rw[ij];exact h2,fun k c hk=> ?_⟩;rw[kP] at hk
   cases h4:es[k]? with
   |none=>rw[h4] at hk;cases hk
   |some c0=>
    rw[h4] at hk;simp only[eL,aE] at hk;obtain⟨u,hu,hok⟩:=h3 k c0 h4;exact⟨u,hu,by rw[←hk];exact comp c0 u (fun o ho=>hc o (dcomp es c0 (dw h4) o ho)) hok⟩
  |false=>
   obtain⟨c,rfl,hok⟩:=h;refine⟨lC (uh ρ) c,?_,comp c v hc hok⟩
   cases c<;>rfl
 |ep ds cells=>
  obtain⟨h1,ad,h2,hr,h3⟩:=h;obtain⟨g1,g2⟩:=HP hρ (φ:=φ) hz h1 hc;refine⟨g1,ad,h2,fun hne=>g2 _ (hr hne),fun j tc hj=> ?_⟩;obtain⟨u,h4,h5⟩:=h3 j tc hj;exact⟨u,h4,h5.gy g2⟩
 |er o path i f=>
  obtain⟨b,h1,h2,ad,n,c,h3,h4⟩:=h;obtain⟨m,h5⟩:=hc o (by simp[ni]) (hz o ⟨b,h1⟩);show aU (kC ob ρ) w (φ.Db ρ) (.er (vo ρ o) path i f) v;rw[uj h5];exact⟨b,um hρ h5 h1,h2,ad,n,c,by rw[FB hρ h5];exact h3,h4⟩
 |_=>exact h
end
theorem aq.canon (h:aq F A w0 φ st tm w): ∃φ',aq F A w0 φ' (canon st) tm w∧φ'.β=φ.β:=by
 obtain⟨n,hρ,_,hall⟩:=rK (LF st) 1 [] (bE _) ⟨fun _ _ h=>(by cases h),List.Pairwise.nil⟩;unfold T.canon Nf;generalize number (LF st) 1 []=ρ at hρ hall;have hz:=h.sep.nz
 have dom: ∀m,aj (kC st.ob ρ) m→ ∃o,aa o ρ=some m∧aj st.ob o:=fun m ⟨b,hm⟩=>by
  obtain⟨o,h1,h2⟩:=uk hm;exact⟨o,qC (n:=n) hρ.apart h1,b,h2⟩
 have domS: ∀m k,aj (kC st.ob ρ) m→(φ.Db ρ).S m k→ ∃o,aa o ρ=some m∧aj st.ob o∧φ.S o k:=fun m k hm hk=>by
  obtain⟨o,h1,h2⟩:=dom m hm;rw[HN hρ h1] at hk;exact⟨o,h1,h2,hk⟩
 refine⟨φ.Db ρ,⟨fun i=> ?_,fun b cs hb j e he=> ?_,fun m b hm=> ?_,?_,h.frm⟩,rfl⟩
 ·show aU (kC st.ob ρ) w (φ.Db ρ) (match aa i (mapA (nh (uh ρ) (HD ρ)) st.tm) with|some e=>e|none=> .dead) (tm.getD i undef)
  rw[jy]
  cases hi:aa i st.tm with
  |none=>trivial
  |some e=>
   have:=h.tmp i;unfold TS.get at this;rw[hi] at this;exact this.Db hρ hz fun o ho NQ=>hall o (dD _ (List.mem_flatMap.2 ⟨_,dA hi,ho⟩)) NQ
 ·simp only[jy] at hb
  cases h1:aa b st.bx with
  |none=>rw[h1] at hb;cases hb
  |some cs0=>
   rw[h1] at hb;simp only[eL,aE] at hb;subst hb;rw[ei] at he
   cases h2:cs0[j]? with
   |none=>rw[h2] at he;cases he
   |some e0=>
    rw[h2] at he;simp only[eL,aE] at he;subst he;obtain⟨v,h3,h5,h4⟩:=h.box b cs0 h1 j e0 h2;exact⟨v,h3,h5,h4.Db hρ hz fun o ho NQ=>hall o (ga _ (List.mem_flatMap.2 ⟨_,dA h1,List.mem_flatMap.2 ⟨e0,dw h2,ho⟩⟩)) NQ⟩
 ·obtain⟨o,h1,h2⟩:=uk hm
  have h1:=qC (n:=n) hρ.apart h1;unfold fD;rw[HN hρ h1,FB hρ h1];exact h.obj o b h2
 ·have hs:=h.sep.boxes (cO (uh ρ))
  exact {
   arg:=by rw[HO hρ];exact h.sep.arg
   nz:=fun m hm e=>by
    obtain⟨o,h1,_⟩:=dom m hm;have:=(hρ.rng o m (dA h1)).1;omega
   apart:=fun m m' k h1 h2 h3 h4=>by
    obtain⟨o,a1,a2,a3⟩:=domS m k h1 h3;obtain⟨o',b1,b2,b3⟩:=domS m' k h2 h4;have:=h.sep.apart o o' k a2 b2 a3 b3;subst this;rw[a1] at b1;cases b1;rfl
   read:=fun m k h1 h2=>by obtain⟨o,a1,a2,a3⟩:=domS m k h1 h2;exact h.sep.read o k a2 a3
   fresh:=fun m k h1 h2=>by obtain⟨o,a1,a2,a3⟩:=domS m k h1 h2;exact h.sep.fresh o k a2 a3
   ro:=hs.ro
   fz:=hs.fz
   box:=fun b cs hb hw=>by
    obtain⟨a1,a2,a3,a4⟩:=hs.box b cs hb hw;refine⟨a1,fun m hm hk=> ?_,a3,a4⟩;obtain⟨o,c1,c2,c3⟩:=domS m _ hm hk;exact a2 o c2 c3
   spot:=hs.spot
   soft:=hs.soft}
theorem aq.head (h:aq F A w0 φ st tm w) (l:List Nat):Rel F A w0 (C6 l st) tm w:=by
 obtain⟨φ1,h1,_⟩:=(h.Nh l).C5;obtain⟨φ2,h2,_⟩:=h1.canon;exact⟨φ2,h2⟩
end Go.T
