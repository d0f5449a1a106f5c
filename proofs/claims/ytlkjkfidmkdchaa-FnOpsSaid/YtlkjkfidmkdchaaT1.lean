import Derived.Below
import Derived.WalkKit
import Derived.Laws.AppendOwn
import Derived.DataElems
namespace Go.T
theorem jJ {P Q:Prop} (h:P:=by rfl) (k:Q:=by trivial):P∧Q:=⟨h,k⟩
theorem Rh {P:Prop} (h:P:=by first|rfl|(simp;done)|(simp;omega)):P:=h
theorem aA {P:Prop} (h:P:=by omega):P:=h
theorem bO {P:Prop} (h:P:=by assumption):P:=h
theorem Jg {P:Prop} (h:P:=by simp;omega):P:=h
theorem iF {P:Prop} (h:P:=by simp<;>omega):P:=h
theorem cY {P:Prop} (h:P:=by simp):P:=h
theorem Ri {P:Prop} (h:P:=by trivial):P:=h
theorem Ph {P:Prop} (h:P:=by rfl):P:=h
abbrev jd:= @Array.getD_eq_getD_getElem?
abbrev jM:= @Array.getElem?_eq_getElem
abbrev xp:= @Array.getElem?_setIfInBounds
abbrev zZ:= @Array.getElem?_toList
abbrev lT:= @Array.length_toList
abbrev cm:= @Bool.and_eq_true
abbrev z5:= @Bool.and_true
abbrev qE:= @Bool.false_eq_true
abbrev uK:= @Bool.false_or
abbrev nF:= @Bool.not_eq_true'
abbrev xq:= @Bool.not_true
abbrev nG:= @Bool.true_and
abbrev Iv:= @Int.ofNat_eq_natCast
abbrev Iw:= @Int.toNat_natCast
abbrev uL:= @List.all_cons
abbrev EM:= @List.all_nil
abbrev fJ:= @List.append_assoc
abbrev iL:= @List.append_nil
abbrev lU:= @List.cons_append
abbrev xu:= @List.drop_eq_getElem_cons
abbrev KI:= @List.drop_length
abbrev xw:= @List.drop_of_length_le
abbrev qF:= @List.eq_nil_of_length_eq_zero
abbrev CO:= @List.flatten_append
abbrev nH:= @List.flatten_cons
abbrev uM:= @List.getD_eq_getElem?_getD
abbrev dY:= @List.getElem?_append_left
abbrev eA:= @List.getElem?_append_right
abbrev g7:= @List.getElem?_cons_succ
abbrev bG:= @List.getElem?_cons_zero
abbrev gn:= @List.getElem?_drop
abbrev aO:= @List.getElem?_eq_getElem
abbrev KJ:= @List.getElem?_eq_none
abbrev dK:= @List.getElem?_map
abbrev tF:= @List.getElem?_take
abbrev qG:= @List.getElem_mem
abbrev cL:= @List.length_append
abbrev eT:= @List.length_cons
abbrev kC:= @List.length_drop
abbrev g9:= @List.length_map
abbrev EN:= @List.length_singleton
abbrev eU:= @List.length_take
abbrev pO:= @List.map_append
abbrev xx:= @List.map_drop
abbrev z6:= @List.map_take
abbrev cM:= @List.mem_append_left
abbrev eW:= @List.mem_append_right
abbrev bg:= @List.mem_cons
abbrev c6:= @List.mem_of_getElem?
abbrev qH:= @List.mem_of_mem_drop
abbrev nX:= @List.mem_of_mem_take
abbrev dw:= @List.mem_singleton
abbrev jN:= @List.nil_append
abbrev EO:= @List.take_append_drop
abbrev Ix:= @List.take_append_of_le_length
abbrev KK:= @List.take_length
abbrev EP:= @List.take_of_length_le
abbrev kD:= @Nat.add_assoc
abbrev KL:= @Nat.add_eq
abbrev iM:= @Nat.add_mul
abbrev jO:= @Nat.add_zero
abbrev uN:= @Nat.ble_eq_true_of_le
abbrev qI:= @Nat.div_add_mod'
abbrev cw:= @Nat.eq_of_beq_eq_true
abbrev xy:= @Nat.le_max_left
abbrev gD:= @Nat.le_of_ble_eq_true
abbrev bu:= @Nat.le_refl
abbrev aB:= @Nat.le_trans
abbrev cW:= @Nat.lt_of_lt_of_le
abbrev lV:= @Nat.min
abbrev gq:= @Nat.mul_le_mul_right
abbrev gE:= @Nat.ne_of_beq_eq_false
abbrev kE:= @Nat.sub_self
abbrev uO:= @Nat.succ_mul
abbrev dZ:= @Nat.zero_add
abbrev aG:= @Nat.zero_le
abbrev dO:= @Option.map_some
abbrev aI:= @Option.some.injEq
abbrev nI:= @Prod.mk.injEq
abbrev KM:= @decide_eq_true
abbrev uP:= @exists_eq_left
abbrev KN:= @exists_eq_left'
abbrev aH:= @if_neg
abbrev aT:= @if_pos
abbrev pP:= @of_decide_eq_true
inductive TC where
 |sc (v:Value)
 |sub (s:Nat) (rows:List (List TC))
 |any
 deriving Inhabited
inductive Mode where
 |snap|top|deep
 deriving DecidableEq,Inhabited
inductive CE where
 |sc (v:Value)
 |nil (z:Nat)
 |ref (o:Nat) (cut:Option (Int×Int))
 |snap (ds:List Nat) (loc:Option (Nat×Int×Nat)) (z:Nat) (rows:List (List TC))
 |gone
 deriving Inhabited
inductive fR where
 |mk (agg:Bool) (cs:List CE)
 |ptr (b:Nat)
inductive TE where
 |dead
 |v (tup:Bool) (es:List fR)
 |bp (b off:Nat)
 |ep (ds:List Nat) (cells:List TC)
 |er (o:Nat) (path:Option (Int×Nat)) (i:Int) (f:Nat)
 |fn (f:FuncId) (caps:List Nat)
 |kb (b:Bool)
 deriving Inhabited
structure OB where
 deep:Bool
 z:Nat
 rows:List (List TC)
structure TS where
 tm:List (Nat×TE)
 bx:List (Nat×List CE)
 ob:List (Nat×OB)
inductive TI where
 |int (k:IntKind)
 |bool
 |str
 |slice (e:TypeId)
 |ptr (e:TypeId)
 |struct (fs:List (Nat×TypeId))
 |other
 deriving Inhabited
structure dj where
 ti:TI
 size:Nat
 bytes:Nat
 flat:Bool
 zero:List TC
 eqs:List Nat:=[]
 deriving Inhabited
inductive TV where
 |c (c:TC)
 |ag (cs:List TC)
 |tu (vs:List (Nat×List TC))
 |bx (cs:List TC)
 |fn (f:FuncId) (caps:List (List TC))
inductive ay where
 |borrow|inout (ms:List Mode)|consume (ms:List Mode)
 deriving DecidableEq
def ay.mc:ay→Nat→Mode
 | .borrow,_=> .snap
 | .inout ms,j=>match ms[j]? with|some m=>m|none=> .deep
 | .consume ms,j=>match ms[j]? with|some m=>m|none=> .deep
structure DR where
 ps:List ay
 shares:Bool
 res:List (List Mode)
 frz:Bool:=false
inductive oX where
 |nil
 |op (i:Nat) (fl:List Nat) (r:oX)
 |alt (a b:oX)
structure dW where
 P:Program
 tt:TypeId→dj
 sig:FuncId→DR
 lr:FuncId→Nat→List Nat
 lb:FuncId→Nat→List Nat
 uJ:FuncId→Nat→Option oX
 ext:FuncId→Option (List TV→Option (TV×List TV))
inductive TX where
 |norm|ex (id:Nat)|ret
 deriving DecidableEq
inductive Ev (R:Type) where
 |fail
 |ret (r:R)
 |test (b:Bool) (k:Bool→Ev R)
 |row (rows:List (List TC)) (i:Int) (k:List TC→Ev R)
 |byte (s:ByteArray) (i:Int) (k:Int→Ev R)
 |bytes (rows:List (List TC)) (k:List Int→Ev R)
 |call (f:FuncId) (vs:List TV) (k:TV→List TV→Ev R)
 |loop (f:FuncId) (i:Nat) (c:Code) (st:TS) (k:TX→TS→Ev R)
 |both (a b:Ev R)
@[irreducible] def qe (a b:Int):Bool:=decide (a<b)
@[irreducible] def ux (a b:Int):Bool:=decide (a≤b)
@[irreducible] def bM (a b:Int):Bool:=a==b
@[irreducible] def BC (a b:Bool):Bool:=a==b
@[irreducible] def di (a b:ByteArray):Bool:=a.toList==b.toList
@[irreducible] def z7 (a b:ByteArray):Bool:=Op.bytesLess a.toList b.toList
@[irreducible] def fits (n b:Nat):Bool:=decide (n*b≤140737488355328∧n≤140737488355328)
@[irreducible] def dL (rows:List (List TC)):Bool:=rows.all fun r=>r.all fun c=>match c with| .sc _=>true|_=>false
@[irreducible] def gG (l h n:Int):Bool:=decide (0≤l∧l≤h∧h≤n)
@[irreducible] def rowAt (rows:List (List TC)) (i:Int):Option (List TC):=if 0≤i then rows[i.toNat]? else none
@[irreducible] def hD (s:ByteArray) (i:Int):Option Int:=if 0≤i then(s[i.toNat]?).map fun b=>(b.toNat:Int) else none
@[irreducible] def aV (rows:List (List TC)) (l h:Int):List (List TC):=(rows.take h.toNat).drop l.toNat
@[irreducible] def eB (z:Nat) (rows:List (List TC)) (l h:Int):List (List TC):=rows.take l.toNat++List.replicate (h.toNat-l.toNat) (List.replicate z .any)++rows.drop h.toNat
@[irreducible] def e9 (rows au:List (List TC)):List (List TC):=au.take rows.length++rows.drop au.length
@[irreducible] def setRow (rows:List (List TC)) (i:Int) (f:Nat) (cs:List TC):List (List TC):=
  match rows[i.toNat]? with
  |some r=>rows.set i.toNat (r.take f++cs++r.drop (f+cs.length))
  |none=>rows
@[irreducible] def ER (a b:Int):Int:=if b<a then b else a
@[irreducible] def qJ (n:Int):Nat:=n.toNat
@[irreducible] def qK (a b:Int):Int:=a+b
@[irreducible] def BH (k:IntKind) (a b:Int):Int:=k.wrap (a+b)
@[irreducible] def uQ (k:IntKind) (a b:Int):Int:=k.wrap (a-b)
@[irreducible] def BI (k:IntKind) (a b:Int):Int:=k.wrap (a*b)
@[irreducible] def ES (k:IntKind) (a b:Int):Int:=k.wrap (a.tdiv b)
@[irreducible] def BJ (a b:Int):Int:=a.tmod b
@[irreducible] def yF (k:IntKind) (a b:Int):Int:=k.wrap (a*2 ^ (min b.toNat k.bits))
@[irreducible] def kr (k:IntKind) (a b:Int):Int:=a.fdiv (2 ^ (min b.toNat k.bits))
@[irreducible] def eC (op:BinOp) (k:IntKind) (a b:Int):Int:=Go.bits op k a b
@[irreducible] def aD (k:IntKind) (n:Int):Int:=k.wrap n
@[irreducible] def KO (a b:ByteArray):ByteArray:=a++b
@[irreducible] def KP (s:ByteArray) (l h:Int):ByteArray:=s.extract l.toNat h.toNat
def gr:List (List TC)→Option (List Int)
 |[]=>some []
 |[.sc (.int .u8 n)]::r=>(gr r).map fun ns=>n::ns
 |_=>none
@[irreducible] def aJ (rows:List (List TC)):Option (List Int):=gr rows
@[irreducible] def cg (ns:List Int):ByteArray:=⟨(ns.map fun n:Int=>UInt8.ofNat n.toNat).toArray⟩
@[irreducible] def kG (s:ByteArray):List (List TC):=s.data.toList.map fun b=>[TC.sc (.int .u8 b.toNat)]
abbrev one (c:CE):TE:= .v false [.mk false [c]]
abbrev S (v:Value):TE:=one (.sc v)
def dx (o:Nat):List Nat→Bool
 |[]=>false
 |a::r=>match Nat.beq a o with|true=>true|false=>dx o r
def z8 (o:Nat):List Nat→List Nat
 |[]=>[]
 |a::r=>match Nat.beq a o with|true=>z8 o r|false=>a::z8 o r
def je:List Nat→List Nat→Bool
 |[],_=>false
 |a::r,l=>match dx a l with|true=>true|false=>je r l
section
variable {α : Type}
def aa (i:Nat):List (Nat×α)→Option α
 |[]=>none
 |(j,e)::r=>match Nat.beq j i with|true=>some e|false=>aa i r
def eN (i:Nat) (e:α):List (Nat×α)→List (Nat×α)
 |[]=>[(i,e)]
 |(j,e')::r=>match Nat.beq j i with
  |true=>(i,e)::r
  |false=>match Nat.ble i j with
   |true=>(i,e)::(j,e')::r
   |false=>(j,e')::eN i e r
def fT (i:Nat):List (Nat×α)→List (Nat×α)
 |[]=>[]
 |(j,e)::r=>match Nat.beq j i with|true=>fT i r|false=>(j,e)::fT i r
def mapA (f:α→α):List (Nat×α)→List (Nat×α)
 |[]=>[]
 |(j,e)::r=>(j,f e)::mapA f r
end
def TS.get (st:TS) (i:Nat):TE:=match aa i st.tm with|some e=>e|none=> .dead
def TS.set (st:TS) (i:Nat) (e:TE):TS:=⟨eN i e st.tm,st.bx,st.ob⟩
def TS.r8 (st:TS) (i:Nat) (cs:List CE):TS:=⟨st.tm,eN i cs st.bx,st.ob⟩
def TS.Jh (st:TS) (i:Nat) (o:OB):TS:=⟨st.tm,st.bx,eN i o st.ob⟩
def dy (f:CE→CE):List fR→List fR
 |[]=>[]
 | .mk a cs::r=> .mk a (cs.map f)::dy f r
 | .ptr b::r=> .ptr b::dy f r
def lz (f:CE→CE) (g:TE→TE):TE→TE
 | .v tup es=> .v tup (dy f es)
 |e=>g e
def kH (f:CE→CE) (g:TE→TE) (h:List (Nat×OB)→List (Nat×OB)) (st:TS):TS:=
 ⟨mapA (lz f g) st.tm,mapA (List.map f) st.bx,h st.ob⟩
def bY:CE→List Nat
 | .ref o _=>[o]
 | .snap d _ _ _=>d
 |_=>[]
def cC:List fR→List Nat
 |[]=>[]
 | .mk _ cs::r=>cs.flatMap bY++cC r
 | .ptr _::r=>cC r
def lA:TE→List Nat
 | .v _ es=>cC es
 | .ep d _=>d
 | .er o _ _ _=>[o]
 |_=>[]
def xz (o:Nat) (e:CE):CE:=match dx o (bY e) with|true=> .gone|false=>e
def CP (o:Nat):TE→TE
 | .ep d cells=>match dx o d with|true=> .dead|false=> .ep d cells
 | .er p path i f=>match Nat.beq p o with|true=> .dead|false=> .er p path i f
 |e=>e
def eD (o:Nat) (st:TS):TS:=kH (xz o) (CP o) (fT o) st
def BK (o:Nat) (e:CE):CE:=match e with
 | .snap d l z rows=>match dx o d with|true=> .gone|false=> .snap d l z rows
 |e=>e
def yG (o:Nat):TE→TE
 | .ep d cells=>match dx o d with|true=> .dead|false=> .ep d cells
 | .er p (some q) i f=>match Nat.beq p o with|true=> .dead|false=> .er p (some q) i f
 |e=>e
def iZ (o:Nat) (b:OB) (st:TS):TS:=kH (BK o) (yG o) (eN o b) st
def Aa (cut:Option (Int×Int)) (rows:List (List TC)):List (List TC):=match cut with
 |none=>rows
 |some (l,h)=>aV rows l h
def Ji (o:Nat) (l:Option (Nat×Int×Nat)):Option (Nat×Int×Nat):=match l with
 |some (p,i,f)=>match Nat.beq p o with|true=>none|false=>some (p,i,f)
 |none=>none
def uy (o:Nat) (b:OB) (e:CE):CE:=match e with
 | .ref p cut=>match Nat.beq p o with|true=> .snap [] none b.z (Aa cut b.rows)|false=> .ref p cut
 | .snap d l z rows=> .snap (z8 o d) (Ji o l) z rows
 |e=>e
def yH (o:Nat):TE→TE
 | .ep d cells=> .ep (z8 o d) cells
 | .er p path i f=>match Nat.beq p o with|true=> .dead|false=> .er p path i f
 |e=>e
def kJ (st:TS) (o:Nat):TS:=match aa o st.ob with
 |some b=>kH (uy o b) (yH o) (fT o) st
 |none=>st
def nY (o:Nat) (b:OB) (st:TS):TS:=(eD o st).Jh o b
def c7:List (Nat×OB)→List (Nat×OB)→List (Nat×OB)
 |[],ob=>ob
 |(i,b)::r,ob=>eN i b (c7 r ob)
def g8 {α:Type}:List (Nat×α)→List Nat
 |[]=>[]
 |(o,_)::r=>o::g8 r
def oY (l:List Nat) (e:CE):CE:=match e with
 | .snap d l' z rows=>match je d l with|true=> .gone|false=> .snap d l' z rows
 |e=>e
def mP (l:List Nat):TE→TE
 | .ep d cells=>match je d l with|true=> .dead|false=> .ep d cells
 | .er p (some q) i f=>match dx p l with|true=> .dead|false=> .er p (some q) i f
 |e=>e
def ja (W:List (Nat×OB)) (st:TS):TS:=match W with
 |[]=>st
 |W=>kH (oY (g8 W)) (mP (g8 W)) (c7 W) st
section
variable {Z : Type}
def fL {α:Type} (f:α→(α→Z)→Z):List α→(List α→Z)→Z
 |[],K=>K []
 |a::r,K=>f a fun a'=>fL f r fun r'=>K (a'::r')
def fB (b:Bool) (K:Bool→Z):Z:=match b with|true=>K true|false=>K false
def fN (n:Nat) (K:Nat→Z):Z:=K n
def Iy (p:Option (Int×Nat)) (K:Option (Int×Nat)→Z):Z:=match p with|none=>K none|some (a,b)=>K (some (a,b))
def KQ (p:Option (Int×Int)) (K:Option (Int×Int)→Z):Z:=match p with|none=>K none|some (a,b)=>K (some (a,b))
def OI (p:Option (Nat×Int×Nat)) (K:Option (Nat×Int×Nat)→Z):Z:=match p with|none=>K none|some (a,b,c)=>K (some (a,b,c))
def fV (v:Value) (K:Value→Z):Z:=match v with
 | .int k n=>K (.int k n)
 | .bool b=>K (.bool b)
 | .string s=>K (.string s)
 |v=>K v
def KR (c:TC) (K:TC→Z):Z:=match c with| .sc v=>fV v fun v=>K (.sc v)| .sub z rows=>K (.sub z rows)| .any=>K .any
def Mf (e:CE) (K:CE→Z):Z:=match e with
 | .sc v=>fV v fun v=>K (.sc v)
 | .nil z=>K (.nil z)
 | .ref o cut=>KQ cut fun cut=>K (.ref o cut)
 | .snap d l z rows=>fL fN d fun d=>OI l fun l=>K (.snap d l z rows)
 | .gone=>K .gone
def ET (c:fR) (K:fR→Z):Z:=match c with
 | .mk a cs=>fB a fun a=>fL Mf cs fun cs=>K (.mk a cs)
 | .ptr b=>K (.ptr b)
def MS (e:TE) (K:TE→Z):Z:=match e with
 | .dead=>K .dead
 | .v tup es=>fB tup fun tup=>fL ET es fun es=>K (.v tup es)
 | .bp b off=>K (.bp b off)
 | .ep d cells=>fL fN d fun d=>fL KR cells fun cells=>K (.ep d cells)
 | .er r path i f=>Iy path fun path=>K (.er r path i f)
 | .fn f caps=>K (.fn f caps)
 | .kb b=>fB b fun b=>K (.kb b)
def MT (b:OB) (K:OB→Z):Z:=match b with|⟨d,z,rows⟩=>fB d fun d=>K ⟨d,z,rows⟩
def EU (cs:List TC) (K:List TC→Z):Z:=fL KR cs K
def Jj (v:TV) (K:TV→Z):Z:=match v with
 | .c c=>KR c fun c=>K (.c c)
 | .ag cs=>EU cs fun cs=>K (.ag cs)
 | .tu vs=>fL (fun p K=>match p with|(i,cs)=>EU cs fun cs=>K (i,cs)) vs fun vs=>K (.tu vs)
 | .bx cs=>EU cs fun cs=>K (.bx cs)
 | .fn f caps=>K (.fn f caps)
def DS (st:TS) (K:TS→Z):Z:=
 fL (fun p K=>match p with|(i,e)=>MS e fun e=>K (i,e)) st.tm fun tm=>
 fL (fun p K=>match p with|(i,cs)=>fL Mf cs fun cs=>K (i,cs)) st.bx fun bx=>
 fL (fun p K=>match p with|(i,b)=>MT b fun b=>K (i,b)) st.ob fun ob=>K ⟨tm,bx,ob⟩
end
def eO (st:TS):CE→Option (Nat×List (List TC))
 | .nil z=>some (z,[])
 | .ref o cut=>match aa o st.ob with|some ⟨_,z,rows⟩=>some (z,Aa cut rows)|none=>none
 | .snap _ _ z rows=>some (z,rows)
 |_=>none
def mQ (st:TS) (e:CE):Option TC:=match e with
 | .sc v=>some (.sc v)
 |e=>match eO st e with|some (z,rows)=>some (.sub z rows)|none=>none
def jm (st:TS):List CE→Option (List TC)
 |[]=>some []
 |e::r=>match mQ st e,jm st r with
  |some c,some cs=>some (c::cs)
  |_,_=>none
def yI (c:TC):CE:=match c with| .sc v=> .sc v| .sub z _=> .nil z| .any=> .gone
section
variable (C : dW)
def yJ (ty:TypeId):Value→TE
 | .slice none 0 0=>match(C.tt ty).ti with
   | .slice e=>one (.nil (C.tt e).size)
   |_=> .dead
 | .int k n=>S (.int k n)
 | .bool b=> .kb b
 | .string s=>S (.string s)
 |_=> .dead
def gH (st:TS) (ty:TypeId):Operand→TE
 | .tmp i=>st.get i
 | .const v=>yJ C ty v
 | .func f=> .fn f []
 | .global _=> .dead
def EV:TE→Option Value
 | .v false [.mk false [.sc v]]=>some v
 | .kb b=>some (.bool b)
 |_=>none
def asInt:TE→Option Int
 | .v false [.mk false [.sc (.int _ n)]]=>some n
 |_=>none
def ku:TE→Option CE
 | .v false [.mk false [e]]=>some e
 | .kb b=>some (.sc (.bool b))
 |_=>none
def oZ:TE→Option (List CE)
 | .v false [.mk _ cs]=>some cs
 | .kb b=>some [.sc (.bool b)]
 |_=>none
def EW (op:BinOp):Value→Value→Option Value
 | .int k a,.int k' b=>
   match op with
   | .shl=>if 0≤b then some (.int k (yF k a b)) else none
   | .shr=>if 0≤b then some (.int k (kr k a b)) else none
   |_=>if k=k' then
    match op with
    | .add=>some (.int k (BH k a b))
    | .sub=>some (.int k (uQ k a b))
    | .mul=>some (.int k (BI k a b))
    | .and=>some (.int k (eC .and k a b))
    | .or=>some (.int k (eC .or k a b))
    | .xor=>some (.int k (eC .xor k a b))
    | .eql=>some (.bool (bM a b))
    | .neq=>some (.bool (!bM a b))
    | .lss=>some (.bool (qe a b))
    | .leq=>some (.bool (ux a b))
    | .gtr=>some (.bool (qe b a))
    | .geq=>some (.bool (ux b a))
    |_=>none
    else none
 | .string a,.string b=>match op with
   | .eql=>some (.bool (di a b))
   | .neq=>some (.bool (!di a b))
   | .lss=>some (.bool (z7 a b))
   | .leq=>some (.bool (z7 a b||di a b))
   | .gtr=>some (.bool (!(z7 a b||di a b)))
   | .geq=>some (.bool (!z7 a b))
   |_=>none
 |_,_=>none
def kK:List Nat→List CE→List CE→Option Bool
 |[],[],[]=>some true
 |1::ks,.sc (.int k a)::r,.sc (.int k' b)::r'=>if k=k' then(match kK ks r r' with|some q=>some (bM a b&&q)|none=>none) else none
 |2::ks,.sc (.bool a)::r,.sc (.bool b)::r'=>match kK ks r r' with|some q=>some (BC a b&&q)|none=>none
 |3::ks,.sc (.string a)::r,.sc (.string b)::r'=>match kK ks r r' with|some q=>some (di a b&&q)|none=>none
 |_,_,_=>none
def qL (t:TypeId):Bool:=match(C.tt t).ti with| .struct _=>true|_=>false
def fU (t:TypeId) (f:Nat):Option (Nat×TypeId):=match(C.tt t).ti with| .struct fs=>fs[f]?|_=>none
def G2 (t:TypeId) (f:Nat):TypeId:=match fU C t f with|some (_,ft)=>ft|none=>0
def lB (t:TypeId):Option TypeId:=match(C.tt t).ti with| .slice e=>some e|_=>none
def Jk (ds:List Nat) (loc:Option (Nat×Int×Nat)) (j:Nat) (c:TC):CE:=
 match c with
 | .sc v=> .sc v
 | .sub z rows=> .snap ds (match loc with|some (o,i,f)=>some (o,i,f+j)|none=>none) z rows
 | .any=> .gone
def mR (ds:List Nat) (loc:Option (Nat×Int×Nat)):Nat→List TC→List CE
 |_,[]=>[]
 |j,c::r=>Jk ds loc j c::mR ds loc (j+1) r
def known (i:dj):Bool:=match i.ti with| .other=>false|_=>true
def lC (i:dj):Bool:=match i.ti with| .other=>false| .ptr _=>false|_=>true
def EX (t:TypeId) (xs:List CE):TE:= .v false [.mk (qL C t) xs]
variable {R : Type}
def pQ (t:TypeId) (xs:List CE) (K:TE→Ev R):Ev R:=match known (C.tt t),Nat.beq xs.length (C.tt t).size with
 |true,true=>K (EX C t xs)
 |_,_=> .fail
def yK (e:TypeId) (z:Nat):Bool:=match known (C.tt e) with|true=>Nat.beq z (C.tt e).size|false=>false
def CQ (st:TS) (o:Nat) (path:Option (Int×Nat)) (i:Int) (f:Nat) (K:List TC→Ev R):Ev R:=
 match aa o st.ob with
 |some ⟨_,_,rows⟩=>match path with
  |none=> .row rows i fun row=>K (row.drop f)
  |some (i0,f0)=> .row rows i0 fun row0=>match row0[f0]? with
   |some (.sub _ fY)=> .row fY i fun row=>K (row.drop f)
   |_=> .fail
 |none=> .fail
def pR (st:TS) (t:TypeId) (e:TE) (K:TE→Ev R):Ev R:=
 match e with
 | .bp b off=>match aa b st.bx with
   |some cs=>pQ C t ((cs.drop off).take (C.tt t).size) K
   |none=> .fail
 | .ep ds cells=>pQ C t (mR ds none 0 (cells.take (C.tt t).size)) K
 | .er o path i f=>CQ st o path i f fun cells=>
     pQ C t (mR [o] (match path with|none=>some (o,i,f)|some _=>none) 0 (cells.take (C.tt t).size)) K
 |_=> .fail
def mS (t:TypeId):List (Nat×TE)→List CE→Option (List CE)
 |[],cs=>some cs
 |(f,e)::r,cs=>match fU C t f,oZ e with
  |some (off,ft),some c=>match Nat.beq c.length (C.tt ft).size with
   |true=>mS t r (cs.take off++c++cs.drop (off+c.length))
   |false=>none
  |_,_=>none
def uz (st:TS):List Operand→Option (List Nat)
 |[]=>some []
 |x::r=>match gH C st 0 x,uz st r with
  | .bp b 0,some bs=>some (b::bs)
  |_,_=>none
def bound (st:TS) (d:Int):Option Operand→Option Int
 |none=>some d
 |some a=>asInt (gH C st 0 a)
def plain:TE→TE
 | .kb b=>S (.bool b)
 |e=>e
def EY (e:CE) (l h:Int):CE:=match e with
 | .nil z=> .nil z
 | .ref o none=> .ref o (some (l,h))
 | .ref o (some (a,_))=> .ref o (some (qK a l,qK a h))
 | .snap ds _ z rows=> .snap ds none z (aV rows l h)
 |e=>e
def EZ (e:CE) (n:Int) (cells:List TC):TE:=match e with
 | .ref o none=> .er o none n 0
 | .ref o (some _)=> .ep [o] cells
 | .snap _ (some (o,i,f)) _ _=> .er o (some (i,f)) n 0
 | .snap ds none _ _=> .ep ds cells
 |_=> .dead
def uA (t:TypeId):Bool:=match(C.tt t).ti with| .bool=>true|_=>false
def Jl (bt:Bool) (op:BinOp) (a b:Value) (K:TE→Ev R):Ev R:=match op,a,b with
 | .eql,.bool p,.bool q=>match bt with|true=>K (S (.bool (BC p q)))|false=> .fail
 | .neq,.bool p,.bool q=>match bt with|true=>K (S (.bool (!BC p q)))|false=> .fail
 | .rem,.int k p,.int k' q=>if k=k' then .test (bM q 0) fun z=>match z with
     |false=>K (S (.int k (BJ p q)))
     |true=> .fail
   else .fail
 | .quo,.int k p,.int k' q=>if k=k' then .test (bM q 0) fun z=>match z with
     |false=>K (S (.int k (ES k p q)))
     |true=> .fail
   else .fail
 | .add,.string p,.string q=> .test (fits (p.size+q.size) 1) fun z=>match z with
   |true=>K (S (.string (KO p q)))
   |false=> .fail
 |_,_,_=>match EW op a b with
  |some v=>K (S v)
  |none=> .fail
def Jm (st:TS) (t:TypeId) (e:CE) (K:Value→Ev R):Ev R:=match(C.tt t).ti,e with
 | .str,.sc (.string s)=>K (.int .i64 s.size)
 | .slice _,e=>match eO st e with
   |some (_,rows)=>K (.int .i64 rows.length)
   |none=> .fail
 |_,_=> .fail
def cz (st:TS) (o:Oper) (K:TE→Ev R):Ev R:=
 match o.op with
 | .move x=>K (gH C st o.type x)
 | .assign x=>K (gH C st o.type x)
 | .pick c a b=>match gH C st o.type c with
   | .kb p=>match p with
     |true=>K (gH C st o.type a)
     |false=>K (gH C st o.type b)
   |_=> .fail
 | .load t a=>pR C st t (gH C st 0 a) K
 | .nilCheck x=>match gH C st 0 x with
   | .bp b off=>K (.bp b off)
   | .ep d c=>K (.ep d c)
   | .er r p i f=>K (.er r p i f)
   |_=> .fail
 | .binOp op t x y _=>match plain (gH C st t x),plain (gH C st t y) with
   | .v false [.mk false [.sc a]],.v false [.mk false [.sc b]]=>Jl (uA C t) op a b K
   | .v false [.mk true xs],.v false [.mk true ys]=>match known (C.tt t),(C.tt t).eqs with
     |false,_=> .fail
     |true,[]=> .fail
     |true,k::ks=>match op,kK (k::ks) xs ys with
      | .eql,some b=>K (S (.bool b))
      | .neq,some b=>K (S (.bool (!b)))
      |_,_=> .fail
   |_,_=> .fail
 | .unOp op _ x=>match op,gH C st o.type x with
   | .not,.kb b=>match b with|true=>K (.kb false)|false=>K (.kb true)
   | .not,.v false [.mk false [.sc (.bool b)]]=>K (S (.bool (!b)))
   | .neg,.v false [.mk false [.sc (.int k n)]]=>K (S (.int k (uQ k 0 n)))
   |_,_=> .fail
 | .convert src dst x=>match(C.tt dst).ti,(C.tt src).ti,gH C st src x with
   | .int k,.int _,.v false [.mk false [.sc (.int _ n)]]=>K (S (.int k (aD k n)))
   | .str,.str,.v false [.mk false [.sc (.string s)]]=>K (S (.string s))
   | .str,.slice et,.v false [.mk false [e]]=>match(C.tt et).ti,eO st e with
     | .int .u8,some (_,rows)=> .bytes rows fun ns=>K (S (.string (cg ns)))
     |_,_=> .fail
   |_,_,_=> .fail
 | .fieldAddr s x f=>match fU C s f,gH C st 0 x with
   |some (off,_),.bp b o=>K (.bp b (o+off))
   |some (off,_),.ep d cells=>K (.ep d (cells.drop off))
   |some (off,_),.er r p i g=>K (.er r p i (g+off))
   |_,_=> .fail
 | .field t x f=>match fU C t f,gH C st t x with
   |some (off,ft),.v false [.mk true cs]=>pQ C ft ((cs.drop off).take (C.tt ft).size) K
   |_,_=> .fail
 | .indexAddr t x i=>match lB C t,ku (gH C st t x),asInt (gH C st 0 i) with
   |some et,some e,some n=>match eO st e with
    |some (z,rows)=>match yK C et z with
     |true=> .row rows n fun cells=>K (EZ e n cells)
     |false=> .fail
    |none=> .fail
   |_,_,_=> .fail
 | .index t x i=>match(C.tt t).ti,EV (gH C st t x),asInt (gH C st 0 i) with
   | .str,some (.string s),some n=> .byte s n fun b=>K (S (.int .u8 b))
   |_,_,_=> .fail
 | .slice t x lo hi mx=>match mx,(C.tt t).ti,ku (gH C st t x) with
   |none,.str,some (.sc (.string s))=>match bound C st 0 lo,bound C st s.size hi with
    |some l,some h=> .test (gG l h s.size) fun z=>match z with
     |true=>K (S (.string (KP s l h)))
     |false=> .fail
    |_,_=> .fail
   |none,.slice et,some e=>match eO st e with
    |some (z,rows)=>match yK C et z,bound C st 0 lo,bound C st rows.length hi with
     |true,some l,some h=> .test (gG l h rows.length) fun b=>match b with
      |true=>K (one (EY e l h))
      |false=> .fail
     |_,_,_=> .fail
    |none=> .fail
   |_,_,_=> .fail
 | .extract x i=>match gH C st 0 x with
   | .v true es=>match es[i]? with
     |some (.mk a cs)=>K (.v false [.mk a cs])
     |some (.ptr b)=>K (.bp b 0)
     |none=> .fail
   |_=> .fail
 | .build t ps=>match qL C t,mS C t (ps.toList.map fun p=>(p.1,gH C st (G2 C t p.1) p.2)) ((C.tt t).zero.map yI) with
   |true,some cs=>K (.v false [.mk true cs])
   |_,_=> .fail
 | .makeFunc fn first caps=>match fn,first.toList,uz C st caps.toList with
   | .func f,[],some bs=>K (.fn f bs)
   |_,_,_=> .fail
 | .call {callee:= .builtin .len,args,argTypes}=>match args.toList,argTypes.toList with
   |[x],[t]=>match ku (gH C st t x) with
    |some e=>Jm C st t e fun v=>K (S v)
    |none=> .fail
   |_,_=> .fail
 | .call {callee:= .builtin .min,args,argTypes}=>match args.toList,argTypes.toList with
   |[x,y],t::_=>match EV (gH C st t x),asInt (gH C st t y) with
    |some (.int k a),some b=>K (S (.int k (ER a b)))
    |_,_=> .fail
   |_,_=> .fail
 |_=> .fail
def fc (e:CE) (st:TS):Option (TC×TS×Bool):=
 match e with
 | .sc v=>some (.sc v,st,true)
 | .nil z=>some (.sub z [],st,true)
 | .ref o cut=>match aa o st.ob with
   |some ⟨d,z,rows⟩=>some (.sub z (Aa cut rows),eD o st,d)
   |none=>none
 | .snap [] _ z rows=>some (.sub z rows,st,false)
 |_=>none
def uR:List CE→TS→Option (List TC×TS×Bool)
 |[],st=>some ([],st,true)
 |e::r,st=>match fc e st with
  |some (c,bh,d1)=>match uR r bh with
   |some (cs,eZ,d2)=>some (c::cs,eZ,d1&&d2)
   |none=>none
  |none=>none
def rowsOf (st:TS) (ty:TypeId):List (Nat×Operand)→Nat→Option (List (List TC)×TS×Bool)
 |[],_=>some ([],st,true)
 |(i,x)::r,n=>match Nat.beq i n,oZ (gH C st ty x) with
  |true,some cs=>match Nat.beq cs.length (C.tt ty).size,uR cs st with
   |true,some (cs',bh,d1)=>match rowsOf bh ty r (n+1) with
    |some (rs,eZ,d2)=>some (cs'::rs,eZ,d1&&d2)
    |none=>none
   |_,_=>none
  |_,_=>none
def gY (d k j:Nat):Nat:=1000+400*d+20*k+j
def Jn (b j:Nat):Nat:=1000000000+100*b+j
def lS (b:Nat):Bool:=match Nat.ble 200000 b with|true=>Nat.ble 300000 b|false=>true
def Iz (b:Nat):fR→Bool
 | .ptr c=>Nat.beq c b
 | .mk _ _=>false
def uS (b:Nat):TE→Bool
 | .bp c _=>Nat.beq c b
 | .fn _ caps=>dx b caps
 | .v _ es=>es.any (Iz b)
 |_=>false
def xA (b:Nat) (st:TS):TS:=⟨mapA (fun e=>match uS b e with|true=> .dead|false=>e) st.tm,fT b st.bx,st.ob⟩
def r9 (b:Nat) (cs:List CE) (st:TS):TS:=(xA b st).r8 b cs
def setCells (f:Nat) (cs:List TC) (rows:List (List TC)) (i:Int):List (List TC):=setRow rows i f cs
def uT (o:Nat) (e:CE):CE:=match e with
 | .snap d (some (p,i,f)) z rows=>match Nat.beq p o with|true=> .snap [] none z rows|false=> .snap d (some (p,i,f)) z rows
 |e=>e
def IA (o:Nat):TE→TE
 | .er p (some q) i f=>match Nat.beq p o with|true=> .dead|false=> .er p (some q) i f
 |e=>e
def wS (b:OB):OB:=⟨false,b.z,b.rows⟩
def lW (o:Nat) (st:TS):TS:=match aa o st.ob with
 |some b=>kH (uT o) (IA o) (eN o (wS b)) st
 |none=>st
def BL (o:Nat):List CE→Bool
 |[]=>false
 | .snap _ (some (p,_,_)) _ _::r=>match Nat.beq p o with|true=>true|false=>BL o r
 |_::r=>BL o r
def qM (o:Nat) (path:Option (Int×Nat)) (i:Int) (f:Nat) (cs:List CE) (st:TS) (K:TS→Ev R):Ev R:=
 match uR cs st with
 |some (ts,bh,d1)=>match aa o bh.ob with
  |some ⟨d,z,rows⟩=>match path with
   |none=> .row rows i fun row=>match Nat.ble (f+ts.length) row.length with
    |true=>K (ja [(o,⟨d&&d1,z,setRow rows i f ts⟩)] bh)
    |false=> .fail
   |some (i0,f0)=>match d,d1 with
    |true,true=> .row rows i0 fun row0=>match row0[f0]? with
     |some (.sub z1 fY)=> .row fY i fun row=>match Nat.ble (f+ts.length) row.length with
      |true=>K (ja [(o,⟨true,z,setRow rows i0 f0 [.sub z1 (setRow fY i f ts)]⟩)] bh)
      |false=> .fail
     |_=> .fail
    |_,_=> .fail
  |none=> .fail
 |none=> .fail
def uB:List CE→Bool
 |[]=>false
 | .gone::_=>true
 |_::r=>uB r
def uU (b off:Nat) (cs:List CE) (st:TS):Option TS:=
 match aa b st.bx with
 |some old=>match lS b&& !uB cs,Nat.ble (off+cs.length) old.length with
  |true,true=>some (st.r8 b (old.take off++cs++old.drop (off+cs.length)))
  |_,_=>none
 |none=>none
def lD (st:TS) (e:CE):Option (Option Nat×Nat×Bool×List (List TC)):=
 match e with
 | .nil z=>some (none,z,true,[])
 | .ref o cut=>match aa o st.ob with
   |some ⟨d,z,rows⟩=>some (some o,z,d,Aa cut rows)
   |none=>none
 |_=>none
def eX (o:Option Nat) (st:TS):TS:=match o with|some o=>eD o st|none=>st
def kz (d:Nat) (b:OB) (st:TS):TS:=(nY (gY d 0 0) b st).set d (one (.ref (gY d 0 0) none))
def sg (e:TypeId) (z:Nat):Bool:=match lC (C.tt e) with|true=>Nat.beq z (C.tt e).size|false=>false
def qf (g o':Nat) (b:OB) (l h:Int) (st:TS):TS:=nY g ⟨true,1,[]⟩ (iZ o' ⟨b.deep,b.z,eB b.z b.rows l h⟩ st)
def BM (d:Nat) (o:Option Nat) (dp:Bool) (cx:CE) (st:TS):Option (Nat×List (List TC)×TS):=match cx with
 | .ref o' (some (l,h))=>match dp,aa o' st.ob,(match o with|some o=>Nat.beq o o'||Nat.beq o (gY d 1 0)|none=>false)||Nat.beq o' (gY d 1 0) with
   |true,some ⟨true,z,rows⟩,false=>some (z,aV rows l h,eD (gY d 1 0) (eX o (qf (gY d 1 0) o' ⟨true,z,rows⟩ l h st)))
   |_,_,_=>none
 |_=>none
def E0 (st:TS) (cx:CE):Option (Nat×List (List TC)):=match cx with
 | .ref o' cut=>match aa o' st.ob with
   |some ⟨false,z,rows⟩=>some (z,Aa cut rows)
   |_=>none
 |_=>none
def CR (st:TS) (d:Nat) (t t':TypeId) (s:TE) (x:TE) (K:TS→Ev R):Ev R:=
 match lB C t,ku s,ku x with
 |some e,some cs,some cx=>match lD st cs,(C.tt t').ti with
  |some (o,z,dp,rows),.str=>match sg C e z,Nat.beq z 1,cx with
   |true,true,.sc (.string b)=> .test (fits (rows.length+b.size) (C.tt e).bytes) fun q=>match q with
    |true=>K (kz d ⟨dp,z,rows++kG b⟩ (eX o st))
    |false=> .fail
   |_,_,_=> .fail
  |some (o,z,dp,rows),.slice _=>match sg C e z with
   |false=> .fail
   |true=>match(C.tt e).flat with
     |true=>match eO st cx with
      |some (z',au)=>match Nat.beq z z' with
       |true=> .test (dL au&&fits (rows.length+au.length) (C.tt e).bytes) fun q=>match q with
        |true=>K (kz d ⟨dp,z,rows++au⟩ (eX o st))
        |false=> .fail
       |false=> .fail
      |none=> .fail
     |false=>match BM d o dp cx st with
      |some (z',au,bh)=>match Nat.beq z z' with
        |true=> .test (fits (rows.length+au.length) (C.tt e).bytes) fun q=>match q with
         |true=>K (kz d ⟨dp,z,rows++au⟩ bh)
         |false=> .fail
        |false=> .fail
      |none=>match E0 st cx with
       |some (z',au)=>match Nat.beq z z' with
        |true=> .test (fits (rows.length+au.length) (C.tt e).bytes) fun q=>match q with
         |true=>K (kz d ⟨false,z,rows++au⟩ (eX o st))
         |false=> .fail
        |false=> .fail
       |none=>match fc cx (eX o st) with
       |some (.sub z' au,bh,d1)=>match Nat.beq z z' with
        |true=> .test (fits (rows.length+au.length) (C.tt e).bytes) fun q=>match q with
         |true=>K (kz d ⟨dp&&d1,z,rows++au⟩ bh)
         |false=> .fail
        |false=> .fail
       |_=> .fail
  |_,_=> .fail
 |_,_,_=> .fail
def IB (st:TS) (d:Option Nat) (t:TypeId) (s:TE) (x:TE) (K:TS→Ev R):Ev R:=
 match lB C t,ku s,ku x with
 |some e,some (.ref o none),some cx=>match aa o st.ob,eO st cx,lC (C.tt e) with
  |some ⟨true,z,rows⟩,some (z',au),true=>match Nat.beq z z'&&Nat.beq z (C.tt e).size with
   |true=> .test (dL au) fun q=>match q with
    |true=>match d with
     |some d=>K ((iZ o ⟨true,z,e9 rows au⟩ st).set d (one (.sc (.int .i64 (Int.ofNat (lV au.length rows.length))))))
     |none=>K (iZ o ⟨true,z,e9 rows au⟩ st)
    |false=> .fail
   |false=> .fail
  |_,_,_=> .fail
 |_,_,_=> .fail
def yL (st:TS):List Nat→Option (List (List TC))
 |[]=>some []
 |b::r=>match aa b st.bx with
  |some cs=>match jm st cs,yL st r with
   |some c,some cs=>some (c::cs)
   |_,_=>none
  |none=>none
def E1 (st:TS) (e:TE) (K:TV→Ev R):Ev R:=
 match e with
 | .v false [.mk a cs]=>match jm st cs with
   |some ts=>match a,ts with
    |true,ts=>K (.ag ts)
    |false,[c]=>K (.c c)
    |_,_=> .fail
   |none=> .fail
 | .kb b=>K (.c (.sc (.bool b)))
 | .bp b off=>match aa b st.bx with
   |some cs=>match jm st (cs.drop off) with
    |some ts=>K (.bx ts)
    |none=> .fail
   |none=> .fail
 | .ep _ (c::cells)=>K (.bx (c::cells))
 | .er r p i f=>CQ st r p i f fun cells=>match cells with
   |[]=> .fail
   |c::cells=>K (.bx (c::cells))
 | .fn f caps=>match yL st caps with
   |some xs=>K (.fn f xs)
   |none=> .fail
 |_=> .fail
def Ab (st:TS):List TE→(List TV→Ev R)→Ev R
 |[],K=>K []
 |e::r,K=>E1 st e fun v=>Ab st r fun vs=>K (v::vs)
def mT (st:TS) (b:Nat):List Nat:=match aa b st.bx with
 |some cs=>(2*b+1)::(cs.flatMap bY).map (2* ·)
 |none=>[2*b+1]
def gJ (st:TS):TE→List Nat
 | .v _ es=>(cC es).map (2* ·)
 | .ep d _=>d.map (2* ·)
 | .er o _ _ _=>[2*o]
 | .bp b _=>mT st b
 | .fn _ caps=>caps.flatMap (mT st)
 |_=>[]
def kL (st:TS) (o:Nat):Bool:=match aa o st.ob with|some ⟨true,_,_⟩=>true|_=>false
def si (st:TS) (o:Nat):Bool:=match aa o st.ob with|some ⟨false,_,_⟩=>true|_=>false
def gK (st:TS) (c:Bool):List Mode→List CE→Option (List Nat)
 |_,[]=>some []
 |ms,e::r=>match gK st c (ms.drop 1) r with
  |some l=>match ms.headD .deep,e with
   |_,.sc _=>some l
   |_,.nil _=>some l
   | .snap,.snap [] none _ _=>some l
   | .snap,_=>none
   | .top,.ref o none=>match si st o with|true=>some ((2*o)::l)|false=>none
   | .top,_=>none
   |_,.ref o none=>match kL st o with|true=>some ((2*o)::l)|false=>none
   |_,.ref o (some _)=>match c,kL st o with|true,true=>some ((2*o)::l)|_,_=>none
   |_,.snap _ (some (o,_,_)) _ _=>match c,kL st o with|false,true=>some ((2*o)::l)|_,_=>none
   |_,_=>none
  |none=>none
def gh (st:TS) (c:Bool) (ms:List Mode) (e:TE):Option (List Nat):=match e with
 | .v false [.mk _ cs]=>match c,ms with|true,ms=>gK st true ms cs|false,[]=>gK st false [] cs|_,_=>none
 | .bp b 0=>match c,lS b,aa b st.bx with
   |false,true,some cs=>match gK st true ms cs with
    |some l=>some ((2*b+1)::l)
    |none=>none
   |_,_,_=>none
 |_=>none
def ay.ms:ay→List Mode
 | .inout ms=>ms
 | .consume ms=>ms
 |_=>[]
def qg:List Nat→Bool
 |[]=>true
 |a::r=>match dx a r with|true=>false|false=>qg r
def mU (st:TS):List ay→List TE→Option (List Nat×List Nat)
 |[],[]=>some ([],[])
 |p::ps,e::es=>match mU st ps es with
  |some (own,rd)=>match p with
   | .borrow=>some (own,gJ st e++rd)
   | .inout ms=>match gh st false ms e with|some l=>some (l++own,rd)|none=>none
   | .consume ms=>match gh st true ms e with|some l=>some (l++own,rd)|none=>none
  |none=>none
 |_,_=>none
def jn:List CE→TS→TS
 |[],st=>st
 | .ref o _::r,st=>jn r (eD o st)
 |_::r,st=>jn r st
def hJ (st:TS) (e:CE) (c:TC):Option (List (Nat×OB)):=
 match e,c with
 | .sc _,.sc _=>some []
 | .nil _,.sub _ []=>some []
 | .ref o none,.sub z rows=>match aa o st.ob with
   |some ⟨true,z0,_⟩=>match Nat.beq z z0 with|true=>some [(o,⟨true,z,rows⟩)]|false=>none
   |_=>none
 | .snap _ (some (o,i,f)) z0 _,.sub z' au=>match aa o st.ob,Nat.beq z' z0 with
   |some ⟨true,z,rows⟩,true=>some [(o,⟨true,z,setRow rows i f [.sub z' au]⟩)]
   |_,_=>none
 |_,_=>none
def uC (st:TS):List CE→List TC→Option (List (Nat×OB))
 |[],[]=>some []
 |e::r,c::cs=>match hJ st e c,uC st r cs with
  |some a,some b=>some (a++b)
  |_,_=>none
 |_,_=>none
def aF (f:Nat→Nat):List Mode→Nat→List TC→TS→List CE×TS
 |_,_,[],st=>([],st)
 |ms,j,c::cs,st=>match c with
  | .sc v=>match aF f (ms.drop 1) (j+1) cs st with|(r,st')=>(.sc v::r,st')
  | .sub z rows=>match ms.headD .snap with
    | .snap=>match aF f (ms.drop 1) (j+1) cs st with|(r,st')=>(.snap [] none z rows::r,st')
    | .top=>match aF f (ms.drop 1) (j+1) cs (nY (f j) ⟨false,z,rows⟩ st) with|(r,st')=>(.ref (f j) none::r,st')
    | .deep=>match aF f (ms.drop 1) (j+1) cs (nY (f j) ⟨true,z,rows⟩ st) with|(r,st')=>(.ref (f j) none::r,st')
  | .any=>match aF f (ms.drop 1) (j+1) cs st with|(r,st')=>(.gone::r,st')
def iN (fQ:TS):List ay→List TE→TS→TS
 |p::ps,e::es,st=>match p,e with
  | .consume _,.v false [.mk _ cs]=>iN fQ ps es (jn cs st)
  | .inout _,.bp b _=>match aa b fQ.bx with
    |some cs=>iN fQ ps es ⟨(jn cs st).tm,fT b (jn cs st).bx,(jn cs st).ob⟩
    |none=>iN fQ ps es st
  |_,_=>iN fQ ps es st
 |_,_,st=>st
def jo (st:TS):List ay→List TE→List TV→Option (List (Nat×OB)×List (Nat×List Mode×List TC))
 |p::ps,e::es,fs=>match p with
  | .inout ms=>match e,fs with
    | .v false [.mk false [e]],.c c::fs=>match hJ st e c,jo st ps es fs with
      |some a,some (b,bs)=>some (a++b,bs)
      |_,_=>none
    | .v false [.mk true cs],.ag ts::fs=>match uC st cs ts,jo st ps es fs with
      |some a,some (b,bs)=>some (a++b,bs)
      |_,_=>none
    | .bp b 0,.bx ts::fs=>match aa b st.bx,jo st ps es fs with
      |some cs,some (a,bs)=>match Nat.beq cs.length ts.length with|true=>some (a,(b,ms,ts)::bs)|false=>none
      |_,_=>none
    |_,_=>none
  |_=>jo st ps es fs
 |[],[],[]=>some ([],[])
 |_,_,_=>none
def Ac:List Mode→List TC→List Mode
 |_,[]=>[]
 |ms,_::r=>(match ms.headD .deep with| .snap=> .snap|_=> .deep)::Ac (ms.drop 1) r
def qN:List (Nat×List Mode×List TC)→TS→TS
 |[],st=>st
 |(b,ms,ts)::r,st=>match aF (Jn b) (Ac ms ts) 0 ts st with
  |(cs,st')=>qN r (st'.r8 b cs)
def ia (st:TS):List Nat→TS
 |[]=>st
 |o::r=>ia (kJ st o) r
def nZ (st:TS):TE→List Nat
 | .bp b _=>match aa b st.bx with|some cs=>cs.flatMap bY|none=>[]
 | .fn _ caps=>caps.flatMap fun b=>match aa b st.bx with|some cs=>cs.flatMap bY|none=>[]
 |e=>lA e
def borrowed (st:TS):List ay→List TE→List Nat
 | .borrow::ps,e::es=>nZ st e++borrowed st ps es
 |_::ps,_::es=>borrowed st ps es
 |_,_=>[]
def jq (d k:Nat):Nat:=400000+20*d+k
def cq (d:Nat):Nat→List (List Mode)→List (Nat×List TC)→TS→List fR×TS
 |_,_,[],st=>([],st)
 |k,ms,(a,cs)::r,st=>match aF (gY d k) (ms.headD []) 0 cs st with
  |(cs',st')=>match Nat.beq a 2 with
   |true=>match cq d (k+1) (ms.drop 1) r (r9 (jq d k) cs' st') with
    |(es,tj)=>(.ptr (jq d k)::es,tj)
   |false=>match cq d (k+1) (ms.drop 1) r st' with
    |(es,tj)=>(.mk (Nat.beq a 1) cs'::es,tj)
def o5:List (Nat×List TC)→Bool
 |[]=>true
 |(_,cs)::r=>match Nat.ble cs.length 20 with|true=>o5 r|false=>false
def E2 (d:Nat) (ms:List (List Mode)) (v:TV) (st:TS):Option TS:=
 match v with
 | .c c=>match aF (gY d 0) (ms.headD []) 0 [c] st with|(cs,st')=>some (st'.set d (.v false [.mk false cs]))
 | .ag cs=>match aF (gY d 0) (ms.headD []) 0 cs st with|(cs,st')=>some (st'.set d (.v false [.mk true cs]))
 | .tu vs=>match o5 vs with
   |true=>match cq d 0 ms vs st with|(es,st')=>some (st'.set d (.v true es))
   |false=>none
 | .bx cs=>match aF (gY d 0) (ms.headD []) 0 cs st with|(cs',st')=>some ((r9 (jq d 0) cs' st').set d (.bp (jq d 0) 0))
 |_=>none
def kM:TV→Bool
 | .c _=>true
 | .ag cs=>Nat.ble cs.length 16
 | .bx cs=>Nat.ble cs.length 16
 | .fn _ caps=>Nat.ble caps.length 900
 | .tu _=>false
def fW:List TV→Bool
 |[]=>true
 |v::r=>match kM v with|true=>fW r|false=>false
def jP (vs:List TV):Bool:=match Nat.ble vs.length 50 with|true=>fW vs|false=>false
def oc (sh:Bool) (st:TS) (ps:List ay) (es:List TE):TS:=match sh with
 |true=>ia (iN st ps es st) (borrowed st ps es)
 |false=>iN st ps es st
def fu:List Mode→List TC→Bool
 |_,[]=>true
 |ms,.sc _::r=>fu (ms.drop 1) r
 |ms,.sub _ _::r=>match ms.headD .snap with| .deep=>fu (ms.drop 1) r|_=>false
 |ms,.any::r=>match ms.headD .snap with| .deep=>fu (ms.drop 1) r|_=>false
def uD:List (List Mode)→List (Nat×List TC)→Bool
 |_,[]=>true
 |ms,(_,cs)::r=>match fu (ms.headD []) cs with|true=>uD (ms.drop 1) r|false=>false
def CS (ms:List (List Mode)):TV→Bool
 | .c c=>fu (ms.headD []) [c]
 | .ag cs=>fu (ms.headD []) cs
 | .bx cs=>fu (ms.headD []) cs
 | .tu vs=>uD ms vs
 | .fn _ _=>false
def yM:List ay→Bool
 |[]=>true
 | .inout (_::_)::_=>false
 |_::r=>yM r
def E3:List ay→Bool
 |[]=>true
 | .inout (_::_)::_=>false
 | .consume (_::_)::_=>false
 |_::r=>E3 r
def BN (g:DR) (r:TV):Bool:=match g.shares with
 |true=>true
 |false=>match yM g.ps with|true=>CS g.res r|false=>false
def qO (d:Option Tmp) (f:FuncId) (es:List TE) (st:TS) (K:TS→Ev R):Ev R:=
 match mU st (C.sig f).ps es with
 |some (own,rd)=>match qg own,je own rd,(C.sig f).shares&&dx 0 rd with
  |true,false,false=>Ab st es fun vs=>match jP vs with
   |true=> .call f vs fun r fs=>match BN (C.sig f) r with
    |false=> .fail
    |true=>match jo st (C.sig f).ps es fs with
     |some (W,B)=>DS (qN B (ja W (oc (C.sig f).shares st (C.sig f).ps es))) fun eZ=>match d with
      |some d=>match E2 d (C.sig f).res r eZ with
       |some st4=>K st4
       |none=> .fail
      |none=>K eZ
     |none=> .fail
   |false=> .fail
  |_,_,_=> .fail
 |none=> .fail
def qP (st:TS):List Operand→List TypeId→List TE
 |x::xs,t::ts=>gH C st t x::qP st xs ts
 |_,_=>[]
def xB (st:TS) (o:Oper) (K:TS→Ev R):Ev R:=match o.dst with
 |some d=>cz C st o fun e=>K (st.set d e)
 |none=> .fail
def fe (st:TS) (o:Oper) (K:TS→Ev R):Ev R:=
 match o.op with
 | .alloc t=>match o.dst,lC (C.tt t) with
   |some d,true=>match lS d with
    |true=>K ((r9 d ((C.tt t).zero.map yI) st).set d (.bp d 0))
    |false=> .fail
   |_,_=> .fail
 | .box t x=>match o.dst,oZ (gH C st t x) with
   |some d,some cs=>match lS d with
    |true=>K ((r9 d cs st).set d (.bp d 0))
    |false=> .fail
   |_,_=> .fail
 | .store t a x=>match o.dst,known (C.tt t),oZ (gH C st t x) with
   |none,true,some cs=>match Nat.beq cs.length (C.tt t).size,gH C st 0 a with
    |true,.bp b off=>match uU b off cs st with
     |some st'=>K st'
     |none=> .fail
    |true,.er r none i f=>match BL r cs with
     |true=>qM r none i f (cs.map (uT r)) (lW r st) K
     |false=>qM r none i f cs st K
    |true,.er r p i f=>qM r p i f cs st K
    |_,_=> .fail
   |_,_,_=> .fail
 | .buildSlice t n ps=>match o.dst,lB C t with
   |some d,some e=>match Nat.beq n ps.size&&Nat.ble (n*(C.tt e).size) 16777216&&lC (C.tt e),rowsOf C st e ps.toList 0 with
    |true,some (rs,st',dp)=>K (kz d ⟨dp,(C.tt e).size,rs⟩ st')
    |_,_=> .fail
   |_,_=> .fail
 | .makeSlice t l c=>match o.dst,lB C t,asInt (gH C st 3 l),asInt (gH C st 3 c) with
   |some d,some e,some n,some n'=> .test (lC (C.tt e)&&bM n n'&&ux 0 n&&fits (qJ n) (C.tt e).bytes) fun z=>match z with
    |true=>K (kz d ⟨true,(C.tt e).size,List.replicate (qJ n) (C.tt e).zero⟩ st)
    |false=> .fail
   |_,_,_,_=> .fail
 | .convert src dst x=>match(C.tt dst).ti,(C.tt src).ti with
   | .slice et,.str=>match o.dst,(C.tt et).ti,EV (gH C st src x) with
     |some d,.int .u8,some (.string s)=> .test (fits s.size 1) fun z=>match z with
      |true=>K (kz d ⟨true,1,kG s⟩ st)
      |false=> .fail
     |_,_,_=> .fail
   |_,_=>xB C st o K
 | .call {callee:= .builtin .append,args,argTypes}=>match o.dst,args.toList,argTypes.toList with
   |some d,[s,x],[t,t']=>CR C st d t t' (gH C st t s) (gH C st t' x) K
   |_,_,_=> .fail
 | .call {callee:= .builtin .copy,args,argTypes}=>match args.toList,argTypes.toList with
   |[s,x],[t,t']=>IB C st o.dst t (gH C st t s) (gH C st t' x) K
   |_,_=> .fail
 | .call {callee:= .value (.func f),args,argTypes}=>match Nat.beq args.toList.length argTypes.toList.length with
   |true=>qO C o.dst f (qP C st args.toList argTypes.toList) st K
   |false=> .fail
 | .call {callee:= .value (.tmp i),args,argTypes}=>match Nat.beq args.toList.length argTypes.toList.length with
   |true=>match st.get i with
    | .fn f caps=>qO C o.dst f (qP C st args.toList argTypes.toList++caps.map fun b=> .bp b 0) st K
    |_=> .fail
   |false=> .fail
 |_=>xB C st o K
def yN (st:TS) (b:Nat):List Nat:=match aa b st.bx with
 |some cs=>(2*b+1)::(cs.flatMap bY).map (2* ·)
 |none=>[2*b+1]
def oe (st:TS):TE→List Nat
 | .v _ es=>(cC es).map (2* ·)
 | .bp b _=>yN st b
 |_=>[]
def gi (st:TS):List ay→List TE→List Nat
 | .borrow::ps,_::es=>gi st ps es
 |_::ps,e::es=>oe st e++gi st ps es
 |_,_=>[]
def writes (st:TS) (o:Oper):List Nat:=match o.op with
 | .store _ a _=>match gH C st 0 a with
   | .bp b _=>[2*b+1]
   | .er o _ _ _=>[2*o]
   |_=>[]
 | .call {callee:= .builtin .append,args,argTypes}=>match args.toList,argTypes.toList with
   |s::_,t::_=>(lA (gH C st t s)).map (2* ·)
   |_,_=>[]
 | .call {callee:= .builtin .copy,args,argTypes}=>match args.toList,argTypes.toList with
   |s::_,t::_=>(lA (gH C st t s)).map (2* ·)
   |_,_=>[]
 | .call {callee:= .value (.func f),args,argTypes}=>gi st (C.sig f).ps (qP C st args.toList argTypes.toList)
 | .call {callee:= .value (.tmp i),args,argTypes}=>match st.get i with
   | .fn f caps=>gi st (C.sig f).ps (qP C st args.toList argTypes.toList++caps.map fun b=> .bp b 0)
   |_=>[]
 |_=>[]
def E4 (st:TS) (o:Oper):Option (List Nat):=match o.op with
 | .load _ a=>match gH C st 0 a with
   | .bp b _=>match aa b st.bx with
     |some _=>some [2*b+1]
     |none=>none
   | .ep d (_::_)=>some (d.map (2* ·))
   | .er o none _ _=>some [2*o]
   | .er o (some _) _ _=>match aa o st.ob with
     |some ⟨true,_,_⟩=>some [2*o]
     |_=>none
   |_=>none
 |_=>none
def IC (ops:Array Oper) (st:TS) (o:Oper):Bool:=match o.guard with
 |none=>false
 |some (j,want)=>match ops[j]? with
  |some oj=>match oj.dst with
   |some t=>match st.get t with
    | .kb b=>match b,want with
      |true,false=>true
      |false,true=>true
      |_,_=>false
    | .v true []=>true
    |_=>false
   |none=>false
  |none=>false
def og (ops:Array Oper) (st:TS) (o:Oper):List Nat→Bool
 |[]=>true
 |l::r=>match ops[l]? with
  |some ol=>match IC ops st ol with
   |true=>og ops st o r
   |false=>match E4 C st ol with
    |some rd=>match je rd (writes C st o) with|true=>false|false=>og ops st o r
    |none=>false
  |none=>false
def qQ:List Mode→List CE→List Nat
 |_,[]=>[]
 |ms,e::r=>match ms.headD .deep,e with
  | .snap,.ref o none=>o::qQ (ms.drop 1) r
  |_,_=>qQ (ms.drop 1) r
def xC (st:TS):List ay→List TE→List Nat
 |p::ps,e::es=>match p,e with
  | .inout (m::ms),.bp b _=>match aa b st.bx with
    |some cs=>qQ (m::ms) cs++xC st ps es
    |none=>xC st ps es
  | .consume (m::ms),.v false [.mk _ cs]=>qQ (m::ms) cs++xC st ps es
  |_,_=>xC st ps es
 |_,_=>[]
def uV:List CE→List Nat
 |[]=>[]
 | .ref o _::r=>o::uV r
 |_::r=>uV r
def sj:List fR→List Nat
 |[]=>[]
 | .mk _ cs::r=>uV cs++sj r
 |_::r=>sj r
def CT (st:TS) (e:TypeId):List (Nat×Operand)→List Nat
 |[]=>[]
 |(_,x)::r=>match gH C st e x with
  | .v _ es=>sj es++CT st e r
  |_=>CT st e r
def Jo (fx:List Nat) (st:TS) (o:Oper):TS:=match o.op with
 | .buildSlice t _ ps=>match dx 777777 fx,lB C t with
   |true,some e=>ia st (CT C st e ps.toList)
   |_,_=>st
 | .call {callee:= .value (.func f),args,argTypes}=>match E3 (C.sig f).ps with
   |true=>st
   |false=>ia st (xC st (C.sig f).ps (qP C st args.toList argTypes.toList))
 |_=>st
def Ae (fx fl:List Nat) (ops:Array Oper) (st:TS) (o:Oper) (K:TS→Ev R):Ev R:=DS (Jo C fx st o) fun st=>match og C ops st o fl with
 |true=>fe C st o K
 |false=> .fail
def Af (st:TS) (o:Oper) (K:TS→Ev R):Ev R:=match o.dst with
 |some d=>K (st.set d (.v true []))
 |none=>K st
def BO (fx fl:List Nat) (ops:Array Oper) (st:TS) (o:Oper) (b want:Bool) (K:TS→Ev R):Ev R:=
 match b,want with
 |true,true=>Ae C fx fl ops st o K
 |false,false=>Ae C fx fl ops st o K
 |_,_=>Af st o K
def CU (fx:List Nat) (o:Oper):Bool:=match o.dst with|some d=> !dx d fx|none=>true
def guarded (fx fl:List Nat) (ops:Array Oper) (st:TS) (o:Oper) (K:TS→Ev R):Ev R:=
 match CU fx o with
 |false=> .fail
 |true=>match o.guard with
  |none=>Ae C fx fl ops st o K
  |some (j,want)=>match ops[j]? with
   |some oj=>match oj.dst with
    |some t=>match st.get t with
     | .kb b=>BO C fx fl ops st o b want K
     | .v false [.mk false [.sc (.bool b)]]=> .test b fun b=>BO C fx fl ops (st.set t (.kb b)) o b want K
     | .v true []=>Af st o K
     |_=> .fail
    |none=> .fail
   |none=> .fail
def nJ {α:Type} (l:List Nat):List (Nat×α)→List (Nat×α)
 |[]=>[]
 |(i,e)::r=>match dx i l with|true=>(i,e)::nJ l r|false=>nJ l r
def yO (fx:List Nat) (l:List Nat) (ops:Array Oper):List Oper→TS→(TS→Ev R)→Ev R
 |[],st,K=>DS ⟨nJ l st.tm,st.bx,st.ob⟩ K
 |o::r,st,K=>guarded C fx [] ops st o fun st'=>DS st' fun st'=>yO fx l ops r st' K
def gL (fx:List Nat) (l:List Nat) (ops:Array Oper):oX→TS→(TS→Ev R)→Ev R
 | .nil,st,K=>DS ⟨nJ l st.tm,st.bx,st.ob⟩ K
 | .op i fl r,st,K=>match ops[i]? with
   |some o=>guarded C fx fl ops st o fun st'=>DS st' fun st'=>gL fx l ops r st' K
   |none=> .fail
 | .alt a b,st,K=> .both (gL fx l ops a st K) (gL fx l ops b st K)
def kN (l:List Nat):List (Nat×List CE)→List (Nat×List CE)
 |[]=>[]
 |(i,cs)::r=>match Nat.ble 100000 i with
  |true=>(i,cs)::kN l r
  |false=>match dx i l with|true=>(i,cs)::kN l r|false=>kN l r
def ct (n:Nat):List CE→List CE×Nat×List (Nat×OB)
 |[]=>([],n,[])
 | .nil z::r=>match Nat.ble 1 z with
   |true=>match ct (n+1) r with|(cs,m,obs)=>(.ref n none::cs,m,(n,⟨true,z,[]⟩)::obs)
   |false=>match ct n r with|(cs,m,obs)=>(.nil z::cs,m,obs)
 |e::r=>match ct n r with|(cs,m,obs)=>(e::cs,m,obs)
def cj (n:Nat):List fR→List fR×Nat×List (Nat×OB)
 |[]=>([],n,[])
 | .mk a cs::r=>match ct n cs with
   |(cs',m,o1)=>match cj m r with|(es,m',o2)=>(.mk a cs'::es,m',o1++o2)
 | .ptr b::r=>match cj n r with|(es,m,o2)=>(.ptr b::es,m,o2)
def qh (n:Nat) (e:TE):TE×Nat×List (Nat×OB):=match e with
 | .v tup es=>match cj n es with|(es',m,o)=>(.v tup es',m,o)
 | .kb b=>(S (.bool b),n,[])
 |e=>(e,n,[])
def lX (n:Nat):List (Nat×TE)→List (Nat×TE)×List (Nat×OB)
 |[]=>([],[])
 |(i,e)::r=>match qh n e with
  |(e',m,o1)=>match lX m r with|(r',o2)=>((i,e')::r',o1++o2)
def Ag (n:Nat):List (Nat×OB)→Bool
 |[]=>true
 |(i,_)::r=>match Nat.ble n i with|true=>false|false=>Ag n r
def Ah (st:TS):TS:=match Ag 900000000 st.ob with
 |true=>match lX 900000000 st.tm with|(tm,obs)=>⟨tm,st.bx,c7 obs st.ob⟩
 |false=>st
def Jp (st:TS):List Nat:=(st.tm.flatMap fun p=>lA p.2)++st.bx.flatMap fun p=>p.2.flatMap bY
def number:List Nat→Nat→List (Nat×Nat)→List (Nat×Nat)
 |[],_,ρ=>ρ
 |o::r,n,ρ=>match Nat.beq o 0 with
  |true=>number r n ρ
  |false=>match aa o ρ with
   |some _=>number r n ρ
   |none=>number r (n+1) ((o,n)::ρ)
def sk (ρ:List (Nat×Nat)) (o:Nat):Nat:=match aa o ρ with|some n=>n|none=>0
def qR (ρ:List (Nat×Nat)):CE→CE
 | .ref o cut=> .ref (sk ρ o) cut
 | .snap d l z rows=> .snap (d.map (sk ρ)) (match l with|some (o,i,f)=>some (sk ρ o,i,f)|none=>none) z rows
 |e=>e
def E5 (ρ:List (Nat×Nat)):TE→TE
 | .ep d cells=> .ep (d.map (sk ρ)) cells
 | .er o p i f=> .er (sk ρ o) p i f
 |e=>e
def jf (ob:List (Nat×OB)):List (Nat×Nat)→List (Nat×OB)
 |[]=>[]
 |(o,n)::r=>match aa o ob with|some b=>eN n b (jf ob r)|none=>jf ob r
def KS (ρ:List (Nat×Nat)) (st:TS):TS:=⟨mapA (lz (qR ρ) (E5 ρ)) st.tm,mapA (List.map (qR ρ)) st.bx,jf st.ob ρ⟩
def canon (st:TS):TS:=KS (number (Jp st) 1 []) st
def Ai (l:List Nat) (st:TS):TS:=canon (Ah ⟨nJ l st.tm,kN l st.bx,st.ob⟩)
def run (fx:List Nat) (f:FuncId):Nat→Code→TS→(TX→TS→Ev R)→Ev R
 |_,.skip,st,K=>K .norm st
 |_,.region id ops draw,st,K=>match draw with
  |false=>yO C fx (C.lr f id) ops ops.toList st (K .norm)
  |true=>match C.uJ f id with
   |some l=>gL C fx (C.lr f id) ops l st (K .norm)
   |none=> .fail
 |i,.seq a b,st,K=>run fx f i a st fun x st'=>match x with
  | .norm=>run fx f i b st' K
  |x=>K x st'
 |i,.cond c a b,st,K=>match gH C st 0 c with
  | .kb p=>match p with
    |true=>run fx f i a st K
    |false=>run fx f i b st K
  | .v false [.mk false [.sc (.bool p)]]=> .test p fun p=>match p with
    |true=>run fx f i a st K
    |false=>run fx f i b st K
  |_=> .fail
 |_,.block id body,st,K=>run fx f id body st fun x st'=>match x with
  | .ex id'=>match Nat.beq id' id with|true=>K .norm st'|false=>K (.ex id') st'
  |x=>K x st'
 |i,.loop body,st,K=>DS (Ai (C.lb f i) st) fun st=> .loop f i body st K
 |_,.exit id,st,K=>K (.ex id) st
 |_,.ret,st,K=>K .ret st
 |_,_,_,_=> .fail
def E6:Mode→Bool
 | .deep=>true
 |_=>false
def bf (sh:Bool) (p:ay) (n:Nat):Nat→List TC→List CE×List (Nat×OB)
 |_,[]=>([],[])
 |j,c::r=>match bf sh p n (j+1) r with
  |(es,obs)=>match c with
   | .sc v=>(.sc v::es,obs)
   | .sub z rows=>match p.mc j with
     | .snap=>(.snap (match sh with|true=>[]|false=>[0]) none z rows::es,obs)
     |m=>(.ref (n+j) none::es,(n+j,⟨E6 m,z,rows⟩)::obs)
   | .any=>(.gone::es,obs)
def sn (sh:Bool) (i:Nat):List (List TC)→List (Nat×List CE)
 |[]=>[]
 |c::r=>(i,(bf sh .borrow 0 0 c).1)::sn sh (i+1) r
def lY (p:ay) (i:Nat):Nat:=match p with| .borrow=>200000+1000*i|_=>100000+1000*i
def init (sh:Bool) (ps:List ay) (i:Nat):List TV→TS
 |[]=>⟨[],[],[]⟩
 |v::r=>match init sh (ps.drop 1) (i+1) r with
  |⟨tm,bx,ob⟩=>match v with
   | .c c=>match bf sh (ps.headD .borrow) (500+16*i) 0 [c] with|(cs,o)=>⟨(i,.v false [.mk false cs])::tm,bx,o++ob⟩
   | .ag cs=>match bf sh (ps.headD .borrow) (500+16*i) 0 cs with|(cs,o)=>⟨(i,.v false [.mk true cs])::tm,bx,o++ob⟩
   | .bx cs=>match bf sh (ps.headD .borrow) (500+16*i) 0 cs with
     |(cs,o)=>⟨(i,.bp (lY (ps.headD .borrow) i) 0)::tm,(lY (ps.headD .borrow) i,cs)::bx,o++ob⟩
   | .fn f caps=>⟨(i,.fn f (List.range' (200000+1000*i+1) caps.length))::tm,sn sh (200000+1000*i+1) caps++bx,ob⟩
   | .tu _=>⟨tm,bx,ob⟩
def BP (m:Mode) (e:CE) (deep:Bool):Bool:=match m,e with
 |_,.sc _=>true
 | .snap,_=>true
 |_,.nil _=>true
 | .top,.ref _ _=>true
 | .deep,.ref _ _=>deep
 |_,_=>false
def oh:List Mode→List CE→TS→Option (List TC×TS)
 |_,[],st=>some ([],st)
 |ms,e::r,st=>match fc e st with
  |some (c,st',d)=>match BP (ms.headD .snap) e d with
   |true=>match oh (ms.drop 1) r st' with
    |some (cs,tj)=>some (c::cs,tj)
    |none=>none
   |false=>none
  |none=>none
def dP:List Mode→List CE→TS→Option (List TC×TS)
 |_,[],st=>some ([],st)
 |ms,e::r,st=>match ms.headD .deep,e with
  | .snap,e=>match fc e st with
    |some (c,st',_)=>match dP (ms.drop 1) r st' with
     |some (cs,tj)=>some (c::cs,tj)
     |none=>none
    |none=>none
  |_,.sc v=>match dP (ms.drop 1) r st with
   |some (cs,st')=>some (.sc v::cs,st')
   |none=>none
  |_,.nil z=>match dP (ms.drop 1) r st with
   |some (cs,st')=>some (.sub z []::cs,st')
   |none=>none
  |_,.ref o none=>match aa o st.ob with
   |some ⟨true,z,rows⟩=>match dP (ms.drop 1) r (eD o st) with
    |some (cs,st')=>some (.sub z rows::cs,st')
    |none=>none
   |_=>none
  |_,_=>none
def Jq (a:Bool):Nat:=match a with|true=>1|false=>0
def CV (st:TS) (r:ResultVar) (K:TE→Ev R):Ev R:=match r with
 | .tmp t=>K (st.get t)
 | .cell a t=>pR C st t (st.get a) K
def uW:List (List Mode)→List ResultVar→TS→(List (Nat×List TC)→TS→Ev R)→Ev R
 |_,[],st,K=>K [] st
 |ms,r::rs,st,K=>CV C st r fun e=>match e with
  | .v false [.mk a cs]=>match oh (ms.headD []) cs st with
    |some (ts,st')=>uW (ms.drop 1) rs st' fun vs tj=>K ((Jq a,ts)::vs) tj
    |none=> .fail
  | .kb b=>uW (ms.drop 1) rs st fun vs tj=>K ((0,[.sc (.bool b)])::vs) tj
  | .bp b 0=>match lS b,aa b st.bx with
    |true,some cs=>match oh (ms.headD []) cs ⟨st.tm,fT b st.bx,st.ob⟩ with
     |some (ts,st')=>uW (ms.drop 1) rs st' fun vs tj=>K ((2,ts)::vs) tj
     |none=> .fail
    |_,_=> .fail
  |_=> .fail
def Aj:List ay→Nat→TS→Option (List TV)
 |[],_,_=>some []
 |p::ps,i,st=>match p with
  | .inout ms=>match ms,st.get i with
    |[],.v false [.mk false [e]]=>match dP [] [e] st with
     |some ([c],st')=>match Aj ps (i+1) st' with
      |some vs=>some (.c c::vs)
      |none=>none
     |_=>none
    |[],.v false [.mk true cs]=>match dP [] cs st with
     |some (ts,st')=>match Aj ps (i+1) st' with
      |some vs=>some (.ag ts::vs)
      |none=>none
     |none=>none
    |ms,.bp b 0=>match lS b,aa b st.bx with
     |true,some cs=>match dP ms cs st with
      |some (ts,st')=>match Aj ps (i+1) st' with
       |some vs=>some (.bx ts::vs)
       |none=>none
      |none=>none
     |_,_=>none
    |_,_=>none
  |_=>Aj ps (i+1) st
def so:List (Nat×List TC)→TV
 |[(0,[c])]=> .c c
 |[(1,cs)]=> .ag cs
 |[(2,cs)]=> .bx cs
 |vs=> .tu vs
def sq:List ay→Nat→List Nat
 |[],_=>[]
 | .inout _::r,i=>i::sq r (i+1)
 |_::r,i=>sq r (i+1)
def uX (g:DR):List Nat:=match g.frz with|true=>777777::sq g.ps 0|false=>sq g.ps 0
def E7 (g:DR) (rs:List ResultVar) (x:TX) (st:TS):Ev (TV×List TV):=match x with
 | .ex _=> .fail
 |_=>uW C g.res rs st fun rs st'=>match Aj g.ps 0 st' with
  |some fs=>Jj (so rs) fun r=>fL Jj fs fun fs=> .ret (r,fs)
  |none=> .fail
def om (g:DR) (vs:List TV):TS:=init true g.ps 0 vs
def body (f:FuncId) (vs:List TV):Ev (TV×List TV):=
 match C.P.funcs[f]? with
 |none=> .fail
 |some fn=>match fn.body with
  |none=> .fail
  |some c=>DS (om (C.sig f) vs) fun st=>run C (uX (C.sig f)) f 0 c st (E7 C (C.sig f) fn.results.toList)
end
abbrev Cf:=FuncId→List TV→TV→List TV→Prop
abbrev Lp:=FuncId→Nat→Code→TS→(TX→TS→Prop)→Prop
def Ev.holds {R:Type} (cf:Cf) (lp:Lp) (Q:R→Prop):Ev R→Prop
 | .fail=>False
 | .ret r=>Q r
 | .test b k=>(k b).holds cf lp Q
 | .row rows i k=> ∃c,rowAt rows i=some c∧(k c).holds cf lp Q
 | .byte s i k=> ∃b,hD s i=some b∧(k b).holds cf lp Q
 | .bytes rows k=> ∃ns,aJ rows=some ns∧(k ns).holds cf lp Q
 | .call f vs k=> ∃r fs,cf f vs r fs∧(k r fs).holds cf lp Q
 | .loop f i c st k=>lp f i c st fun x st'=>(k x st').holds cf lp Q
 | .both a b=> ∃r,a.holds cf lp (fun r'=>r'=r)∧b.holds cf lp (fun r'=>r'=r)∧Q r
section
variable (C : dW)
def xD (x:TX) (st:TS):Ev (TX×TS):= .ret (x,st)
def iter (cf:Cf) (lp:Lp) (fx:List Nat) (f i:Nat) (c:Code) (Q:TX→TS→Prop):Nat→TS→Prop
 |0,_=>False
 |n+1,st=>(run C fx f i c st xD).holds cf lp fun p=>match p with
   |(.norm,st')=>DS (Ai (C.lb f i) st') fun st'=>iter cf lp fx f i c Q n st'
   |(x,st')=>Q x st'
def BQ (cf:Cf) (k:Nat) (fx:List Nat):Nat→Lp
 |0=>fun _ _ _ _ _=>False
 |n+1=>fun f i c st Q=>iter C cf (BQ cf k fx n) fx f i c Q k st
def cJ:Nat→Cf
 |0=>fun _ _ _ _=>False
 |k+1=>fun f vs r fs=>match C.ext f with
  |some p=>p vs=some (r,fs)
  |none=>(body C f vs).holds (cJ k) (BQ C (cJ k) k (uX (C.sig f)) 4) fun p=>p=(r,fs)
end
end Go.T
set_option linter.all false
namespace Go.T
inductive An where
 |b (x:Bool)
 |row (c:List TC)
 |n (i:Int)
 |ns (l:List Int)
 |call (r:TV) (fs:List TV)
 |loop (x:TX) (st:TS)
inductive Qr where
 |test (b x:Bool)
 |row (rows:List (List TC)) (i:Int) (c:List TC)
 |byte (s:ByteArray) (i b:Int)
 |bytes (rows:List (List TC)) (ns:List Int)
 |call (f:FuncId) (vs:List TV) (r:TV) (fs:List TV)
 |loop (f:FuncId) (i:Nat) (c:Code) (st:TS) (x:TX) (st':TS)
def Ev.trace {R:Type}:Ev R→List An→List Qr→Option (R×List Qr)
 | .fail,_,_=>none
 | .ret r,as,qs=>match as with|[]=>some (r,qs)|_=>none
 | .test b k,as,qs=>match as with| .b x::as=>(k x).trace as (.test b x::qs)|_=>none
 | .row rows i k,as,qs=>match as with| .row c::as=>(k c).trace as (.row rows i c::qs)|_=>none
 | .byte s i k,as,qs=>match as with| .n b::as=>(k b).trace as (.byte s i b::qs)|_=>none
 | .bytes rows k,as,qs=>match as with| .ns l::as=>(k l).trace as (.bytes rows l::qs)|_=>none
 | .call f vs k,as,qs=>match as with| .call r fs::as=>fL Jj vs fun vs=>(k r fs).trace as (.call f vs r fs::qs)|_=>none
 | .loop f i c st k,as,qs=>match as with| .loop x st'::as=>(k x st').trace as (.loop f i c st x st'::qs)|_=>none
 | .both _ _,_,_=>none
def Qr.ok (cf:Cf) (lp:Lp):Qr→Prop
 | .test b x=>b=x
 | .row rows i c=>rowAt rows i=some c
 | .byte s i b=>hD s i=some b
 | .bytes rows ns=>aJ rows=some ns
 | .call f vs r fs=>cf f vs r fs
 | .loop f i c st x st'=>lp f i c st fun x1 bh=>x1=x∧bh=st'
section
variable {Z : Type}
theorem jQ {α:Type} {f:α→(α→Z)→Z} (h: ∀a K,f a K=K a): ∀(l:List α) (K:List α→Z),fL f l K=K l
 |[],K=>rfl
 |a::r,K=>by simp only[fL,h,jQ h r]
theorem E8 (b:Bool) (K:Bool→Z):fB b K=K b:=by cases b<;>rfl
theorem E9 (b:Nat) (K:Nat→Z):fN b K=K b:=rfl
theorem Fa (p:Option (Int×Nat)) (K:Option (Int×Nat)→Z):Iy p K=K p:=by cases p<;>rfl
theorem G3 (p:Option (Int×Int)) (K:Option (Int×Int)→Z):KQ p K=K p:=by cases p<;>rfl
theorem Jr (p:Option (Nat×Int×Nat)) (K:Option (Nat×Int×Nat)→Z):OI p K=K p:=by cases p<;>rfl
theorem ID (v:Value) (K:Value→Z):fV v K=K v:=by cases v<;>rfl
theorem yP (c:TC) (K:TC→Z):KR c K=K c:=by cases c<;>simp only[KR,ID]
theorem Fb (e:CE) (K:CE→Z):Mf e K=K e:=by
 cases e<;>simp only[Mf,ID,G3,Jr,jQ E9]
theorem Fc (c:fR) (K:fR→Z):ET c K=K c:=by cases c<;>simp only[ET,E8,jQ Fb]
theorem Js (e:TE) (K:TE→Z):MS e K=K e:=by
 cases e<;>simp only[MS,E8,jQ Fc,jQ E9,jQ yP,Fa]
theorem Jt (b:OB) (K:OB→Z):MT b K=K b:=by cases b;simp only[MT,E8]
theorem Fe (v:TV) (K:TV→Z):Jj v K=K v:=by
 cases v<;>simp only[Jj,EU,yP,jQ yP]
 rw[jQ (fun a K=>by cases a;simp only[EU,jQ yP])]
theorem gM (st:TS) (K:TS→Z):DS st K=K st:=by
 cases st;simp only[DS]
 rw[jQ (fun a K=>by cases a;simp only[Js]),jQ (fun a K=>by cases a;simp only[jQ Fb]),jQ (fun a K=>by cases a;simp only[Jt])]
end
theorem bS {R:Type} {cf cf':Cf} {lp lp':Lp} (hc: ∀f vs r fs,cf f vs r fs→cf' f vs r fs) (rY: ∀f i c st (Q Q':TX→TS→Prop),(∀x s,Q x s→Q' x s)→lp f i c st Q→lp' f i c st Q') {Q Q':R→Prop} (hQ: ∀r,Q r→Q' r):
 ∀(e:Ev R),e.holds cf lp Q→e.holds cf' lp' Q'
 | .fail,h=>h
 | .ret r,h=>hQ r h
 | .test b k,h=>bS hc rY hQ (k b) h
 | .row rows i k,⟨c,h1,h2⟩=>⟨c,h1,bS hc rY hQ (k c) h2⟩
 | .byte rows i k,⟨c,h1,h2⟩=>⟨c,h1,bS hc rY hQ (k c) h2⟩
 | .bytes rows k,⟨c,h1,h2⟩=>⟨c,h1,bS hc rY hQ (k c) h2⟩
 | .call f vs k,⟨r,fs,h1,h2⟩=>⟨r,fs,hc _ _ _ _ h1,bS hc rY hQ (k r fs) h2⟩
 | .loop f i c st k,h=>rY _ _ _ _ _ _ (fun x s hxs=>bS hc rY hQ (k x s) hxs) h
 | .both a b,⟨r,h1,h2,h3⟩=>⟨r,bS hc rY (fun _ h=>h) a h1,bS hc rY (fun _ h=>h) b h2,hQ r h3⟩
section
variable {C : dW}
theorem o6 {cf cf':Cf} {lp lp':Lp} (hc: ∀f vs r fs,cf f vs r fs→cf' f vs r fs) (rY: ∀f i c st (Q Q':TX→TS→Prop),(∀x s,Q x s→Q' x s)→lp f i c st Q→lp' f i c st Q')
 {fx:List Nat} {f i:Nat} {c:Code} {Q Q':TX→TS→Prop} (hQ: ∀x s,Q x s→Q' x s): ∀(n n':Nat),n≤n'→ ∀(st:TS),iter C cf lp fx f i c Q n st→iter C cf' lp' fx f i c Q' n' st
 |0,_,_,_,h=>h.elim
 |n+1,0,hn,_,_=>absurd hn aA
 |n+1,n'+1,hn,st,h=>by
  refine bS hc rY (fun p hp=> ?_) _ h;obtain⟨x,s⟩:=p
  cases x with
  |norm=>
   simp only at hp ⊢;rw[gM] at hp ⊢;exact o6 hc rY hQ n n' aA _ hp
  |ex id=>exact hQ _ _ hp
  |ret=>exact hQ _ _ hp
theorem fX {cf cf':Cf} (hc: ∀f vs r fs,cf f vs r fs→cf' f vs r fs) {k k':Nat} (hk:k≤k') {fx:List Nat}: ∀(n:Nat) (f i:Nat) (c:Code) (st:TS) (Q Q':TX→TS→Prop),(∀x s,Q x s→Q' x s)→
 BQ C cf k fx n f i c st Q→BQ C cf' k' fx n f i c st Q'
 |0,_,_,_,_,_,_,_,h=>h.elim
 |n+1,f,i,c,st,Q,Q',hQ,h=>o6 hc (fX hc hk n) hQ k k' hk st h
theorem oq: ∀(k:Nat) (f:FuncId) (vs:List TV) (r:TV) (fs:List TV),cJ C k f vs r fs→cJ C (k+1) f vs r fs
 |0,_,_,_,_,h=>h.elim
 |k+1,f,vs,r,fs,h=>by
  unfold cJ at h ⊢
  cases hx:C.ext f with
  |some p=>rw[hx] at h;exact h
  |none=>rw[hx] at h;exact bS (oq k) (fX (oq k) (Nat.le_succ k) 4) (fun _ h=>h) _ h
theorem BR {k:Nat} {f:FuncId} {vs:List TV} {r:TV} {fs:List TV} (hx:C.ext f=none) (h:(body C f vs).holds (cJ C k) (BQ C (cJ C k) k (uX (C.sig f)) 4) fun p=>p=(r,fs)):cJ C (k+1) f vs r fs:=by
 unfold cJ;rw[hx];exact h
theorem DT {k:Nat} {f:FuncId} {vs:List TV} {r:TV} {fs:List TV} {p:List TV→Option (TV×List TV)} (hx:C.ext f=some p) (h:p vs=some (r,fs)):cJ C (k+1) f vs r fs:=by
 unfold cJ;rw[hx];exact h
theorem ek {k k':Nat} (hk:k≤k') {f:FuncId} {vs:List TV} {r:TV} {fs:List TV} (h:cJ C k f vs r fs):cJ C k' f vs r fs:=by
 induction hk with
 |refl=>exact h
 |step _ ih=>exact oq _ _ _ _ _ ih
def sr (C:dW) (k:Nat) (fx:List Nat) (n:Nat) (f i:Nat) (c:Code) (m:Nat) (st:TS) (x:TX) (st':TS):Prop:=
 iter C (cJ C k) (BQ C (cJ C k) k fx n) fx f i c (fun x1 bh=>x1=x∧bh=st') m st
theorem sr.ok {k:Nat} {fx:List Nat} {n f i:Nat} {c:Code} {m:Nat} {st:TS} {x:TX} {st':TS} (h:sr C k fx n f i c m st x st') (hm:m≤k):(Qr.loop f i c st x st').ok (cJ C k) (BQ C (cJ C k) k fx (n+1)):=
 o6 (fun _ _ _ _ h=>h) (fX (fun _ _ _ _ h=>h) (bu _) n) (fun _ _ h=>h) m k hm st h
end
end Go.T
namespace Go.T
def kO (rows:List (List TC)) (i f:Nat):Option TC:=(rows[i]?).bind fun r=>r[f]?
def uf:Value→Prop
 | .int _ _=>True
 | .bool _=>True
 | .string _=>True
 | .slice _ _ _=>True
 |_=>False
def Mode.nx:Mode→Mode
 | .deep=> .deep
 |_=> .snap
structure KT (w:World) (R:Nat→Prop) (m:Mode) (S:Nat→Prop) (z:Nat) (rows:List (List TC)) (A:Option Addr) (c:Nat) (u:Nat→Nat→Value) (T:Nat→Nat→Nat→Prop):Prop where
 len:rows.length≤c
 cap:c≤maxLen
 z0:0<z
 width: ∀r∈rows,r.length=z
 addr:rows≠[]→ ∃ad,A=some ad
 cell: ∀ad,A=some ad→ ∀i f tc,kO rows i f=some tc→w.cell? (ad.add (i*z+f))=some (u i f)
 read:m= .snap→ ∀ad,A=some ad→rows≠[]→R ad.block
 own:m≠ .snap→(A=none→c=0)∧ ∀ad,A=some ad→S ad.block∧ad.spot=none∧
  ∀j,j<c*z→(∃x,w.cell? ⟨ad.block,ad.off+j,none⟩=some x)∧w.frozen? ⟨ad.block,ad.off+j,none⟩=false
 soft:m≠ .snap→1<z→ ∀ad,A=some ad→ ∀i,w.frozen? ⟨ad.block,i,none⟩=false
 fP:m= .deep→ ∀i f k,T i f k→S k∧(∀ad,A=some ad→k≠ad.block)∧ ∀i' f',T i' f' k→i'=i∧f'=f
inductive ah (w:World) (R:Nat→Prop):Mode→(Nat→Prop)→TC→Value→Prop
 |sc (m:Mode) (S:Nat→Prop) (v:Value) (h:uf v):ah w R m S (.sc v) v
 |sub (m:Mode) (S:Nat→Prop) (z:Nat) (rows:List (List TC)) (A:Option Addr) (c:Nat) (u:Nat→Nat→Value) (T:Nat→Nat→Nat→Prop)
   (h:KT w R m S z rows A c u T) (hn: ∀i f tc,kO rows i f=some tc→ah w R m.nx (T i f) tc (u i f)):
   ah w R m S (.sub z rows) (.slice A rows.length c)
 |any (m:Mode) (S:Nat→Prop) (v:Value) (h:v.oneCell'=true∧v.cells= #[v]):ah w R m S .any v
variable {w w' : World} {R R' S S' : Nat → Prop} {m : Mode} {c : TC} {v : Value}
theorem su {rows:List (List TC)} {i f:Nat} {tc:TC} (h:kO rows i f=some tc):rows≠[]:=by
 rintro rfl;simp[kO] at h
theorem bT {w w':World} {a:Addr} (h:w'.heap[a.block]?=w.heap[a.block]?):w'.cell? a=w.cell? a:=by
 unfold World.cell?;rw[h]
theorem dz {w w':World} {a:Addr} (h:w'.heap[a.block]?=w.heap[a.block]?):w'.frozen? a=w.frozen? a:=by
 unfold World.frozen?;rw[h]
theorem aK (a:Addr) (n:Nat):(a.add n).block=a.block:=by unfold Addr.add;split<;>rfl
theorem ah.mono (h:ah w R m S c v) (hS: ∀k,S k→S' k):ah w R m S' c v:=by
 cases h with
 |any _ _ _ h=>exact .any _ _ _ h
 |sc _ _ _ h=>exact .sc _ _ _ h
 |sub _ _ z rows A c u T h hn=>
  refine .sub _ _ z rows A c u T {h with own:=fun hm=>⟨(h.own hm).1,fun ad ha=>⟨hS _ ((h.own hm).2 ad ha).1,((h.own hm).2 ad ha).2⟩⟩,fP:=fun hm i f k hk=>⟨hS _ (h.fP hm i f k hk).1,(h.fP hm i f k hk).2⟩} hn
theorem jr {m:Mode} (h:m.nx≠ .snap):m= .deep:=by cases m<;>simp_all [Mode.nx]
theorem ah.move (h:ah w R m S c v):(∀k,R k→R' k∧w'.heap[k]?=w.heap[k]?)→(m≠ .snap→ ∀k,S k→w'.heap[k]?=w.heap[k]?)→ah w' R' m S c v:=by
 induction h with
 |any _ _ _ h=>exact fun _ _=> .any _ _ _ h
 |sc _ _ _ h=>exact fun _ _=> .sc _ _ _ h
 |sub m S z rows A c u T h hn ih=>
  intro hR hS;refine .sub _ _ z rows A c u T {h with cell:= ?_,read:= ?_,own:= ?_,soft:=fun hm h1 ad ha i=>by rw[dz (w:=w) (a:=⟨ad.block,i,none⟩) (hS hm _ ((h.own hm).2 ad ha).1)];exact h.soft hm h1 ad ha i} fun i f tc ht=>ih i f tc ht hR fun hm k hk=> ?_
  ·intro ad ha i f tc ht
   rw[bT (w:=w)]
   ·exact h.cell ad ha i f tc ht
   ·rw[aK]
    by_cases hm:m= .snap
    ·exact(hR _ (h.read hm ad ha (su ht))).2
    ·exact hS hm _ ((h.own hm).2 ad ha).1
  ·exact fun hm ad ha hne=>(hR _ (h.read hm ad ha hne)).1
  ·intro hm
   refine⟨(h.own hm).1,fun ad ha=>⟨((h.own hm).2 ad ha).1,((h.own hm).2 ad ha).2.1,fun j hj=> ?_⟩⟩;have hb:=hS hm _ ((h.own hm).2 ad ha).1;obtain⟨⟨x,hx⟩,hf⟩:=((h.own hm).2 ad ha).2.2 j hj;exact⟨⟨x,by rw[bT (w:=w) (by exact hb)];exact hx⟩,by rw[dz (w:=w) (by exact hb)];exact hf⟩
  ·have:=jr hm
   subst this;exact hS cY k (h.fP rfl i f k hk).1
theorem ah.freeze (h:ah w R m S c v):(∀k,R k→R' k)→(m≠ .snap→ ∀k,S k→R' k)→ah w R' .snap S' c v:=by
 induction h generalizing S' with
 |any _ _ _ h=>exact fun _ _=> .any _ _ _ h
 |sc _ _ _ h=>exact fun _ _=> .sc _ _ _ h
 |sub m S z rows A c u T h hn ih=>
  intro hR hS;refine .sub _ _ z rows A c u (fun _ _ _=>False) {h with read:= ?_,own:=fun hm=>absurd rfl hm,soft:=fun hm=>absurd rfl hm,fP:=fun hm=>by cases hm} fun i f tc ht=>ih i f tc ht hR fun hm k hk=> ?_
  ·intro _ ad ha hne
   by_cases hm:m= .snap
   ·exact hR _ (h.read hm ad ha hne)
   ·exact hS hm _ ((h.own hm).2 ad ha).1
  ·have:=jr hm
   subst this;exact hS cY k (h.fP rfl i f k hk).1
theorem ah.fK (h:ah w R .snap S c v) (hR: ∀k,R k→R' k):ah w R' .snap S' c v:=h.freeze hR fun h=>absurd rfl h
end Go.T
namespace Go.T
theorem c8 {o:Nat}: ∀{l:List Nat},dx o l=true↔o∈l
 |[]=>by simp[dx]
 |a::r=>by
  simp only[dx,bg]
  cases h:Nat.beq a o with
  |true=>simp[cw h]
  |false=>simp only[c8 (l:=r)];have:=gE h;simp[Ne.symm this]
theorem bC {o:Nat} {l:List Nat}:dx o l=false↔o∉l:=by
 rw[←c8];simp
theorem lZ {o d:Nat}: ∀{l:List Nat},d∈z8 o l↔d∈l∧d≠o
 |[]=>by simp[z8]
 |a::r=>by
  simp only[z8]
  cases h:Nat.beq a o with
  |true=>
   have h1:=cw h;subst h1;simp only[lZ (l:=r),bg];exact⟨fun⟨x,y⟩=>⟨.inr x,y⟩,fun⟨x,y⟩=>⟨x.resolve_left y,y⟩⟩
  |false=>
   have h1:=gE h;simp only[bg,lZ (l:=r)]
   constructor
   ·rintro(rfl|⟨x,y⟩)
    ·exact⟨.inl rfl,h1⟩
    ·exact⟨.inr x,y⟩
   ·rintro⟨rfl|x,y⟩
    ·exact .inl rfl
    ·exact .inr ⟨x,y⟩
theorem gu {a:List Nat} {l:List Nat} (h:je a l=false) {x:Nat} (hx:x∈a):x∉l:=by
 induction a with
 |nil=>cases hx
 |cons y r ih=>
  simp only[je] at h
  cases h1:dx y l with
  |true=>rw[h1] at h;cases h
  |false=>
   rw[h1] at h;rcases bg.1 hx with rfl|hx
   ·exact bC.1 h1
   ·exact ih h hx
theorem beq_false {a b:Nat} (h:a≠b):Nat.beq a b=false:=by
 cases h1:Nat.beq a b with
 |true=>exact absurd (cw h1) h
 |false=>rfl
theorem ot (a:Nat):Nat.beq a a=true:=by simp
section
variable {α β : Type}
theorem bP (i j:Nat) (e:α): ∀(l:List (Nat×α)),aa j (eN i e l)=if j=i then some e else aa j l
 |[]=>by
  simp only[eN,aa]
  by_cases h:j=i
  ·subst h;simp
  ·rw[beq_false (Ne.symm h),aH h]
 |(a,x)::r=>by
  have ih:=bP i j e r;simp only[eN]
  cases h1:Nat.beq a i with
  |true=>
   have h1:=cw h1;subst h1;simp only[aa]
   by_cases h:j=a
   ·subst h;simp
   ·rw[beq_false (Ne.symm h),aH h]
  |false=>
   have h1:=gE h1
   cases h2:Nat.ble i a with
   |true=>
    simp only[aa]
    by_cases h:j=i
    ·subst h;simp
    ·rw[beq_false (Ne.symm h),aH h]
   |false=>
    simp only[aa]
    by_cases h3:a=j
    ·subst h3;rw[ot,aH h1]
    ·rw[beq_false h3];exact ih
theorem cD (i j:Nat): ∀(l:List (Nat×α)),aa j (fT i l)=if j=i then none else aa j l
 |[]=>by simp[fT,aa]
 |(a,x)::r=>by
  have ih:=cD i j r;simp only[fT]
  cases h1:Nat.beq a i with
  |true=>
   have h1:=cw h1;subst h1;simp only[aa,ih]
   by_cases h:j=a
   ·simp[h]
   ·rw[beq_false (Ne.symm h)]
  |false=>
   have h1:=gE h1;simp only[aa]
   by_cases h3:a=j
   ·subst h3;rw[ot,aH h1]
   ·rw[beq_false h3];exact ih
theorem ic (f:α→α) (j:Nat): ∀(l:List (Nat×α)),aa j (mapA f l)=(aa j l).map f
 |[]=>rfl
 |(a,x)::r=>by
  simp only[mapA,aa]
  cases Nat.beq a j with
  |true=>rfl
  |false=>exact ic f j r
theorem uY (l:List Nat) (j:Nat): ∀(m:List (Nat×α)),aa j (nJ l m)=if j∈l then aa j m else none
 |[]=>by simp[nJ,aa]
 |(a,x)::r=>by
  have ih:=uY l j r;simp only[nJ]
  cases h1:dx a l with
  |true=>
   have h1:=c8.1 h1;simp only[aa]
   by_cases h:a=j
   ·subst h;rw[ot,aT h1]
   ·rw[beq_false h];exact ih
  |false=>
   have h1:=bC.1 h1;simp only[aa,ih]
   by_cases h:a=j
   ·subst h;rw[aH h1,aH h1]
   ·rw[beq_false h]
end
structure Fp where
 I:Nat→Prop
 S:Nat→Nat→Prop
 V:Nat→Value
 β:Nat→Addr
def rd (φ:Fp) (ds:List Nat) (k:Nat):Prop:=φ.I k∨ ∃d,d∈ds∧φ.S d k
abbrev r6:Nat→Prop:=fun _=>False
def OB.m (b:OB):Mode:=if b.deep then .deep else .top
def eE (w:World) (φ:Fp) (o:Nat) (b:OB):Prop:=ah w φ.I b.m (φ.S o) (.sub b.z b.rows) (φ.V o)
def nK (z n:Nat) (l h:Int) (V v:Value):Prop:=
 0≤l∧l≤h∧h≤n∧ ∃A A' c,V= .slice A n c∧v= .slice A' (h.toNat-l.toNat) (c-l.toNat)∧(c≠l.toNat→A'=A.map fun a=>a.add (l.toNat*z))∧(A=none→A'=none)∧
  ∀ad,A=some ad→ ∃ad',A'=some ad'∧ad'.block=ad.block∧(ad.spot=none→ad'.spot=none)
def aj (ob:List (Nat×OB)) (d:Nat):Prop:= ∃b,aa d ob=some b
def CW (ob:List (Nat×OB)) (w:World) (φ:Fp) (z:Nat) (rows:List (List TC)) (v:Value) (o:Nat) (i:Int) (f:Nat):Prop:=
 ∃b,aa o ob=some b∧0≤i∧kO b.rows i.toNat f=some (.sub z rows)∧ ∃ad n c,φ.V o= .slice (some ad) n c∧w.cell? (ad.add (i.toNat*b.z+f))=some v
def aW (ob:List (Nat×OB)) (w:World) (φ:Fp) (e:CE) (v:Value):Prop:=
 match e with
 | .sc x=>v=x∧uf x
 | .nil z=>v= .slice none 0 0∧0<z
 | .ref o cut=> ∃b,aa o ob=some b∧match cut with
   |none=>v=φ.V o
   |some (l,h)=>nK b.z b.rows.length l h (φ.V o) v
 | .snap ds loc z rows=>(∀d∈ds,d=0∨aj ob d)∧ah w (rd φ ds) .snap r6 (.sub z rows) v∧ ∀o i f,loc=some (o,i,f)→o∈ds∧CW ob w φ z rows v o i f
 | .gone=>True
def dQ (ob:List (Nat×OB)) (w:World) (φ:Fp) (c:fR) (u:Value):Prop:=
 match c with
 | .mk true cs=> ∃xs:Array Value,u= .agg xs∧xs.size=cs.length∧ ∀(j:Nat) (e:CE),cs[j]?=some e→ ∃x,xs[j]?=some x∧x.cells= #[x]∧aW ob w φ e x
 | .mk false cs=> ∃e,cs=[e]∧u.cells= #[u]∧aW ob w φ e u
 | .ptr b=>u= .pointer (some (φ.β b))
def aQ (ob:List (Nat×OB)) (w:World) (φ:Fp) (e:TE) (v:Value):Prop:=
 match e with
 | .dead=>True
 | .v true es=> ∃vs:Array Value,v= .tuple vs∧vs.size=es.length∧ ∀(k:Nat) (c:fR),es[k]?=some c→ ∃u,vs[k]?=some u∧dQ ob w φ c u
 | .v false es=> ∃c,es=[c]∧dQ ob w φ c v
 | .bp b off=>v= .pointer (some ((φ.β b).add off))
 | .ep ds cells=>(∀d∈ds,d=0∨aj ob d)∧ ∃ad,v= .pointer (some ad)∧(cells≠[]→rd φ ds ad.block)∧ ∀(j:Nat) (tc:TC),cells[j]?=some tc→ ∃u,w.cell? (ad.add j)=some u∧ah w (rd φ ds) .snap r6 tc u
 | .er o path i f=> ∃b,aa o ob=some b∧0≤i∧ ∃ad n c,φ.V o= .slice (some ad) n c∧match path with
   |none=>v= .pointer (some (ad.add (i.toNat*b.z+f)))
   |some (i0,f0)=>0≤i0∧ ∃z1 fY,kO b.rows i0.toNat f0=some (.sub z1 fY)∧ ∃ad1 n1 c1,w.cell? (ad.add (i0.toNat*b.z+f0))=some (.slice (some ad1) n1 c1)∧
    v= .pointer (some (ad1.add (i.toNat*z1+f)))
 | .fn f caps=>v= .func (.func f) #[] (caps.map fun b=>Value.pointer (some (φ.β b))).toArray
 | .kb b=>v= .bool b
structure CX (F:Nat→Prop) (w0 w:World):Prop where
 os:w.os=w0.os
 tape:w.tape=w0.tape
 output:w.output=w0.output
 size:w0.heap.size≤w.heap.size
 block: ∀k,k<w0.heap.size→ ¬F k→w.heap[k]?=w0.heap[k]?
structure Arg where
 all:Nat→Prop
 sh:Nat→Prop
structure Sep (F:Nat→Prop) (A:Arg) (w0 w:World) (φ:Fp) (bx:List (Nat×List CE)) (ob:List (Nat×OB)):Prop where
 arg:φ.S 0=A.all
 nz: ∀o,aj ob o→o≠0
 apart: ∀o o' k,aj ob o→aj ob o'→φ.S o k→φ.S o' k→o=o'
 read: ∀o k,aj ob o→φ.S o k→ ¬φ.I k
 fresh: ∀o k,aj ob o→φ.S o k→k<w.heap.size∧(w0.heap.size≤k∨F k)
 ro: ∀k,φ.I k→k<w.heap.size∧(w0.heap.size≤k∨F k∨A.sh k)
 ez: ∀k,A.all k→k<w0.heap.size∧ ¬F k
 box: ∀b cs,aa b bx=some cs→lS b=true→ ¬φ.I (φ.β b).block∧(∀o,aj ob o→ ¬φ.S o (φ.β b).block)∧(w0.heap.size≤(φ.β b).block∨F (φ.β b).block)∧
  ∀b' cs',aa b' bx=some cs'→b'≠b→(φ.β b').block≠(φ.β b).block
 spot: ∀b cs,aa b bx=some cs→(lS b=true→(φ.β b).spot=none)∧(φ.β b).block<w.heap.size∧(lS b=false→A.all (φ.β b).block)
 soft: ∀b cs j,aa b bx=some cs→lS b=true→j<cs.length→w.frozen? ((φ.β b).add j)=false
structure ak (F:Nat→Prop) (A:Arg) (w0:World) (φ:Fp) (st:TS) (tm:Array Value) (w:World):Prop where
 tmp: ∀i,aQ st.ob w φ (st.get i) (tm.getD i undef)
 box: ∀b cs,aa b st.bx=some cs→ ∀(j:Nat) (e:CE),cs[j]?=some e→ ∃v,w.cell? ((φ.β b).add j)=some v∧v.cells= #[v]∧aW st.ob w φ e v
 obj: ∀o b,aa o st.ob=some b→eE w φ o b
 sep:Sep F A w0 w φ st.bx st.ob
 frm:CX F w0 w
def Rel (F:Nat→Prop) (A:Arg) (w0:World) (st:TS) (tm:Array Value) (w:World):Prop:= ∃φ,ak F A w0 φ st tm w
section
variable {ob oU : List (Nat × OB)} {w w' : World} {φ φ' : Fp} {f : CE → CE} {g : TE → TE}
def jR (f:CE→CE):fR→fR
 | .mk a cs=> .mk a (cs.map f)
 | .ptr b=> .ptr b
theorem jt (f:CE→CE): ∀(es:List fR) (k:Nat),(dy f es)[k]?=(es[k]?).map (jR f)
 |[],_=>by simp[dy]
 | .mk a cs::r,0=>by simp[dy,jR]
 | .ptr b::r,0=>by simp[dy,jR]
 | .mk a cs::r,k+1=>by simp[dy,jt f r k]
 | .ptr b::r,k+1=>by simp[dy,jt f r k]
theorem fZ (f:CE→CE): ∀(es:List fR),(dy f es).length=es.length
 |[]=>rfl
 | .mk a cs::r=>by simp[dy,fZ f r]
 | .ptr b::r=>by simp[dy,fZ f r]
theorem dQ.qi (hβ:φ'.β=φ.β) (hc: ∀e v,aW ob w φ e v→aW oU w' φ' (f e) v) {c:fR} {u:Value} (h:dQ ob w φ c u):
 dQ oU w' φ' (jR f c) u:=by
 cases c with
 |ptr b=>simp only[dQ,jR] at h ⊢;rw[hβ];exact h
 |mk a cs=>
  cases a with
  |true=>
   obtain⟨xs,h1,h2,h3⟩:=h;refine⟨xs,h1,by simp[h2],fun j e he=> ?_⟩;rw[dK] at he
   cases h4:cs[j]? with
   |none=>rw[h4] at he;cases he
   |some e0=>
    rw[h4] at he;simp only[dO,aI] at he;subst he;obtain⟨x,hx,hx1,hok⟩:=h3 j e0 h4;exact⟨x,hx,hx1,hc _ _ hok⟩
  |false=>
   obtain⟨e,rfl,h2,h3⟩:=h;exact⟨f e,rfl,h2,hc _ _ h3⟩
theorem aQ.qi (hβ:φ'.β=φ.β) (hc: ∀e v,aW ob w φ e v→aW oU w' φ' (f e) v) (ht: ∀e v,(∀t es,e≠ .v t es)→aQ ob w φ e v→aQ oU w' φ' (g e) v) {e:TE} {v:Value} (h:aQ ob w φ e v):
 aQ oU w' φ' (lz f g e) v:=by
 by_cases hv: ∃t es,e= .v t es
 ·obtain⟨tup,es,rfl⟩:=hv
  cases tup with
  |true=>
   obtain⟨vs,h1,h2,h3⟩:=h;refine⟨vs,h1,by rw[fZ];exact h2,fun k c hk=> ?_⟩;rw[jt] at hk
   cases h4:es[k]? with
   |none=>rw[h4] at hk;cases hk
   |some c0=>
    rw[h4] at hk;simp only[dO,aI] at hk;obtain⟨u,hu,hok⟩:=h3 k c0 h4;exact⟨u,hu,by rw[←hk];exact hok.qi hβ hc⟩
  |false=>
   obtain⟨c,rfl,hok⟩:=h;refine⟨_,?_,hok.qi hβ hc⟩
   cases c<;>rfl
 ·have h1:lz f g e=g e:=by cases e<;>first|rfl|exact absurd ⟨_,_,rfl⟩ hv
  rw[h1];exact ht e v (fun t es he=>hv ⟨t,es,he⟩) h
end
theorem get_map (f:CE→CE) (g:TE→TE) (h:List (Nat×OB)→List (Nat×OB)) (hd:g .dead= .dead) (st:TS) (i:Nat):(kH f g h st).get i=lz f g (st.get i):=by
 unfold TS.get kH;simp only[ic]
 cases aa i st.tm with
 |none=>exact hd.symm
 |some e=>rfl
variable {F : Nat → Prop} {A : Arg} {w0 w w' : World} {φ φ' : Fp} {st st' : TS} {tm qc : Array Value}
theorem ak.qi (h:ak F A w0 φ st tm w) {f:CE→CE} {g:TE→TE} {k:List (Nat×OB)→List (Nat×OB)} (hd:g .dead= .dead) (hβ:φ'.β=φ.β)
 (hc: ∀e v,aW st.ob w φ e v→aW (k st.ob) w' φ' (f e) v) (ht: ∀e v,(∀t es,e≠ .v t es)→aQ st.ob w φ e v→aQ (k st.ob) w' φ' (g e) v)
 (hw: ∀b cs,aa b st.bx=some cs→ ∀j,j<cs.length→w'.cell? ((φ.β b).add j)=w.cell? ((φ.β b).add j))
 (ho: ∀o b,aa o (k st.ob)=some b→eE w' φ' o b) (hs:Sep F A w0 w' φ' (mapA (List.map f) st.bx) (k st.ob)) (hf:CX F w0 w'):ak F A w0 φ' (kH f g k st) tm w' where
 tmp i:=by rw[get_map f g k hd];exact(h.tmp i).qi hβ hc ht
 box b cs hb j e he:=by
  simp only[kH,ic] at hb
  cases h1:aa b st.bx with
  |none=>rw[h1] at hb;cases hb
  |some cs0=>
   rw[h1] at hb;simp only[dO,aI] at hb;subst hb;rw[dK] at he
   cases h2:cs0[j]? with
   |none=>rw[h2] at he;cases he
   |some e0=>
    rw[h2] at he;simp only[dO,aI] at he;subst he;obtain⟨v,hv,h1c,hok⟩:=h.box b cs0 h1 j e0 h2;refine⟨v,?_,h1c,hc _ _ hok⟩;rw[hβ,hw b cs0 h1 j (List.getElem?_eq_some_iff.1 h2).1];exact hv
 obj:=ho
 sep:=hs
 frm:=hf
theorem Sep.boxes {bx bx':List (Nat×List CE)} {ob:List (Nat×OB)} (h:Sep F A w0 w φ bx ob) (hb: ∀b cs',aa b bx'=some cs'→ ∃cs,aa b bx=some cs∧cs'.length=cs.length):Sep F A w0 w φ bx' ob where
 arg:=h.arg
 nz:=h.nz
 apart:=h.apart
 read:=h.read
 fresh:=h.fresh
 ro:=h.ro
 ez:=h.ez
 box b cs' hl hw:=by
  obtain⟨cs,h1,_⟩:=hb b cs' hl;obtain⟨a1,a2,a3,a4⟩:=h.box b cs h1 hw;refine⟨a1,a2,a3,fun b' zP hl' hne=> ?_⟩;obtain⟨cs2,h2,_⟩:=hb b' zP hl';exact a4 b' cs2 h2 hne
 spot b cs' hl:=by obtain⟨cs,h1,_⟩:=hb b cs' hl;exact h.spot b cs h1
 soft b cs' j hl hw hj:=by obtain⟨cs,h1,h2⟩:=hb b cs' hl;exact h.soft b cs j h1 hw aA
theorem cr (f:CE→CE) {bx:List (Nat×List CE)}: ∀b cs',aa b (mapA (List.map f) bx)=some cs'→ ∃cs,aa b bx=some cs∧cs'.length=cs.length:=by
 intro b cs' h;rw[ic] at h
 cases h1:aa b bx with
 |none=>rw[h1] at h;cases h
 |some cs=>
  rw[h1] at h;simp only[dO,aI] at h;exact⟨cs,rfl,by rw[←h];simp⟩
theorem Sep.lt {bx:List (Nat×List CE)} {ob:List (Nat×OB)} (h:Sep F A w0 w φ bx ob) (hs:w0.heap.size≤w.heap.size) {d:Nat} (hd:d=0∨aj ob d) {k:Nat} (hk:φ.S d k):k<w.heap.size:=by
 rcases hd with rfl|hd
 ·rw[h.arg] at hk;exact cW (h.ez k hk).1 hs
 ·exact(h.fresh d k hd hk).1
theorem Sep.Ju {bx:List (Nat×List CE)} {ob:List (Nat×OB)} (h:Sep F A w0 w φ bx ob) (hs:w0.heap.size≤w.heap.size) {ds:List Nat} (hd: ∀d∈ds,d=0∨aj ob d) {k:Nat} (hk:rd φ ds k):k<w.heap.size:=by
 rcases hk with hk|⟨d,hm,hk⟩
 ·exact(h.ro k hk).1
 ·exact h.lt hs (hd d hm) hk
structure ff (w w':World):Prop where
 os:w'.os=w.os
 tape:w'.tape=w.tape
 output:w'.output=w.output
 size:w.heap.size≤w'.heap.size
 block: ∀k,k<w.heap.size→w'.heap[k]?=w.heap[k]?
theorem ff.refl (w:World):ff w w:=⟨rfl,rfl,rfl,bu _,fun _ _=>rfl⟩
theorem ff.alloc (w:World) (o:Obj):ff w (w.alloc o):=⟨rfl,rfl,rfl,by simp,fun k hk=>heap_alloc_old w o hk⟩
theorem ff.drew (w:World):ff w w.drew:=⟨rfl,rfl,rfl,bu _,fun _ _=>rfl⟩
theorem ff.trans {a b c:World} (h:ff a b) (k:ff b c):ff a c:=
 ⟨k.os.trans h.os,k.tape.trans h.tape,k.output.trans h.output,aB h.size k.size,fun i hi=>(k.block i (cW hi h.size)).trans (h.block i hi)⟩
theorem CX.BS (h:CX F w0 w) (g:ff w w'):CX F w0 w':=
 ⟨g.os.trans h.os,g.tape.trans h.tape,g.output.trans h.output,aB h.size g.size,fun k hk hf=>(g.block k (cW hk h.size)).trans (h.block k hk hf)⟩
theorem ff.cell (g:ff w w') {a:Addr} {v:Value} (h:w.cell? a=some v):w'.cell? a=some v:=by
 rw[bT (w:=w) (g.block _ (World.block_lt_of_cell? w a h))];exact h
theorem ff.CY (g:ff w w') {a:Addr} (h:a.block<w.heap.size):w'.cell? a=w.cell? a:=bT (g.block _ h)
theorem aW.stay {ob:List (Nat×OB)} (hI: ∀k,φ.I k→w'.heap[k]?=w.heap[k]?) (hS: ∀d k,d=0∨aj ob d→φ.S d k→w'.heap[k]?=w.heap[k]?)
 (hV: ∀o,aj ob o→ ∀ad n c,φ.V o= .slice (some ad) n c→ ∀i v,w.cell? (ad.add i)=some v→w'.cell? (ad.add i)=some v) {e:CE} {v:Value} (h:aW ob w φ e v):aW ob w' φ e v:=by
 cases e with
 |snap ds loc z rows=>
  obtain⟨h1,h2,h3⟩:=h;refine⟨h1,h2.move (fun k hk=>⟨hk,?_⟩) (fun hm=>absurd rfl hm),fun o i f hl=>⟨(h3 o i f hl).1,?_⟩⟩
  ·rcases hk with hk|⟨d,hd,hk⟩
   ·exact hI k hk
   ·exact hS d k (h1 d hd) hk
  ·obtain⟨b,a1,a2,a3,ad,n,c,a4,a5⟩:=(h3 o i f hl).2
   exact⟨b,a1,a2,a3,ad,n,c,a4,hV o ⟨b,a1⟩ ad n c a4 _ _ a5⟩
 |_=>exact h
theorem aQ.stay {ob:List (Nat×OB)} (hI: ∀k,φ.I k→w'.heap[k]?=w.heap[k]?) (hS: ∀d k,d=0∨aj ob d→φ.S d k→w'.heap[k]?=w.heap[k]?)
 (hV: ∀o,aj ob o→ ∀ad n c,φ.V o= .slice (some ad) n c→ ∀i v,w.cell? (ad.add i)=some v→w'.cell? (ad.add i)=some v)
 (hA: ∀ad v,w.cell? ad=some v→(∀k,ad.block=k→w'.heap[k]?=w.heap[k]?)→w'.cell? ad=some v) (hE: ∀ds cells v,aQ ob w φ (.ep ds cells) v→aQ ob w' φ (.ep ds cells) v) {e:TE} {v:Value} (hv: ∀t es,e≠ .v t es)
 (h:aQ ob w φ e v):aQ ob w' φ e v:=by
 cases e with
 |v t es=>exact absurd rfl (hv t es)
 |ep ds cells=>exact hE ds cells v h
 |er o path i f=>
  obtain⟨b,h1,h2,ad,n,c,h3,h4⟩:=h;refine⟨b,h1,h2,ad,n,c,h3,?_⟩
  cases path with
  |none=>exact h4
  |some q=>
   obtain⟨i0,f0⟩:=q;obtain⟨a1,z1,fY,a2,ad1,n1,c1,a3,a4⟩:=h4;exact⟨a1,z1,fY,a2,ad1,n1,c1,hV o ⟨b,h1⟩ ad n c h3 _ _ a3,a4⟩
 |_=>exact h
theorem jS (st:TS):kH id id id st=st:=by
 have h1: ∀(es:List fR),dy id es=es:=by
  intro es
  induction es with
  |nil=>rfl
  |cons c r ih=>cases c<;>simp[dy,ih]
 have h2: ∀e:TE,lz id id e=e:=by
  intro e;cases e<;>first|rfl|(simp only[lz,h1])
 have h3: ∀{α:Type} (f:α→α) (hf: ∀a,f a=a) (l:List (Nat×α)),mapA f l=l:=by
  intro α f hf l
  induction l with
  |nil=>rfl
  |cons a r ih=>obtain⟨j,x⟩:=a;simp only[mapA,hf,ih]
 unfold kH;rw[h3 _ h2,h3 _ (fun l=>List.map_id l)]
 rfl
theorem Sep.BS {bx:List (Nat×List CE)} {ob:List (Nat×OB)} (h:Sep F A w0 w φ bx ob) (g:ff w w'):Sep F A w0 w' φ bx ob where
 arg:=h.arg
 nz:=h.nz
 apart:=h.apart
 read:=h.read
 fresh o k ho hk:=⟨cW (h.fresh o k ho hk).1 g.size,(h.fresh o k ho hk).2⟩
 ro k hk:=⟨cW (h.ro k hk).1 g.size,(h.ro k hk).2⟩
 ez:=h.ez
 box:=h.box
 spot b cs hb:=⟨(h.spot b cs hb).1,cW (h.spot b cs hb).2.1 g.size,(h.spot b cs hb).2.2⟩
 soft b cs j hb hw hj:=by
  rw[dz (w:=w) (g.block _ (by rw[aK];exact(h.spot b cs hb).2.1))];exact h.soft b cs j hb hw hj
theorem ak.BS (h:ak F A w0 φ st tm w) (g:ff w w'):ak F A w0 φ st tm w':=by
 have hI: ∀k,φ.I k→w'.heap[k]?=w.heap[k]?:=fun k hk=>g.block k (h.sep.ro k hk).1;have hS: ∀d k,d=0∨aj st.ob d→φ.S d k→w'.heap[k]?=w.heap[k]?:=fun d k hd hk=>g.block k (h.sep.lt h.frm.size hd hk)
 have hE: ∀ds cells v,aQ st.ob w φ (.ep ds cells) v→aQ st.ob w' φ (.ep ds cells) v:=by
  intro ds cells v ⟨h1,ad,h2,hr,h3⟩;refine⟨h1,ad,h2,hr,fun j tc hj=> ?_⟩;obtain⟨u,h4,h5⟩:=h3 j tc hj;exact⟨u,g.cell h4,h5.move (fun k hk=>⟨hk,g.block k (h.sep.Ju h.frm.size h1 hk)⟩) (fun hm=>absurd rfl hm)⟩
 have:=h.qi (f:=id) (g:=id) (k:=id) (φ':=φ) (w':=w') rfl rfl (fun e v he=>he.stay hI hS (fun o ho ad n c hv i v hc=>g.cell hc))
  (fun e v hv he=>aQ.stay hI hS (fun o ho ad n c hv i v hc=>g.cell hc) (fun ad v hc _=>g.cell hc) hE hv he)
  (fun b cs hb j hj=>g.CY (by rw[aK];exact(h.sep.spot b cs hb).2.1))
  (fun o b hb=>(h.obj o b hb).move (fun k hk=>⟨hk,hI k hk⟩) (fun _ k hk=>hS o k (.inr ⟨b,hb⟩) hk))
  (by
    have h3:mapA (List.map (id:CE→CE)) st.bx=st.bx:=by
     have:=congrArg TS.bx (jS st);exact this
    rw[h3]
    exact h.sep.BS g) (h.frm.BS g)
 rw[jS] at this;exact this
end Go.T
namespace Go.T
variable {F : Nat → Prop} {A : Arg} {w0 w w' : World} {φ φ' : Fp} {st st' : TS} {tm qc : Array Value}
theorem getD_set_ne (tm:Array Value) (d i:Nat) (v x:Value) (h:i≠d):(tm.setIfInBounds d v).getD i x=tm.getD i x:=by
 simp only[jd,xp];rw[aH fun h'=>h h'.symm]
theorem wT (tm:Array Value) (d:Nat) (v x:Value) (h:d<tm.size):(tm.setIfInBounds d v).getD d x=v:=by
 simp only[jd,xp];simp[h]
theorem yQ (st:TS) (d i:Nat) (e:TE):(st.set d e).get i=if i=d then e else st.get i:=by
 unfold TS.get TS.set;simp only[bP]
 by_cases h:i=d
 ·simp[h]
 ·simp[h]
theorem ak.wU (h:ak F A w0 φ st tm w) {d:Nat} {e:TE} {v:Value} (hd:d<tm.size) (ht:aQ st.ob w φ e v):ak F A w0 φ (st.set d e) (tm.setIfInBounds d v) w where
 tmp i:=by
  rw[yQ]
  by_cases hi:i=d
  ·subst hi;rw[aT rfl,wT _ _ _ _ hd];exact ht
  ·rw[aH hi,getD_set_ne _ _ _ _ _ hi];exact h.tmp i
 box:=h.box
 obj:=h.obj
 sep:=h.sep
 frm:=h.frm
theorem ak.G4 (h:ak F A w0 φ st tm w) {d:Nat} {e:TE} (ht:aQ st.ob w φ e (tm.getD d undef)):ak F A w0 φ (st.set d e) tm w where
 tmp i:=by
  rw[yQ]
  by_cases hi:i=d
  ·subst hi;rw[aT rfl];exact ht
  ·rw[aH hi];exact h.tmp i
 box:=h.box
 obj:=h.obj
 sep:=h.sep
 frm:=h.frm
theorem Sep.sub {bx:List (Nat×List CE)} {ob oU:List (Nat×OB)} (h:Sep F A w0 w φ bx ob) (hd: ∀o,aj oU o→aj ob o):Sep F A w0 w φ bx oU where
 arg:=h.arg
 nz o ho:=h.nz o (hd o ho)
 apart o o' k h1 h2:=h.apart o o' k (hd o h1) (hd o' h2)
 read o k ho:=h.read o k (hd o ho)
 fresh o k ho:=h.fresh o k (hd o ho)
 ro:=h.ro
 ez:=h.ez
 box b cs hb hw:=by
  obtain⟨a1,a2,a3,a4⟩:=h.box b cs hb hw;exact⟨a1,fun o ho=>a2 o (hd o ho),a3,a4⟩
 spot:=h.spot
 soft:=h.soft
theorem eK {o d:Nat} {ob:List (Nat×OB)}:aj (fT o ob) d↔d≠o∧aj ob d:=by
 unfold aj;rw[cD]
 by_cases h:d=o
 ·simp[h]
 ·simp[h]
theorem jT {o d:Nat} {ob:List (Nat×OB)} (h:d≠o):aa d (fT o ob)=aa d ob:=by rw[cD,aH h]
theorem aW.kill {o:Nat} {ob:List (Nat×OB)} {e:CE} {v:Value} (h:aW ob w φ e v):aW (fT o ob) w φ (xz o e) v:=by
 unfold xz
 cases hd:dx o (bY e) with
 |true=>trivial
 |false=>
  have hd:=bC.1 hd
  cases e with
  |ref p cut=>
   simp only[bY,dw] at hd;obtain⟨b,h1,h2⟩:=h;exact⟨b,by rw[jT (Ne.symm hd)];exact h1,h2⟩
  |snap ds loc z rows=>
   simp only[bY] at hd;obtain⟨h1,h2,h3⟩:=h;refine⟨fun d hm=> ?_,h2,fun p i f hl=> ?_⟩
   ·rcases h1 d hm with h|h
    ·exact .inl h
    ·exact .inr (eK.2 ⟨fun e=>hd (e▸hm),h⟩)
   ·obtain⟨a1,b,a2,a3⟩:=h3 p i f hl
    have hp:p≠o:=fun e=>by subst e;exact hd a1
    exact⟨a1,b,by rw[jT hp];exact a2,a3⟩
  |_=>exact h
theorem aQ.kill {o:Nat} {ob:List (Nat×OB)} {e:TE} {v:Value} (hv: ∀t es,e≠ .v t es) (h:aQ ob w φ e v):aQ (fT o ob) w φ (CP o e) v:=by
 cases e with
 |v t es=>exact absurd rfl (hv t es)
 |ep ds cells=>
  simp only[CP]
  cases hd:dx o ds with
  |true=>trivial
  |false=>
   have hd:=bC.1 hd;obtain⟨h1,h2⟩:=h;refine⟨fun d hm=> ?_,h2⟩;rcases h1 d hm with h|h
   ·exact .inl h
   ·exact .inr (eK.2 ⟨fun e=>hd (e▸hm),h⟩)
 |er p path i f=>
  simp only[CP]
  cases hd:Nat.beq p o with
  |true=>trivial
  |false=>
   have hd:=gE hd;obtain⟨b,h1,h2⟩:=h;exact⟨b,by rw[jT hd];exact h1,h2⟩
 |_=>exact h
theorem ak.eD (h:ak F A w0 φ st tm w) (o:Nat):ak F A w0 φ (eD o st) tm w:=by
 refine h.qi (φ':=φ) rfl rfl (fun e v he=>he.kill) (fun e v hv he=>he.kill hv) (fun _ _ _ _ _=>rfl) (fun p b hb=> ?_) ?_ h.frm
 ·rw[cD] at hb
  split at hb
  ·cases hb
  ·exact h.obj p b hb
 ·exact(h.sep.boxes (cr _)).sub fun d hd=>(eK.1 hd).2
theorem cZ {o d:Nat}:aj (T.eD o st).ob d↔d≠o∧aj st.ob d:=eK
theorem xE {o d:Nat} (h:d≠o):aa d (T.eD o st).ob=aa d st.ob:=jT h
def Fp.more (φ:Fp) (X:Nat→Prop):Fp:={φ with I:=fun k=>φ.I k∨X k}
theorem yR {X:Nat→Prop} {ds:List Nat} {k:Nat} (h:rd φ ds k):rd (φ.more X) ds k:=h.imp .inl id
theorem ah.fh {R R' S:Nat→Prop} {m:Mode} {c:TC} {v:Value} (h:ah w R m S c v) (hR: ∀k,R k→R' k):ah w R' m S c v:=
 h.move (fun k hk=>⟨hR k hk,rfl⟩) fun _ _ _=>rfl
theorem aW.more {X:Nat→Prop} {ob:List (Nat×OB)} {e:CE} {v:Value} (h:aW ob w φ e v):aW ob w (φ.more X) e v:=by
 cases e with
 |snap ds loc z rows=>
  obtain⟨h1,h2,h3⟩:=h;exact⟨h1,h2.fh fun k hk=>yR hk,h3⟩
 |_=>exact h
theorem aQ.more {X:Nat→Prop} {ob:List (Nat×OB)} {e:TE} {v:Value} (hv: ∀t es,e≠ .v t es) (h:aQ ob w φ e v):aQ ob w (φ.more X) e v:=by
 cases e with
 |v t es=>exact absurd rfl (hv t es)
 |ep ds cells=>
  obtain⟨h1,ad,h2,hr,h3⟩:=h;refine⟨h1,ad,h2,fun hc=>yR (hr hc),fun j tc hj=> ?_⟩;obtain⟨u,h4,h5⟩:=h3 j tc hj;exact⟨u,h4,h5.fh fun k hk=>yR hk⟩
 |_=>exact h
theorem sv (st:TS):mapA (List.map (id:CE→CE)) st.bx=st.bx:=congrArg TS.bx (jS st)
theorem ak.more (h:ak F A w0 φ st tm w) {X:Nat→Prop} (hX: ∀k,X k→k<w.heap.size∧(w0.heap.size≤k∨F k∨A.sh k)) (hS: ∀k o,X k→aj st.ob o→ ¬φ.S o k)
 (hB: ∀b cs,aa b st.bx=some cs→lS b=true→ ¬X (φ.β b).block):ak F A w0 (φ.more X) st tm w:=by
 have:=h.qi (f:=id) (g:=id) (k:=id) (φ':=φ.more X) (w':=w) rfl rfl (fun e v he=>he.more) (fun e v hv he=>he.more hv) (fun _ _ _ _ _=>rfl)
  (fun o b hb=>(h.obj o b hb).fh fun k hk=> .inl hk)
  (by
    rw[sv]
    exact {
     arg:=h.sep.arg,nz:=h.sep.nz,apart:=h.sep.apart,fresh:=h.sep.fresh,ez:=h.sep.ez,spot:=h.sep.spot,soft:=h.sep.soft
     read:=fun o k ho hk hI=>hI.elim (h.sep.read o k ho hk) fun hx=>hS k o hx ho hk
     ro:=fun k hk=>hk.elim (h.sep.ro k) (hX k)
     box:=fun b cs hb hw=>by
      obtain⟨a1,a2,a3,a4⟩:=h.sep.box b cs hb hw
      exact⟨fun hI=>hI.elim a1 (hB b cs hb hw),a2,a3,a4⟩}) h.frm
 rw[jS] at this;exact this
def Fp.add (φ:Fp) (o:Nat) (X:Nat→Prop) (v:Value):Fp:={φ with S:=fun d k=>if d=o then X k else φ.S d k,V:=fun d=>if d=o then v else φ.V d}
theorem yS {o:Nat} {X:Nat→Prop} {v:Value} {ds:List Nat} (hd:o∉ds) {k:Nat} (h:rd φ ds k):rd (φ.add o X v) ds k:=by
 rcases h with h|⟨d,hm,h⟩
 ·exact .inl h
 ·refine .inr ⟨d,hm,?_⟩
  show(if d=o then X k else φ.S d k)
  have hp:d≠o:=fun e=>by subst e;exact hd hm
  rw[aH hp];exact h
theorem jg {o d:Nat} {X:Nat→Prop} {v:Value} (h:d≠o) {k:Nat}:(φ.add o X v).S d k=φ.S d k:=aH h
theorem Ff {o d:Nat} {X:Nat→Prop} {v:Value} (h:d≠o):(φ.add o X v).V d=φ.V d:=aH h
theorem cN {o d:Nat} {b:OB} {ob:List (Nat×OB)}:aj (eN o b ob) d↔d=o∨aj ob d:=by
 unfold aj;rw[bP]
 by_cases h:d=o
 ·simp[h]
 ·simp[h]
theorem dA {o d:Nat} {b:OB} {ob:List (Nat×OB)} (h:d≠o):aa d (eN o b ob)=aa d ob:=by rw[bP,aH h]
theorem dJ {o:Nat} {b:OB} {ob:List (Nat×OB)}:aa o (eN o b ob)=some b:=by rw[bP,aT rfl]
theorem aW.add {o:Nat} {b:OB} {X:Nat→Prop} {V:Value} {ob:List (Nat×OB)} (h0:o≠0) (hn: ¬aj ob o) {e:CE} {v:Value} (h:aW ob w φ e v):aW (eN o b ob) w (φ.add o X V) e v:=by
 cases e with
 |ref p cut=>
  obtain⟨b',h1,h2⟩:=h;have hp:p≠o:=fun e=>hn ⟨b',e▸h1⟩;refine⟨b',by rw[dA hp];exact h1,?_⟩;rw[Ff hp];exact h2
 |snap ds loc z rows=>
  obtain⟨h1,h2,h3⟩:=h;have hd:o∉ds:=fun hm=>(h1 o hm).elim h0 hn;refine⟨fun d hm=>(h1 d hm).imp id fun h=>cN.2 (.inr h),h2.fh fun k hk=>yS hd hk,fun p i f hl=>⟨(h3 p i f hl).1,?_⟩⟩;obtain⟨a1,b',a2,a3,a4,ad,n,c,a5,a6⟩:=h3 p i f hl;have hp:p≠o:=fun e=>hn ⟨b',e▸a2⟩;exact⟨b',by rw[dA hp];exact a2,a3,a4,ad,n,c,by rw[Ff hp];exact a5,a6⟩
 |_=>exact h
theorem aQ.add {o:Nat} {b:OB} {X:Nat→Prop} {V:Value} {ob:List (Nat×OB)} (h0:o≠0) (hn: ¬aj ob o) {e:TE} {v:Value} (hv: ∀t es,e≠ .v t es) (h:aQ ob w φ e v):
 aQ (eN o b ob) w (φ.add o X V) e v:=by
 cases e with
 |v t es=>exact absurd rfl (hv t es)
 |ep ds cells=>
  obtain⟨h1,ad,h2,hr,h3⟩:=h;have hd:o∉ds:=fun hm=>(h1 o hm).elim h0 hn;refine⟨fun d hm=>(h1 d hm).imp id fun h=>cN.2 (.inr h),ad,h2,fun hc=>yS hd (hr hc),fun j tc hj=> ?_⟩;obtain⟨u,h4,h5⟩:=h3 j tc hj;exact⟨u,h4,h5.fh fun k hk=>yS hd hk⟩
 |er p path i f=>
  obtain⟨b',h1,h2,ad,n,c,h3,h4⟩:=h;have hp:p≠o:=fun e=>hn ⟨b',e▸h1⟩;exact⟨b',by rw[dA hp];exact h1,h2,ad,n,c,by rw[Ff hp];exact h3,h4⟩
 |_=>exact h
theorem G5 (st:TS) (o:Nat) (b:OB):st.Jh o b=kH id id (eN o b) st:=by
 have h:=jS st;unfold kH at h ⊢;have h1:=congrArg TS.tm h;have h2:=congrArg TS.bx h;simp only at h1 h2;rw[h1,h2];rfl
theorem ak.add (h:ak F A w0 φ st tm w) {o:Nat} {b:OB} {X:Nat→Prop} {v:Value} (h0:o≠0) (hn: ¬aj st.ob o) (hc:ah w φ.I b.m X (.sub b.z b.rows) v)
 (hX: ∀k,X k→k<w.heap.size∧(w0.heap.size≤k∨F k)) (hI: ∀k,X k→ ¬φ.I k) (hS: ∀k d,X k→aj st.ob d→ ¬φ.S d k)
 (hB: ∀b cs,aa b st.bx=some cs→lS b=true→ ¬X (φ.β b).block):ak F A w0 (φ.add o X v) (st.Jh o b) tm w:=by
 rw[G5];refine h.qi (φ':=φ.add o X v) (w':=w) rfl rfl (fun e u he=>he.add h0 hn) (fun e u hv he=>he.add h0 hn hv) (fun _ _ _ _ _=>rfl) (fun p b' hb=> ?_) ?_ h.frm
 ·unfold eE
  by_cases hp:p=o
  ·subst hp
   rw[dJ] at hb
   cases hb
   show ah w φ.I b.m (fun k=>if p=p then X k else φ.S p k) (.sub b.z b.rows) (if p=p then v else φ.V p);simp only[if_true];exact hc
  ·rw[dA hp] at hb
   have:=h.obj p b' hb;unfold eE at this;show ah w φ.I b'.m (fun k=>if p=o then X k else φ.S p k) (.sub b'.z b'.rows) (if p=o then v else φ.V p);simp only[aH hp];exact this
 ·rw[sv]
  exact {
   arg:=by
    show(fun k=>if 0=o then X k else φ.S 0 k)=A.all;simp only[aH (Ne.symm h0)];exact h.sep.arg
   nz:=fun d hd=>(cN.1 hd).elim (fun e=>e▸h0) (h.sep.nz d)
   apart:=fun d d' k h1 h2 h3 h4=>by
    by_cases e1:d=o
    ·by_cases e2:d'=o
     ·rw[e1,e2]
     ·subst e1
      rw[jg e2] at h4
      have h3:X k:=by have GV:(if d=d then X k else φ.S d k):=h3;simpa using GV
      exact absurd h4 (hS k d' h3 ((cN.1 h2).resolve_left e2))
    ·rw[jg e1] at h3
     by_cases e2:d'=o
     ·subst e2
      have h4:X k:=by have Pz:(if d'=d' then X k else φ.S d' k):=h4;simpa using Pz
      exact absurd h3 (hS k d h4 ((cN.1 h1).resolve_left e1))
     ·rw[jg e2] at h4
      exact h.sep.apart d d' k ((cN.1 h1).resolve_left e1) ((cN.1 h2).resolve_left e2) h3 h4
   read:=fun d k hd hk=>by
    by_cases e1:d=o
    ·subst e1
     have hk:X k:=by have hk':(if d=d then X k else φ.S d k):=hk;simpa using hk'
     exact hI k hk
    ·rw[jg e1] at hk
     exact h.sep.read d k ((cN.1 hd).resolve_left e1) hk
   fresh:=fun d k hd hk=>by
    by_cases e1:d=o
    ·subst e1
     have hk:X k:=by have hk':(if d=d then X k else φ.S d k):=hk;simpa using hk'
     exact hX k hk
    ·rw[jg e1] at hk
     exact h.sep.fresh d k ((cN.1 hd).resolve_left e1) hk
   ro:=h.sep.ro
   ez:=h.sep.ez
   box:=fun b' cs hb hw=>by
    obtain⟨a1,a2,a3,a4⟩:=h.sep.box b' cs hb hw;refine⟨a1,fun d hd hk=> ?_,a3,a4⟩
    by_cases e1:d=o
    ·subst e1
     have hk:X (φ.β b').block:=by have hk':(if d=d then X (φ.β b').block else φ.S d (φ.β b').block):=hk;simpa using hk'
     exact hB b' cs hb hw hk
    ·rw[jg e1] at hk
     exact a2 d ((cN.1 hd).resolve_left e1) hk
   spot:=h.sep.spot
   soft:=h.sep.soft}
theorem ak.nY (h:ak F A w0 φ st tm w) {o:Nat} {b:OB} {X:Nat→Prop} {v:Value} (h0:o≠0) (hc:ah w φ.I b.m X (.sub b.z b.rows) v)
 (hX: ∀k,X k→k<w.heap.size∧(w0.heap.size≤k∨F k)) (hI: ∀k,X k→ ¬φ.I k) (hS: ∀k d,X k→d≠o→aj st.ob d→ ¬φ.S d k)
 (hB: ∀b cs,aa b st.bx=some cs→lS b=true→ ¬X (φ.β b).block):ak F A w0 (φ.add o X v) (T.nY o b st) tm w:=
 (h.eD o).add h0 (fun hd=>(cZ.1 hd).1 rfl) hc hX hI (fun k d hx hd=>hS k d hx (cZ.1 hd).1 (cZ.1 hd).2)
   fun b cs hb hw=>by
    obtain⟨cs0,h1,_⟩:=cr _ b cs hb;exact hB b cs0 h1 hw
end Go.T
namespace Go.T
variable {F : Nat → Prop} {A : Arg} {w0 w w' : World} {φ φ' : Fp} {st st' : TS} {tm qc : Array Value}
attribute [local semireducible] aV in
theorem mV (rows:List (List TC)) (l h:Int):aV rows l h=(rows.take h.toNat).drop l.toNat:=rfl
theorem uZ {rows:List (List TC)} {l h:Int} (h2:h≤rows.length):(aV rows l h).length=h.toNat-l.toNat:=by
 rw[mV,kC,eU]
 have:h.toNat≤rows.length:=by omega
 omega
theorem yT {rows:List (List TC)} {l h:Int} {i f:Nat} {tc:TC} (ht:kO (aV rows l h) i f=some tc):kO rows (i+l.toNat) f=some tc∧i+l.toNat<h.toNat:=by
 unfold kO at ht ⊢;rw[mV,gn,tF] at ht
 by_cases hi:l.toNat+i<h.toNat
 ·rw[aT hi] at ht
  rw[Nat.add_comm];exact⟨ht,hi⟩
 ·rw[aH hi] at ht;cases ht
theorem ou {a:Addr} (n:Nat) (h:a.spot=none):(a.add n).spot=none:=by unfold Addr.add;split<;>simp[h]
theorem ju {a:Addr} (n:Nat) (h:a.spot=none):a.add n=⟨a.block,a.off+n,none⟩:=by
 unfold Addr.add;split
 ·subst n;cases a;simp_all
 ·rfl
theorem ah.cut {R S:Nat→Prop} {m:Mode} {z:Nat} {rows:List (List TC)} {V v:Value} {l h:Int} (k:ah w R m S (.sub z rows) V) (hc:nK z rows.length l h V v):
 ah w R m S (.sub z (aV rows l h)) v:=by
 cases k with
 |sub _ _ _ _ A c u T k hn=>
  obtain⟨h0,h1,h2,A1,A',c1,e1,rfl,e2,e3,e4⟩:=hc
  cases e1
  have hlen:=uZ (rows:=rows) (l:=l) h2
  have hle:h.toNat≤rows.length:=by omega
  rw[←hlen];have hcl:=k.len
  have hne: ∀i f tc,kO (aV rows l h) i f=some tc→c≠l.toNat:=fun i f tc ht=>by
   have:=(yT ht).2;omega
  refine .sub _ _ _ _ A' (c-l.toNat) (fun i f=>u (i+l.toNat) f) (fun i f=>T (i+l.toNat) f) ?_ fun i f tc ht=>hn _ _ _ (yT ht).1
  have hb: ∀ad',A'=some ad'→ ∃ad,A=some ad∧ad'.block=ad.block∧(ad.spot=none→ad'.spot=none):=fun ad' ha=>by
   cases hA:A with
   |none=>rw[e3 hA] at ha;cases ha
   |some ad=>
    obtain⟨ad2,b1,b2,b3⟩:=e4 ad hA;rw[b1] at ha;cases ha;exact⟨ad,rfl,b2,b3⟩
  have hnm:rows=[]→aV rows l h=[]:=fun e=>by rw[mV,e];simp
  refine⟨by omega,aB (Nat.sub_le _ _) k.cap,k.z0,fun r hr=>k.width r ?_,fun hr=> ?_,fun ad' ha i f tc ht=> ?_,fun hm ad' ha hr=> ?_,fun hm=>⟨fun ha=> ?_,fun ad' ha=> ?_⟩,fun hm EF ad' ha i=> ?_,fun hm i f q hq=> ?_⟩
  ·rw[mV] at hr
   exact nX (qH hr)
  ·obtain⟨ad,ha⟩:=k.addr fun e=>hr (hnm e)
   obtain⟨ad',b1,_⟩:=e4 ad ha;exact⟨ad',b1⟩
  ·obtain⟨ad,hA,_⟩:=hb ad' ha
   have:=e2 (hne i f tc ht);rw[hA] at this;simp only[dO] at this;rw[this] at ha
   cases ha
   rw[Addr.add_add];have:=k.cell ad hA _ _ _ (yT ht).1;rw[iM] at this;rw[show l.toNat*z+(i*z+f)=i*z+l.toNat*z+f by omega];exact this
  ·obtain⟨ad,hA,b1,_⟩:=hb ad' ha
   rw[b1];exact k.read hm ad hA fun e=>hr (hnm e)
  ·cases hA:A with
   |none=>rw[(k.own hm).1 hA];omega
   |some ad=>obtain⟨ad2,b1,_⟩:=e4 ad hA;rw[b1] at ha;cases ha
  ·obtain⟨ad,hA,b1,b2⟩:=hb ad' ha
   obtain⟨a1,a2,a3⟩:=(k.own hm).2 ad hA;refine⟨by rw[b1];exact a1,b2 a2,fun j hj=> ?_⟩
   have Nw:c≠l.toNat:=fun e=>by rw[e] at hj;simp at hj
   have:=e2 Nw;rw[hA] at this;simp only[dO] at this;rw[this] at ha
   cases ha
   rw[ju _ a2];simp only;rw[kD];refine a3 _ ?_
   have:l.toNat*z+(c-l.toNat)*z≤c*z:=by
    rw[←iM];exact gq _ aA
   omega
  ·obtain⟨ad,hA,b1,b2⟩:=hb ad' ha
   rw[b1];exact k.soft hm EF ad hA i
  ·obtain⟨a1,a2,a3⟩:=k.fP hm _ _ _ hq
   refine⟨a1,fun ad' ha=> ?_,fun i' f' wK=> ?_⟩
   ·obtain⟨ad,hA,b1,_⟩:=hb ad' ha
    rw[b1];exact a2 ad hA
   ·obtain⟨c1,c2⟩:=a3 _ _ wK
    exact⟨by omega,c2⟩
theorem eE.cut {o:Nat} {b:OB} (h:eE w φ o b) {cut:Option (Int×Int)} {v:Value} (hc:match(generalizing:=false) cut with|none=>v=φ.V o|some (l,h)=>nK b.z b.rows.length l h (φ.V o) v):
 ah w φ.I b.m (φ.S o) (.sub b.z (Aa cut b.rows)) v:=by
 cases cut with
 |none=>simp only at hc;rw[hc];exact h
 |some q=>obtain⟨l,h1⟩:=q;exact ah.cut h hc
theorem DU {o:Nat} {l:Option (Nat×Int×Nat)} {p:Nat} {i:Int} {f:Nat} (h:Ji o l=some (p,i,f)):l=some (p,i,f)∧p≠o:=by
 unfold Ji at h
 cases l with
 |none=>cases h
 |some q=>
  obtain⟨a,b,c⟩:=q;simp only at h
  cases h1:Nat.beq a o with
  |true=>rw[h1] at h;cases h
  |false=>rw[h1] at h;cases h;exact⟨rfl,gE h1⟩
theorem BT {o:Nat} {ds:List Nat} {k:Nat} (h:rd φ ds k):rd (φ.more (φ.S o)) (z8 o ds) k:=by
 rcases h with h|⟨d,hd,h⟩
 ·exact .inl (.inl h)
 ·by_cases e:d=o
  ·subst e;exact .inl (.inr h)
  ·exact .inr ⟨d,lZ.2 ⟨hd,e⟩,h⟩
theorem aW.freeze {o:Nat} {b:OB} {ob:List (Nat×OB)} (hb:aa o ob=some b) (hO:eE w φ o b) {e:CE} {v:Value} (h:aW ob w φ e v):aW (fT o ob) w (φ.more (φ.S o)) (uy o b e) v:=by
 cases e with
 |ref p cut=>
  obtain⟨b',h1,h2⟩:=h;simp only[uy]
  cases hd:Nat.beq p o with
  |true=>
   have:=cw hd;subst this;rw[hb] at h1;cases h1;refine And.intro (fun d hm=>by cases hm) (And.intro ?_ (fun _ _ _ hl=>by cases hl));exact(hO.cut h2).freeze (fun k hk=> .inl (.inl hk)) fun _ k hk=> .inl (.inr hk)
  |false=>
   have:=gE hd;exact⟨b',by rw[jT this];exact h1,h2⟩
 |snap ds loc z rows=>
  obtain⟨h1,h2,h3⟩:=h;refine⟨fun d hm=> ?_,h2.fh fun k hk=>BT hk,fun p i f hl=> ?_⟩
  ·obtain⟨a1,a2⟩:=lZ.1 hm
   exact(h1 d a1).imp id fun h=>eK.2 ⟨a2,h⟩
  ·obtain⟨a1,a2⟩:=DU hl
   obtain⟨a3,b',a4,a5⟩:=h3 p i f a1;exact⟨lZ.2 ⟨a3,a2⟩,b',by rw[jT a2];exact a4,a5⟩
 |_=>exact h
theorem aQ.freeze {o:Nat} {ob:List (Nat×OB)} {e:TE} {v:Value} (hv: ∀t es,e≠ .v t es) (h:aQ ob w φ e v):aQ (fT o ob) w (φ.more (φ.S o)) (yH o e) v:=by
 cases e with
 |v t es=>exact absurd rfl (hv t es)
 |ep ds cells=>
  obtain⟨h1,ad,h2,hr,h3⟩:=h;refine⟨fun d hm=> ?_,ad,h2,fun hc=>BT (hr hc),fun j tc hj=> ?_⟩
  ·obtain⟨a1,a2⟩:=lZ.1 hm
   exact(h1 d a1).imp id fun h=>eK.2 ⟨a2,h⟩
  ·obtain⟨u,h4,h5⟩:=h3 j tc hj
   exact⟨u,h4,h5.fh fun k hk=>BT hk⟩
 |er p path i f=>
  simp only[yH]
  cases hd:Nat.beq p o with
  |true=>trivial
  |false=>
   obtain⟨b,h1,h2⟩:=h;exact⟨b,by rw[jT (gE hd)];exact h1,h2⟩
 |_=>exact h
theorem ak.kJ (h:ak F A w0 φ st tm w) (o:Nat): ∃φ',ak F A w0 φ' (kJ st o) tm w∧φ'.β=φ.β∧φ'.V=φ.V∧φ'.S=φ.S∧ ∀k,φ'.I k↔φ.I k∨(aj st.ob o∧φ.S o k):=by
 unfold T.kJ
 cases hb:aa o st.ob with
 |none=>exact⟨φ,h,rfl,rfl,rfl,fun k=>⟨.inl,fun hk=>hk.elim id fun⟨⟨b,hb'⟩,_⟩=>by rw[hb] at hb';cases hb'⟩⟩
 |some b=>
  refine⟨φ.more (φ.S o),h.qi (φ':=φ.more (φ.S o)) (w':=w) rfl rfl (fun e v he=>he.freeze hb (h.obj o b hb)) (fun e v hv he=>he.freeze hv) (fun _ _ _ _ _=>rfl) (fun p b' hp=> ?_) ?_ h.frm,rfl,rfl,rfl,fun k=>⟨fun hk=>hk.imp id fun hk=>⟨⟨b,hb⟩,hk⟩,fun hk=>hk.imp id fun hk=>hk.2⟩⟩
  ·rw[cD] at hp
   split at hp
   ·cases hp
   ·exact(h.obj p b' hp).fh fun k hk=> .inl hk
  ·have hs:=(h.sep.boxes (cr (uy o b))).sub (oU:=fT o st.ob) fun d hd=>(eK.1 hd).2
   have hin:aj st.ob o:=⟨b,hb⟩
   exact {
    arg:=hs.arg,nz:=hs.nz,apart:=hs.apart,fresh:=hs.fresh,ez:=hs.ez,spot:=hs.spot,soft:=hs.soft
    read:=fun p k hp hk hI=>by
     obtain⟨a1,a2⟩:=eK.1 hp;rcases hI with hI|hI
     ·exact h.sep.read p k a2 hk hI
     ·exact a1 (h.sep.apart p o k a2 hin hk hI)
    ro:=fun k hk=>hk.elim (h.sep.ro k) fun hk=>⟨(h.sep.fresh o k hin hk).1,(h.sep.fresh o k hin hk).2.imp id .inl⟩
    box:=fun b' cs hb' hw=>by
     obtain⟨a1,a2,a3,a4⟩:=hs.box b' cs hb' hw;obtain⟨cs0,c1,_⟩:=cr _ b' cs hb'
     exact⟨fun hI=>hI.elim a1 ((h.sep.box b' cs0 c1 hw).2.1 o hin),a2,a3,a4⟩}
theorem ak.iZ (h:ak F A w0 φ st tm w) {o:Nat} {b b':OB} {X:Nat→Prop} (hb:aa o st.ob=some b) (hz:b'.z=b.z) (hl:b'.rows.length=b.rows.length)
 (hc:ah w' φ.I b'.m X (.sub b'.z b'.rows) (φ.V o)) (hf:CX F w0 w') (hsz:w.heap.size≤w'.heap.size) (hw: ∀k,k<w.heap.size→ ¬φ.S o k→w'.heap[k]?=w.heap[k]?)
 (hX: ∀k,X k→k<w'.heap.size∧(w0.heap.size≤k∨F k)) (hI: ∀k,X k→ ¬φ.I k) (hS: ∀k d,X k→d≠o→aj st.ob d→ ¬φ.S d k)
 (hB: ∀b cs,aa b st.bx=some cs→lS b=true→ ¬X (φ.β b).block):ak F A w0 (φ.add o X (φ.V o)) (iZ o b' st) tm w':=by
 have hin:aj st.ob o:=⟨b,hb⟩;have h0:o≠0:=h.sep.nz o hin
 have hV:(φ.add o X (φ.V o)).V=φ.V:=by
  funext d
  show(if d=o then φ.V o else φ.V d)=φ.V d
  split
  ·subst_vars;rfl
  ·rfl
 have fI: ∀d,aj (eN o b' st.ob) d↔aj st.ob d:=fun d=>by
  rw[cN];exact⟨fun h=>h.elim (fun e=>e▸hin) id,.inr⟩
 have stI: ∀k,φ.I k→w'.heap[k]?=w.heap[k]?:=fun k hk=>hw k (h.sep.ro k hk).1 fun hs=>h.sep.read o k hin hs hk
 have stS: ∀d k,d≠o→d=0∨aj st.ob d→φ.S d k→w'.heap[k]?=w.heap[k]?:=fun d k hne hd hk=>hw k (h.sep.lt h.frm.size hd hk) fun hs=>by
  rcases hd with rfl|hd
  ·rw[h.sep.arg] at hk
   have:=h.sep.ez k hk;rcases (h.sep.fresh o k hin hs).2 with h3|h3
   ·omega
   ·exact this.2 h3
  ·exact hne (h.sep.apart d o k hd hin hk hs)
 have stR: ∀ds k,o∉ds→(∀d∈ds,d=0∨aj st.ob d)→rd φ ds k→rd (φ.add o X (φ.V o)) ds k∧w'.heap[k]?=w.heap[k]?:=fun ds k hn hd hk=>by
  refine⟨yS hn hk,?_⟩;rcases hk with hk|⟨d,hm,hk⟩
  ·exact stI k hk
  ·exact stS d k (fun e=>by subst e;exact hn hm) (hd d hm) hk
 have stV: ∀p b1 ad n c i f tc u,p≠o→aa p st.ob=some b1→φ.V p= .slice (some ad) n c→kO b1.rows i f=some tc→w.cell? (ad.add (i*b1.z+f))=some u→w'.cell? (ad.add (i*b1.z+f))=some u:=by
  intro p b1 ad n c i f tc u hne hp hv ht hcell;have hO:=h.obj p b1 hp;unfold eE at hO;rw[hv] at hO
  have hS:φ.S p ad.block:=by
   cases hO with
   |sub _ _ _ _ _ _ u T k hn=>exact(k.own (by unfold OB.m;split<;>simp)).2 ad rfl|>.1
  rw[bT (w:=w)]
  ·exact hcell
  ·rw[aK];exact stS p _ hne (.inr ⟨b1,hp⟩) hS
 have cbox: ∀p cs,aa p st.bx=some cs→w'.heap[(φ.β p).block]?=w.heap[(φ.β p).block]?:=fun p cs hp=>by
  obtain⟨a1,a2,a3⟩:=h.sep.spot p cs hp;refine hw _ a2 fun hs=> ?_
  cases pM:lS p with
  |true=>exact(h.sep.box p cs hp pM).2.1 o hin hs
  |false=>
   have:=h.sep.ez _ (a3 pM);rcases (h.sep.fresh o _ hin hs).2 with h3|h3
   ·omega
   ·exact this.2 h3
 refine h.qi (φ':=φ.add o X (φ.V o)) rfl rfl (fun e v he=> ?_) (fun e v hv he=> ?_) (fun p cs hp j hj=> ?_) (fun p b1 hp=> ?_) ?_ hf
 ·cases e with
  |ref p cut=>
   obtain⟨b1,h1,h2⟩:=he
   by_cases hp:p=o
   ·subst hp
    rw[hb] at h1;cases h1;refine⟨b',dJ,?_⟩;rw[hV]
    cases cut with
    |none=>exact h2
    |some q=>obtain⟨l,r⟩:=q;simp only at h2 ⊢;rw[hz,hl];exact h2
   ·exact⟨b1,by rw[dA hp];exact h1,by rw[hV];exact h2⟩
  |snap ds loc z rows=>
   simp only[BK]
   cases hd:dx o ds with
   |true=>trivial
   |false=>
    have hd:=bC.1 hd;obtain⟨h1,h2,h3⟩:=he;refine⟨fun d hm=>(h1 d hm).imp id (fI d).2,h2.move (fun k hk=>stR ds k hd h1 hk) (fun hm=>absurd rfl hm),fun p i f hl=> ?_⟩;obtain⟨a1,b1,a2,a3,a4,ad,n,c,a5,a6⟩:=h3 p i f hl
    have hp:p≠o:=fun e=>by subst e;exact hd a1
    refine⟨a1,b1,by rw[dA hp];exact a2,a3,a4,ad,n,c,by rw[hV];exact a5,stV p b1 ad n c _ _ _ _ hp a2 a5 a4 a6⟩
  |_=>exact he
 ·cases e with
  |v t es=>exact absurd rfl (hv t es)
  |ep ds cells=>
   simp only[yG]
   cases hd:dx o ds with
   |true=>trivial
   |false=>
    have hd:=bC.1 hd;obtain⟨h1,ad,h2,hr,h3⟩:=he;refine⟨fun d hm=>(h1 d hm).imp id (fI d).2,ad,h2,fun hc=>(stR ds _ hd h1 (hr hc)).1,fun j tc hj=> ?_⟩;obtain⟨u,h4,h5⟩:=h3 j tc hj
    have hc:cells≠[]:=fun e=>by rw[e] at hj;simp at hj
    exact⟨u,by rw[bT (w:=w) (by rw[aK];exact(stR ds _ hd h1 (hr hc)).2)];exact h4,h5.move (fun k hk=>stR ds k hd h1 hk) (fun hm=>absurd rfl hm)⟩
  |er p path i f=>
   obtain⟨b1,h1,h2,ad,n,c,h3,h4⟩:=he
   cases path with
   |none=>
    simp only[yG]
    by_cases hp:p=o
    ·subst hp
     rw[hb] at h1;cases h1;exact⟨b',dJ,h2,ad,n,c,by rw[hV];exact h3,by rw[hz];exact h4⟩
    ·exact⟨b1,by rw[dA hp];exact h1,h2,ad,n,c,by rw[hV];exact h3,h4⟩
   |some q=>
    obtain⟨i0,f0⟩:=q;simp only[yG]
    cases hd:Nat.beq p o with
    |true=>trivial
    |false=>
     have hp:=gE hd;obtain⟨a1,z1,fY,a2,ad1,n1,c1,a3,a4⟩:=h4;exact⟨b1,by rw[dA hp];exact h1,h2,ad,n,c,by rw[hV];exact h3,a1,z1,fY,a2,ad1,n1,c1,stV p b1 ad n c _ _ _ _ hp h1 h3 a2 a3,a4⟩
  |_=>exact he
 ·exact bT (by rw[aK];exact cbox p cs hp)
 ·unfold eE
  by_cases zQ:p=o
  ·subst zQ
   rw[dJ] at hp;cases hp;rw[hV];show ah w' φ.I b'.m (fun k=>if p=p then X k else φ.S p k) (.sub b'.z b'.rows) (φ.V p);simp only[if_true];exact hc
  ·rw[dA zQ] at hp
   rw[hV];show ah w' φ.I b1.m (fun k=>if p=o then X k else φ.S p k) (.sub b1.z b1.rows) (φ.V p);simp only[aH zQ];exact(h.obj p b1 hp).move (fun k hk=>⟨hk,stI k hk⟩) fun _ k hk=>stS p k zQ (.inr ⟨b1,hp⟩) hk
 ·have hs:=h.sep.boxes (cr (BK o))
  have self: ∀k,(φ.add o X (φ.V o)).S o k→X k:=fun k hk=>by
   have hk':(if o=o then X k else φ.S o k):=hk;simpa using hk'
  exact {
   arg:=by
    show(fun k=>if 0=o then X k else φ.S 0 k)=A.all;simp only[aH (Ne.symm h0)];exact h.sep.arg
   nz:=fun d hd=>h.sep.nz d ((fI d).1 hd)
   apart:=fun d d' k h1 h2 h3 h4=>by
    have i1:=(fI d).1 h1;have i2:=(fI d').1 h2
    by_cases e1:d=o
    ·subst e1
     by_cases e2:d'=d
     ·exact e2.symm
     ·rw[jg e2] at h4;exact absurd h4 (hS k d' (self k h3) e2 i2)
    ·rw[jg e1] at h3
     by_cases e2:d'=o
     ·subst e2;exact absurd h3 (hS k d (self k h4) e1 i1)
     ·rw[jg e2] at h4;exact h.sep.apart d d' k i1 i2 h3 h4
   read:=fun d k hd hk=>by
    have hd:=(fI d).1 hd
    by_cases e1:d=o
    ·subst e1;exact hI k (self k hk)
    ·rw[jg e1] at hk;exact h.sep.read d k hd hk
   fresh:=fun d k hd hk=>by
    have hd:=(fI d).1 hd
    by_cases e1:d=o
    ·subst e1;exact hX k (self k hk)
    ·rw[jg e1] at hk
     exact⟨cW (h.sep.fresh d k hd hk).1 hsz,(h.sep.fresh d k hd hk).2⟩
   ro:=fun k hk=>⟨cW (h.sep.ro k hk).1 hsz,(h.sep.ro k hk).2⟩
   ez:=h.sep.ez
   box:=fun p cs hp pM=>by
    obtain⟨cs0,c1,_⟩:=cr _ p cs hp;obtain⟨a1,a2,a3,a4⟩:=hs.box p cs hp pM;refine⟨a1,fun d hd hk=> ?_,a3,a4⟩;have hd:=(fI d).1 hd
    by_cases e1:d=o
    ·subst e1;exact hB p cs0 c1 pM (self _ hk)
    ·rw[jg e1] at hk;exact a2 d hd hk
   spot:=fun p cs hp=>⟨(hs.spot p cs hp).1,cW (hs.spot p cs hp).2.1 hsz,(hs.spot p cs hp).2.2⟩
   soft:=fun p cs j hp pM hj=>by
    obtain⟨cs0,c1,c2⟩:=cr _ p cs hp;rw[dz (w:=w) (by rw[aK];exact cbox p cs0 c1)]
    exact h.sep.soft p cs0 j c1 pM aA}
end Go.T
namespace Go.T
variable {F : Nat → Prop} {A : Arg} {w0 w w' : World} {φ φ' : Fp} {st st' : TS} {tm qc : Array Value}
theorem ak.less (h:ak F A w0 φ st tm w) (ht: ∀i,st'.get i= .dead∨st'.get i=st.get i) (hb: ∀b cs,aa b st'.bx=some cs→aa b st.bx=some cs) (ho:st'.ob=st.ob):ak F A w0 φ st' tm w where
 tmp i:=by
  rw[ho];rcases ht i with h1|h1
  ·rw[h1];trivial
  ·rw[h1];exact h.tmp i
 box b cs h1:=by rw[ho];exact h.box b cs (hb b cs h1)
 obj:=by rw[ho];exact h.obj
 sep:=by rw[ho];exact h.sep.boxes fun b cs h1=>⟨cs,hb b cs h1,rfl⟩
 frm:=h.frm
theorem Ak (st:TS) (l:List Nat) (bx:List (Nat×List CE)) (ob:List (Nat×OB)) (i:Nat):(⟨nJ l st.tm,bx,ob⟩:TS).get i= .dead∨(⟨nJ l st.tm,bx,ob⟩:TS).get i=st.get i:=by
 unfold TS.get;simp only[uY]
 by_cases h:i∈l
 ·right;rw[aT h]
 ·left;rw[aH h]
theorem ak.keep (h:ak F A w0 φ st tm w) (l:List Nat):ak F A w0 φ ⟨nJ l st.tm,st.bx,st.ob⟩ tm w:=
 h.less (Ak st l st.bx st.ob) (fun _ _ h=>h) rfl
theorem u0 (l:List Nat) (j:Nat): ∀(m:List (Nat×List CE)) (cs:List CE),aa j (kN l m)=some cs→aa j m=some cs
 |[],cs,h=>by simp[kN,aa] at h
 |(a,x)::r,cs,h=>by
  have ih:=u0 l j r cs
  have key:aa j ((a,x)::kN l r)=some cs→aa j ((a,x)::r)=some cs:=fun h=>by
   simp only[aa] at h ⊢
   cases h1:Nat.beq a j with
   |true=>rw[h1] at h;exact h
   |false=>rw[h1] at h;exact ih h
  have skip:(100000≤a→False)→a∉l→aa j (kN l r)=some cs→aa j ((a,x)::r)=some cs:=fun h1 h2 h=>by
   simp only[aa]
   cases h3:Nat.beq a j with
   |false=>exact ih h
   |true=>
    exfalso
    have h3:=cw h3;subst h3
    have: ∀(m:List (Nat×List CE)),aa a (kN l m)=none:=by
     intro m
     induction m with
     |nil=>rfl
     |cons p r ih=>
      obtain⟨c,y⟩:=p;simp only[kN]
      have hk: ∀(hc:c≠a),aa a ((c,y)::kN l r)=none:=fun hc=>by
       simp only[aa,beq_false hc];exact ih
      split
      ·rename_i h4
       exact hk fun e=>h1 (by subst e;exact gD h4)
      ·split
       ·rename_i h5
        exact hk fun e=>h2 (by subst e;exact c8.1 h5)
       ·exact ih
    rw[this] at h;cases h
  simp only[kN] at h
  split at h
  ·exact key h
  ·rename_i h4
   split at h
   ·exact key h
   ·rename_i h5
    exact skip (fun h6=>by rw[uN h6] at h4;cases h4) (bC.1 h5) h
theorem ak.KU (h:ak F A w0 φ st tm w) (l:List Nat):ak F A w0 φ ⟨nJ l st.tm,kN l st.bx,st.ob⟩ tm w:=
 h.less (Ak st l (kN l st.bx) st.ob) (fun b cs hb=>u0 l b st.bx cs hb) rfl
theorem DV {b:Nat} {ob:List (Nat×OB)} {β:Nat→Addr} (hβ: ∀c,c≠b→β c=φ.β c) {e:TE} {v:Value} (hn:uS b e=false) (h:aQ ob w φ e v):aQ ob w {φ with β:=β} e v:=by
 have IX: ∀(c:fR) (u:Value),Iz b c=false→dQ ob w φ c u→dQ ob w {φ with β:=β} c u:=by
  intro c u hc h
  cases c with
  |ptr c=>
   simp only[dQ] at h ⊢;rw[hβ c (gE hc)];exact h
  |mk a cs=>cases a<;>exact h
 cases e with
 |v t es=>
  simp only[uS,List.any_eq_false] at hn
  cases t with
  |true=>
   obtain⟨vs,h1,h2,h3⟩:=h;refine⟨vs,h1,h2,fun k c hk=> ?_⟩;obtain⟨u,h4,h5⟩:=h3 k c hk;exact⟨u,h4,IX c u (by simpa using hn c (c6 hk)) h5⟩
  |false=>
   obtain⟨c,rfl,h3⟩:=h;exact⟨c,rfl,IX c v (by simpa using hn c cY) h3⟩
 |bp c off=>
  simp only[aQ] at h ⊢;rw[hβ c (gE hn)];exact h
 |fn f caps=>
  simp only[aQ] at h ⊢;rw[h];have hn:=bC.1 hn
  congr 2
  refine List.map_congr_left fun c hc=> ?_;rw[hβ c fun e=>by subst e;exact hn hc]
 |_=>exact h
theorem xF (b:Nat) (st:TS) (i:Nat):(xA b st).get i=if uS b (st.get i)=true then .dead else st.get i:=by
 unfold TS.get xA;simp only[ic]
 cases aa i st.tm with
 |none=>simp
 |some e=>
  simp only[dO]
  cases uS b e<;>simp
theorem ak.xA (h:ak F A w0 φ st tm w) (b:Nat):ak F A w0 φ (xA b st) tm w:=by
 refine h.less (fun i=> ?_) (fun c cs hc=> ?_) rfl
 ·rw[xF];split<;>simp
 ·have:aa c (fT b st.bx)=some cs:=hc
  rw[cD] at this
  split at this
  ·cases this
  ·exact this
def Fp.box (φ:Fp) (b:Nat) (ad:Addr):Fp:={φ with β:=fun c=>if c=b then ad else φ.β c}
theorem jU {b:Nat} {ad:Addr}:(φ.box b ad).β b=ad:=aT rfl
theorem eP {b c:Nat} {ad:Addr} (h:c≠b):(φ.box b ad).β c=φ.β c:=aH h
theorem ak.r9 (h:ak F A w0 φ st tm w) {b:Nat} {cs:List CE} {ad:Addr} (hw:lS b=true) (hs:ad.spot=none) (hlt:ad.block<w.heap.size) (hS: ∀o,aj st.ob o→ ¬φ.S o ad.block)
 (hI: ¬φ.I ad.block) (hF:w0.heap.size≤ad.block∨F ad.block) (hB: ∀b' cs',aa b' st.bx=some cs'→b'≠b→(φ.β b').block≠ad.block)
 (hc: ∀(j:Nat) (e:CE),cs[j]?=some e→ ∃v,w.cell? (ad.add j)=some v∧v.cells= #[v]∧aW st.ob w φ e v) (hf: ∀j,j<cs.length→w.frozen? (ad.add j)=false):ak F A w0 (φ.box b ad) (r9 b cs st) tm w:=by
 have kj: ∀c,aa c (T.r9 b cs st).bx=if c=b then some cs else aa c st.bx:=fun c=>by
  show aa c (eN b cs (fT b st.bx))=_;rw[bP,cD]
  by_cases hc:c=b<;>simp[hc]
 refine⟨fun i=> ?_,fun c cs' ko j e he=> ?_,h.obj,?_,h.frm⟩
 ·show aQ st.ob w (φ.box b ad) ((T.xA b st).get i) (tm.getD i undef)
  rw[xF]
  split
  ·trivial
  ·rename_i hn
   exact DV (fun c hc=>eP hc) (by simpa using hn) (h.tmp i)
 ·rw[kj] at ko
  by_cases hcb:c=b
  ·subst hcb
   rw[aT rfl] at ko;cases ko;rw[jU];exact hc j e he
  ·rw[aH hcb] at ko
   rw[eP hcb];exact h.box c cs' ko j e he
 ·exact {
   arg:=h.sep.arg,nz:=h.sep.nz,apart:=h.sep.apart,read:=h.sep.read,fresh:=h.sep.fresh,ro:=h.sep.ro,ez:=h.sep.ez
   box:=fun c cs' ko Ih=>by
    rw[kj] at ko
    by_cases hcb:c=b
    ·subst hcb
     rw[jU];refine⟨hI,hS,hF,fun b' zP hb' hne=> ?_⟩;rw[kj,aH hne] at hb';rw[eP hne];exact hB b' zP hb' hne
    ·rw[aH hcb] at ko
     rw[eP hcb];obtain⟨a1,a2,a3,a4⟩:=h.sep.box c cs' ko Ih;refine⟨a1,a2,a3,fun b' zP hb' hne=> ?_⟩;rw[kj] at hb'
     by_cases hb2:b'=b
     ·subst hb2
      rw[jU];exact fun e=>hB c cs' ko hcb e.symm
     ·rw[aH hb2] at hb'
      rw[eP hb2];exact a4 b' zP hb' hne
   spot:=fun c cs' ko=>by
    rw[kj] at ko
    by_cases hcb:c=b
    ·subst hcb
     rw[jU];exact⟨fun _=>hs,hlt,fun e=>by rw[hw] at e;cases e⟩
    ·rw[aH hcb] at ko
     rw[eP hcb];exact h.sep.spot c cs' ko
   soft:=fun c cs' j ko Ih hj=>by
    rw[kj] at ko
    by_cases hcb:c=b
    ·subst hcb
     rw[aT rfl] at ko;cases ko;rw[jU];exact hf j hj
    ·rw[aH hcb] at ko
     rw[eP hcb];exact h.sep.soft c cs' j ko Ih hj}
theorem ak.r8 (h:ak F A w0 φ st tm w) {b:Nat} {cs old:List CE} (hb:aa b st.bx=some old) (pM:lS b=true) (hl:cs.length=old.length) (hf:CX F w0 w') (hsz:w.heap.size≤w'.heap.size)
 (hw: ∀k,k<w.heap.size→k≠(φ.β b).block→w'.heap[k]?=w.heap[k]?) (hfz: ∀j,j<cs.length→w'.frozen? ((φ.β b).add j)=false)
 (hc: ∀(j:Nat) (e:CE),cs[j]?=some e→ ∃v,w'.cell? ((φ.β b).add j)=some v∧v.cells= #[v]∧aW st.ob w φ e v):ak F A w0 φ (st.r8 b cs) tm w':=by
 obtain⟨b1,b2,b3,b4⟩:=h.sep.box b old hb pM;have stI: ∀k,φ.I k→w'.heap[k]?=w.heap[k]?:=fun k hk=>hw k (h.sep.ro k hk).1 fun e=>b1 (e▸hk)
 have nA: ∀k,A.all k→k≠(φ.β b).block:=fun k hk e=>by
  subst e;have:=h.sep.ez _ hk;rcases b3 with b3|b3
  ·omega
  ·exact this.2 b3
 have stS: ∀d k,d=0∨aj st.ob d→φ.S d k→w'.heap[k]?=w.heap[k]?:=fun d k hd hk=>hw k (h.sep.lt h.frm.size hd hk) fun e=>by
  subst e;rcases hd with rfl|hd
  ·rw[h.sep.arg] at hk;exact nA _ hk rfl
  ·exact b2 d hd hk
 have own: ∀o ad n c,aj st.ob o→φ.V o= .slice (some ad) n c→φ.S o ad.block:=fun o ad n c ⟨bo,ho⟩ hv=>by
  have hO:=h.obj o bo ho;unfold eE at hO;rw[hv] at hO
  cases hO with
  |sub _ _ _ _ _ _ u T k hn=>exact(k.own (by unfold OB.m;split<;>simp)).2 ad rfl|>.1
 have hV: ∀o,aj st.ob o→ ∀ad n c,φ.V o= .slice (some ad) n c→ ∀i v,w.cell? (ad.add i)=some v→w'.cell? (ad.add i)=some v:=fun o ho ad n c hv i v hcell=>by
  rw[bT (w:=w)]
  ·exact hcell
  ·rw[aK];exact stS o _ (.inr ho) (own o ad n c ho hv)
 have Nx: ∀e v,aW st.ob w φ e v→aW st.ob w' φ e v:=fun e v he=>he.stay stI stS hV
 have hE: ∀ds cells v,aQ st.ob w φ (.ep ds cells) v→aQ st.ob w' φ (.ep ds cells) v:=by
  intro ds cells v ⟨h1,ad,h2,hr,h3⟩;refine⟨h1,ad,h2,hr,fun j tc hj=> ?_⟩;obtain⟨u,h4,h5⟩:=h3 j tc hj
  have PA:cells≠[]:=fun e=>by rw[e] at hj;simp at hj
  have stR: ∀k,rd φ ds k→w'.heap[k]?=w.heap[k]?:=fun k hk=>by
   rcases hk with hk|⟨d,hm,hk⟩
   ·exact stI k hk
   ·exact stS d k (h1 d hm) hk
  exact⟨u,by rw[bT (w:=w) (by rw[aK];exact stR _ (hr PA))];exact h4,h5.move (fun k hk=>⟨hk,stR k hk⟩) (fun hm=>absurd rfl hm)⟩
 have hT: ∀e v,aQ st.ob w φ e v→aQ st.ob w' φ e v:=fun e v he=>by
  have:=aQ.qi (f:=id) (g:=id) rfl Nx (fun e v hv he=>aQ.stay stI stS hV (fun ad v hc hk=>by rw[bT (w:=w) (hk _ rfl)];exact hc) hE hv he) he
  have hid:lz id id e=e:=by
   have h1:=congrArg TS.tm (jS ⟨[(0,e)],[],[]⟩);simpa [kH,mapA] using h1
  rw[hid] at this;exact this
 have kj: ∀c,aa c (st.r8 b cs).bx=if c=b then some cs else aa c st.bx:=fun c=>bP _ _ _ _
 have obox: ∀c cs',aa c st.bx=some cs'→c≠b→w'.heap[(φ.β c).block]?=w.heap[(φ.β c).block]?:=fun c cs' ko hne=>hw _ (h.sep.spot c cs' ko).2.1 (b4 c cs' ko hne);refine⟨fun i=>hT _ _ (h.tmp i),fun c cs' ko j e he=> ?_,fun o bo ho=> ?_,?_,hf⟩
 ·rw[kj] at ko
  by_cases hcb:c=b
  ·subst hcb
   rw[aT rfl] at ko;cases ko;obtain⟨v,h1,h3,h2⟩:=hc j e he;exact⟨v,h1,h3,Nx _ _ h2⟩
  ·rw[aH hcb] at ko
   obtain⟨v,h1,h3,h2⟩:=h.box c cs' ko j e he;exact⟨v,by rw[bT (w:=w) (by rw[aK];exact obox c cs' ko hcb)];exact h1,h3,Nx _ _ h2⟩
 ·exact(h.obj o bo ho).move (fun k hk=>⟨hk,stI k hk⟩) fun _ k hk=>stS o k (.inr ⟨bo,ho⟩) hk
 ·have len: ∀c cs',aa c (st.r8 b cs).bx=some cs'→ ∃cs0,aa c st.bx=some cs0∧cs'.length=cs0.length:=fun c cs' ko=>by
   rw[kj] at ko
   by_cases hcb:c=b
   ·subst hcb
    rw[aT rfl] at ko;cases ko;exact⟨old,hb,hl⟩
   ·rw[aH hcb] at ko;exact⟨cs',ko,rfl⟩
  have hs:=h.sep.boxes len
  exact {
   arg:=hs.arg,nz:=hs.nz,apart:=hs.apart,read:=hs.read,ez:=hs.ez,box:=hs.box
   fresh:=fun o k ho hk=>⟨cW (hs.fresh o k ho hk).1 hsz,(hs.fresh o k ho hk).2⟩
   ro:=fun k hk=>⟨cW (hs.ro k hk).1 hsz,(hs.ro k hk).2⟩
   spot:=fun c cs' ko=>⟨(hs.spot c cs' ko).1,cW (hs.spot c cs' ko).2.1 hsz,(hs.spot c cs' ko).2.2⟩
   soft:=fun c cs' j ko Ih hj=>by
    obtain⟨cs0,c1,c2⟩:=len c cs' ko
    by_cases hcb:c=b
    ·subst hcb
     rw[kj,aT rfl] at ko;cases ko;exact hfz j hj
    ·rw[dz (w:=w) (by rw[aK];exact obox c cs0 c1 hcb)]
     exact h.sep.soft c cs0 j c1 Ih aA}
end Go.T
namespace Go.T
variable {F : Nat → Prop} {A : Arg} {w0 w w' : World} {φ φ' : Fp} {st st' : TS} {tm qc : Array Value}
structure Ext (ob oU:List (Nat×OB)) (φ φ':Fp):Prop where
 look: ∀d b,aa d ob=some b→aa d oU=some b
 I:φ'.I=φ.I
 β:φ'.β=φ.β
 S: ∀d,d=0∨aj ob d→φ'.S d=φ.S d
 V: ∀d,aj ob d→φ'.V d=φ.V d
section
variable {ob oU : List (Nat × OB)}
theorem Ext.dom (x:Ext ob oU φ φ') {d:Nat} (h:aj ob d):aj oU d:=let ⟨b,h⟩:=h;⟨b,x.look d b h⟩
theorem Ext.rd (x:Ext ob oU φ φ') {ds:List Nat} (hd: ∀d∈ds,d=0∨aj ob d) {k:Nat} (h:T.rd φ ds k):T.rd φ' ds k:=by
 rcases h with h|⟨d,hm,h⟩
 ·exact .inl (by rw[x.I];exact h)
 ·exact .inr ⟨d,hm,by rw[x.S d (hd d hm)];exact h⟩
theorem aW.ext (x:Ext ob oU φ φ') {e:CE} {v:Value} (h:aW ob w φ e v):aW oU w φ' e v:=by
 cases e with
 |ref o cut=>
  obtain⟨b,h1,h2⟩:=h;exact⟨b,x.look o b h1,by rw[x.V o ⟨b,h1⟩];exact h2⟩
 |snap ds loc z rows=>
  obtain⟨h1,h2,h3⟩:=h;refine⟨fun d hm=>(h1 d hm).imp id x.dom,h2.fh fun k hk=>x.rd h1 hk,fun o i f hl=> ?_⟩;obtain⟨a1,b,a2,a3,a4,ad,n,c,a5,a6⟩:=h3 o i f hl;exact⟨a1,b,x.look o b a2,a3,a4,ad,n,c,by rw[x.V o ⟨b,a2⟩];exact a5,a6⟩
 |_=>exact h
theorem dQ.ext (x:Ext ob oU φ φ') {c:fR} {v:Value} (h:dQ ob w φ c v):dQ oU w φ' c v:=by
 cases c with
 |ptr b=>simp only[dQ] at h ⊢;rw[x.β];exact h
 |mk a cs=>
  cases a with
  |true=>obtain⟨xs,h1,h2,h3⟩:=h;exact⟨xs,h1,h2,fun j e he=>let ⟨y,h4,h6,h5⟩:=h3 j e he;⟨y,h4,h6,h5.ext x⟩⟩
  |false=>obtain⟨e,h1,h2,h3⟩:=h;exact⟨e,h1,h2,h3.ext x⟩
theorem aQ.ext (x:Ext ob oU φ φ') {e:TE} {v:Value} (h:aQ ob w φ e v):aQ oU w φ' e v:=by
 cases e with
 |v t es=>
  cases t with
  |true=>obtain⟨vs,h1,h2,h3⟩:=h;exact⟨vs,h1,h2,fun j e he=>let ⟨y,h4,h5⟩:=h3 j e he;⟨y,h4,h5.ext x⟩⟩
  |false=>obtain⟨c,h1,h2⟩:=h;exact⟨c,h1,h2.ext x⟩
 |ep ds cells=>
  obtain⟨h1,ad,h2,hr,h3⟩:=h;refine⟨fun d hm=>(h1 d hm).imp id x.dom,ad,h2,fun hc=>x.rd h1 (hr hc),fun j tc hj=> ?_⟩;obtain⟨u,h4,h5⟩:=h3 j tc hj;exact⟨u,h4,h5.fh fun k hk=>x.rd h1 hk⟩
 |er o path i f=>
  obtain⟨b,h1,h2,ad,n,c,h3,h4⟩:=h;exact⟨b,x.look o b h1,h2,ad,n,c,by rw[x.V o ⟨b,h1⟩];exact h3,h4⟩
 |bp b off=>simp only[aQ] at h ⊢;rw[x.β];exact h
 |fn f caps=>simp only[aQ] at h ⊢;rw[x.β];exact h
 |_=>exact h
end
def zV:Nat→Nat→List (Nat×OB)→Prop
 |n,m,[]=>n≤m
 |n,m,(i,b)::r=>n≤i∧(b.deep=true∧b.rows=[]∧0<b.z)∧zV (i+1) m r
theorem zV.le: ∀{n m:Nat} {l:List (Nat×OB)},zV n m l→n≤m
 |_,_,[],h=>h
 |_,_,(i,b)::r,h=>by have:=zV.le h.2.2;have:=h.1;omega
theorem zV.down {n n' m:Nat} {l:List (Nat×OB)} (h:zV n m l) (hn:n'≤n):zV n' m l:=by
 cases l with
 |nil=>exact aB hn h
 |cons p r=>obtain⟨i,b⟩:=p;exact⟨aB hn h.1,h.2⟩
theorem zV.app: ∀{n m k:Nat} {l l':List (Nat×OB)},zV n m l→zV m k l'→zV n k (l++l')
 |_,_,_,[],_,h,h'=>h'.down h
 |_,_,_,(i,b)::r,_,h,h'=>⟨h.1,h.2.1,h.2.2.app h'⟩
theorem zV.mem: ∀{n m:Nat} {l:List (Nat×OB)} {i:Nat} {b:OB},zV n m l→(i,b)∈l→n≤i∧i<m∧b.deep=true∧b.rows=[]∧0<b.z
 |n,m,(j,b')::r,i,b,h,hm=>by
  rcases bg.1 hm with e|hm
  ·cases e
   have:=h.2.2.le;exact⟨h.1,by omega,h.2.1⟩
  ·obtain⟨h1,h2,h3⟩:=h.2.2.mem hm
   exact⟨by have:=h.1;omega,h2,h3⟩
theorem tG: ∀{n m:Nat} {l:List (Nat×OB)} {ob:List (Nat×OB)},zV n m l→(∀i b,(i,b)∈l→aa i (c7 l ob)=some b)∧ ∀d,d<n→aa d (c7 l ob)=aa d ob
 |_,_,[],ob,_=>⟨fun _ _ h=>(by cases h),fun _ _=>rfl⟩
 |n,m,(j,b')::r,ob,h=>by
  obtain⟨h1,h2⟩:=tG (ob:=ob) h.2.2;refine⟨fun i b hm=> ?_,fun d hd=> ?_⟩
  ·simp only[c7,bP]
   rcases bg.1 hm with e|hm
   ·cases e;rw[aT rfl]
   ·have:=(h.2.2.mem hm).1
    rw[aH aA];exact h1 i b hm
  ·have:=h.1
   simp only[c7,bP];rw[aH aA];exact h2 d aA
theorem qj: ∀{l:List (Nat×OB)} {ob:List (Nat×OB)} {d:Nat} {b:OB},aa d (c7 l ob)=some b→(d,b)∈l∨aa d ob=some b
 |[],_,_,_,h=> .inr h
 |(j,b')::r,ob,d,b,h=>by
  simp only[c7,bP] at h
  by_cases hd:d=j
  ·rw[aT hd] at h;cases h;subst hd;exact .inl (.head _)
  ·rw[aH hd] at h
   exact(qj h).imp (.tail _) id
def Jv:Value:= .slice none 0 0
def opened (N:Nat) (φ:Fp):Fp:={φ with S:=fun d k=>d<N∧φ.S d k,V:=fun d=>if d<N then φ.V d else Jv}
section
variable {ob oU : List (Nat × OB)} {N : Nat} (x : Ext ob oU φ (opened N φ))
include x
theorem qk: ∀(cs:List CE) (n:Nat),N≤n→zV n (ct n cs).2.1 (ct n cs).2.2∧(ct n cs).1.length=cs.length∧
 ((∀i b,(i,b)∈(ct n cs).2.2→aa i oU=some b)→ ∀(j:Nat) (e':CE),(ct n cs).1[j]?=some e'→ ∃e,cs[j]?=some e∧ ∀v,aW ob w φ e v→aW oU w (opened N φ) e' v)
 |[],n,hn=>⟨bu _,rfl,fun _ j e' h=>by simp[ct] at h⟩
 |e::r,n,hn=>by
  have keep: ∀(e:CE),(∀z,Nat.ble 1 z=true→e≠ .nil z)→ct n (e::r)=(e::(ct n r).1,(ct n r).2.1,(ct n r).2.2):=by
   intro e he
   cases e with
   |nil z=>
    simp only[ct]
    cases h:Nat.ble 1 z with
    |true=>exact absurd rfl (he z h)
    |false=>rfl
   |_=>rfl
  by_cases hz: ∃z,Nat.ble 1 z=true∧e= .nil z
  ·obtain⟨z,hz,rfl⟩:=hz
   have heq:ct n (.nil z::r)=(.ref n none::(ct (n+1) r).1,(ct (n+1) r).2.1,(n,⟨true,z,[]⟩)::(ct (n+1) r).2.2):=by simp only[ct,hz]
   rw[heq];obtain⟨h1,h2,h3⟩:=qk r (n+1) aA;refine⟨⟨bu _,⟨rfl,rfl,gD hz⟩,h1⟩,by simp[h2],fun hl j e' he=> ?_⟩
   cases j with
   |zero=>
    simp only[bG,aI] at he;subst he;refine⟨_,rfl,fun v hv=>⟨_,hl n _ (.head _),?_⟩⟩
    show v=if n<N then φ.V n else Jv
    rw[aH aA];exact hv.1
   |succ j=>
    simp only[g7] at he ⊢;exact h3 (fun i b hm=>hl i b (.tail _ hm)) j e' he
  ·rw[keep e fun z IY he=>hz ⟨z,IY,he⟩]
   obtain⟨h1,h2,h3⟩:=qk r n hn;refine⟨h1,by simp[h2],fun hl j e' he=> ?_⟩
   cases j with
   |zero=>
    simp only[bG,aI] at he;subst he;exact⟨_,rfl,fun v hv=>hv.ext x⟩
   |succ j=>
    simp only[g7] at he ⊢;exact h3 hl j e' he
theorem mW: ∀(cs:List fR) (n:Nat),N≤n→zV n (cj n cs).2.1 (cj n cs).2.2∧(cj n cs).1.length=cs.length∧
 ((∀i b,(i,b)∈(cj n cs).2.2→aa i oU=some b)→ ∀(j:Nat) (e':fR),(cj n cs).1[j]?=some e'→ ∃e,cs[j]?=some e∧ ∀v,dQ ob w φ e v→dQ oU w (opened N φ) e' v)
 |[],n,hn=>⟨bu _,rfl,fun _ j e' h=>by simp[cj] at h⟩
 | .ptr b::r,n,hn=>by
   obtain⟨h1,h2,h3⟩:=mW r n hn;refine⟨h1,by simp[cj,h2],fun hl j e' he=> ?_⟩
   cases j with
   |zero=>
    simp only[cj,bG,aI] at he;subst he;exact⟨_,rfl,fun v hv=>hv.ext x⟩
   |succ j=>
    simp only[cj,g7] at he ⊢;exact h3 hl j e' he
 | .mk a cs::r,n,hn=>by
   obtain⟨g1,g2,g3⟩:=qk (w:=w) x cs n hn;obtain⟨h1,h2,h3⟩:=mW r (ct n cs).2.1 (aB hn g1.le);refine⟨g1.app h1,by simp[cj,h2],fun hl j e' he=> ?_⟩
   cases j with
   |zero=>
    simp only[cj,bG,aI] at he;subst he;refine⟨_,rfl,fun v hv=> ?_⟩;have g4:=g3 fun i b hm=>hl i b (cM _ hm)
    cases a with
    |true=>
     obtain⟨xs,k1,k2,k3⟩:=hv;refine⟨xs,k1,by rw[g2];exact k2,fun j e' he=> ?_⟩;obtain⟨e,k4,k5⟩:=g4 j e' he;obtain⟨y,k6,k8,k7⟩:=k3 j e k4;exact⟨y,k6,k8,k5 y k7⟩
    |false=>
     obtain⟨e,rfl,k2,k3⟩:=hv;have hlen:(ct n [e]).1.length=1:=g2
     obtain⟨e',he'⟩: ∃e',(ct n [e]).1=[e']:=by
      cases hq:(ct n [e]).1 with
      |nil=>rw[hq] at hlen;cases hlen
      |cons y t=>cases t with
       |nil=>exact⟨y,rfl⟩
       |cons _ _=>rw[hq] at hlen;simp at hlen
     obtain⟨e0,k4,k5⟩:=g4 0 e' (by rw[he'];rfl);simp only[bG,aI] at k4;subst k4;exact⟨e',he',k2,k5 v k3⟩
   |succ j=>
    simp only[cj,g7] at he ⊢;exact h3 (fun i b hm=>hl i b (eW _ hm)) j e' he
theorem DW (e:TE) (n:Nat) (hn:N≤n):zV n (qh n e).2.1 (qh n e).2.2∧
 ((∀i b,(i,b)∈(qh n e).2.2→aa i oU=some b)→ ∀v,aQ ob w φ e v→aQ oU w (opened N φ) (qh n e).1 v):=by
 cases e with
 |v t es=>
  obtain⟨h1,h2,h3⟩:=mW (w:=w) x es n hn;refine⟨h1,fun hl v hv=> ?_⟩;have h4:=h3 hl;simp only[qh]
  cases t with
  |true=>
   obtain⟨vs,k1,k2,k3⟩:=hv;refine⟨vs,k1,by rw[h2];exact k2,fun j e' he=> ?_⟩;obtain⟨e,k4,k5⟩:=h4 j e' he;obtain⟨y,k6,k7⟩:=k3 j e k4;exact⟨y,k6,k5 y k7⟩
  |false=>
   obtain⟨c,rfl,k1⟩:=hv;have hlen:(cj n [c]).1.length=1:=h2
   obtain⟨e',he'⟩: ∃e',(cj n [c]).1=[e']:=by
    cases hq:(cj n [c]).1 with
    |nil=>rw[hq] at hlen;cases hlen
    |cons y t=>cases t with
     |nil=>exact⟨y,rfl⟩
     |cons _ _=>rw[hq] at hlen;simp at hlen
   obtain⟨e0,k4,k5⟩:=h4 0 e' (by rw[he'];rfl);simp only[bG,aI] at k4;subst k4;exact⟨e',he',k5 v k1⟩
 |kb b=>
  refine⟨bu _,fun _ v hv=> ?_⟩;simp only[aQ] at hv;subst hv;exact⟨_,rfl,_,rfl,rfl,rfl,trivial⟩
 |_=>exact⟨bu _,fun _ v hv=>hv.ext x⟩
theorem u5: ∀(l:List (Nat×TE)) (n:Nat),N≤n→(∃m,zV n m (lX n l).2)∧
 ((∀i b,(i,b)∈(lX n l).2→aa i oU=some b)→ ∀(i:Nat) (e':TE),aa i (lX n l).1=some e'→ ∃e,aa i l=some e∧ ∀v,aQ ob w φ e v→aQ oU w (opened N φ) e' v)
 |[],n,hn=>⟨⟨n,bu _⟩,fun _ i e' h=>by simp[lX,aa] at h⟩
 |(j,e)::r,n,hn=>by
  obtain⟨g1,g2⟩:=DW (w:=w) x e n hn;obtain⟨⟨m,h1⟩,h2⟩:=u5 r (qh n e).2.1 (aB hn g1.le);refine⟨⟨m,g1.app h1⟩,fun hl i e' he=> ?_⟩;simp only[lX,aa] at he ⊢
  cases hj:Nat.beq j i with
  |true=>
   rw[hj] at he;simp only[aI] at he;subst he;exact⟨e,rfl,g2 fun i b hm=>hl i b (cM _ hm)⟩
  |false=>
   rw[hj] at he;exact h2 (fun i b hm=>hl i b (eW _ hm)) i e' he
end
theorem Al {n:Nat}: ∀{ob:List (Nat×OB)},Ag n ob=true→ ∀o,aj ob o→o<n
 |[],_,o,⟨b,h⟩=>by cases h
 |(i,x)::r,ha,o,⟨b,h⟩=>by
  simp only[Ag] at ha
  cases h1:Nat.ble n i with
  |true=>rw[h1] at ha;cases ha
  |false=>
   rw[h1] at ha;simp only[aa] at h
   cases h2:Nat.beq i o with
   |true=>
    have:=cw h2;subst this
    exact Nat.lt_of_not_le fun h3=>by rw[uN h3] at h1;cases h1
   |false=>rw[h2] at h;exact Al ha o ⟨b,h⟩
theorem ak.Ah (h:ak F A w0 φ st tm w): ∃φ',ak F A w0 φ' (Ah st) tm w∧φ'.β=φ.β:=by
 unfold T.Ah
 cases ha:Ag 900000000 st.ob with
 |false=>exact⟨φ,h,rfl⟩
 |true=>
  have hlt:=Al ha
  have x1: ∀oU,(∀d b,aa d st.ob=some b→aa d oU=some b)→Ext st.ob oU φ (opened 900000000 φ):=fun oU hl=>
   ⟨hl,rfl,rfl,fun d hd=>by
     have:d<900000000:=hd.elim (fun e=>by omega) (hlt d)
     funext k
     simp[opened,this],fun d hd=>aT (hlt d hd)⟩
  obtain⟨⟨m,J0⟩,_⟩:=u5 (w:=w) (x1 st.ob fun _ _ h=>h) st.tm 900000000 (bu _);obtain⟨l1,l2⟩:=tG (ob:=st.ob) J0
  have x:Ext st.ob (c7 (lX 900000000 st.tm).2 st.ob) φ (opened 900000000 φ):=x1 _ fun d b hd=>by rw[l2 d (hlt d ⟨b,hd⟩)];exact hd
  obtain⟨_,hT⟩:=u5 (w:=w) x st.tm 900000000 (bu _);have hT:=hT l1
  have old: ∀d,aj (c7 (lX 900000000 st.tm).2 st.ob) d→(d<900000000∧aj st.ob d)∨900000000≤d:=fun d ⟨b,hd⟩=>by
   rcases qj hd with h1|h1
   ·exact .inr (J0.mem h1).1
   ·exact .inl ⟨hlt d ⟨b,h1⟩,b,h1⟩
  have oldS: ∀d k,aj (c7 (lX 900000000 st.tm).2 st.ob) d→(opened 900000000 φ).S d k→aj st.ob d∧φ.S d k:=fun d k hd hk=>by
   rcases old d hd with h1|h1
   ·exact⟨h1.2,hk.2⟩
   ·exact absurd hk.1 aA
  refine⟨opened 900000000 φ,⟨fun i=> ?_,fun b cs hb j e he=> ?_,fun o b ho=> ?_,?_,h.frm⟩,rfl⟩
  ·show aQ (c7 (lX 900000000 st.tm).2 st.ob) w (opened 900000000 φ) (match aa i (lX 900000000 st.tm).1 with|some e=>e|none=> .dead) (tm.getD i undef)
   cases hi:aa i (lX 900000000 st.tm).1 with
   |none=>trivial
   |some e'=>
    obtain⟨e,h1,h2⟩:=hT i e' hi;have:=h.tmp i;unfold TS.get at this;rw[h1] at this;exact h2 _ this
  ·obtain⟨v,h1,h3,h2⟩:=h.box b cs hb j e he
   exact⟨v,h1,h3,h2.ext x⟩
  ·unfold eE
   rcases qj ho with h1|h1
   ·obtain⟨a1,a2,a3,a4,a5⟩:=J0.mem h1
    obtain⟨bd,bz,br⟩:=b;simp only at a3 a4 a5;subst a3 a4;have hv:(opened 900000000 φ).V o=Jv:=aH aA;rw[hv]
    refine ah.sub _ _ bz [] none 0 (fun _ _=>default) (fun _ _ _=>False) ⟨bu _,aG _,a5,fun r hr=>(by cases hr),fun hr=>absurd rfl hr,fun _ ha=>(by cases ha),fun _ _ ha=>(by cases ha),
     fun _=>⟨fun _=>rfl,fun _ ha=>(by cases ha)⟩,fun _ _ _ ha=>(by cases ha),fun _ _ _ _ hk=>hk.elim⟩ fun i f tc ht=>absurd rfl (su ht)
   ·have hd:=hlt o ⟨b,h1⟩
    have:=h.obj o b h1;unfold eE at this;rw[x.V o ⟨b,h1⟩,x.S o (.inr ⟨b,h1⟩)];exact this
  ·exact {
    arg:=by rw[x.S 0 (.inl rfl)];exact h.sep.arg
    nz:=fun o ho e=>by
     rcases old o ho with h1|h1
     ·exact h.sep.nz o h1.2 e
     ·omega
    apart:=fun o o' k h1 h2 h3 h4=>h.sep.apart o o' k (oldS o k h1 h3).1 (oldS o' k h2 h4).1 (oldS o k h1 h3).2 (oldS o' k h2 h4).2
    read:=fun o k h1 h2=>h.sep.read o k (oldS o k h1 h2).1 (oldS o k h1 h2).2
    fresh:=fun o k h1 h2=>h.sep.fresh o k (oldS o k h1 h2).1 (oldS o k h1 h2).2
    ro:=h.sep.ro
    ez:=h.sep.ez
    box:=fun b cs hb hw=>by
     obtain⟨a1,a2,a3,a4⟩:=h.sep.box b cs hb hw;exact⟨a1,fun o ho hk=>a2 o (oldS o _ ho hk).1 (oldS o _ ho hk).2,a3,a4⟩
    spot:=h.sep.spot
    soft:=h.sep.soft}
end Go.T
namespace Go.T
variable {F : Nat → Prop} {A : Arg} {w0 w w' : World} {φ φ' : Fp} {st st' : TS} {tm qc : Array Value}
structure u6 (n:Nat) (ρ:List (Nat×Nat)):Prop where
 rng: ∀o m,(o,m)∈ρ→1≤m∧m<n∧o≠0
 apart:ρ.Pairwise fun a b=>a.1≠b.1∧a.2≠b.2
theorem cK {α:Type} {o:Nat} {m:α}: ∀{ρ:List (Nat×α)},aa o ρ=some m→(o,m)∈ρ
 |(a,x)::r,h=>by
  simp only[aa] at h
  cases h1:Nat.beq a o with
  |true=>
   rw[h1] at h
   cases h
   have:=cw h1;subst this;exact .head _
  |false=>rw[h1] at h;exact .tail _ (cK h)
theorem jb {α:Type} {o:Nat}: ∀{ρ:List (Nat×α)},aa o ρ=none→ ∀m,(o,m)∉ρ
 |[],_,_=>by simp
 |(a,x)::r,h,m=>by
  simp only[aa] at h
  cases h1:Nat.beq a o with
  |true=>rw[h1] at h;cases h
  |false=>
   rw[h1] at h;intro hm;rcases bg.1 hm with e|hm
   ·cases e;exact gE h1 rfl
   ·exact jb h m hm
theorem ov {n o m:Nat}: ∀{ρ:List (Nat×Nat)},(ρ.Pairwise fun a b=>a.1≠b.1∧a.2≠b.2)→(o,m)∈ρ→aa o ρ=some m
 |(a,x)::r,h,hm=>by
  simp only[aa];rw[List.pairwise_cons] at h;rcases bg.1 hm with e|hm
  ·cases e;rw[ot]
  ·have:=(h.1 _ hm).1
   rw[beq_false this];exact ov (n:=n) h.2 hm
theorem o7: ∀(l:List Nat) (n:Nat) (ρ:List (Nat×Nat)),1≤n→u6 n ρ→ ∃n',u6 n' (number l n ρ)∧(∀o m,aa o ρ=some m→aa o (number l n ρ)=some m)∧ ∀o∈l,o≠0→ ∃m,aa o (number l n ρ)=some m
 |[],n,ρ,_,h=>⟨n,h,fun _ _ h=>h,fun _ h=>by cases h⟩
 |o::r,n,ρ,hn,h=>by
  simp only[number]
  cases h0:Nat.beq o 0 with
  |true=>
   obtain⟨n',h1,h2,h3⟩:=o7 r n ρ hn h;refine⟨n',h1,h2,fun p hp Ku=> ?_⟩;rcases bg.1 hp with e|hp
   ·exact absurd (e.trans (cw h0)) Ku
   ·exact h3 p hp Ku
  |false=>
   have h0:=gE h0
   cases hl:aa o ρ with
   |some m=>
    obtain⟨n',h1,h2,h3⟩:=o7 r n ρ hn h;refine⟨n',h1,h2,fun p hp Ku=> ?_⟩;rcases bg.1 hp with e|hp
    ·subst e;exact⟨m,h2 _ _ hl⟩
    ·exact h3 p hp Ku
   |none=>
    have hk:u6 (n+1) ((o,n)::ρ):=by
     refine⟨fun p m hm=> ?_,List.pairwise_cons.2 ⟨fun a ha=>⟨fun e=> ?_,fun e=> ?_⟩,h.apart⟩⟩
     ·rcases bg.1 hm with e|hm
      ·cases e;exact⟨hn,by omega,h0⟩
      ·have:=h.rng p m hm;exact⟨this.1,by omega,this.2.2⟩
     ·obtain⟨a1,a2⟩:=a
      simp only at e;subst e;exact jb hl a2 ha
     ·obtain⟨a1,a2⟩:=a
      simp only at e;have:=(h.rng a1 a2 ha).2.1;omega
    obtain⟨n',h1,h2,h3⟩:=o7 r (n+1) ((o,n)::ρ) aA hk
    have PB:aa o ((o,n)::ρ)=some n:=by simp only[aa,ot]
    refine⟨n',h1,fun p m hp=>h2 p m ?_,fun p hp Ku=> ?_⟩
    ·simp only[aa]
     rw[beq_false fun e=>by subst e;rw[hl] at hp;cases hp];exact hp
    ·rcases bg.1 hp with e|hp
     ·subst e;exact⟨n,h2 _ _ PB⟩
     ·exact h3 p hp Ku
theorem IE {o o' m:Nat}: ∀{ρ:List (Nat×Nat)},(ρ.Pairwise fun a b=>a.1≠b.1∧a.2≠b.2)→(o,m)∈ρ→(o',m)∈ρ→o=o'
 |p::r,h,h1,h2=>by
  rw[List.pairwise_cons] at h;rcases bg.1 h1 with e1|h1
  ·rcases bg.1 h2 with e2|h2
   ·rw[←e1] at e2;cases e2;rfl
   ·exact absurd (by rw[←e1]) (h.1 _ h2).2
  ·rcases bg.1 h2 with e2|h2
   ·exact absurd (by rw[←e2]) (h.1 _ h1).2
   ·exact IE h.2 h1 h2
def inv (ρ:List (Nat×Nat)) (m:Nat):Nat:=match ρ.find? fun p=>Nat.beq p.2 m with|some p=>p.1|none=>0
theorem inv_eq {n o m:Nat} {ρ:List (Nat×Nat)} (h:u6 n ρ) (hl:aa o ρ=some m):inv ρ m=o:=by
 unfold inv;have hm:=cK hl
 cases hf:ρ.find? fun p=>Nat.beq p.2 m with
 |none=>
  have:=List.find?_eq_none.1 hf _ hm;simp at this
 |some p=>
  have h1:=List.mem_of_find?_eq_some hf;have h2:=List.find?_some hf;have h2:=cw h2;simp only;obtain⟨p1,p2⟩:=p;simp only at h2;subst h2;exact IE h.apart h1 hm
theorem inv_zero {n:Nat} {ρ:List (Nat×Nat)} (h:u6 n ρ):inv ρ 0=0:=by
 unfold inv
 cases hf:ρ.find? fun p=>Nat.beq p.2 0 with
 |none=>rfl
 |some p=>
  have h1:=List.mem_of_find?_eq_some hf;have h2:=List.find?_some hf;have h2:=cw h2;obtain⟨p1,p2⟩:=p;have:=(h.rng p1 p2 h1).1;simp only at h2;omega
theorem qS {o m:Nat} {ρ:List (Nat×Nat)} (hl:aa o ρ=some m):sk ρ o=m:=by unfold sk;rw[hl]
theorem xG {n:Nat} {ρ:List (Nat×Nat)} (h:u6 n ρ):sk ρ 0=0:=by
 unfold sk
 cases hl:aa 0 ρ with
 |none=>rfl
 |some m=>exact absurd rfl (h.rng 0 m (cK hl)).2.2
theorem qT {ob:List (Nat×OB)} {m:Nat} {b:OB}: ∀{ρ:List (Nat×Nat)},aa m (jf ob ρ)=some b→ ∃o,(o,m)∈ρ∧aa o ob=some b
 |(o,n)::r,h=>by
  simp only[jf] at h
  cases ho:aa o ob with
  |none=>
   rw[ho] at h;obtain⟨o',h1,h2⟩:=qT h;exact⟨o',.tail _ h1,h2⟩
  |some b'=>
   rw[ho] at h;simp only[bP] at h
   by_cases hm:m=n
   ·rw[aT hm] at h;cases h;subst hm;exact⟨o,.head _,ho⟩
   ·rw[aH hm] at h
    obtain⟨o',h1,h2⟩:=qT h;exact⟨o',.tail _ h1,h2⟩
theorem Am {ob:List (Nat×OB)} {o m:Nat} {b:OB} (ho:aa o ob=some b): ∀{ρ:List (Nat×Nat)},(ρ.Pairwise fun a b=>a.1≠b.1∧a.2≠b.2)→(o,m)∈ρ→aa m (jf ob ρ)=some b
 |(o',n)::r,h,hm=>by
  rw[List.pairwise_cons] at h;simp only[jf];rcases bg.1 hm with e|hm
  ·cases e
   rw[ho];simp only[bP,aT]
  ·have h1:=(h.1 _ hm).2
   have ih:=Am ho h.2 hm
   cases ho':aa o' ob with
   |none=>exact ih
   |some b'=>
    simp only[bP];rw[aH (Ne.symm h1)];exact ih
def Fp.Ao (φ:Fp) (ρ:List (Nat×Nat)):Fp:={φ with S:=fun m=>φ.S (inv ρ m),V:=fun m=>φ.V (inv ρ m)}
section
variable {ob : List (Nat × OB)} {n : Nat} {ρ : List (Nat × Nat)} (hρ : u6 n ρ)
include hρ
theorem qU {o m:Nat} {b:OB} (hm:aa o ρ=some m) (ho:aa o ob=some b):aa m (jf ob ρ)=some b:=Am ho hρ.apart (cK hm)
theorem Fg {o m:Nat} (hm:aa o ρ=some m):(φ.Ao ρ).S m=φ.S o:=by show φ.S (inv ρ m)=_;rw[inv_eq hρ hm]
theorem CZ {o m:Nat} (hm:aa o ρ=some m):(φ.Ao ρ).V m=φ.V o:=by show φ.V (inv ρ m)=_;rw[inv_eq hρ hm]
theorem Fh:(φ.Ao ρ).S 0=φ.S 0:=by show φ.S (inv ρ 0)=_;rw[inv_zero hρ]
theorem Fi {ds:List Nat} (hz: ∀d,aj ob d→d≠0) (hd: ∀d∈ds,d=0∨aj ob d) (hc: ∀o∈ds,o≠0→ ∃m,aa o ρ=some m):
 (∀d∈ds.map (sk ρ),d=0∨aj (jf ob ρ) d)∧ ∀k,rd φ ds k→rd (φ.Ao ρ) (ds.map (sk ρ)) k:=by
 refine⟨fun d hm=> ?_,fun k hk=> ?_⟩
 ·obtain⟨o,h1,rfl⟩:=List.mem_map.1 hm
  rcases hd o h1 with rfl|h2
  ·exact .inl (xG hρ)
  ·obtain⟨m,h3⟩:=hc o h1 (hz o h2)
   obtain⟨b,h4⟩:=h2;rw[qS h3];exact .inr ⟨b,qU hρ h3 h4⟩
 ·rcases hk with hk|⟨d,hm,hk⟩
  ·exact .inl hk
  ·refine .inr ⟨sk ρ d,List.mem_map_of_mem hm,?_⟩
   rcases hd d hm with rfl|h2
   ·rw[xG hρ,Fh hρ];exact hk
   ·obtain⟨m,h3⟩:=hc d hm (hz d h2)
    rw[qS h3,Fg hρ h3];exact hk
theorem aW.Ao (hz: ∀d,aj ob d→d≠0) {e:CE} {v:Value} (hc: ∀o∈bY e,o≠0→ ∃m,aa o ρ=some m) (h:aW ob w φ e v):aW (jf ob ρ) w (φ.Ao ρ) (qR ρ e) v:=by
 cases e with
 |ref o cut=>
  obtain⟨b,h1,h2⟩:=h;obtain⟨m,h3⟩:=hc o (by simp[bY]) (hz o ⟨b,h1⟩);simp only[qR];rw[qS h3];exact⟨b,qU hρ h3 h1,by rw[CZ hρ h3];exact h2⟩
 |snap ds loc z rows=>
  obtain⟨h1,h2,h3⟩:=h;obtain⟨g1,g2⟩:=Fi hρ (φ:=φ) hz h1 hc;refine⟨g1,h2.fh g2,fun o i f hl=> ?_⟩
  cases loc with
  |none=>cases hl
  |some q=>
   obtain⟨o',i',f'⟩:=q;simp only[aI,nI] at hl;obtain⟨rfl,rfl,rfl⟩:=hl;obtain⟨a1,b,a2,a3,a4,ad,n,c,a5,a6⟩:=h3 o' i' f' rfl;obtain⟨m,a7⟩:=hc o' a1 (hz o' ⟨b,a2⟩);refine⟨List.mem_map_of_mem a1,?_⟩;rw[qS a7];exact⟨b,qU hρ a7 a2,a3,a4,ad,n,c,by rw[CZ hρ a7];exact a5,a6⟩
 |_=>exact h
theorem aQ.Ao (hz: ∀d,aj ob d→d≠0) {e:TE} {v:Value} (hc: ∀o∈lA e,o≠0→ ∃m,aa o ρ=some m) (h:aQ ob w φ e v):aQ (jf ob ρ) w (φ.Ao ρ) (lz (qR ρ) (E5 ρ) e) v:=by
 have comp: ∀(c:fR) (u:Value),(∀o∈cC [c],o≠0→ ∃m,aa o ρ=some m)→dQ ob w φ c u→dQ (jf ob ρ) w (φ.Ao ρ) (jR (qR ρ) c) u:=by
  intro c u hc h
  cases c with
  |ptr b=>exact h
  |mk a cs=>
   simp only[cC,iL] at hc;have GW: ∀e∈cs,∀o∈bY e,o≠0→ ∃m,aa o ρ=some m:=fun e he o ho=>hc o (List.mem_flatMap.2 ⟨e,he,ho⟩)
   cases a with
   |true=>
    obtain⟨xs,h1,h2,h3⟩:=h;refine⟨xs,h1,by simp[h2],fun j e he=> ?_⟩;rw[dK] at he
    cases h4:cs[j]? with
    |none=>rw[h4] at he;cases he
    |some e0=>
     rw[h4] at he;simp only[dO,aI] at he;subst he;obtain⟨x,hx,hx1,hok⟩:=h3 j e0 h4;exact⟨x,hx,hx1,hok.Ao hρ hz (GW e0 (c6 h4))⟩
   |false=>
    obtain⟨e,rfl,h2,h3⟩:=h;exact⟨_,rfl,h2,h3.Ao hρ hz (GW e cY)⟩
 have dcomp: ∀(es:List fR) (c:fR),c∈es→ ∀o,o∈cC [c]→o∈cC es:=by
  intro es
  induction es with
  |nil=>intro c hc;cases hc
  |cons x r ih=>
   intro c hc o ho;rcases bg.1 hc with rfl|hc
   ·cases c with
    |ptr b=>simp[cC] at ho
    |mk a cs=>
     simp only[cC,iL] at ho;simp only[cC];exact cM _ ho
   ·have:=ih c hc o ho
    cases x with
    |ptr b=>exact this
    |mk a cs=>simp only[cC];exact eW _ this
 cases e with
 |v t es=>
  cases t with
  |true=>
   obtain⟨vs,h1,h2,h3⟩:=h;refine⟨vs,h1,by rw[fZ];exact h2,fun k c hk=> ?_⟩;rw[jt] at hk
   cases h4:es[k]? with
   |none=>rw[h4] at hk;cases hk
   |some c0=>
    rw[h4] at hk;simp only[dO,aI] at hk;obtain⟨u,hu,hok⟩:=h3 k c0 h4;exact⟨u,hu,by rw[←hk];exact comp c0 u (fun o ho=>hc o (dcomp es c0 (c6 h4) o ho)) hok⟩
  |false=>
   obtain⟨c,rfl,hok⟩:=h;refine⟨jR (qR ρ) c,?_,comp c v hc hok⟩
   cases c<;>rfl
 |ep ds cells=>
  obtain⟨h1,ad,h2,hr,h3⟩:=h;obtain⟨g1,g2⟩:=Fi hρ (φ:=φ) hz h1 hc;refine⟨g1,ad,h2,fun hne=>g2 _ (hr hne),fun j tc hj=> ?_⟩;obtain⟨u,h4,h5⟩:=h3 j tc hj;exact⟨u,h4,h5.fh g2⟩
 |er o path i f=>
  obtain⟨b,h1,h2,ad,n,c,h3,h4⟩:=h;obtain⟨m,h5⟩:=hc o (by simp[lA]) (hz o ⟨b,h1⟩);show aQ (jf ob ρ) w (φ.Ao ρ) (.er (sk ρ o) path i f) v;rw[qS h5];exact⟨b,qU hρ h5 h1,h2,ad,n,c,by rw[CZ hρ h5];exact h3,h4⟩
 |_=>exact h
end
theorem ak.canon (h:ak F A w0 φ st tm w): ∃φ',ak F A w0 φ' (canon st) tm w∧φ'.β=φ.β:=by
 obtain⟨n,hρ,_,hall⟩:=o7 (Jp st) 1 [] (bu _) ⟨fun _ _ h=>(by cases h),List.Pairwise.nil⟩;unfold T.canon KS;generalize number (Jp st) 1 []=ρ at hρ hall;have hz:=h.sep.nz
 have dom: ∀m,aj (jf st.ob ρ) m→ ∃o,aa o ρ=some m∧aj st.ob o:=fun m ⟨b,hm⟩=>by
  obtain⟨o,h1,h2⟩:=qT hm;exact⟨o,ov (n:=n) hρ.apart h1,b,h2⟩
 have domS: ∀m k,aj (jf st.ob ρ) m→(φ.Ao ρ).S m k→ ∃o,aa o ρ=some m∧aj st.ob o∧φ.S o k:=fun m k hm hk=>by
  obtain⟨o,h1,h2⟩:=dom m hm;rw[Fg hρ h1] at hk;exact⟨o,h1,h2,hk⟩
 refine⟨φ.Ao ρ,⟨fun i=> ?_,fun b cs hb j e he=> ?_,fun m b hm=> ?_,?_,h.frm⟩,rfl⟩
 ·show aQ (jf st.ob ρ) w (φ.Ao ρ) (match aa i (mapA (lz (qR ρ) (E5 ρ)) st.tm) with|some e=>e|none=> .dead) (tm.getD i undef)
  rw[ic]
  cases hi:aa i st.tm with
  |none=>trivial
  |some e=>
   have:=h.tmp i;unfold TS.get at this;rw[hi] at this;exact this.Ao hρ hz fun o ho LB=>hall o (cM _ (List.mem_flatMap.2 ⟨_,cK hi,ho⟩)) LB
 ·simp only[ic] at hb
  cases h1:aa b st.bx with
  |none=>rw[h1] at hb;cases hb
  |some cs0=>
   rw[h1] at hb;simp only[dO,aI] at hb;subst hb;rw[dK] at he
   cases h2:cs0[j]? with
   |none=>rw[h2] at he;cases he
   |some e0=>
    rw[h2] at he;simp only[dO,aI] at he;subst he;obtain⟨v,h3,h5,h4⟩:=h.box b cs0 h1 j e0 h2;exact⟨v,h3,h5,h4.Ao hρ hz fun o ho LB=>hall o (eW _ (List.mem_flatMap.2 ⟨_,cK h1,List.mem_flatMap.2 ⟨e0,c6 h2,ho⟩⟩)) LB⟩
 ·obtain⟨o,h1,h2⟩:=qT hm
  have h1:=ov (n:=n) hρ.apart h1;unfold eE;rw[Fg hρ h1,CZ hρ h1];exact h.obj o b h2
 ·have hs:=h.sep.boxes (cr (qR ρ))
  exact {
   arg:=by rw[Fh hρ];exact h.sep.arg
   nz:=fun m hm e=>by
    obtain⟨o,h1,_⟩:=dom m hm;have:=(hρ.rng o m (cK h1)).1;omega
   apart:=fun m m' k h1 h2 h3 h4=>by
    obtain⟨o,a1,a2,a3⟩:=domS m k h1 h3;obtain⟨o',b1,b2,b3⟩:=domS m' k h2 h4;have:=h.sep.apart o o' k a2 b2 a3 b3;subst this;rw[a1] at b1;cases b1;rfl
   read:=fun m k h1 h2=>by obtain⟨o,a1,a2,a3⟩:=domS m k h1 h2;exact h.sep.read o k a2 a3
   fresh:=fun m k h1 h2=>by obtain⟨o,a1,a2,a3⟩:=domS m k h1 h2;exact h.sep.fresh o k a2 a3
   ro:=hs.ro
   ez:=hs.ez
   box:=fun b cs hb hw=>by
    obtain⟨a1,a2,a3,a4⟩:=hs.box b cs hb hw;refine⟨a1,fun m hm hk=> ?_,a3,a4⟩;obtain⟨o,c1,c2,c3⟩:=domS m _ hm hk;exact a2 o c2 c3
   spot:=hs.spot
   soft:=hs.soft}
theorem ak.head (h:ak F A w0 φ st tm w) (l:List Nat):Rel F A w0 (Ai l st) tm w:=by
 obtain⟨φ1,h1,_⟩:=(h.KU l).Ah;obtain⟨φ2,h2,_⟩:=h1.canon;exact⟨φ2,h2⟩
end Go.T
