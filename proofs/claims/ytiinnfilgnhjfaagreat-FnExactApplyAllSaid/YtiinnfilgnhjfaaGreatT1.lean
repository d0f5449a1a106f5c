/- Definitions of the abstract runs: an interpreter of the model's code over closed trees (no program, no proof). -/
import Derived.Below
import Derived.WalkKit
import Derived.Laws.AppendOwn
import Derived.DataElems
namespace Go.T
theorem zYa {P:Prop} (h:P:=by first|rfl|(simp;done)|(simp;omega)):P:=h
theorem ay {P:Prop} (h:P:=by omega):P:=h
theorem zYs {P:Prop} (h:P:=by assumption):P:=h
theorem eI {P:Prop} (h:P:=by simp;omega):P:=h
theorem rQ {P:Prop} (h:P:=by simp<;>omega):P:=h
theorem cW {P:Prop} (h:P:=by simp):P:=h
theorem zYt {P:Prop} (h:P:=by trivial):P:=h
theorem zYr {P:Prop} (h:P:=by rfl):P:=h
abbrev zj:= @Array.getD_eq_getD_getElem?
abbrev zk:= @Array.getElem?_eq_getElem
abbrev aaz:= @Array.getElem?_setIfInBounds
abbrev Vy:= @Array.getElem?_toList
abbrev Ae:= @Array.length_toList
abbrev eX:= @Bool.and_eq_true
abbrev jT:= @Bool.and_true
abbrev Nj:= @Bool.false_eq_true
abbrev I7:= @Bool.false_or
abbrev Gh:= @Bool.not_eq_true'
abbrev By:= @Bool.not_true
abbrev dx:= @Bool.true_and
abbrev lU:= @Int.ofNat_eq_natCast
abbrev lV:= @Int.toNat_natCast
abbrev ql:= @List.all_cons
abbrev qO:= @List.all_nil
abbrev Af:= @List.append_assoc
abbrev qm:= @List.append_nil
abbrev RS:= @List.cons_append
abbrev Gi:= @List.drop_eq_getElem_cons
abbrev eu:= @List.drop_length
abbrev Lm:= @List.drop_of_length_le
abbrev D1:= @List.eq_nil_of_length_eq_zero
abbrev aaA:= @List.flatten_append
abbrev Ag:= @List.flatten_cons
abbrev wE:= @List.getD_eq_getElem?_getD
abbrev nj:= @List.getElem?_append_left
abbrev pK:= @List.getElem?_append_right
abbrev yo:= @List.getElem?_cons_succ
abbrev gE:= @List.getElem?_cons_zero
abbrev uu:= @List.getElem?_drop
abbrev ck:= @List.getElem?_eq_getElem
abbrev Vz:= @List.getElem?_eq_none
abbrev lW:= @List.getElem?_map
abbrev Bz:= @List.getElem?_take
abbrev D2:= @List.getElem_mem
abbrev cF:= @List.length_append
abbrev fW:= @List.length_cons
abbrev iR:= @List.length_drop
abbrev aaB:= @List.length_filter_le
abbrev bX:= @List.length_map
abbrev RT:= @List.length_modify
abbrev gK:= @List.length_singleton
abbrev eO:= @List.length_take
abbrev uv:= @List.map_append
abbrev D3:= @List.map_drop
abbrev I8:= @List.map_take
abbrev lX:= @List.mem_append_left
abbrev rZ:= @List.mem_append_right
abbrev fX:= @List.mem_cons
abbrev gP:= @List.mem_of_getElem?
abbrev zm:= @List.mem_of_mem_drop
abbrev Ah:= @List.mem_of_mem_take
abbrev qn:= @List.mem_singleton
abbrev xB:= @List.nil_append
abbrev om:= @List.range'
abbrev Gj:= @List.range'_zero
abbrev Nk:= @List.take_append_drop
abbrev RU:= @List.take_append_of_le_length
abbrev vZ:= @List.take_length
abbrev Nl:= @List.take_of_length_le
abbrev nq:= @Nat.add_assoc
abbrev wF:= @Nat.add_eq
abbrev uK:= @Nat.add_mul
abbrev xC:= @Nat.add_zero
abbrev VA:= @Nat.ble_eq_true_of_le
abbrev Nm:= @Nat.div_add_mod'
abbrev kf:= @Nat.eq_of_beq_eq_true
abbrev I9:= @Nat.le_max_left
abbrev wG:= @Nat.le_of_ble_eq_true
abbrev cV:= @Nat.le_refl
abbrev uL:= @Nat.le_trans
abbrev lY:= @Nat.lt_of_lt_of_le
abbrev sJ:= @Nat.min
abbrev qo:= @Nat.mul_le_mul_right
abbrev wH:= @Nat.ne_of_beq_eq_false
abbrev qP:= @Nat.sub_self
abbrev BA:= @Nat.succ_mul
abbrev nr:= @Nat.zero_add
abbrev D4:= @Nat.zero_le
abbrev pL:= @Option.map_some
abbrev aY:= @Option.some.injEq
abbrev BC:= @Prod.mk.injEq
abbrev e9:= @decide_eq_false
abbrev fj:= @decide_eq_true
abbrev dy:= @exists_eq_left
abbrev dm:= @exists_eq_left'
abbrev aF:= @if_neg
abbrev aI:= @if_pos
abbrev yp:= @of_decide_eq_true
inductive TC where
 |sc (v:Value)
 |sub (s:Nat) (rows:List (List TC))
 |any
 deriving Inhabited
inductive Mode where
 |snap|top|deep
 deriving DecidableEq,Inhabited
inductive CE where
 |sc (v:Value)
 |nil (z:Nat)
 |ref (o:Nat) (cut:Option (Int×Int))
 |snap (ds:List Nat) (loc:Option (Nat×Int×Nat)) (z:Nat) (rows:List (List TC))
 |gone
 deriving Inhabited
inductive vE where
 |mk (agg:Bool) (cs:List CE)
 |ptr (b:Nat)
inductive TE where
 |dead
 |v (tup:Bool) (es:List vE)
 |bp (b off:Nat)
 |ep (ds:List Nat) (cells:List TC)
 |er (o:Nat) (path:Option (Int×Nat)) (i:Int) (f:Nat)
 |fn (f:FuncId) (caps:List Nat)
 |kb (b:Bool)
 deriving Inhabited
structure OB where
 deep:Bool
 z:Nat
 rows:List (List TC)
structure TS where
 tm:List (Nat×TE)
 bx:List (Nat×List CE)
 ob:List (Nat×OB)
inductive TI where
 |int (k:IntKind)
 |bool
 |str
 |slice (e:TypeId)
 |ptr (e:TypeId)
 |struct (fs:List (Nat×TypeId))
 |other
 deriving Inhabited
structure nN where
 ti:TI
 size:Nat
 bytes:Nat
 flat:Bool
 zero:List TC
 eqs:List Nat:=[]
 deriving Inhabited
inductive TV where
 |c (c:TC)
 |ag (cs:List TC)
 |tu (vs:List (Nat×List TC))
 |bx (cs:List TC)
 |fn (f:FuncId) (caps:List (List TC))
inductive ct where
 |borrow|inout (ms:List Mode)|consume
 deriving DecidableEq
def ct.mc:ct→Nat→Mode
 | .borrow,_=> .snap
 | .inout ms,j=>match ms[j]? with|some .snap=> .snap|_=> .deep
 | .consume,_=> .deep
structure Sig where
 ps:List ct
 shares:Bool
 res:List (List Mode)
inductive KO where
 |nil
 |op (i:Nat) (fl:List Nat) (r:KO)
 |alt (a b:KO)
structure pO where
 P:Program
 tt:TypeId→nN
 sig:FuncId→Sig
 lr:FuncId→Nat→List Nat
 lb:FuncId→Nat→List Nat
 Vt:FuncId→Nat→Option KO
 ext:FuncId→Option (List TV→Option (TV×List TV))
inductive TX where
 |norm|ex (id:Nat)|ret
 deriving DecidableEq
inductive Ev (R:Type) where
 |fail
 |ret (r:R)
 |test (b:Bool) (k:Bool→Ev R)
 |row (rows:List (List TC)) (i:Int) (k:List TC→Ev R)
 |byte (s:ByteArray) (i:Int) (k:Int→Ev R)
 |bytes (rows:List (List TC)) (k:List Int→Ev R)
 |call (f:FuncId) (vs:List TV) (k:TV→List TV→Ev R)
 |loop (f:FuncId) (i:Nat) (c:Code) (st:TS) (k:TX→TS→Ev R)
 |both (a b:Ev R)
@[irreducible] def bK (a b:Int):Bool:=decide (a<b)
@[irreducible] def m6 (a b:Int):Bool:=decide (a≤b)
@[irreducible] def cn (a b:Int):Bool:=a==b
@[irreducible] def eqB (a b:Bool):Bool:=a==b
@[irreducible] def uw (a b:ByteArray):Bool:=a.toList==b.toList
@[irreducible] def Su (a b:ByteArray):Bool:=Op.bytesLess a.toList b.toList
@[irreducible] def fits (n b:Nat):Bool:=decide (n*b≤140737488355328∧n≤140737488355328)
@[irreducible] def bR (rows:List (List TC)):Bool:=rows.all fun r=>r.all fun c=>match c with| .sc _=>true|_=>false
@[irreducible] def gf (l h n:Int):Bool:=decide (0≤l∧l≤h∧h≤n)
@[irreducible] def rowAt (rows:List (List TC)) (i:Int):Option (List TC):=if 0≤i then rows[i.toNat]? else none
@[irreducible] def xG (s:ByteArray) (i:Int):Option Int:=if 0≤i then(s[i.toNat]?).map fun b=>(b.toNat:Int) else none
@[irreducible] def aC (rows:List (List TC)) (l h:Int):List (List TC):=(rows.take h.toNat).drop l.toNat
@[irreducible] def kJ (z:Nat) (rows:List (List TC)) (l h:Int):List (List TC):=rows.take l.toNat++List.replicate (h.toNat-l.toNat) (List.replicate z .any)++rows.drop h.toNat
@[irreducible] def sK (rows bH:List (List TC)):List (List TC):=bH.take rows.length++rows.drop bH.length
@[irreducible] def setRow (rows:List (List TC)) (i:Int) (f:Nat) (cs:List TC):List (List TC):=
  match rows[i.toNat]? with
  |some r=>rows.set i.toNat (r.take f++cs++r.drop (f+cs.length))
  |none=>rows
@[irreducible] def Dv (a b:Int):Int:=if b<a then b else a
@[irreducible] def sL (n:Int):Nat:=n.toNat
@[irreducible] def VB (a b:Int):Int:=a+b
@[irreducible] def afk (k:IntKind) (a b:Int):Int:=k.wrap (a+b)
@[irreducible] def VC (k:IntKind) (a b:Int):Int:=k.wrap (a-b)
@[irreducible] def afl (k:IntKind) (a b:Int):Int:=k.wrap (a*b)
@[irreducible] def jb (k:IntKind) (a b:Int):Int:=k.wrap (a.tdiv b)
@[irreducible] def Dw (a b:Int):Int:=a.tmod b
@[irreducible] def an7 (k:IntKind) (a b:Int):Int:=k.wrap (a*2 ^ (min b.toNat k.bits))
@[irreducible] def aqa (k:IntKind) (a b:Int):Int:=a.fdiv (2 ^ (min b.toNat k.bits))
@[irreducible] def afm (op:BinOp) (k:IntKind) (a b:Int):Int:=Go.bits op k a b
@[irreducible] def zn (k:IntKind) (n:Int):Int:=k.wrap n
@[irreducible] def Ym (a b:ByteArray):ByteArray:=a++b
@[irreducible] def aqb (s:ByteArray) (l h:Int):ByteArray:=s.extract l.toNat h.toNat
def z5:List (List TC)→Option (List Int)
 |[]=>some []
 |[.sc (.int .u8 n)]::r=>(z5 r).map fun ns=>n::ns
 |_=>none
@[irreducible] def wI (rows:List (List TC)):Option (List Int):=z5 rows
@[irreducible] def Ja (ns:List Int):ByteArray:=⟨(ns.map fun n:Int=>UInt8.ofNat n.toNat).toArray⟩
@[irreducible] def Ln (s:ByteArray):List (List TC):=s.data.toList.map fun b=>[TC.sc (.int .u8 b.toNat)]
abbrev one (c:CE):TE:= .v false [.mk false [c]]
abbrev S (v:Value):TE:=one (.sc v)
def pE (o:Nat):List Nat→Bool
 |[]=>false
 |a::r=>match Nat.beq a o with|true=>true|false=>pE o r
def adh (o:Nat):List Nat→List Nat
 |[]=>[]
 |a::r=>match Nat.beq a o with|true=>adh o r|false=>a::adh o r
def zo:List Nat→List Nat→Bool
 |[],_=>false
 |a::r,l=>match pE a l with|true=>true|false=>zo r l
section
variable {α : Type}
def az (i:Nat):List (Nat×α)→Option α
 |[]=>none
 |(j,e)::r=>match Nat.beq j i with|true=>some e|false=>az i r
def rR (i:Nat) (e:α):List (Nat×α)→List (Nat×α)
 |[]=>[(i,e)]
 |(j,e')::r=>match Nat.beq j i with
  |true=>(i,e)::r
  |false=>match Nat.ble i j with
   |true=>(i,e)::(j,e')::r
   |false=>(j,e')::rR i e r
def uM (i:Nat):List (Nat×α)→List (Nat×α)
 |[]=>[]
 |(j,e)::r=>match Nat.beq j i with|true=>uM i r|false=>(j,e)::uM i r
def mapA (f:α→α):List (Nat×α)→List (Nat×α)
 |[]=>[]
 |(j,e)::r=>(j,f e)::mapA f r
end
def TS.get (st:TS) (i:Nat):TE:=match az i st.tm with|some e=>e|none=> .dead
def TS.set (st:TS) (i:Nat) (e:TE):TS:=⟨rR i e st.tm,st.bx,st.ob⟩
def TS.Pk (st:TS) (i:Nat) (cs:List CE):TS:=⟨st.tm,rR i cs st.bx,st.ob⟩
def TS.an8 (st:TS) (i:Nat) (o:OB):TS:=⟨st.tm,st.bx,rR i o st.ob⟩
def oq (f:CE→CE):List vE→List vE
 |[]=>[]
 | .mk a cs::r=> .mk a (cs.map f)::oq f r
 | .ptr b::r=> .ptr b::oq f r
def Dx (f:CE→CE) (g:TE→TE):TE→TE
 | .v tup es=> .v tup (oq f es)
 |e=>g e
def BD (f:CE→CE) (g:TE→TE) (h:List (Nat×OB)→List (Nat×OB)) (st:TS):TS:=
 ⟨mapA (Dx f g) st.tm,mapA (List.map f) st.bx,h st.ob⟩
def iM:CE→List Nat
 | .ref o _=>[o]
 | .snap d _ _ _=>d
 |_=>[]
def kK:List vE→List Nat
 |[]=>[]
 | .mk _ cs::r=>cs.flatMap iM++kK r
 | .ptr _::r=>kK r
def Dy:TE→List Nat
 | .v _ es=>kK es
 | .ep d _=>d
 | .er o _ _ _=>[o]
 |_=>[]
def aaC (o:Nat) (e:CE):CE:=match pE o (iM e) with|true=> .gone|false=>e
def agI (o:Nat):TE→TE
 | .ep d cells=>match pE o d with|true=> .dead|false=> .ep d cells
 | .er p path i f=>match Nat.beq p o with|true=> .dead|false=> .er p path i f
 |e=>e
def qQ (o:Nat) (st:TS):TS:=BD (aaC o) (agI o) (uM o) st
def afn (o:Nat) (e:CE):CE:=match e with
 | .snap d l z rows=>match pE o d with|true=> .gone|false=> .snap d l z rows
 |e=>e
def abq (o:Nat):TE→TE
 | .ep d cells=>match pE o d with|true=> .dead|false=> .ep d cells
 | .er p (some q) i f=>match Nat.beq p o with|true=> .dead|false=> .er p (some q) i f
 |e=>e
def yM (o:Nat) (b:OB) (st:TS):TS:=BD (afn o) (abq o) (rR o b) st
def adi (cut:Option (Int×Int)) (rows:List (List TC)):List (List TC):=match cut with
 |none=>rows
 |some (l,h)=>aC rows l h
def an9 (o:Nat) (l:Option (Nat×Int×Nat)):Option (Nat×Int×Nat):=match l with
 |some (p,i,f)=>match Nat.beq p o with|true=>none|false=>some (p,i,f)
 |none=>none
def Vf (o:Nat) (b:OB) (e:CE):CE:=match e with
 | .ref p cut=>match Nat.beq p o with|true=> .snap [] none b.z (adi cut b.rows)|false=> .ref p cut
 | .snap d l z rows=> .snap (adh o d) (an9 o l) z rows
 |e=>e
def abr (o:Nat):TE→TE
 | .ep d cells=> .ep (adh o d) cells
 | .er p path i f=>match Nat.beq p o with|true=> .dead|false=> .er p path i f
 |e=>e
def BE (st:TS) (o:Nat):TS:=match az o st.ob with
 |some b=>BD (Vf o b) (abr o) (uM o) st
 |none=>st
def Jb (o:Nat) (b:OB) (st:TS):TS:=(qQ o st).an8 o b
def nt:List (Nat×OB)→List (Nat×OB)→List (Nat×OB)
 |[],ob=>ob
 |(i,b)::r,ob=>rR i b (nt r ob)
def xD {α:Type}:List (Nat×α)→List Nat
 |[]=>[]
 |(o,_)::r=>o::xD r
def KP (l:List Nat) (e:CE):CE:=match e with
 | .snap d l' z rows=>match zo d l with|true=> .gone|false=> .snap d l' z rows
 |e=>e
def Fm (l:List Nat):TE→TE
 | .ep d cells=>match zo d l with|true=> .dead|false=> .ep d cells
 | .er p (some q) i f=>match pE p l with|true=> .dead|false=> .er p (some q) i f
 |e=>e
def yN (W:List (Nat×OB)) (st:TS):TS:=match W with
 |[]=>st
 |W=>BD (KP (xD W)) (Fm (xD W)) (nt W) st
section
variable {Z : Type}
def fL {α:Type} (f:α→(α→Z)→Z):List α→(List α→Z)→Z
 |[],K=>K []
 |a::r,K=>f a fun a'=>fL f r fun r'=>K (a'::r')
def fB (b:Bool) (K:Bool→Z):Z:=match b with|true=>K true|false=>K false
def fN (n:Nat) (K:Nat→Z):Z:=K n
def anx (p:Option (Int×Nat)) (K:Option (Int×Nat)→Z):Z:=match p with|none=>K none|some (a,b)=>K (some (a,b))
def aqc (p:Option (Int×Int)) (K:Option (Int×Int)→Z):Z:=match p with|none=>K none|some (a,b)=>K (some (a,b))
def fAt (p:Option (Nat×Int×Nat)) (K:Option (Nat×Int×Nat)→Z):Z:=match p with|none=>K none|some (a,b,c)=>K (some (a,b,c))
def fV (v:Value) (K:Value→Z):Z:=match v with
 | .int k n=>K (.int k n)
 | .bool b=>K (.bool b)
 | .string s=>K (.string s)
 |v=>K v
def fTC (c:TC) (K:TC→Z):Z:=match c with| .sc v=>fV v fun v=>K (.sc v)| .sub z rows=>K (.sub z rows)| .any=>K .any
def fCE (e:CE) (K:CE→Z):Z:=match e with
 | .sc v=>fV v fun v=>K (.sc v)
 | .nil z=>K (.nil z)
 | .ref o cut=>aqc cut fun cut=>K (.ref o cut)
 | .snap d l z rows=>fL fN d fun d=>fAt l fun l=>K (.snap d l z rows)
 | .gone=>K .gone
def aiW (c:vE) (K:vE→Z):Z:=match c with
 | .mk a cs=>fB a fun a=>fL fCE cs fun cs=>K (.mk a cs)
 | .ptr b=>K (.ptr b)
def fTE (e:TE) (K:TE→Z):Z:=match e with
 | .dead=>K .dead
 | .v tup es=>fB tup fun tup=>fL aiW es fun es=>K (.v tup es)
 | .bp b off=>K (.bp b off)
 | .ep d cells=>fL fN d fun d=>fL fTC cells fun cells=>K (.ep d cells)
 | .er r path i f=>anx path fun path=>K (.er r path i f)
 | .fn f caps=>K (.fn f caps)
 | .kb b=>fB b fun b=>K (.kb b)
def fOB (b:OB) (K:OB→Z):Z:=match b with|⟨d,z,rows⟩=>fB d fun d=>K ⟨d,z,rows⟩
def aiX (cs:List TC) (K:List TC→Z):Z:=fL fTC cs K
def fTV (v:TV) (K:TV→Z):Z:=match v with
 | .c c=>fTC c fun c=>K (.c c)
 | .ag cs=>aiX cs fun cs=>K (.ag cs)
 | .tu vs=>fL (fun p K=>match p with|(i,cs)=>aiX cs fun cs=>K (i,cs)) vs fun vs=>K (.tu vs)
 | .bx cs=>aiX cs fun cs=>K (.bx cs)
 | .fn f caps=>K (.fn f caps)
def fTS (st:TS) (K:TS→Z):Z:=
 fL (fun p K=>match p with|(i,e)=>fTE e fun e=>K (i,e)) st.tm fun tm=>
 fL (fun p K=>match p with|(i,cs)=>fL fCE cs fun cs=>K (i,cs)) st.bx fun bx=>
 fL (fun p K=>match p with|(i,b)=>fOB b fun b=>K (i,b)) st.ob fun ob=>K ⟨tm,bx,ob⟩
end
def sM (st:TS):CE→Option (Nat×List (List TC))
 | .nil z=>some (z,[])
 | .ref o cut=>match az o st.ob with|some ⟨_,z,rows⟩=>some (z,adi cut rows)|none=>none
 | .snap _ _ z rows=>some (z,rows)
 |_=>none
def Jc (st:TS) (e:CE):Option TC:=match e with
 | .sc v=>some (.sc v)
 |e=>match sM st e with|some (z,rows)=>some (.sub z rows)|none=>none
def zC (st:TS):List CE→Option (List TC)
 |[]=>some []
 |e::r=>match Jc st e,zC st r with
  |some c,some cs=>some (c::cs)
  |_,_=>none
def abt (c:TC):CE:=match c with| .sc v=> .sc v| .sub z _=> .nil z| .any=> .gone
section
variable (C : pO)
def abu (ty:TypeId):Value→TE
 | .slice none 0 0=>match(C.tt ty).ti with
   | .slice e=>one (.nil (C.tt e).size)
   |_=> .dead
 | .int k n=>S (.int k n)
 | .bool b=> .kb b
 | .string s=>S (.string s)
 |_=> .dead
def xx (st:TS) (ty:TypeId):Operand→TE
 | .tmp i=>st.get i
 | .const v=>abu C ty v
 | .func f=> .fn f []
 | .global _=> .dead
def aiY:TE→Option Value
 | .v false [.mk false [.sc v]]=>some v
 | .kb b=>some (.bool b)
 |_=>none
def asInt:TE→Option Int
 | .v false [.mk false [.sc (.int _ n)]]=>some n
 |_=>none
def Bu:TE→Option CE
 | .v false [.mk false [e]]=>some e
 | .kb b=>some (.sc (.bool b))
 |_=>none
def KQ:TE→Option (List CE)
 | .v false [.mk _ cs]=>some cs
 | .kb b=>some [.sc (.bool b)]
 |_=>none
def aiZ (op:BinOp):Value→Value→Option Value
 | .int k a,.int k' b=>
   match op with
   | .shl=>if 0≤b then some (.int k (an7 k a b)) else none
   | .shr=>if 0≤b then some (.int k (aqa k a b)) else none
   |_=>if k=k' then
    match op with
    | .add=>some (.int k (afk k a b))
    | .sub=>some (.int k (VC k a b))
    | .mul=>some (.int k (afl k a b))
    | .and=>some (.int k (afm .and k a b))
    | .or=>some (.int k (afm .or k a b))
    | .xor=>some (.int k (afm .xor k a b))
    | .eql=>some (.bool (cn a b))
    | .neq=>some (.bool (!cn a b))
    | .lss=>some (.bool (bK a b))
    | .leq=>some (.bool (m6 a b))
    | .gtr=>some (.bool (bK b a))
    | .geq=>some (.bool (m6 b a))
    |_=>none
    else none
 | .string a,.string b=>match op with
   | .eql=>some (.bool (uw a b))
   | .neq=>some (.bool (!uw a b))
   | .lss=>some (.bool (Su a b))
   | .leq=>some (.bool (Su a b||uw a b))
   | .gtr=>some (.bool (!(Su a b||uw a b)))
   | .geq=>some (.bool (!Su a b))
   |_=>none
 |_,_=>none
def BF:List Nat→List CE→List CE→Option Bool
 |[],[],[]=>some true
 |1::ks,.sc (.int k a)::r,.sc (.int k' b)::r'=>if k=k' then(match BF ks r r' with|some q=>some (cn a b&&q)|none=>none) else none
 |2::ks,.sc (.bool a)::r,.sc (.bool b)::r'=>match BF ks r r' with|some q=>some (eqB a b&&q)|none=>none
 |3::ks,.sc (.string a)::r,.sc (.string b)::r'=>match BF ks r r' with|some q=>some (uw a b&&q)|none=>none
 |_,_,_=>none
def Nn (t:TypeId):Bool:=match(C.tt t).ti with| .struct _=>true|_=>false
def uN (t:TypeId) (f:Nat):Option (Nat×TypeId):=match(C.tt t).ti with| .struct fs=>fs[f]?|_=>none
def alI (t:TypeId) (f:Nat):TypeId:=match uN C t f with|some (_,ft)=>ft|none=>0
def Fo (t:TypeId):Option TypeId:=match(C.tt t).ti with| .slice e=>some e|_=>none
def aob (ds:List Nat) (loc:Option (Nat×Int×Nat)) (j:Nat) (c:TC):CE:=
 match c with
 | .sc v=> .sc v
 | .sub z rows=> .snap ds (match loc with|some (o,i,f)=>some (o,i,f+j)|none=>none) z rows
 | .any=> .gone
def Fq (ds:List Nat) (loc:Option (Nat×Int×Nat)):Nat→List TC→List CE
 |_,[]=>[]
 |j,c::r=>aob ds loc j c::Fq ds loc (j+1) r
def known (i:nN):Bool:=match i.ti with| .other=>false|_=>true
def Dz (i:nN):Bool:=match i.ti with| .other=>false| .ptr _=>false|_=>true
def ai0 (t:TypeId) (xs:List CE):TE:= .v false [.mk (Nn C t) xs]
variable {R : Type}
def Lo (t:TypeId) (xs:List CE) (K:TE→Ev R):Ev R:=match known (C.tt t),Nat.beq xs.length (C.tt t).size with
 |true,true=>K (ai0 C t xs)
 |_,_=> .fail
def abv (e:TypeId) (z:Nat):Bool:=match known (C.tt e) with|true=>Nat.beq z (C.tt e).size|false=>false
def agJ (st:TS) (o:Nat) (path:Option (Int×Nat)) (i:Int) (f:Nat) (K:List TC→Ev R):Ev R:=
 match az o st.ob with
 |some ⟨_,_,rows⟩=>match path with
  |none=> .row rows i fun row=>K (row.drop f)
  |some (i0,f0)=> .row rows i0 fun row0=>match row0[f0]? with
   |some (.sub _ uY)=> .row uY i fun row=>K (row.drop f)
   |_=> .fail
 |none=> .fail
def Lq (st:TS) (t:TypeId) (e:TE) (K:TE→Ev R):Ev R:=
 match e with
 | .bp b off=>match az b st.bx with
   |some cs=>Lo C t ((cs.drop off).take (C.tt t).size) K
   |none=> .fail
 | .ep ds cells=>Lo C t (Fq ds none 0 (cells.take (C.tt t).size)) K
 | .er o path i f=>agJ st o path i f fun cells=>
     Lo C t (Fq [o] (match path with|none=>some (o,i,f)|some _=>none) 0 (cells.take (C.tt t).size)) K
 |_=> .fail
def Fs (t:TypeId):List (Nat×TE)→List CE→Option (List CE)
 |[],cs=>some cs
 |(f,e)::r,cs=>match uN C t f,KQ e with
  |some (off,ft),some c=>match Nat.beq c.length (C.tt ft).size with
   |true=>Fs t r (cs.take off++c++cs.drop (off+c.length))
   |false=>none
  |_,_=>none
def Vg (st:TS):List Operand→Option (List Nat)
 |[]=>some []
 |x::r=>match xx C st 0 x,Vg st r with
  | .bp b 0,some bs=>some (b::bs)
  |_,_=>none
def bound (st:TS) (d:Int):Option Operand→Option Int
 |none=>some d
 |some a=>asInt (xx C st 0 a)
def plain:TE→TE
 | .kb b=>S (.bool b)
 |e=>e
def ai1 (e:CE) (l h:Int):CE:=match e with
 | .nil z=> .nil z
 | .ref o none=> .ref o (some (l,h))
 | .ref o (some (a,_))=> .ref o (some (VB a l,VB a h))
 | .snap ds _ z rows=> .snap ds none z (aC rows l h)
 |e=>e
def ai2 (e:CE) (n:Int) (cells:List TC):TE:=match e with
 | .ref o none=> .er o none n 0
 | .ref o (some _)=> .ep [o] cells
 | .snap _ (some (o,i,f)) _ _=> .er o (some (i,f)) n 0
 | .snap ds none _ _=> .ep ds cells
 |_=> .dead
def Vh (t:TypeId):Bool:=match(C.tt t).ti with| .bool=>true|_=>false
def aoc (bt:Bool) (op:BinOp) (a b:Value) (K:TE→Ev R):Ev R:=match op,a,b with
 | .eql,.bool p,.bool q=>match bt with|true=>K (S (.bool (eqB p q)))|false=> .fail
 | .neq,.bool p,.bool q=>match bt with|true=>K (S (.bool (!eqB p q)))|false=> .fail
 | .rem,.int k p,.int k' q=>if k=k' then .test (cn q 0) fun z=>match z with
     |false=>K (S (.int k (Dw p q)))
     |true=> .fail
   else .fail
 | .quo,.int k p,.int k' q=>if k=k' then .test (cn q 0) fun z=>match z with
     |false=>K (S (.int k (jb k p q)))
     |true=> .fail
   else .fail
 | .add,.string p,.string q=> .test (fits (p.size+q.size) 1) fun z=>match z with
   |true=>K (S (.string (Ym p q)))
   |false=> .fail
 |_,_,_=>match aiZ op a b with
  |some v=>K (S v)
  |none=> .fail
def aod (st:TS) (t:TypeId) (e:CE) (K:Value→Ev R):Ev R:=match(C.tt t).ti,e with
 | .str,.sc (.string s)=>K (.int .i64 s.size)
 | .slice _,e=>match sM st e with
   |some (_,rows)=>K (.int .i64 rows.length)
   |none=> .fail
 |_,_=> .fail
def kg (st:TS) (o:Oper) (K:TE→Ev R):Ev R:=
 match o.op with
 | .move x=>K (xx C st o.type x)
 | .assign x=>K (xx C st o.type x)
 | .pick c a b=>match xx C st o.type c with
   | .kb p=>match p with
     |true=>K (xx C st o.type a)
     |false=>K (xx C st o.type b)
   |_=> .fail
 | .load t a=>Lq C st t (xx C st 0 a) K
 | .nilCheck x=>match xx C st 0 x with
   | .bp b off=>K (.bp b off)
   | .ep d c=>K (.ep d c)
   | .er r p i f=>K (.er r p i f)
   |_=> .fail
 | .binOp op t x y _=>match plain (xx C st t x),plain (xx C st t y) with
   | .v false [.mk false [.sc a]],.v false [.mk false [.sc b]]=>aoc (Vh C t) op a b K
   | .v false [.mk true xs],.v false [.mk true ys]=>match known (C.tt t),(C.tt t).eqs with
     |false,_=> .fail
     |true,[]=> .fail
     |true,k::ks=>match op,BF (k::ks) xs ys with
      | .eql,some b=>K (S (.bool b))
      | .neq,some b=>K (S (.bool (!b)))
      |_,_=> .fail
   |_,_=> .fail
 | .unOp op _ x=>match op,xx C st o.type x with
   | .not,.kb b=>match b with|true=>K (.kb false)|false=>K (.kb true)
   | .not,.v false [.mk false [.sc (.bool b)]]=>K (S (.bool (!b)))
   | .neg,.v false [.mk false [.sc (.int k n)]]=>K (S (.int k (VC k 0 n)))
   |_,_=> .fail
 | .convert src dst x=>match(C.tt dst).ti,(C.tt src).ti,xx C st src x with
   | .int k,.int _,.v false [.mk false [.sc (.int _ n)]]=>K (S (.int k (zn k n)))
   | .str,.str,.v false [.mk false [.sc (.string s)]]=>K (S (.string s))
   | .str,.slice et,.v false [.mk false [e]]=>match(C.tt et).ti,sM st e with
     | .int .u8,some (_,rows)=> .bytes rows fun ns=>K (S (.string (Ja ns)))
     |_,_=> .fail
   |_,_,_=> .fail
 | .fieldAddr s x f=>match uN C s f,xx C st 0 x with
   |some (off,_),.bp b o=>K (.bp b (o+off))
   |some (off,_),.ep d cells=>K (.ep d (cells.drop off))
   |some (off,_),.er r p i g=>K (.er r p i (g+off))
   |_,_=> .fail
 | .field t x f=>match uN C t f,xx C st t x with
   |some (off,ft),.v false [.mk true cs]=>Lo C ft ((cs.drop off).take (C.tt ft).size) K
   |_,_=> .fail
 | .indexAddr t x i=>match Fo C t,Bu (xx C st t x),asInt (xx C st 0 i) with
   |some et,some e,some n=>match sM st e with
    |some (z,rows)=>match abv C et z with
     |true=> .row rows n fun cells=>K (ai2 e n cells)
     |false=> .fail
    |none=> .fail
   |_,_,_=> .fail
 | .index t x i=>match(C.tt t).ti,aiY (xx C st t x),asInt (xx C st 0 i) with
   | .str,some (.string s),some n=> .byte s n fun b=>K (S (.int .u8 b))
   |_,_,_=> .fail
 | .slice t x lo hi mx=>match mx,(C.tt t).ti,Bu (xx C st t x) with
   |none,.str,some (.sc (.string s))=>match bound C st 0 lo,bound C st s.size hi with
    |some l,some h=> .test (gf l h s.size) fun z=>match z with
     |true=>K (S (.string (aqb s l h)))
     |false=> .fail
    |_,_=> .fail
   |none,.slice et,some e=>match sM st e with
    |some (z,rows)=>match abv C et z,bound C st 0 lo,bound C st rows.length hi with
     |true,some l,some h=> .test (gf l h rows.length) fun b=>match b with
      |true=>K (one (ai1 e l h))
      |false=> .fail
     |_,_,_=> .fail
    |none=> .fail
   |_,_,_=> .fail
 | .extract x i=>match xx C st 0 x with
   | .v true es=>match es[i]? with
     |some (.mk a cs)=>K (.v false [.mk a cs])
     |some (.ptr b)=>K (.bp b 0)
     |none=> .fail
   |_=> .fail
 | .build t ps=>match Nn C t,Fs C t (ps.toList.map fun p=>(p.1,xx C st (alI C t p.1) p.2)) ((C.tt t).zero.map abt) with
   |true,some cs=>K (.v false [.mk true cs])
   |_,_=> .fail
 | .makeFunc fn first caps=>match fn,first.toList,Vg C st caps.toList with
   | .func f,[],some bs=>K (.fn f bs)
   |_,_,_=> .fail
 | .call {callee:= .builtin .len,args,argTypes}=>match args.toList,argTypes.toList with
   |[x],[t]=>match Bu (xx C st t x) with
    |some e=>aod C st t e fun v=>K (S v)
    |none=> .fail
   |_,_=> .fail
 | .call {callee:= .builtin .min,args,argTypes}=>match args.toList,argTypes.toList with
   |[x,y],t::_=>match aiY (xx C st t x),asInt (xx C st t y) with
    |some (.int k a),some b=>K (S (.int k (Dv a b)))
    |_,_=> .fail
   |_,_=> .fail
 |_=> .fail
def sN (e:CE) (st:TS):Option (TC×TS×Bool):=
 match e with
 | .sc v=>some (.sc v,st,true)
 | .nil z=>some (.sub z [],st,true)
 | .ref o cut=>match az o st.ob with
   |some ⟨d,z,rows⟩=>some (.sub z (adi cut rows),qQ o st,d)
   |none=>none
 | .snap [] _ z rows=>some (.sub z rows,st,false)
 |_=>none
def VD:List CE→TS→Option (List TC×TS×Bool)
 |[],st=>some ([],st,true)
 |e::r,st=>match sN e st with
  |some (c,fG,d1)=>match VD r fG with
   |some (cs,sF,d2)=>some (c::cs,sF,d1&&d2)
   |none=>none
  |none=>none
def rowsOf (st:TS) (ty:TypeId):List (Nat×Operand)→Nat→Option (List (List TC)×TS×Bool)
 |[],_=>some ([],st,true)
 |(i,x)::r,n=>match Nat.beq i n,KQ (xx C st ty x) with
  |true,some cs=>match Nat.beq cs.length (C.tt ty).size,VD cs st with
   |true,some (cs',fG,d1)=>match rowsOf fG ty r (n+1) with
    |some (rs,sF,d2)=>some (cs'::rs,sF,d1&&d2)
    |none=>none
   |_,_=>none
  |_,_=>none
def xy (d k j:Nat):Nat:=1000+400*d+20*k+j
def bid (b j:Nat):Nat:=1000000000+100*b+j
def DY (b:Nat):Bool:=match Nat.ble 200000 b with|true=>Nat.ble 300000 b|false=>true
def anz (b:Nat):vE→Bool
 | .ptr c=>Nat.beq c b
 | .mk _ _=>false
def VE (b:Nat):TE→Bool
 | .bp c _=>Nat.beq c b
 | .fn _ caps=>pE b caps
 | .v _ es=>es.any (anz b)
 |_=>false
def aaD (b:Nat) (st:TS):TS:=⟨mapA (fun e=>match VE b e with|true=> .dead|false=>e) st.tm,uM b st.bx,st.ob⟩
def Pm (b:Nat) (cs:List CE) (st:TS):TS:=(aaD b st).Pk b cs
def setCells (f:Nat) (cs:List TC) (rows:List (List TC)) (i:Int):List (List TC):=setRow rows i f cs
def VF (o:Nat) (e:CE):CE:=match e with
 | .snap d (some (p,i,f)) z rows=>match Nat.beq p o with|true=> .snap [] none z rows|false=> .snap d (some (p,i,f)) z rows
 |e=>e
def anA (o:Nat):TE→TE
 | .er p (some q) i f=>match Nat.beq p o with|true=> .dead|false=> .er p (some q) i f
 |e=>e
def Yn (b:OB):OB:=⟨false,b.z,b.rows⟩
def D5 (o:Nat) (st:TS):TS:=match az o st.ob with
 |some b=>BD (VF o) (anA o) (rR o (Yn b)) st
 |none=>st
def afo (o:Nat):List CE→Bool
 |[]=>false
 | .snap _ (some (p,_,_)) _ _::r=>match Nat.beq p o with|true=>true|false=>afo o r
 |_::r=>afo o r
def No (o:Nat) (path:Option (Int×Nat)) (i:Int) (f:Nat) (cs:List CE) (st:TS) (K:TS→Ev R):Ev R:=
 match VD cs st with
 |some (ts,fG,d1)=>match az o fG.ob with
  |some ⟨d,z,rows⟩=>match path with
   |none=> .row rows i fun row=>match Nat.ble (f+ts.length) row.length with
    |true=>K (yN [(o,⟨d&&d1,z,setRow rows i f ts⟩)] fG)
    |false=> .fail
   |some (i0,f0)=>match d,d1 with
    |true,true=> .row rows i0 fun row0=>match row0[f0]? with
     |some (.sub z1 uY)=> .row uY i fun row=>match Nat.ble (f+ts.length) row.length with
      |true=>K (yN [(o,⟨true,z,setRow rows i0 f0 [.sub z1 (setRow uY i f ts)]⟩)] fG)
      |false=> .fail
     |_=> .fail
    |_,_=> .fail
  |none=> .fail
 |none=> .fail
def Vi:List CE→Bool
 |[]=>false
 | .gone::_=>true
 |_::r=>Vi r
def VG (b off:Nat) (cs:List CE) (st:TS):Option TS:=
 match az b st.bx with
 |some old=>match DY b&& !Vi cs,Nat.ble (off+cs.length) old.length with
  |true,true=>some (st.Pk b (old.take off++cs++old.drop (off+cs.length)))
  |_,_=>none
 |none=>none
def DA (st:TS) (e:CE):Option (Option Nat×Nat×Bool×List (List TC)):=
 match e with
 | .nil z=>some (none,z,true,[])
 | .ref o cut=>match az o st.ob with
   |some ⟨d,z,rows⟩=>some (some o,z,d,adi cut rows)
   |none=>none
 |_=>none
def r5 (o:Option Nat) (st:TS):TS:=match o with|some o=>qQ o st|none=>st
def Bv (d:Nat) (b:OB) (st:TS):TS:=(Jb (xy d 0 0) b st).set d (one (.ref (xy d 0 0) none))
def Pn (e:TypeId) (z:Nat):Bool:=match Dz (C.tt e) with|true=>Nat.beq z (C.tt e).size|false=>false
def LV (g o':Nat) (b:OB) (l h:Int) (st:TS):TS:=Jb g ⟨true,1,[]⟩ (yM o' ⟨b.deep,b.z,kJ b.z b.rows l h⟩ st)
def afp (d:Nat) (o:Option Nat) (dp:Bool) (cx:CE) (st:TS):Option (Nat×List (List TC)×TS):=match cx with
 | .ref o' (some (l,h))=>match dp,az o' st.ob,(match o with|some o=>Nat.beq o o'||Nat.beq o (xy d 1 0)|none=>false)||Nat.beq o' (xy d 1 0) with
   |true,some ⟨true,z,rows⟩,false=>some (z,aC rows l h,qQ (xy d 1 0) (r5 o (LV (xy d 1 0) o' ⟨true,z,rows⟩ l h st)))
   |_,_,_=>none
 |_=>none
def ai3 (st:TS) (cx:CE):Option (Nat×List (List TC)):=match cx with
 | .ref o' cut=>match az o' st.ob with
   |some ⟨false,z,rows⟩=>some (z,adi cut rows)
   |_=>none
 |_=>none
def agK (st:TS) (d:Nat) (t t':TypeId) (s:TE) (x:TE) (K:TS→Ev R):Ev R:=
 match Fo C t,Bu s,Bu x with
 |some e,some cs,some cx=>match DA st cs,(C.tt t').ti with
  |some (o,z,dp,rows),.str=>match Pn C e z,Nat.beq z 1,cx with
   |true,true,.sc (.string b)=> .test (fits (rows.length+b.size) (C.tt e).bytes) fun q=>match q with
    |true=>K (Bv d ⟨dp,z,rows++Ln b⟩ (r5 o st))
    |false=> .fail
   |_,_,_=> .fail
  |some (o,z,dp,rows),.slice _=>match Pn C e z with
   |false=> .fail
   |true=>match(C.tt e).flat with
     |true=>match sM st cx with
      |some (z',bH)=>match Nat.beq z z' with
       |true=> .test (bR bH&&fits (rows.length+bH.length) (C.tt e).bytes) fun q=>match q with
        |true=>K (Bv d ⟨dp,z,rows++bH⟩ (r5 o st))
        |false=> .fail
       |false=> .fail
      |none=> .fail
     |false=>match afp d o dp cx st with
      |some (z',bH,fG)=>match Nat.beq z z' with
        |true=> .test (fits (rows.length+bH.length) (C.tt e).bytes) fun q=>match q with
         |true=>K (Bv d ⟨dp,z,rows++bH⟩ fG)
         |false=> .fail
        |false=> .fail
      |none=>match ai3 st cx with
       |some (z',bH)=>match Nat.beq z z' with
        |true=> .test (fits (rows.length+bH.length) (C.tt e).bytes) fun q=>match q with
         |true=>K (Bv d ⟨false,z,rows++bH⟩ (r5 o st))
         |false=> .fail
        |false=> .fail
       |none=>match sN cx (r5 o st) with
       |some (.sub z' bH,fG,d1)=>match Nat.beq z z' with
        |true=> .test (fits (rows.length+bH.length) (C.tt e).bytes) fun q=>match q with
         |true=>K (Bv d ⟨dp&&d1,z,rows++bH⟩ fG)
         |false=> .fail
        |false=> .fail
       |_=> .fail
  |_,_=> .fail
 |_,_,_=> .fail
def anB (st:TS) (d:Option Nat) (t:TypeId) (s:TE) (x:TE) (K:TS→Ev R):Ev R:=
 match Fo C t,Bu s,Bu x with
 |some e,some (.ref o none),some cx=>match az o st.ob,sM st cx,Dz (C.tt e) with
  |some ⟨true,z,rows⟩,some (z',bH),true=>match Nat.beq z z'&&Nat.beq z (C.tt e).size with
   |true=> .test (bR bH) fun q=>match q with
    |true=>match d with
     |some d=>K ((yM o ⟨true,z,sK rows bH⟩ st).set d (one (.sc (.int .i64 (Int.ofNat (sJ bH.length rows.length))))))
     |none=>K (yM o ⟨true,z,sK rows bH⟩ st)
    |false=> .fail
   |false=> .fail
  |_,_,_=> .fail
 |_,_,_=> .fail
def abw (st:TS):List Nat→Option (List (List TC))
 |[]=>some []
 |b::r=>match az b st.bx with
  |some cs=>match zC st cs,abw st r with
   |some c,some cs=>some (c::cs)
   |_,_=>none
  |none=>none
def ai4 (st:TS) (e:TE) (K:TV→Ev R):Ev R:=
 match e with
 | .v false [.mk a cs]=>match zC st cs with
   |some ts=>match a,ts with
    |true,ts=>K (.ag ts)
    |false,[c]=>K (.c c)
    |_,_=> .fail
   |none=> .fail
 | .kb b=>K (.c (.sc (.bool b)))
 | .bp b off=>match az b st.bx with
   |some cs=>match zC st (cs.drop off) with
    |some ts=>K (.bx ts)
    |none=> .fail
   |none=> .fail
 | .ep _ (c::cells)=>K (.bx (c::cells))
 | .er r p i f=>agJ st r p i f fun cells=>match cells with
   |[]=> .fail
   |c::cells=>K (.bx (c::cells))
 | .fn f caps=>match abw st caps with
   |some xs=>K (.fn f xs)
   |none=> .fail
 |_=> .fail
def adj (st:TS):List TE→(List TV→Ev R)→Ev R
 |[],K=>K []
 |e::r,K=>ai4 st e fun v=>adj st r fun vs=>K (v::vs)
def Ft (st:TS) (b:Nat):List Nat:=match az b st.bx with
 |some cs=>(2*b+1)::(cs.flatMap iM).map (2* ·)
 |none=>[2*b+1]
def wJ (st:TS):TE→List Nat
 | .v _ es=>(kK es).map (2* ·)
 | .ep d _=>d.map (2* ·)
 | .er o _ _ _=>[2*o]
 | .bp b _=>Ft st b
 | .fn _ caps=>caps.flatMap (Ft st)
 |_=>[]
def D6 (st:TS) (o:Nat):Bool:=match az o st.ob with|some ⟨true,_,_⟩=>true|_=>false
def zE (st:TS) (c:Bool):List Mode→List CE→Option (List Nat)
 |_,[]=>some []
 |ms,e::r=>match zE st c (ms.drop 1) r with
  |some l=>match ms.headD .deep,e with
   |_,.sc _=>some l
   |_,.nil _=>some l
   | .snap,.snap [] none _ _=>some l
   | .snap,_=>none
   |_,.ref o none=>match D6 st o with|true=>some ((2*o)::l)|false=>none
   |_,.ref o (some _)=>match c,D6 st o with|true,true=>some ((2*o)::l)|_,_=>none
   |_,.snap _ (some (o,_,_)) _ _=>match c,D6 st o with|false,true=>some ((2*o)::l)|_,_=>none
   |_,_=>none
  |none=>none
def vF (st:TS) (c:Bool) (ms:List Mode) (e:TE):Option (List Nat):=match e with
 | .v false [.mk _ cs]=>match ms with|[]=>zE st c [] cs|_=>none
 | .bp b 0=>match c,DY b,az b st.bx with
   |false,true,some cs=>match zE st true ms cs with
    |some l=>some ((2*b+1)::l)
    |none=>none
   |_,_,_=>none
 |_=>none
def ct.ms:ct→List Mode
 | .inout ms=>ms
 |_=>[]
def LW:List Nat→Bool
 |[]=>true
 |a::r=>match pE a r with|true=>false|false=>LW r
def Fu (st:TS):List ct→List TE→Option (List Nat×List Nat)
 |[],[]=>some ([],[])
 |p::ps,e::es=>match Fu st ps es with
  |some (own,rd)=>match p with
   | .borrow=>some (own,wJ st e++rd)
   | .inout ms=>match vF st false ms e with|some l=>some (l++own,rd)|none=>none
   | .consume=>match vF st true [] e with|some l=>some (l++own,rd)|none=>none
  |none=>none
 |_,_=>none
def zF:List CE→TS→TS
 |[],st=>st
 | .ref o _::r,st=>zF r (qQ o st)
 |_::r,st=>zF r st
def xH (st:TS) (e:CE) (c:TC):Option (List (Nat×OB)):=
 match e,c with
 | .sc _,.sc _=>some []
 | .nil _,.sub _ []=>some []
 | .ref o none,.sub z rows=>match az o st.ob with
   |some ⟨true,z0,_⟩=>match Nat.beq z z0 with|true=>some [(o,⟨true,z,rows⟩)]|false=>none
   |_=>none
 | .snap _ (some (o,i,f)) z0 _,.sub z' bH=>match az o st.ob,Nat.beq z' z0 with
   |some ⟨true,z,rows⟩,true=>some [(o,⟨true,z,setRow rows i f [.sub z' bH]⟩)]
   |_,_=>none
 |_,_=>none
def Vj (st:TS):List CE→List TC→Option (List (Nat×OB))
 |[],[]=>some []
 |e::r,c::cs=>match xH st e c,Vj st r cs with
  |some a,some b=>some (a++b)
  |_,_=>none
 |_,_=>none
def cM (f:Nat→Nat):List Mode→Nat→List TC→TS→List CE×TS
 |_,_,[],st=>([],st)
 |ms,j,c::cs,st=>match c with
  | .sc v=>match cM f (ms.drop 1) (j+1) cs st with|(r,st')=>(.sc v::r,st')
  | .sub z rows=>match ms.headD .snap with
    | .snap=>match cM f (ms.drop 1) (j+1) cs st with|(r,st')=>(.snap [] none z rows::r,st')
    | .top=>match cM f (ms.drop 1) (j+1) cs (Jb (f j) ⟨false,z,rows⟩ st) with|(r,st')=>(.ref (f j) none::r,st')
    | .deep=>match cM f (ms.drop 1) (j+1) cs (Jb (f j) ⟨true,z,rows⟩ st) with|(r,st')=>(.ref (f j) none::r,st')
  | .any=>match cM f (ms.drop 1) (j+1) cs st with|(r,st')=>(.gone::r,st')
def yq (uJ:TS):List ct→List TE→TS→TS
 |p::ps,e::es,st=>match p,e with
  | .consume,.v false [.mk _ cs]=>yq uJ ps es (zF cs st)
  | .inout _,.bp b _=>match az b uJ.bx with
    |some cs=>yq uJ ps es ⟨(zF cs st).tm,uM b (zF cs st).bx,(zF cs st).ob⟩
    |none=>yq uJ ps es st
  |_,_=>yq uJ ps es st
 |_,_,st=>st
def zG (st:TS):List ct→List TE→List TV→Option (List (Nat×OB)×List (Nat×List Mode×List TC))
 |p::ps,e::es,fs=>match p with
  | .inout ms=>match e,fs with
    | .v false [.mk false [e]],.c c::fs=>match xH st e c,zG st ps es fs with
      |some a,some (b,bs)=>some (a++b,bs)
      |_,_=>none
    | .v false [.mk true cs],.ag ts::fs=>match Vj st cs ts,zG st ps es fs with
      |some a,some (b,bs)=>some (a++b,bs)
      |_,_=>none
    | .bp b 0,.bx ts::fs=>match az b st.bx,zG st ps es fs with
      |some cs,some (a,bs)=>match Nat.beq cs.length ts.length with|true=>some (a,(b,ms,ts)::bs)|false=>none
      |_,_=>none
    |_,_=>none
  |_=>zG st ps es fs
 |[],[],[]=>some ([],[])
 |_,_,_=>none
def bms:List Mode→List TC→List Mode
 |_,[]=>[]
 |ms,_::r=>(match ms.headD .deep with| .snap=> .snap|_=> .deep)::bms (ms.drop 1) r
def Np:List (Nat×List Mode×List TC)→TS→TS
 |[],st=>st
 |(b,ms,ts)::r,st=>match cM (bid b) (bms ms ts) 0 ts st with
  |(cs,st')=>Np r (st'.Pk b cs)
def D7 (st:TS):List Nat→TS
 |[]=>st
 |o::r=>D7 (BE st o) r
def Jd (st:TS):TE→List Nat
 | .bp b _=>match az b st.bx with|some cs=>cs.flatMap iM|none=>[]
 | .fn _ caps=>caps.flatMap fun b=>match az b st.bx with|some cs=>cs.flatMap iM|none=>[]
 |e=>Dy e
def borrowed (st:TS):List ct→List TE→List Nat
 | .borrow::ps,e::es=>Jd st e++borrowed st ps es
 |_::ps,_::es=>borrowed st ps es
 |_,_=>[]
def zI (d k:Nat):Nat:=400000+20*d+k
def jD (d:Nat):Nat→List (List Mode)→List (Nat×List TC)→TS→List vE×TS
 |_,_,[],st=>([],st)
 |k,ms,(a,cs)::r,st=>match cM (xy d k) (ms.headD []) 0 cs st with
  |(cs',st')=>match Nat.beq a 2 with
   |true=>match jD d (k+1) (ms.drop 1) r (Pm (zI d k) cs' st') with
    |(es,RN)=>(.ptr (zI d k)::es,RN)
   |false=>match jD d (k+1) (ms.drop 1) r st' with
    |(es,RN)=>(.mk (Nat.beq a 1) cs'::es,RN)
def KR:List (Nat×List TC)→Bool
 |[]=>true
 |(_,cs)::r=>match Nat.ble cs.length 20 with|true=>KR r|false=>false
def ai5 (d:Nat) (ms:List (List Mode)) (v:TV) (st:TS):Option TS:=
 match v with
 | .c c=>match cM (xy d 0) (ms.headD []) 0 [c] st with|(cs,st')=>some (st'.set d (.v false [.mk false cs]))
 | .ag cs=>match cM (xy d 0) (ms.headD []) 0 cs st with|(cs,st')=>some (st'.set d (.v false [.mk true cs]))
 | .tu vs=>match KR vs with
   |true=>match jD d 0 ms vs st with|(es,st')=>some (st'.set d (.v true es))
   |false=>none
 | .bx cs=>match cM (xy d 0) (ms.headD []) 0 cs st with|(cs',st')=>some ((Pm (zI d 0) cs' st').set d (.bp (zI d 0) 0))
 |_=>none
def BG:TV→Bool
 | .c _=>true
 | .ag cs=>Nat.ble cs.length 16
 | .bx cs=>Nat.ble cs.length 16
 | .fn _ caps=>Nat.ble caps.length 900
 | .tu _=>false
def uO:List TV→Bool
 |[]=>true
 |v::r=>match BG v with|true=>uO r|false=>false
def Ai (vs:List TV):Bool:=match Nat.ble vs.length 50 with|true=>uO vs|false=>false
def Je (sh:Bool) (st:TS) (ps:List ct) (es:List TE):TS:=match sh with
 |true=>D7 (yq st ps es st) (borrowed st ps es)
 |false=>yq st ps es st
def tI:List Mode→List TC→Bool
 |_,[]=>true
 |ms,.sc _::r=>tI (ms.drop 1) r
 |ms,.sub _ _::r=>match ms.headD .snap with| .deep=>tI (ms.drop 1) r|_=>false
 |ms,.any::r=>match ms.headD .snap with| .deep=>tI (ms.drop 1) r|_=>false
def Vk:List (List Mode)→List (Nat×List TC)→Bool
 |_,[]=>true
 |ms,(_,cs)::r=>match tI (ms.headD []) cs with|true=>Vk (ms.drop 1) r|false=>false
def agL (ms:List (List Mode)):TV→Bool
 | .c c=>tI (ms.headD []) [c]
 | .ag cs=>tI (ms.headD []) cs
 | .bx cs=>tI (ms.headD []) cs
 | .tu vs=>Vk ms vs
 | .fn _ _=>false
def abx:List ct→Bool
 |[]=>true
 | .inout (_::_)::_=>false
 |_::r=>abx r
def afq (g:Sig) (r:TV):Bool:=match g.shares with
 |true=>true
 |false=>match abx g.ps with|true=>agL g.res r|false=>false
def Nq (d:Option Tmp) (f:FuncId) (es:List TE) (st:TS) (K:TS→Ev R):Ev R:=
 match Fu st (C.sig f).ps es with
 |some (own,rd)=>match LW own,zo own rd,(C.sig f).shares&&pE 0 rd with
  |true,false,false=>adj st es fun vs=>match Ai vs with
   |true=> .call f vs fun r fs=>match afq (C.sig f) r with
    |false=> .fail
    |true=>match zG st (C.sig f).ps es fs with
     |some (W,B)=>fTS (Np B (yN W (Je (C.sig f).shares st (C.sig f).ps es))) fun sF=>match d with
      |some d=>match ai5 d (C.sig f).res r sF with
       |some st4=>K st4
       |none=> .fail
      |none=>K sF
     |none=> .fail
   |false=> .fail
  |_,_,_=> .fail
 |none=> .fail
def Po (st:TS):List Operand→List TypeId→List TE
 |x::xs,t::ts=>xx C st t x::Po st xs ts
 |_,_=>[]
def aaE (st:TS) (o:Oper) (K:TS→Ev R):Ev R:=match o.dst with
 |some d=>kg C st o fun e=>K (st.set d e)
 |none=> .fail
def sO (st:TS) (o:Oper) (K:TS→Ev R):Ev R:=
 match o.op with
 | .alloc t=>match o.dst,Dz (C.tt t) with
   |some d,true=>match DY d with
    |true=>K ((Pm d ((C.tt t).zero.map abt) st).set d (.bp d 0))
    |false=> .fail
   |_,_=> .fail
 | .box t x=>match o.dst,KQ (xx C st t x) with
   |some d,some cs=>match DY d with
    |true=>K ((Pm d cs st).set d (.bp d 0))
    |false=> .fail
   |_,_=> .fail
 | .store t a x=>match o.dst,known (C.tt t),KQ (xx C st t x) with
   |none,true,some cs=>match Nat.beq cs.length (C.tt t).size,xx C st 0 a with
    |true,.bp b off=>match VG b off cs st with
     |some st'=>K st'
     |none=> .fail
    |true,.er r none i f=>match afo r cs with
     |true=>No r none i f (cs.map (VF r)) (D5 r st) K
     |false=>No r none i f cs st K
    |true,.er r p i f=>No r p i f cs st K
    |_,_=> .fail
   |_,_,_=> .fail
 | .buildSlice t n ps=>match o.dst,Fo C t with
   |some d,some e=>match Nat.beq n ps.size&&Nat.ble (n*(C.tt e).size) 16777216&&Dz (C.tt e),rowsOf C st e ps.toList 0 with
    |true,some (rs,st',dp)=>K (Bv d ⟨dp,(C.tt e).size,rs⟩ st')
    |_,_=> .fail
   |_,_=> .fail
 | .makeSlice t l c=>match o.dst,Fo C t,asInt (xx C st 3 l),asInt (xx C st 3 c) with
   |some d,some e,some n,some n'=> .test (Dz (C.tt e)&&cn n n'&&m6 0 n&&fits (sL n) (C.tt e).bytes) fun z=>match z with
    |true=>K (Bv d ⟨true,(C.tt e).size,List.replicate (sL n) (C.tt e).zero⟩ st)
    |false=> .fail
   |_,_,_,_=> .fail
 | .convert src dst x=>match(C.tt dst).ti,(C.tt src).ti with
   | .slice et,.str=>match o.dst,(C.tt et).ti,aiY (xx C st src x) with
     |some d,.int .u8,some (.string s)=> .test (fits s.size 1) fun z=>match z with
      |true=>K (Bv d ⟨true,1,Ln s⟩ st)
      |false=> .fail
     |_,_,_=> .fail
   |_,_=>aaE C st o K
 | .call {callee:= .builtin .append,args,argTypes}=>match o.dst,args.toList,argTypes.toList with
   |some d,[s,x],[t,t']=>agK C st d t t' (xx C st t s) (xx C st t' x) K
   |_,_,_=> .fail
 | .call {callee:= .builtin .copy,args,argTypes}=>match args.toList,argTypes.toList with
   |[s,x],[t,t']=>anB C st o.dst t (xx C st t s) (xx C st t' x) K
   |_,_=> .fail
 | .call {callee:= .value (.func f),args,argTypes}=>match Nat.beq args.toList.length argTypes.toList.length with
   |true=>Nq C o.dst f (Po C st args.toList argTypes.toList) st K
   |false=> .fail
 | .call {callee:= .value (.tmp i),args,argTypes}=>match Nat.beq args.toList.length argTypes.toList.length with
   |true=>match st.get i with
    | .fn f caps=>Nq C o.dst f (Po C st args.toList argTypes.toList++caps.map fun b=> .bp b 0) st K
    |_=> .fail
   |false=> .fail
 |_=>aaE C st o K
def aby (st:TS) (b:Nat):List Nat:=match az b st.bx with
 |some cs=>(2*b+1)::(cs.flatMap iM).map (2* ·)
 |none=>[2*b+1]
def Jf (st:TS):TE→List Nat
 | .v _ es=>(kK es).map (2* ·)
 | .bp b _=>aby st b
 |_=>[]
def vG (st:TS):List ct→List TE→List Nat
 | .borrow::ps,_::es=>vG st ps es
 |_::ps,e::es=>Jf st e++vG st ps es
 |_,_=>[]
def writes (st:TS) (o:Oper):List Nat:=match o.op with
 | .store _ a _=>match xx C st 0 a with
   | .bp b _=>[2*b+1]
   | .er o _ _ _=>[2*o]
   |_=>[]
 | .call {callee:= .builtin .append,args,argTypes}=>match args.toList,argTypes.toList with
   |s::_,t::_=>(Dy (xx C st t s)).map (2* ·)
   |_,_=>[]
 | .call {callee:= .builtin .copy,args,argTypes}=>match args.toList,argTypes.toList with
   |s::_,t::_=>(Dy (xx C st t s)).map (2* ·)
   |_,_=>[]
 | .call {callee:= .value (.func f),args,argTypes}=>vG st (C.sig f).ps (Po C st args.toList argTypes.toList)
 | .call {callee:= .value (.tmp i),args,argTypes}=>match st.get i with
   | .fn f caps=>vG st (C.sig f).ps (Po C st args.toList argTypes.toList++caps.map fun b=> .bp b 0)
   |_=>[]
 |_=>[]
def ai6 (st:TS) (o:Oper):Option (List Nat):=match o.op with
 | .load _ a=>match xx C st 0 a with
   | .bp b _=>match az b st.bx with
     |some _=>some [2*b+1]
     |none=>none
   | .ep d (_::_)=>some (d.map (2* ·))
   | .er o none _ _=>some [2*o]
   | .er o (some _) _ _=>match az o st.ob with
     |some ⟨true,_,_⟩=>some [2*o]
     |_=>none
   |_=>none
 |_=>none
def anC (ops:Array Oper) (st:TS) (o:Oper):Bool:=match o.guard with
 |none=>false
 |some (j,want)=>match ops[j]? with
  |some oj=>match oj.dst with
   |some t=>match st.get t with
    | .kb b=>match b,want with
      |true,false=>true
      |false,true=>true
      |_,_=>false
    | .v true []=>true
    |_=>false
   |none=>false
  |none=>false
def Jg (ops:Array Oper) (st:TS) (o:Oper):List Nat→Bool
 |[]=>true
 |l::r=>match ops[l]? with
  |some ol=>match anC ops st ol with
   |true=>Jg ops st o r
   |false=>match ai6 C st ol with
    |some rd=>match zo rd (writes C st o) with|true=>false|false=>Jg ops st o r
    |none=>false
  |none=>false
def adl (fl:List Nat) (ops:Array Oper) (st:TS) (o:Oper) (K:TS→Ev R):Ev R:=match Jg C ops st o fl with
 |true=>sO C st o K
 |false=> .fail
def adm (st:TS) (o:Oper) (K:TS→Ev R):Ev R:=match o.dst with
 |some d=>K (st.set d (.v true []))
 |none=>K st
def afr (fl:List Nat) (ops:Array Oper) (st:TS) (o:Oper) (b want:Bool) (K:TS→Ev R):Ev R:=
 match b,want with
 |true,true=>adl C fl ops st o K
 |false,false=>adl C fl ops st o K
 |_,_=>adm st o K
def agM (fx:List Nat) (o:Oper):Bool:=match o.dst with|some d=> !pE d fx|none=>true
def guarded (fx fl:List Nat) (ops:Array Oper) (st:TS) (o:Oper) (K:TS→Ev R):Ev R:=
 match agM fx o with
 |false=> .fail
 |true=>match o.guard with
  |none=>adl C fl ops st o K
  |some (j,want)=>match ops[j]? with
   |some oj=>match oj.dst with
    |some t=>match st.get t with
     | .kb b=>afr C fl ops st o b want K
     | .v false [.mk false [.sc (.bool b)]]=> .test b fun b=>afr C fl ops (st.set t (.kb b)) o b want K
     | .v true []=>adm st o K
     |_=> .fail
    |none=> .fail
   |none=> .fail
def Gk {α:Type} (l:List Nat):List (Nat×α)→List (Nat×α)
 |[]=>[]
 |(i,e)::r=>match pE i l with|true=>(i,e)::Gk l r|false=>Gk l r
def abz (fx:List Nat) (l:List Nat) (ops:Array Oper):List Oper→TS→(TS→Ev R)→Ev R
 |[],st,K=>fTS ⟨Gk l st.tm,st.bx,st.ob⟩ K
 |o::r,st,K=>guarded C fx [] ops st o fun st'=>fTS st' fun st'=>abz fx l ops r st' K
def wK (fx:List Nat) (l:List Nat) (ops:Array Oper):KO→TS→(TS→Ev R)→Ev R
 | .nil,st,K=>fTS ⟨Gk l st.tm,st.bx,st.ob⟩ K
 | .op i fl r,st,K=>match ops[i]? with
   |some o=>guarded C fx fl ops st o fun st'=>fTS st' fun st'=>wK fx l ops r st' K
   |none=> .fail
 | .alt a b,st,K=> .both (wK fx l ops a st K) (wK fx l ops b st K)
def BH (l:List Nat):List (Nat×List CE)→List (Nat×List CE)
 |[]=>[]
 |(i,cs)::r=>match Nat.ble 100000 i with
  |true=>(i,cs)::BH l r
  |false=>match pE i l with|true=>(i,cs)::BH l r|false=>BH l r
def jP (n:Nat):List CE→List CE×Nat×List (Nat×OB)
 |[]=>([],n,[])
 | .nil z::r=>match Nat.ble 1 z with
   |true=>match jP (n+1) r with|(cs,m,obs)=>(.ref n none::cs,m,(n,⟨true,z,[]⟩)::obs)
   |false=>match jP n r with|(cs,m,obs)=>(.nil z::cs,m,obs)
 |e::r=>match jP n r with|(cs,m,obs)=>(e::cs,m,obs)
def iZ (n:Nat):List vE→List vE×Nat×List (Nat×OB)
 |[]=>([],n,[])
 | .mk a cs::r=>match jP n cs with
   |(cs',m,o1)=>match iZ m r with|(es,m',o2)=>(.mk a cs'::es,m',o1++o2)
 | .ptr b::r=>match iZ n r with|(es,m,o2)=>(.ptr b::es,m,o2)
def LX (n:Nat) (e:TE):TE×Nat×List (Nat×OB):=match e with
 | .v tup es=>match iZ n es with|(es',m,o)=>(.v tup es',m,o)
 | .kb b=>(S (.bool b),n,[])
 |e=>(e,n,[])
def D8 (n:Nat):List (Nat×TE)→List (Nat×TE)×List (Nat×OB)
 |[]=>([],[])
 |(i,e)::r=>match LX n e with
  |(e',m,o1)=>match D8 m r with|(r',o2)=>((i,e')::r',o1++o2)
def adn (n:Nat):List (Nat×OB)→Bool
 |[]=>true
 |(i,_)::r=>match Nat.ble n i with|true=>false|false=>adn n r
def ado (st:TS):TS:=match adn 900000000 st.ob with
 |true=>match D8 900000000 st.tm with|(tm,obs)=>⟨tm,st.bx,nt obs st.ob⟩
 |false=>st
def aof (st:TS):List Nat:=(st.tm.flatMap fun p=>Dy p.2)++st.bx.flatMap fun p=>p.2.flatMap iM
def number:List Nat→Nat→List (Nat×Nat)→List (Nat×Nat)
 |[],_,ρ=>ρ
 |o::r,n,ρ=>match Nat.beq o 0 with
  |true=>number r n ρ
  |false=>match az o ρ with
   |some _=>number r n ρ
   |none=>number r (n+1) ((o,n)::ρ)
def Pp (ρ:List (Nat×Nat)) (o:Nat):Nat:=match az o ρ with|some n=>n|none=>0
def Nr (ρ:List (Nat×Nat)):CE→CE
 | .ref o cut=> .ref (Pp ρ o) cut
 | .snap d l z rows=> .snap (d.map (Pp ρ)) (match l with|some (o,i,f)=>some (Pp ρ o,i,f)|none=>none) z rows
 |e=>e
def ai7 (ρ:List (Nat×Nat)):TE→TE
 | .ep d cells=> .ep (d.map (Pp ρ)) cells
 | .er o p i f=> .er (Pp ρ o) p i f
 |e=>e
def zp (ob:List (Nat×OB)):List (Nat×Nat)→List (Nat×OB)
 |[]=>[]
 |(o,n)::r=>match az o ob with|some b=>rR n b (zp ob r)|none=>zp ob r
def aqe (ρ:List (Nat×Nat)) (st:TS):TS:=⟨mapA (Dx (Nr ρ) (ai7 ρ)) st.tm,mapA (List.map (Nr ρ)) st.bx,zp st.ob ρ⟩
def canon (st:TS):TS:=aqe (number (aof st) 1 []) st
def adp (l:List Nat) (st:TS):TS:=canon (ado ⟨Gk l st.tm,BH l st.bx,st.ob⟩)
def run (fx:List Nat) (f:FuncId):Nat→Code→TS→(TX→TS→Ev R)→Ev R
 |_,.skip,st,K=>K .norm st
 |_,.region id ops draw,st,K=>match draw with
  |false=>abz C fx (C.lr f id) ops ops.toList st (K .norm)
  |true=>match C.Vt f id with
   |some l=>wK C fx (C.lr f id) ops l st (K .norm)
   |none=> .fail
 |i,.seq a b,st,K=>run fx f i a st fun x st'=>match x with
  | .norm=>run fx f i b st' K
  |x=>K x st'
 |i,.cond c a b,st,K=>match xx C st 0 c with
  | .kb p=>match p with
    |true=>run fx f i a st K
    |false=>run fx f i b st K
  | .v false [.mk false [.sc (.bool p)]]=> .test p fun p=>match p with
    |true=>run fx f i a st K
    |false=>run fx f i b st K
  |_=> .fail
 |_,.block id body,st,K=>run fx f id body st fun x st'=>match x with
  | .ex id'=>match Nat.beq id' id with|true=>K .norm st'|false=>K (.ex id') st'
  |x=>K x st'
 |i,.loop body,st,K=>fTS (adp (C.lb f i) st) fun st=> .loop f i body st K
 |_,.exit id,st,K=>K (.ex id) st
 |_,.ret,st,K=>K .ret st
 |_,_,_,_=> .fail
def fH (sh:Bool) (p:ct) (n:Nat):Nat→List TC→List CE×List (Nat×OB)
 |_,[]=>([],[])
 |j,c::r=>match fH sh p n (j+1) r with
  |(es,obs)=>match c with
   | .sc v=>(.sc v::es,obs)
   | .sub z rows=>match p.mc j with
     | .snap=>(.snap (match sh with|true=>[]|false=>[0]) none z rows::es,obs)
     |_=>(.ref (n+j) none::es,(n+j,⟨true,z,rows⟩)::obs)
   | .any=>(.gone::es,obs)
def Pq (sh:Bool) (i:Nat):List (List TC)→List (Nat×List CE)
 |[]=>[]
 |c::r=>(i,(fH sh .borrow 0 0 c).1)::Pq sh (i+1) r
def D9 (p:ct) (i:Nat):Nat:=match p with| .borrow=>200000+1000*i|_=>100000+1000*i
def init (sh:Bool) (ps:List ct) (i:Nat):List TV→TS
 |[]=>⟨[],[],[]⟩
 |v::r=>match init sh (ps.drop 1) (i+1) r with
  |⟨tm,bx,ob⟩=>match v with
   | .c c=>match fH sh (ps.headD .borrow) (500+16*i) 0 [c] with|(cs,o)=>⟨(i,.v false [.mk false cs])::tm,bx,o++ob⟩
   | .ag cs=>match fH sh (ps.headD .borrow) (500+16*i) 0 cs with|(cs,o)=>⟨(i,.v false [.mk true cs])::tm,bx,o++ob⟩
   | .bx cs=>match fH sh (ps.headD .borrow) (500+16*i) 0 cs with
     |(cs,o)=>⟨(i,.bp (D9 (ps.headD .borrow) i) 0)::tm,(D9 (ps.headD .borrow) i,cs)::bx,o++ob⟩
   | .fn f caps=>⟨(i,.fn f (om (200000+1000*i+1) caps.length))::tm,Pq sh (200000+1000*i+1) caps++bx,ob⟩
   | .tu _=>⟨tm,bx,ob⟩
def afs (m:Mode) (e:CE) (deep:Bool):Bool:=match m,e with
 |_,.sc _=>true
 | .snap,_=>true
 |_,.nil _=>true
 | .top,.ref _ _=>true
 | .deep,.ref _ _=>deep
 |_,_=>false
def Jh:List Mode→List CE→TS→Option (List TC×TS)
 |_,[],st=>some ([],st)
 |ms,e::r,st=>match sN e st with
  |some (c,st',d)=>match afs (ms.headD .snap) e d with
   |true=>match Jh (ms.drop 1) r st' with
    |some (cs,RN)=>some (c::cs,RN)
    |none=>none
   |false=>none
  |none=>none
def pY:List Mode→List CE→TS→Option (List TC×TS)
 |_,[],st=>some ([],st)
 |ms,e::r,st=>match ms.headD .deep,e with
  | .snap,e=>match sN e st with
    |some (c,st',_)=>match pY (ms.drop 1) r st' with
     |some (cs,RN)=>some (c::cs,RN)
     |none=>none
    |none=>none
  |_,.sc v=>match pY (ms.drop 1) r st with
   |some (cs,st')=>some (.sc v::cs,st')
   |none=>none
  |_,.nil z=>match pY (ms.drop 1) r st with
   |some (cs,st')=>some (.sub z []::cs,st')
   |none=>none
  |_,.ref o none=>match az o st.ob with
   |some ⟨true,z,rows⟩=>match pY (ms.drop 1) r (qQ o st) with
    |some (cs,st')=>some (.sub z rows::cs,st')
    |none=>none
   |_=>none
  |_,_=>none
def aog (a:Bool):Nat:=match a with|true=>1|false=>0
def agN (st:TS) (r:ResultVar) (K:TE→Ev R):Ev R:=match r with
 | .tmp t=>K (st.get t)
 | .cell a t=>Lq C st t (st.get a) K
def VH:List (List Mode)→List ResultVar→TS→(List (Nat×List TC)→TS→Ev R)→Ev R
 |_,[],st,K=>K [] st
 |ms,r::rs,st,K=>agN C st r fun e=>match e with
  | .v false [.mk a cs]=>match Jh (ms.headD []) cs st with
    |some (ts,st')=>VH (ms.drop 1) rs st' fun vs RN=>K ((aog a,ts)::vs) RN
    |none=> .fail
  | .kb b=>VH (ms.drop 1) rs st fun vs RN=>K ((0,[.sc (.bool b)])::vs) RN
  | .bp b 0=>match DY b,az b st.bx with
    |true,some cs=>match Jh (ms.headD []) cs ⟨st.tm,uM b st.bx,st.ob⟩ with
     |some (ts,st')=>VH (ms.drop 1) rs st' fun vs RN=>K ((2,ts)::vs) RN
     |none=> .fail
    |_,_=> .fail
  |_=> .fail
def adq:List ct→Nat→TS→Option (List TV)
 |[],_,_=>some []
 |p::ps,i,st=>match p with
  | .inout ms=>match ms,st.get i with
    |[],.v false [.mk false [e]]=>match pY [] [e] st with
     |some ([c],st')=>match adq ps (i+1) st' with
      |some vs=>some (.c c::vs)
      |none=>none
     |_=>none
    |[],.v false [.mk true cs]=>match pY [] cs st with
     |some (ts,st')=>match adq ps (i+1) st' with
      |some vs=>some (.ag ts::vs)
      |none=>none
     |none=>none
    |ms,.bp b 0=>match DY b,az b st.bx with
     |true,some cs=>match pY ms cs st with
      |some (ts,st')=>match adq ps (i+1) st' with
       |some vs=>some (.bx ts::vs)
       |none=>none
      |none=>none
     |_,_=>none
    |_,_=>none
  |_=>adq ps (i+1) st
def Pt:List (Nat×List TC)→TV
 |[(0,[c])]=> .c c
 |[(1,cs)]=> .ag cs
 |[(2,cs)]=> .bx cs
 |vs=> .tu vs
def yO:List ct→Nat→List Nat
 |[],_=>[]
 | .inout _::r,i=>i::yO r (i+1)
 |_::r,i=>yO r (i+1)
def ai8 (g:Sig) (rs:List ResultVar) (x:TX) (st:TS):Ev (TV×List TV):=match x with
 | .ex _=> .fail
 |_=>VH C g.res rs st fun rs st'=>match adq g.ps 0 st' with
  |some fs=>fTV (Pt rs) fun r=>fL fTV fs fun fs=> .ret (r,fs)
  |none=> .fail
def Ji (g:Sig) (vs:List TV):TS:=init true g.ps 0 vs
def body (f:FuncId) (vs:List TV):Ev (TV×List TV):=
 match C.P.funcs[f]? with
 |none=> .fail
 |some fn=>match fn.body with
  |none=> .fail
  |some c=>fTS (Ji (C.sig f) vs) fun st=>run C (yO (C.sig f).ps 0) f 0 c st (ai8 C (C.sig f) fn.results.toList)
end
abbrev Cf:=FuncId→List TV→TV→List TV→Prop
abbrev Lp:=FuncId→Nat→Code→TS→(TX→TS→Prop)→Prop
def Ev.holds {R:Type} (cf:Cf) (lp:Lp) (Q:R→Prop):Ev R→Prop
 | .fail=>False
 | .ret r=>Q r
 | .test b k=>(k b).holds cf lp Q
 | .row rows i k=> ∃c,rowAt rows i=some c∧(k c).holds cf lp Q
 | .byte s i k=> ∃b,xG s i=some b∧(k b).holds cf lp Q
 | .bytes rows k=> ∃ns,wI rows=some ns∧(k ns).holds cf lp Q
 | .call f vs k=> ∃r fs,cf f vs r fs∧(k r fs).holds cf lp Q
 | .loop f i c st k=>lp f i c st fun x st'=>(k x st').holds cf lp Q
 | .both a b=> ∃r,a.holds cf lp (fun r'=>r'=r)∧b.holds cf lp (fun r'=>r'=r)∧Q r
section
variable (C : pO)
def VI (x:TX) (st:TS):Ev (TX×TS):= .ret (x,st)
def iter (cf:Cf) (lp:Lp) (fx:List Nat) (f i:Nat) (c:Code) (Q:TX→TS→Prop):Nat→TS→Prop
 |0,_=>False
 |n+1,st=>(run C fx f i c st VI).holds cf lp fun p=>match p with
   |(.norm,st')=>fTS (adp (C.lb f i) st') fun st'=>iter cf lp fx f i c Q n st'
   |(x,st')=>Q x st'
def lpN (cf:Cf) (k:Nat) (fx:List Nat):Nat→Lp
 |0=>fun _ _ _ _ _=>False
 |n+1=>fun f i c st Q=>iter C cf (lpN cf k fx n) fx f i c Q k st
def lG:Nat→Cf
 |0=>fun _ _ _ _=>False
 |k+1=>fun f vs r fs=>match C.ext f with
  |some p=>p vs=some (r,fs)
  |none=>(body C f vs).holds (lG k) (lpN C (lG k) k (yO (C.sig f).ps 0) 4) fun p=>p=(r,fs)
end
end Go.T
set_option linter.unusedVariables false
set_option linter.unusedSimpArgs false
namespace Go.T
inductive An where
 |b (x:Bool)
 |row (c:List TC)
 |n (i:Int)
 |ns (l:List Int)
 |call (r:TV) (fs:List TV)
 |loop (x:TX) (st:TS)
inductive Qr where
 |test (b x:Bool)
 |row (rows:List (List TC)) (i:Int) (c:List TC)
 |byte (s:ByteArray) (i b:Int)
 |bytes (rows:List (List TC)) (ns:List Int)
 |call (f:FuncId) (vs:List TV) (r:TV) (fs:List TV)
 |loop (f:FuncId) (i:Nat) (c:Code) (st:TS) (x:TX) (st':TS)
def Ev.trace {R:Type}:Ev R→List An→List Qr→Option (R×List Qr)
 | .fail,_,_=>none
 | .ret r,as,qs=>match as with|[]=>some (r,qs)|_=>none
 | .test b k,as,qs=>match as with| .b x::as=>(k x).trace as (.test b x::qs)|_=>none
 | .row rows i k,as,qs=>match as with| .row c::as=>(k c).trace as (.row rows i c::qs)|_=>none
 | .byte s i k,as,qs=>match as with| .n b::as=>(k b).trace as (.byte s i b::qs)|_=>none
 | .bytes rows k,as,qs=>match as with| .ns l::as=>(k l).trace as (.bytes rows l::qs)|_=>none
 | .call f vs k,as,qs=>match as with| .call r fs::as=>fL fTV vs fun vs=>(k r fs).trace as (.call f vs r fs::qs)|_=>none
 | .loop f i c st k,as,qs=>match as with| .loop x st'::as=>(k x st').trace as (.loop f i c st x st'::qs)|_=>none
 | .both _ _,_,_=>none
def Qr.ok (cf:Cf) (lp:Lp):Qr→Prop
 | .test b x=>b=x
 | .row rows i c=>rowAt rows i=some c
 | .byte s i b=>xG s i=some b
 | .bytes rows ns=>wI rows=some ns
 | .call f vs r fs=>cf f vs r fs
 | .loop f i c st x st'=>lp f i c st fun x1 fG=>x1=x∧fG=st'
section
variable {Z : Type}
theorem Aj {α:Type} {f:α→(α→Z)→Z} (h: ∀a K,f a K=K a): ∀(l:List α) (K:List α→Z),fL f l K=K l
 |[],K=>rfl
 |a::r,K=>by simp only[fL,h,Aj h r]
theorem ai9 (b:Bool) (K:Bool→Z):fB b K=K b:=by cases b<;>rfl
theorem aja (b:Nat) (K:Nat→Z):fN b K=K b:=rfl
theorem ajb (p:Option (Int×Nat)) (K:Option (Int×Nat)→Z):anx p K=K p:=by cases p<;>rfl
theorem alJ (p:Option (Int×Int)) (K:Option (Int×Int)→Z):aqc p K=K p:=by cases p<;>rfl
theorem aoh (p:Option (Nat×Int×Nat)) (K:Option (Nat×Int×Nat)→Z):fAt p K=K p:=by cases p<;>rfl
theorem anD (v:Value) (K:Value→Z):fV v K=K v:=by cases v<;>rfl
theorem abA (c:TC) (K:TC→Z):fTC c K=K c:=by cases c<;>simp only[fTC,anD]
theorem ajc (e:CE) (K:CE→Z):fCE e K=K e:=by
 cases e<;>simp only[fCE,anD,alJ,aoh,Aj aja]
theorem ajd (c:vE) (K:vE→Z):aiW c K=K c:=by cases c<;>simp only[aiW,ai9,Aj ajc]
theorem aoi (e:TE) (K:TE→Z):fTE e K=K e:=by
 cases e<;>simp only[fTE,ai9,Aj ajd,Aj aja,Aj abA,ajb]
theorem aoj (b:OB) (K:OB→Z):fOB b K=K b:=by cases b;simp only[fOB,ai9]
theorem aje (v:TV) (K:TV→Z):fTV v K=K v:=by
 cases v<;>simp only[fTV,aiX,abA,Aj abA]
 rw[Aj (fun a K=>by cases a;simp only[aiX,Aj abA])]
theorem xI (st:TS) (K:TS→Z):fTS st K=K st:=by
 cases st;simp only[fTS]
 rw[Aj (fun a K=>by cases a;simp only[aoi]),Aj (fun a K=>by cases a;simp only[Aj ajc]),Aj (fun a K=>by cases a;simp only[aoj])]
end
theorem hJ {R:Type} {cf cf':Cf} {lp lp':Lp} (hc: ∀f vs r fs,cf f vs r fs→cf' f vs r fs) (Pg: ∀f i c st (Q Q':TX→TS→Prop),(∀x s,Q x s→Q' x s)→lp f i c st Q→lp' f i c st Q') {Q Q':R→Prop} (hQ: ∀r,Q r→Q' r):
 ∀(e:Ev R),e.holds cf lp Q→e.holds cf' lp' Q'
 | .fail,h=>h
 | .ret r,h=>hQ r h
 | .test b k,h=>hJ hc Pg hQ (k b) h
 | .row rows i k,⟨c,h1,h2⟩=>⟨c,h1,hJ hc Pg hQ (k c) h2⟩
 | .byte rows i k,⟨c,h1,h2⟩=>⟨c,h1,hJ hc Pg hQ (k c) h2⟩
 | .bytes rows k,⟨c,h1,h2⟩=>⟨c,h1,hJ hc Pg hQ (k c) h2⟩
 | .call f vs k,⟨r,fs,h1,h2⟩=>⟨r,fs,hc _ _ _ _ h1,hJ hc Pg hQ (k r fs) h2⟩
 | .loop f i c st k,h=>Pg _ _ _ _ _ _ (fun x s hxs=>hJ hc Pg hQ (k x s) hxs) h
 | .both a b,⟨r,h1,h2,h3⟩=>⟨r,hJ hc Pg (fun _ h=>h) a h1,hJ hc Pg (fun _ h=>h) b h2,hQ r h3⟩
section
variable {C : pO}
theorem KS {cf cf':Cf} {lp lp':Lp} (hc: ∀f vs r fs,cf f vs r fs→cf' f vs r fs) (Pg: ∀f i c st (Q Q':TX→TS→Prop),(∀x s,Q x s→Q' x s)→lp f i c st Q→lp' f i c st Q')
 {fx:List Nat} {f i:Nat} {c:Code} {Q Q':TX→TS→Prop} (hQ: ∀x s,Q x s→Q' x s): ∀(n n':Nat),n≤n'→ ∀(st:TS),iter C cf lp fx f i c Q n st→iter C cf' lp' fx f i c Q' n' st
 |0,_,_,_,h=>h.elim
 |n+1,0,hn,_,_=>absurd hn ay
 |n+1,n'+1,hn,st,h=>by
  refine hJ hc Pg (fun p hp=> ?_) _ h;obtain⟨x,s⟩:=p
  cases x with
  |norm=>
   simp only at hp ⊢;rw[xI] at hp ⊢;exact KS hc Pg hQ n n' ay _ hp
  |ex id=>exact hQ _ _ hp
  |ret=>exact hQ _ _ hp
theorem uP {cf cf':Cf} (hc: ∀f vs r fs,cf f vs r fs→cf' f vs r fs) {k k':Nat} (hk:k≤k') {fx:List Nat}: ∀(n:Nat) (f i:Nat) (c:Code) (st:TS) (Q Q':TX→TS→Prop),(∀x s,Q x s→Q' x s)→
 lpN C cf k fx n f i c st Q→lpN C cf' k' fx n f i c st Q'
 |0,_,_,_,_,_,_,_,h=>h.elim
 |n+1,f,i,c,st,Q,Q',hQ,h=>KS hc (uP hc hk n) hQ k k' hk st h
theorem Jj: ∀(k:Nat) (f:FuncId) (vs:List TV) (r:TV) (fs:List TV),lG C k f vs r fs→lG C (k+1) f vs r fs
 |0,_,_,_,_,h=>h.elim
 |k+1,f,vs,r,fs,h=>by
  unfold lG at h ⊢
  cases hx:C.ext f with
  |some p=>rw[hx] at h;exact h
  |none=>rw[hx] at h;exact hJ (Jj k) (uP (Jj k) (Nat.le_succ k) 4) (fun _ h=>h) _ h
theorem afu {k:Nat} {f:FuncId} {vs:List TV} {r:TV} {fs:List TV} (hx:C.ext f=none) (h:(body C f vs).holds (lG C k) (lpN C (lG C k) k (yO (C.sig f).ps 0) 4) fun p=>p=(r,fs)):lG C (k+1) f vs r fs:=by
 unfold lG;rw[hx];exact h
theorem ahD {k:Nat} {f:FuncId} {vs:List TV} {r:TV} {fs:List TV} {p:List TV→Option (TV×List TV)} (hx:C.ext f=some p) (h:p vs=some (r,fs)):lG C (k+1) f vs r fs:=by
 unfold lG;rw[hx];exact h
theorem qv {k k':Nat} (hk:k≤k') {f:FuncId} {vs:List TV} {r:TV} {fs:List TV} (h:lG C k f vs r fs):lG C k' f vs r fs:=by
 induction hk with
 |refl=>exact h
 |step _ ih=>exact Jj _ _ _ _ _ ih
def Pu (C:pO) (k:Nat) (fx:List Nat) (n:Nat) (f i:Nat) (c:Code) (m:Nat) (st:TS) (x:TX) (st':TS):Prop:=
 iter C (lG C k) (lpN C (lG C k) k fx n) fx f i c (fun x1 fG=>x1=x∧fG=st') m st
theorem Pu.ok {k:Nat} {fx:List Nat} {n f i:Nat} {c:Code} {m:Nat} {st:TS} {x:TX} {st':TS} (h:Pu C k fx n f i c m st x st') (hm:m≤k):(Qr.loop f i c st x st').ok (lG C k) (lpN C (lG C k) k fx (n+1)):=
 KS (fun _ _ _ _ h=>h) (uP (fun _ _ _ _ h=>h) (cV _) n) (fun _ _ h=>h) m k hm st h
end
end Go.T
namespace Go.T
def BI (rows:List (List TC)) (i f:Nat):Option TC:=(rows[i]?).bind fun r=>r[f]?
def Sv:Value→Prop
 | .int _ _=>True
 | .bool _=>True
 | .string _=>True
 | .slice _ _ _=>True
 |_=>False
def Mode.nx:Mode→Mode
 | .deep=> .deep
 |_=> .snap
structure aqf (w:World) (R:Nat→Prop) (m:Mode) (S:Nat→Prop) (z:Nat) (rows:List (List TC)) (A:Option Addr) (c:Nat) (u:Nat→Nat→Value) (T:Nat→Nat→Nat→Prop):Prop where
 len:rows.length≤c
 cap:c≤maxLen
 z0:0<z
 width: ∀r∈rows,r.length=z
 addr:rows≠[]→ ∃ad,A=some ad
 cell: ∀ad,A=some ad→ ∀i f tc,BI rows i f=some tc→w.cell? (ad.add (i*z+f))=some (u i f)
 read:m= .snap→ ∀ad,A=some ad→rows≠[]→R ad.block
 own:m≠ .snap→(A=none→c=0)∧ ∀ad,A=some ad→S ad.block∧ad.spot=none∧
  ∀j,j<c*z→(∃x,w.cell? ⟨ad.block,ad.off+j,none⟩=some x)∧w.frozen? ⟨ad.block,ad.off+j,none⟩=false
 soft:m≠ .snap→1<z→ ∀ad,A=some ad→ ∀i,w.frozen? ⟨ad.block,i,none⟩=false
 sH:m= .deep→ ∀i f k,T i f k→S k∧(∀ad,A=some ad→k≠ad.block)∧ ∀i' f',T i' f' k→i'=i∧f'=f
inductive aB (w:World) (R:Nat→Prop):Mode→(Nat→Prop)→TC→Value→Prop
 |sc (m:Mode) (S:Nat→Prop) (v:Value) (h:Sv v):aB w R m S (.sc v) v
 |sub (m:Mode) (S:Nat→Prop) (z:Nat) (rows:List (List TC)) (A:Option Addr) (c:Nat) (u:Nat→Nat→Value) (T:Nat→Nat→Nat→Prop)
   (h:aqf w R m S z rows A c u T) (hn: ∀i f tc,BI rows i f=some tc→aB w R m.nx (T i f) tc (u i f)):
   aB w R m S (.sub z rows) (.slice A rows.length c)
 |any (m:Mode) (S:Nat→Prop) (v:Value) (h:v.oneCell'=true∧v.cells= #[v]):aB w R m S .any v
variable {w w' : World} {R R' S S' : Nat → Prop} {m : Mode} {c : TC} {v : Value}
theorem Pv {rows:List (List TC)} {i f:Nat} {tc:TC} (h:BI rows i f=some tc):rows≠[]:=by
 rintro rfl;simp[BI] at h
theorem ia {w w':World} {a:Addr} (h:w'.heap[a.block]?=w.heap[a.block]?):w'.cell? a=w.cell? a:=by
 unfold World.cell?;rw[h]
theorem ot {w w':World} {a:Addr} (h:w'.heap[a.block]?=w.heap[a.block]?):w'.frozen? a=w.frozen? a:=by
 unfold World.frozen?;rw[h]
theorem c7 (a:Addr) (n:Nat):(a.add n).block=a.block:=by unfold Addr.add;split<;>rfl
theorem aB.mono (h:aB w R m S c v) (hS: ∀k,S k→S' k):aB w R m S' c v:=by
 cases h with
 |any _ _ _ h=>exact .any _ _ _ h
 |sc _ _ _ h=>exact .sc _ _ _ h
 |sub _ _ z rows A c u T h hn=>
  refine .sub _ _ z rows A c u T {h with own:=fun hm=>⟨(h.own hm).1,fun ad ha=>⟨hS _ ((h.own hm).2 ad ha).1,((h.own hm).2 ad ha).2⟩⟩,sH:=fun hm i f k hk=>⟨hS _ (h.sH hm i f k hk).1,(h.sH hm i f k hk).2⟩} hn
theorem zJ {m:Mode} (h:m.nx≠ .snap):m= .deep:=by cases m<;>simp_all [Mode.nx]
theorem aB.move (h:aB w R m S c v):(∀k,R k→R' k∧w'.heap[k]?=w.heap[k]?)→(m≠ .snap→ ∀k,S k→w'.heap[k]?=w.heap[k]?)→aB w' R' m S c v:=by
 induction h with
 |any _ _ _ h=>exact fun _ _=> .any _ _ _ h
 |sc _ _ _ h=>exact fun _ _=> .sc _ _ _ h
 |sub m S z rows A c u T h hn ih=>
  intro hR hS;refine .sub _ _ z rows A c u T {h with cell:= ?_,read:= ?_,own:= ?_,soft:=fun hm h1 ad ha i=>by rw[ot (w:=w) (a:=⟨ad.block,i,none⟩) (hS hm _ ((h.own hm).2 ad ha).1)];exact h.soft hm h1 ad ha i} fun i f tc ht=>ih i f tc ht hR fun hm k hk=> ?_
  ·intro ad ha i f tc ht
   rw[ia (w:=w)]
   ·exact h.cell ad ha i f tc ht
   ·rw[c7]
    by_cases hm:m= .snap
    ·exact(hR _ (h.read hm ad ha (Pv ht))).2
    ·exact hS hm _ ((h.own hm).2 ad ha).1
  ·exact fun hm ad ha hne=>(hR _ (h.read hm ad ha hne)).1
  ·intro hm
   refine⟨(h.own hm).1,fun ad ha=>⟨((h.own hm).2 ad ha).1,((h.own hm).2 ad ha).2.1,fun j hj=> ?_⟩⟩;have hb:=hS hm _ ((h.own hm).2 ad ha).1;obtain⟨⟨x,hx⟩,hf⟩:=((h.own hm).2 ad ha).2.2 j hj;exact⟨⟨x,by rw[ia (w:=w) (by exact hb)];exact hx⟩,by rw[ot (w:=w) (by exact hb)];exact hf⟩
  ·have:=zJ hm
   subst this;exact hS cW k (h.sH rfl i f k hk).1
theorem aB.freeze (h:aB w R m S c v):(∀k,R k→R' k)→(m≠ .snap→ ∀k,S k→R' k)→aB w R' .snap S' c v:=by
 induction h generalizing S' with
 |any _ _ _ h=>exact fun _ _=> .any _ _ _ h
 |sc _ _ _ h=>exact fun _ _=> .sc _ _ _ h
 |sub m S z rows A c u T h hn ih=>
  intro hR hS;refine .sub _ _ z rows A c u (fun _ _ _=>False) {h with read:= ?_,own:=fun hm=>absurd rfl hm,soft:=fun hm=>absurd rfl hm,sH:=fun hm=>by cases hm} fun i f tc ht=>ih i f tc ht hR fun hm k hk=> ?_
  ·intro _ ad ha hne
   by_cases hm:m= .snap
   ·exact hR _ (h.read hm ad ha hne)
   ·exact hS hm _ ((h.own hm).2 ad ha).1
  ·have:=zJ hm
   subst this;exact hS cW k (h.sH rfl i f k hk).1
theorem aB.ux (h:aB w R .snap S c v) (hR: ∀k,R k→R' k):aB w R' .snap S' c v:=h.freeze hR fun h=>absurd rfl h
end Go.T
namespace Go.T
theorem nu {o:Nat}: ∀{l:List Nat},pE o l=true↔o∈l
 |[]=>by simp[pE]
 |a::r=>by
  simp only[pE,fX]
  cases h:Nat.beq a o with
  |true=>simp[kf h]
  |false=>simp only[nu (l:=r)];have:=wH h;simp[Ne.symm this]
theorem fP {o:Nat} {l:List Nat}:pE o l=false↔o∉l:=by
 rw[←nu];simp
theorem Ea {o d:Nat}: ∀{l:List Nat},d∈adh o l↔d∈l∧d≠o
 |[]=>by simp[adh]
 |a::r=>by
  simp only[adh]
  cases h:Nat.beq a o with
  |true=>
   have h1:=kf h;subst h1;simp only[Ea (l:=r),fX];exact⟨fun⟨x,y⟩=>⟨.inr x,y⟩,fun⟨x,y⟩=>⟨x.resolve_left y,y⟩⟩
  |false=>
   have h1:=wH h;simp only[fX,Ea (l:=r)]
   constructor
   ·rintro(rfl|⟨x,y⟩)
    ·exact⟨.inl rfl,h1⟩
    ·exact⟨.inr x,y⟩
   ·rintro⟨rfl|x,y⟩
    ·exact .inl rfl
    ·exact .inr ⟨x,y⟩
theorem v7 {a:List Nat} {l:List Nat} (h:zo a l=false) {x:Nat} (hx:x∈a):x∉l:=by
 induction a with
 |nil=>cases hx
 |cons y r ih=>
  simp only[zo] at h
  cases h1:pE y l with
  |true=>rw[h1] at h;cases h
  |false=>
   rw[h1] at h;rcases fX.1 hx with rfl|hx
   ·exact fP.1 h1
   ·exact ih h hx
theorem beq_false {a b:Nat} (h:a≠b):Nat.beq a b=false:=by
 cases h1:Nat.beq a b with
 |true=>exact absurd (kf h1) h
 |false=>rfl
theorem Jk (a:Nat):Nat.beq a a=true:=by simp
section
variable {α β : Type}
theorem gM (i j:Nat) (e:α): ∀(l:List (Nat×α)),az j (rR i e l)=if j=i then some e else az j l
 |[]=>by
  simp only[rR,az]
  by_cases h:j=i
  ·subst h;simp
  ·rw[beq_false (Ne.symm h),aF h]
 |(a,x)::r=>by
  have ih:=gM i j e r;simp only[rR]
  cases h1:Nat.beq a i with
  |true=>
   have h1:=kf h1;subst h1;simp only[az]
   by_cases h:j=a
   ·subst h;simp
   ·rw[beq_false (Ne.symm h),aF h]
  |false=>
   have h1:=wH h1
   cases h2:Nat.ble i a with
   |true=>
    simp only[az]
    by_cases h:j=i
    ·subst h;simp
    ·rw[beq_false (Ne.symm h),aF h]
   |false=>
    simp only[az]
    by_cases h3:a=j
    ·subst h3;rw[Jk,aF h1]
    ·rw[beq_false h3];exact ih
theorem kL (i j:Nat): ∀(l:List (Nat×α)),az j (uM i l)=if j=i then none else az j l
 |[]=>by simp[uM,az]
 |(a,x)::r=>by
  have ih:=kL i j r;simp only[uM]
  cases h1:Nat.beq a i with
  |true=>
   have h1:=kf h1;subst h1;simp only[az,ih]
   by_cases h:j=a
   ·simp[h]
   ·rw[beq_false (Ne.symm h)]
  |false=>
   have h1:=wH h1;simp only[az]
   by_cases h3:a=j
   ·subst h3;rw[Jk,aF h1]
   ·rw[beq_false h3];exact ih
theorem xJ (f:α→α) (j:Nat): ∀(l:List (Nat×α)),az j (mapA f l)=(az j l).map f
 |[]=>rfl
 |(a,x)::r=>by
  simp only[mapA,az]
  cases Nat.beq a j with
  |true=>rfl
  |false=>exact xJ f j r
theorem VJ (l:List Nat) (j:Nat): ∀(m:List (Nat×α)),az j (Gk l m)=if j∈l then az j m else none
 |[]=>by simp[Gk,az]
 |(a,x)::r=>by
  have ih:=VJ l j r;simp only[Gk]
  cases h1:pE a l with
  |true=>
   have h1:=nu.1 h1;simp only[az]
   by_cases h:a=j
   ·subst h;rw[Jk,aI h1]
   ·rw[beq_false h];exact ih
  |false=>
   have h1:=fP.1 h1;simp only[az,ih]
   by_cases h:a=j
   ·subst h;rw[aF h1,aF h1]
   ·rw[beq_false h]
end
structure Fp where
 I:Nat→Prop
 S:Nat→Nat→Prop
 V:Nat→Value
 β:Nat→Addr
def rd (φ:Fp) (ds:List Nat) (k:Nat):Prop:=φ.I k∨ ∃d,d∈ds∧φ.S d k
abbrev Ph:Nat→Prop:=fun _=>False
def OB.m (b:OB):Mode:=if b.deep then .deep else .top
def rS (w:World) (φ:Fp) (o:Nat) (b:OB):Prop:=aB w φ.I b.m (φ.S o) (.sub b.z b.rows) (φ.V o)
def Gl (z n:Nat) (l h:Int) (V v:Value):Prop:=
 0≤l∧l≤h∧h≤n∧ ∃A A' c,V= .slice A n c∧v= .slice A' (h.toNat-l.toNat) (c-l.toNat)∧(c≠l.toNat→A'=A.map fun a=>a.add (l.toNat*z))∧(A=none→A'=none)∧
  ∀ad,A=some ad→ ∃ad',A'=some ad'∧ad'.block=ad.block∧(ad.spot=none→ad'.spot=none)
def aT (ob:List (Nat×OB)) (d:Nat):Prop:= ∃b,az d ob=some b
def agO (ob:List (Nat×OB)) (w:World) (φ:Fp) (z:Nat) (rows:List (List TC)) (v:Value) (o:Nat) (i:Int) (f:Nat):Prop:=
 ∃b,az o ob=some b∧0≤i∧BI b.rows i.toNat f=some (.sub z rows)∧ ∃ad n c,φ.V o= .slice (some ad) n c∧w.cell? (ad.add (i.toNat*b.z+f))=some v
def eP (ob:List (Nat×OB)) (w:World) (φ:Fp) (e:CE) (v:Value):Prop:=
 match e with
 | .sc x=>v=x∧Sv x
 | .nil z=>v= .slice none 0 0∧0<z
 | .ref o cut=> ∃b,az o ob=some b∧match cut with
   |none=>v=φ.V o
   |some (l,h)=>Gl b.z b.rows.length l h (φ.V o) v
 | .snap ds loc z rows=>(∀d∈ds,d=0∨aT ob d)∧aB w (rd φ ds) .snap Ph (.sub z rows) v∧ ∀o i f,loc=some (o,i,f)→o∈ds∧agO ob w φ z rows v o i f
 | .gone=>True
def pZ (ob:List (Nat×OB)) (w:World) (φ:Fp) (c:vE) (u:Value):Prop:=
 match c with
 | .mk true cs=> ∃xs:Array Value,u= .agg xs∧xs.size=cs.length∧ ∀(j:Nat) (e:CE),cs[j]?=some e→ ∃x,xs[j]?=some x∧x.cells= #[x]∧eP ob w φ e x
 | .mk false cs=> ∃e,cs=[e]∧u.cells= #[u]∧eP ob w φ e u
 | .ptr b=>u= .pointer (some (φ.β b))
def dK (ob:List (Nat×OB)) (w:World) (φ:Fp) (e:TE) (v:Value):Prop:=
 match e with
 | .dead=>True
 | .v true es=> ∃vs:Array Value,v= .tuple vs∧vs.size=es.length∧ ∀(k:Nat) (c:vE),es[k]?=some c→ ∃u,vs[k]?=some u∧pZ ob w φ c u
 | .v false es=> ∃c,es=[c]∧pZ ob w φ c v
 | .bp b off=>v= .pointer (some ((φ.β b).add off))
 | .ep ds cells=>(∀d∈ds,d=0∨aT ob d)∧ ∃ad,v= .pointer (some ad)∧(cells≠[]→rd φ ds ad.block)∧ ∀(j:Nat) (tc:TC),cells[j]?=some tc→ ∃u,w.cell? (ad.add j)=some u∧aB w (rd φ ds) .snap Ph tc u
 | .er o path i f=> ∃b,az o ob=some b∧0≤i∧ ∃ad n c,φ.V o= .slice (some ad) n c∧match path with
   |none=>v= .pointer (some (ad.add (i.toNat*b.z+f)))
   |some (i0,f0)=>0≤i0∧ ∃z1 uY,BI b.rows i0.toNat f0=some (.sub z1 uY)∧ ∃ad1 n1 c1,w.cell? (ad.add (i0.toNat*b.z+f0))=some (.slice (some ad1) n1 c1)∧
    v= .pointer (some (ad1.add (i.toNat*z1+f)))
 | .fn f caps=>v= .func (.func f) #[] (caps.map fun b=>Value.pointer (some (φ.β b))).toArray
 | .kb b=>v= .bool b
structure Ns (F:Nat→Prop) (w0 w:World):Prop where
 os:w.os=w0.os
 tape:w.tape=w0.tape
 output:w.output=w0.output
 size:w0.heap.size≤w.heap.size
 block: ∀k,k<w0.heap.size→ ¬F k→w.heap[k]?=w0.heap[k]?
structure Arg where
 all:Nat→Prop
 sh:Nat→Prop
structure Sep (F:Nat→Prop) (A:Arg) (w0 w:World) (φ:Fp) (bx:List (Nat×List CE)) (ob:List (Nat×OB)):Prop where
 arg:φ.S 0=A.all
 nz: ∀o,aT ob o→o≠0
 apart: ∀o o' k,aT ob o→aT ob o'→φ.S o k→φ.S o' k→o=o'
 read: ∀o k,aT ob o→φ.S o k→ ¬φ.I k
 fresh: ∀o k,aT ob o→φ.S o k→k<w.heap.size∧(w0.heap.size≤k∨F k)
 ro: ∀k,φ.I k→k<w.heap.size∧(w0.heap.size≤k∨F k∨A.sh k)
 qL: ∀k,A.all k→k<w0.heap.size∧ ¬F k
 box: ∀b cs,az b bx=some cs→DY b=true→ ¬φ.I (φ.β b).block∧(∀o,aT ob o→ ¬φ.S o (φ.β b).block)∧(w0.heap.size≤(φ.β b).block∨F (φ.β b).block)∧
  ∀b' cs',az b' bx=some cs'→b'≠b→(φ.β b').block≠(φ.β b).block
 spot: ∀b cs,az b bx=some cs→(DY b=true→(φ.β b).spot=none)∧(φ.β b).block<w.heap.size∧(DY b=false→A.all (φ.β b).block)
 soft: ∀b cs j,az b bx=some cs→DY b=true→j<cs.length→w.frozen? ((φ.β b).add j)=false
structure bB (F:Nat→Prop) (A:Arg) (w0:World) (φ:Fp) (st:TS) (tm:Array Value) (w:World):Prop where
 tmp: ∀i,dK st.ob w φ (st.get i) (tm.getD i undef)
 box: ∀b cs,az b st.bx=some cs→ ∀(j:Nat) (e:CE),cs[j]?=some e→ ∃v,w.cell? ((φ.β b).add j)=some v∧v.cells= #[v]∧eP st.ob w φ e v
 obj: ∀o b,az o st.ob=some b→rS w φ o b
 sep:Sep F A w0 w φ st.bx st.ob
 frm:Ns F w0 w
def Rel (F:Nat→Prop) (A:Arg) (w0:World) (st:TS) (tm:Array Value) (w:World):Prop:= ∃φ,bB F A w0 φ st tm w
section
variable {ob KJ : List (Nat × OB)} {w w' : World} {φ φ' : Fp} {f : CE → CE} {g : TE → TE}
def Ak (f:CE→CE):vE→vE
 | .mk a cs=> .mk a (cs.map f)
 | .ptr b=> .ptr b
theorem zK (f:CE→CE): ∀(es:List vE) (k:Nat),(oq f es)[k]?=(es[k]?).map (Ak f)
 |[],_=>by simp[oq]
 | .mk a cs::r,0=>by simp[oq,Ak]
 | .ptr b::r,0=>by simp[oq,Ak]
 | .mk a cs::r,k+1=>by simp[oq,zK f r k]
 | .ptr b::r,k+1=>by simp[oq,zK f r k]
theorem u5 (f:CE→CE): ∀(es:List vE),(oq f es).length=es.length
 |[]=>rfl
 | .mk a cs::r=>by simp[oq,u5 f r]
 | .ptr b::r=>by simp[oq,u5 f r]
theorem pZ.LY (hβ:φ'.β=φ.β) (hc: ∀e v,eP ob w φ e v→eP KJ w' φ' (f e) v) {c:vE} {u:Value} (h:pZ ob w φ c u):
 pZ KJ w' φ' (Ak f c) u:=by
 cases c with
 |ptr b=>simp only[pZ,Ak] at h ⊢;rw[hβ];exact h
 |mk a cs=>
  cases a with
  |true=>
   obtain⟨xs,h1,h2,h3⟩:=h;refine⟨xs,h1,by simp[h2],fun j e he=> ?_⟩;rw[lW] at he
   cases h4:cs[j]? with
   |none=>rw[h4] at he;cases he
   |some e0=>
    rw[h4] at he;simp only[pL,aY] at he;subst he;obtain⟨x,hx,hx1,hok⟩:=h3 j e0 h4;exact⟨x,hx,hx1,hc _ _ hok⟩
  |false=>
   obtain⟨e,rfl,h2,h3⟩:=h;exact⟨f e,rfl,h2,hc _ _ h3⟩
theorem dK.LY (hβ:φ'.β=φ.β) (hc: ∀e v,eP ob w φ e v→eP KJ w' φ' (f e) v) (ht: ∀e v,(∀t es,e≠ .v t es)→dK ob w φ e v→dK KJ w' φ' (g e) v) {e:TE} {v:Value} (h:dK ob w φ e v):
 dK KJ w' φ' (Dx f g e) v:=by
 by_cases hv: ∃t es,e= .v t es
 ·obtain⟨tup,es,rfl⟩:=hv
  cases tup with
  |true=>
   obtain⟨vs,h1,h2,h3⟩:=h;refine⟨vs,h1,by rw[u5];exact h2,fun k c hk=> ?_⟩;rw[zK] at hk
   cases h4:es[k]? with
   |none=>rw[h4] at hk;cases hk
   |some c0=>
    rw[h4] at hk;simp only[pL,aY] at hk;obtain⟨u,hu,hok⟩:=h3 k c0 h4;exact⟨u,hu,by rw[←hk];exact hok.LY hβ hc⟩
  |false=>
   obtain⟨c,rfl,hok⟩:=h;refine⟨_,?_,hok.LY hβ hc⟩
   cases c<;>rfl
 ·have h1:Dx f g e=g e:=by cases e<;>first|rfl|exact absurd ⟨_,_,rfl⟩ hv
  rw[h1];exact ht e v (fun t es he=>hv ⟨t,es,he⟩) h
end
theorem get_map (f:CE→CE) (g:TE→TE) (h:List (Nat×OB)→List (Nat×OB)) (hd:g .dead= .dead) (st:TS) (i:Nat):(BD f g h st).get i=Dx f g (st.get i):=by
 unfold TS.get BD;simp only[xJ]
 cases az i st.tm with
 |none=>exact hd.symm
 |some e=>rfl
variable {F : Nat → Prop} {A : Arg} {w0 w w' : World} {φ φ' : Fp} {st st' : TS} {tm LS : Array Value}
theorem bB.LY (h:bB F A w0 φ st tm w) {f:CE→CE} {g:TE→TE} {k:List (Nat×OB)→List (Nat×OB)} (hd:g .dead= .dead) (hβ:φ'.β=φ.β)
 (hc: ∀e v,eP st.ob w φ e v→eP (k st.ob) w' φ' (f e) v) (ht: ∀e v,(∀t es,e≠ .v t es)→dK st.ob w φ e v→dK (k st.ob) w' φ' (g e) v)
 (hw: ∀b cs,az b st.bx=some cs→ ∀j,j<cs.length→w'.cell? ((φ.β b).add j)=w.cell? ((φ.β b).add j))
 (ho: ∀o b,az o (k st.ob)=some b→rS w' φ' o b) (hs:Sep F A w0 w' φ' (mapA (List.map f) st.bx) (k st.ob)) (hf:Ns F w0 w'):bB F A w0 φ' (BD f g k st) tm w' where
 tmp i:=by rw[get_map f g k hd];exact(h.tmp i).LY hβ hc ht
 box b cs hb j e he:=by
  simp only[BD,xJ] at hb
  cases h1:az b st.bx with
  |none=>rw[h1] at hb;cases hb
  |some cs0=>
   rw[h1] at hb;simp only[pL,aY] at hb;subst hb;rw[lW] at he
   cases h2:cs0[j]? with
   |none=>rw[h2] at he;cases he
   |some e0=>
    rw[h2] at he;simp only[pL,aY] at he;subst he;obtain⟨v,hv,h1c,hok⟩:=h.box b cs0 h1 j e0 h2;refine⟨v,?_,h1c,hc _ _ hok⟩;rw[hβ,hw b cs0 h1 j (List.getElem?_eq_some_iff.1 h2).1];exact hv
 obj:=ho
 sep:=hs
 frm:=hf
theorem Sep.boxes {bx bx':List (Nat×List CE)} {ob:List (Nat×OB)} (h:Sep F A w0 w φ bx ob) (hb: ∀b cs',az b bx'=some cs'→ ∃cs,az b bx=some cs∧cs'.length=cs.length):Sep F A w0 w φ bx' ob where
 arg:=h.arg
 nz:=h.nz
 apart:=h.apart
 read:=h.read
 fresh:=h.fresh
 ro:=h.ro
 qL:=h.qL
 box b cs' hl hw:=by
  obtain⟨cs,h1,_⟩:=hb b cs' hl;obtain⟨a1,a2,a3,a4⟩:=h.box b cs h1 hw;refine⟨a1,a2,a3,fun b' ac1 hl' hne=> ?_⟩;obtain⟨cs2,h2,_⟩:=hb b' ac1 hl';exact a4 b' cs2 h2 hne
 spot b cs' hl:=by obtain⟨cs,h1,_⟩:=hb b cs' hl;exact h.spot b cs h1
 soft b cs' j hl hw hj:=by obtain⟨cs,h1,h2⟩:=hb b cs' hl;exact h.soft b cs j h1 hw ay
theorem jE (f:CE→CE) {bx:List (Nat×List CE)}: ∀b cs',az b (mapA (List.map f) bx)=some cs'→ ∃cs,az b bx=some cs∧cs'.length=cs.length:=by
 intro b cs' h;rw[xJ] at h
 cases h1:az b bx with
 |none=>rw[h1] at h;cases h
 |some cs=>
  rw[h1] at h;simp only[pL,aY] at h;exact⟨cs,rfl,by rw[←h];simp⟩
theorem Sep.lt {bx:List (Nat×List CE)} {ob:List (Nat×OB)} (h:Sep F A w0 w φ bx ob) (hs:w0.heap.size≤w.heap.size) {d:Nat} (hd:d=0∨aT ob d) {k:Nat} (hk:φ.S d k):k<w.heap.size:=by
 rcases hd with rfl|hd
 ·rw[h.arg] at hk;exact lY (h.qL k hk).1 hs
 ·exact(h.fresh d k hd hk).1
theorem Sep.aok {bx:List (Nat×List CE)} {ob:List (Nat×OB)} (h:Sep F A w0 w φ bx ob) (hs:w0.heap.size≤w.heap.size) {ds:List Nat} (hd: ∀d∈ds,d=0∨aT ob d) {k:Nat} (hk:rd φ ds k):k<w.heap.size:=by
 rcases hk with hk|⟨d,hm,hk⟩
 ·exact(h.ro k hk).1
 ·exact h.lt hs (hd d hm) hk
structure pP (w w':World):Prop where
 os:w'.os=w.os
 tape:w'.tape=w.tape
 output:w'.output=w.output
 size:w.heap.size≤w'.heap.size
 block: ∀k,k<w.heap.size→w'.heap[k]?=w.heap[k]?
theorem pP.refl (w:World):pP w w:=⟨rfl,rfl,rfl,cV _,fun _ _=>rfl⟩
theorem pP.alloc (w:World) (o:Obj):pP w (w.alloc o):=⟨rfl,rfl,rfl,by simp,fun k hk=>heap_alloc_old w o hk⟩
theorem pP.drew (w:World):pP w w.drew:=⟨rfl,rfl,rfl,cV _,fun _ _=>rfl⟩
theorem pP.trans {a b c:World} (h:pP a b) (k:pP b c):pP a c:=
 ⟨k.os.trans h.os,k.tape.trans h.tape,k.output.trans h.output,uL h.size k.size,fun i hi=>(k.block i (lY hi h.size)).trans (h.block i hi)⟩
theorem Ns.Nt (h:Ns F w0 w) (g:pP w w'):Ns F w0 w':=
 ⟨g.os.trans h.os,g.tape.trans h.tape,g.output.trans h.output,uL h.size g.size,fun k hk hf=>(g.block k (lY hk h.size)).trans (h.block k hk hf)⟩
theorem pP.cell (g:pP w w') {a:Addr} {v:Value} (h:w.cell? a=some v):w'.cell? a=some v:=by
 rw[ia (w:=w) (g.block _ (World.block_lt_of_cell? w a h))];exact h
theorem pP.Nu (g:pP w w') {a:Addr} (h:a.block<w.heap.size):w'.cell? a=w.cell? a:=ia (g.block _ h)
theorem eP.stay {ob:List (Nat×OB)} (hI: ∀k,φ.I k→w'.heap[k]?=w.heap[k]?) (hS: ∀d k,d=0∨aT ob d→φ.S d k→w'.heap[k]?=w.heap[k]?)
 (hV: ∀o,aT ob o→ ∀ad n c,φ.V o= .slice (some ad) n c→ ∀i v,w.cell? (ad.add i)=some v→w'.cell? (ad.add i)=some v) {e:CE} {v:Value} (h:eP ob w φ e v):eP ob w' φ e v:=by
 cases e with
 |snap ds loc z rows=>
  obtain⟨h1,h2,h3⟩:=h;refine⟨h1,h2.move (fun k hk=>⟨hk,?_⟩) (fun hm=>absurd rfl hm),fun o i f hl=>⟨(h3 o i f hl).1,?_⟩⟩
  ·rcases hk with hk|⟨d,hd,hk⟩
   ·exact hI k hk
   ·exact hS d k (h1 d hd) hk
  ·obtain⟨b,a1,a2,a3,ad,n,c,a4,a5⟩:=(h3 o i f hl).2
   exact⟨b,a1,a2,a3,ad,n,c,a4,hV o ⟨b,a1⟩ ad n c a4 _ _ a5⟩
 |_=>exact h
theorem dK.stay {ob:List (Nat×OB)} (hI: ∀k,φ.I k→w'.heap[k]?=w.heap[k]?) (hS: ∀d k,d=0∨aT ob d→φ.S d k→w'.heap[k]?=w.heap[k]?)
 (hV: ∀o,aT ob o→ ∀ad n c,φ.V o= .slice (some ad) n c→ ∀i v,w.cell? (ad.add i)=some v→w'.cell? (ad.add i)=some v)
 (hA: ∀ad v,w.cell? ad=some v→(∀k,ad.block=k→w'.heap[k]?=w.heap[k]?)→w'.cell? ad=some v) (hE: ∀ds cells v,dK ob w φ (.ep ds cells) v→dK ob w' φ (.ep ds cells) v) {e:TE} {v:Value} (hv: ∀t es,e≠ .v t es)
 (h:dK ob w φ e v):dK ob w' φ e v:=by
 cases e with
 |v t es=>exact absurd rfl (hv t es)
 |ep ds cells=>exact hE ds cells v h
 |er o path i f=>
  obtain⟨b,h1,h2,ad,n,c,h3,h4⟩:=h;refine⟨b,h1,h2,ad,n,c,h3,?_⟩
  cases path with
  |none=>exact h4
  |some q=>
   obtain⟨i0,f0⟩:=q;obtain⟨a1,z1,uY,a2,ad1,n1,c1,a3,a4⟩:=h4;exact⟨a1,z1,uY,a2,ad1,n1,c1,hV o ⟨b,h1⟩ ad n c h3 _ _ a3,a4⟩
 |_=>exact h
theorem Al (st:TS):BD id id id st=st:=by
 have h1: ∀(es:List vE),oq id es=es:=by
  intro es
  induction es with
  |nil=>rfl
  |cons c r ih=>cases c<;>simp[oq,ih]
 have h2: ∀e:TE,Dx id id e=e:=by
  intro e;cases e<;>first|rfl|(simp only[Dx,h1])
 have h3: ∀{α:Type} (f:α→α) (hf: ∀a,f a=a) (l:List (Nat×α)),mapA f l=l:=by
  intro α f hf l
  induction l with
  |nil=>rfl
  |cons a r ih=>obtain⟨j,x⟩:=a;simp only[mapA,hf,ih]
 unfold BD;rw[h3 _ h2,h3 _ (fun l=>List.map_id l)]
 rfl
theorem Sep.Nt {bx:List (Nat×List CE)} {ob:List (Nat×OB)} (h:Sep F A w0 w φ bx ob) (g:pP w w'):Sep F A w0 w' φ bx ob where
 arg:=h.arg
 nz:=h.nz
 apart:=h.apart
 read:=h.read
 fresh o k ho hk:=⟨lY (h.fresh o k ho hk).1 g.size,(h.fresh o k ho hk).2⟩
 ro k hk:=⟨lY (h.ro k hk).1 g.size,(h.ro k hk).2⟩
 qL:=h.qL
 box:=h.box
 spot b cs hb:=⟨(h.spot b cs hb).1,lY (h.spot b cs hb).2.1 g.size,(h.spot b cs hb).2.2⟩
 soft b cs j hb hw hj:=by
  rw[ot (w:=w) (g.block _ (by rw[c7];exact(h.spot b cs hb).2.1))];exact h.soft b cs j hb hw hj
theorem bB.Nt (h:bB F A w0 φ st tm w) (g:pP w w'):bB F A w0 φ st tm w':=by
 have hI: ∀k,φ.I k→w'.heap[k]?=w.heap[k]?:=fun k hk=>g.block k (h.sep.ro k hk).1;have hS: ∀d k,d=0∨aT st.ob d→φ.S d k→w'.heap[k]?=w.heap[k]?:=fun d k hd hk=>g.block k (h.sep.lt h.frm.size hd hk)
 have hE: ∀ds cells v,dK st.ob w φ (.ep ds cells) v→dK st.ob w' φ (.ep ds cells) v:=by
  intro ds cells v ⟨h1,ad,h2,hr,h3⟩;refine⟨h1,ad,h2,hr,fun j tc hj=> ?_⟩;obtain⟨u,h4,h5⟩:=h3 j tc hj;exact⟨u,g.cell h4,h5.move (fun k hk=>⟨hk,g.block k (h.sep.aok h.frm.size h1 hk)⟩) (fun hm=>absurd rfl hm)⟩
 have:=h.LY (f:=id) (g:=id) (k:=id) (φ':=φ) (w':=w') rfl rfl (fun e v he=>he.stay hI hS (fun o ho ad n c hv i v hc=>g.cell hc))
  (fun e v hv he=>dK.stay hI hS (fun o ho ad n c hv i v hc=>g.cell hc) (fun ad v hc _=>g.cell hc) hE hv he)
  (fun b cs hb j hj=>g.Nu (by rw[c7];exact(h.sep.spot b cs hb).2.1))
  (fun o b hb=>(h.obj o b hb).move (fun k hk=>⟨hk,hI k hk⟩) (fun _ k hk=>hS o k (.inr ⟨b,hb⟩) hk))
  (by
    have h3:mapA (List.map (id:CE→CE)) st.bx=st.bx:=by
     have:=congrArg TS.bx (Al st);exact this
    rw[h3]
    exact h.sep.Nt g) (h.frm.Nt g)
 rw[Al] at this;exact this
end Go.T
namespace Go.T
variable {F : Nat → Prop} {A : Arg} {w0 w w' : World} {φ φ' : Fp} {st st' : TS} {tm LS : Array Value}
theorem getD_set_ne (tm:Array Value) (d i:Nat) (v x:Value) (h:i≠d):(tm.setIfInBounds d v).getD i x=tm.getD i x:=by
 simp only[zj,aaz];rw[aF fun h'=>h h'.symm]
theorem Yo (tm:Array Value) (d:Nat) (v x:Value) (h:d<tm.size):(tm.setIfInBounds d v).getD d x=v:=by
 simp only[zj,aaz];simp[h]
theorem abB (st:TS) (d i:Nat) (e:TE):(st.set d e).get i=if i=d then e else st.get i:=by
 unfold TS.get TS.set;simp only[gM]
 by_cases h:i=d
 ·simp[h]
 ·simp[h]
theorem bB.Yp (h:bB F A w0 φ st tm w) {d:Nat} {e:TE} {v:Value} (hd:d<tm.size) (ht:dK st.ob w φ e v):bB F A w0 φ (st.set d e) (tm.setIfInBounds d v) w where
 tmp i:=by
  rw[abB]
  by_cases hi:i=d
  ·subst hi;rw[aI rfl,Yo _ _ _ _ hd];exact ht
  ·rw[aF hi,getD_set_ne _ _ _ _ _ hi];exact h.tmp i
 box:=h.box
 obj:=h.obj
 sep:=h.sep
 frm:=h.frm
theorem bB.alK (h:bB F A w0 φ st tm w) {d:Nat} {e:TE} (ht:dK st.ob w φ e (tm.getD d undef)):bB F A w0 φ (st.set d e) tm w where
 tmp i:=by
  rw[abB]
  by_cases hi:i=d
  ·subst hi;rw[aI rfl];exact ht
  ·rw[aF hi];exact h.tmp i
 box:=h.box
 obj:=h.obj
 sep:=h.sep
 frm:=h.frm
theorem Sep.sub {bx:List (Nat×List CE)} {ob KJ:List (Nat×OB)} (h:Sep F A w0 w φ bx ob) (hd: ∀o,aT KJ o→aT ob o):Sep F A w0 w φ bx KJ where
 arg:=h.arg
 nz o ho:=h.nz o (hd o ho)
 apart o o' k h1 h2:=h.apart o o' k (hd o h1) (hd o' h2)
 read o k ho:=h.read o k (hd o ho)
 fresh o k ho:=h.fresh o k (hd o ho)
 ro:=h.ro
 qL:=h.qL
 box b cs hb hw:=by
  obtain⟨a1,a2,a3,a4⟩:=h.box b cs hb hw;exact⟨a1,fun o ho=>a2 o (hd o ho),a3,a4⟩
 spot:=h.spot
 soft:=h.soft
theorem rF {o d:Nat} {ob:List (Nat×OB)}:aT (uM o ob) d↔d≠o∧aT ob d:=by
 unfold aT;rw[kL]
 by_cases h:d=o
 ·simp[h]
 ·simp[h]
theorem Am {o d:Nat} {ob:List (Nat×OB)} (h:d≠o):az d (uM o ob)=az d ob:=by rw[kL,aF h]
theorem eP.kill {o:Nat} {ob:List (Nat×OB)} {e:CE} {v:Value} (h:eP ob w φ e v):eP (uM o ob) w φ (aaC o e) v:=by
 unfold aaC
 cases hd:pE o (iM e) with
 |true=>trivial
 |false=>
  have hd:=fP.1 hd
  cases e with
  |ref p cut=>
   simp only[iM,qn] at hd;obtain⟨b,h1,h2⟩:=h;exact⟨b,by rw[Am (Ne.symm hd)];exact h1,h2⟩
  |snap ds loc z rows=>
   simp only[iM] at hd;obtain⟨h1,h2,h3⟩:=h;refine⟨fun d hm=> ?_,h2,fun p i f hl=> ?_⟩
   ·rcases h1 d hm with h|h
    ·exact .inl h
    ·exact .inr (rF.2 ⟨fun e=>hd (e▸hm),h⟩)
   ·obtain⟨a1,b,a2,a3⟩:=h3 p i f hl
    have hp:p≠o:=fun e=>by subst e;exact hd a1
    exact⟨a1,b,by rw[Am hp];exact a2,a3⟩
  |_=>exact h
theorem dK.kill {o:Nat} {ob:List (Nat×OB)} {e:TE} {v:Value} (hv: ∀t es,e≠ .v t es) (h:dK ob w φ e v):dK (uM o ob) w φ (agI o e) v:=by
 cases e with
 |v t es=>exact absurd rfl (hv t es)
 |ep ds cells=>
  simp only[agI]
  cases hd:pE o ds with
  |true=>trivial
  |false=>
   have hd:=fP.1 hd;obtain⟨h1,h2⟩:=h;refine⟨fun d hm=> ?_,h2⟩;rcases h1 d hm with h|h
   ·exact .inl h
   ·exact .inr (rF.2 ⟨fun e=>hd (e▸hm),h⟩)
 |er p path i f=>
  simp only[agI]
  cases hd:Nat.beq p o with
  |true=>trivial
  |false=>
   have hd:=wH hd;obtain⟨b,h1,h2⟩:=h;exact⟨b,by rw[Am hd];exact h1,h2⟩
 |_=>exact h
theorem bB.qQ (h:bB F A w0 φ st tm w) (o:Nat):bB F A w0 φ (qQ o st) tm w:=by
 refine h.LY (φ':=φ) rfl rfl (fun e v he=>he.kill) (fun e v hv he=>he.kill hv) (fun _ _ _ _ _=>rfl) (fun p b hb=> ?_) ?_ h.frm
 ·rw[kL] at hb
  split at hb
  ·cases hb
  ·exact h.obj p b hb
 ·exact(h.sep.boxes (jE _)).sub fun d hd=>(rF.1 hd).2
theorem m7 {o d:Nat}:aT (T.qQ o st).ob d↔d≠o∧aT st.ob d:=rF
theorem aaF {o d:Nat} (h:d≠o):az d (T.qQ o st).ob=az d st.ob:=Am h
def Fp.more (φ:Fp) (X:Nat→Prop):Fp:={φ with I:=fun k=>φ.I k∨X k}
theorem abC {X:Nat→Prop} {ds:List Nat} {k:Nat} (h:rd φ ds k):rd (φ.more X) ds k:=h.imp .inl id
theorem aB.sP {R R' S:Nat→Prop} {m:Mode} {c:TC} {v:Value} (h:aB w R m S c v) (hR: ∀k,R k→R' k):aB w R' m S c v:=
 h.move (fun k hk=>⟨hR k hk,rfl⟩) fun _ _ _=>rfl
theorem eP.more {X:Nat→Prop} {ob:List (Nat×OB)} {e:CE} {v:Value} (h:eP ob w φ e v):eP ob w (φ.more X) e v:=by
 cases e with
 |snap ds loc z rows=>
  obtain⟨h1,h2,h3⟩:=h;exact⟨h1,h2.sP fun k hk=>abC hk,h3⟩
 |_=>exact h
theorem dK.more {X:Nat→Prop} {ob:List (Nat×OB)} {e:TE} {v:Value} (hv: ∀t es,e≠ .v t es) (h:dK ob w φ e v):dK ob w (φ.more X) e v:=by
 cases e with
 |v t es=>exact absurd rfl (hv t es)
 |ep ds cells=>
  obtain⟨h1,ad,h2,hr,h3⟩:=h;refine⟨h1,ad,h2,fun hc=>abC (hr hc),fun j tc hj=> ?_⟩;obtain⟨u,h4,h5⟩:=h3 j tc hj;exact⟨u,h4,h5.sP fun k hk=>abC hk⟩
 |_=>exact h
theorem Pw (st:TS):mapA (List.map (id:CE→CE)) st.bx=st.bx:=congrArg TS.bx (Al st)
theorem bB.more (h:bB F A w0 φ st tm w) {X:Nat→Prop} (hX: ∀k,X k→k<w.heap.size∧(w0.heap.size≤k∨F k∨A.sh k)) (hS: ∀k o,X k→aT st.ob o→ ¬φ.S o k)
 (hB: ∀b cs,az b st.bx=some cs→DY b=true→ ¬X (φ.β b).block):bB F A w0 (φ.more X) st tm w:=by
 have:=h.LY (f:=id) (g:=id) (k:=id) (φ':=φ.more X) (w':=w) rfl rfl (fun e v he=>he.more) (fun e v hv he=>he.more hv) (fun _ _ _ _ _=>rfl)
  (fun o b hb=>(h.obj o b hb).sP fun k hk=> .inl hk)
  (by
    rw[Pw]
    exact {
     arg:=h.sep.arg,nz:=h.sep.nz,apart:=h.sep.apart,fresh:=h.sep.fresh,qL:=h.sep.qL,spot:=h.sep.spot,soft:=h.sep.soft
     read:=fun o k ho hk hI=>hI.elim (h.sep.read o k ho hk) fun hx=>hS k o hx ho hk
     ro:=fun k hk=>hk.elim (h.sep.ro k) (hX k)
     box:=fun b cs hb hw=>by
      obtain⟨a1,a2,a3,a4⟩:=h.sep.box b cs hb hw
      exact⟨fun hI=>hI.elim a1 (hB b cs hb hw),a2,a3,a4⟩}) h.frm
 rw[Al] at this;exact this
def Fp.add (φ:Fp) (o:Nat) (X:Nat→Prop) (v:Value):Fp:={φ with S:=fun d k=>if d=o then X k else φ.S d k,V:=fun d=>if d=o then v else φ.V d}
theorem abD {o:Nat} {X:Nat→Prop} {v:Value} {ds:List Nat} (hd:o∉ds) {k:Nat} (h:rd φ ds k):rd (φ.add o X v) ds k:=by
 rcases h with h|⟨d,hm,h⟩
 ·exact .inl h
 ·refine .inr ⟨d,hm,?_⟩
  show(if d=o then X k else φ.S d k)
  have hp:d≠o:=fun e=>by subst e;exact hd hm
  rw[aF hp];exact h
theorem zu {o d:Nat} {X:Nat→Prop} {v:Value} (h:d≠o) {k:Nat}:(φ.add o X v).S d k=φ.S d k:=aF h
theorem ajf {o d:Nat} {X:Nat→Prop} {v:Value} (h:d≠o):(φ.add o X v).V d=φ.V d:=aF h
theorem me {o d:Nat} {b:OB} {ob:List (Nat×OB)}:aT (rR o b ob) d↔d=o∨aT ob d:=by
 unfold aT;rw[gM]
 by_cases h:d=o
 ·simp[h]
 ·simp[h]
theorem ou {o d:Nat} {b:OB} {ob:List (Nat×OB)} (h:d≠o):az d (rR o b ob)=az d ob:=by rw[gM,aF h]
theorem pF {o:Nat} {b:OB} {ob:List (Nat×OB)}:az o (rR o b ob)=some b:=by rw[gM,aI rfl]
theorem eP.add {o:Nat} {b:OB} {X:Nat→Prop} {V:Value} {ob:List (Nat×OB)} (h0:o≠0) (hn: ¬aT ob o) {e:CE} {v:Value} (h:eP ob w φ e v):eP (rR o b ob) w (φ.add o X V) e v:=by
 cases e with
 |ref p cut=>
  obtain⟨b',h1,h2⟩:=h;have hp:p≠o:=fun e=>hn ⟨b',e▸h1⟩;refine⟨b',by rw[ou hp];exact h1,?_⟩;rw[ajf hp];exact h2
 |snap ds loc z rows=>
  obtain⟨h1,h2,h3⟩:=h;have hd:o∉ds:=fun hm=>(h1 o hm).elim h0 hn;refine⟨fun d hm=>(h1 d hm).imp id fun h=>me.2 (.inr h),h2.sP fun k hk=>abD hd hk,fun p i f hl=>⟨(h3 p i f hl).1,?_⟩⟩;obtain⟨a1,b',a2,a3,a4,ad,n,c,a5,a6⟩:=h3 p i f hl;have hp:p≠o:=fun e=>hn ⟨b',e▸a2⟩;exact⟨b',by rw[ou hp];exact a2,a3,a4,ad,n,c,by rw[ajf hp];exact a5,a6⟩
 |_=>exact h
theorem dK.add {o:Nat} {b:OB} {X:Nat→Prop} {V:Value} {ob:List (Nat×OB)} (h0:o≠0) (hn: ¬aT ob o) {e:TE} {v:Value} (hv: ∀t es,e≠ .v t es) (h:dK ob w φ e v):
 dK (rR o b ob) w (φ.add o X V) e v:=by
 cases e with
 |v t es=>exact absurd rfl (hv t es)
 |ep ds cells=>
  obtain⟨h1,ad,h2,hr,h3⟩:=h;have hd:o∉ds:=fun hm=>(h1 o hm).elim h0 hn;refine⟨fun d hm=>(h1 d hm).imp id fun h=>me.2 (.inr h),ad,h2,fun hc=>abD hd (hr hc),fun j tc hj=> ?_⟩;obtain⟨u,h4,h5⟩:=h3 j tc hj;exact⟨u,h4,h5.sP fun k hk=>abD hd hk⟩
 |er p path i f=>
  obtain⟨b',h1,h2,ad,n,c,h3,h4⟩:=h;have hp:p≠o:=fun e=>hn ⟨b',e▸h1⟩;exact⟨b',by rw[ou hp];exact h1,h2,ad,n,c,by rw[ajf hp];exact h3,h4⟩
 |_=>exact h
theorem alL (st:TS) (o:Nat) (b:OB):st.an8 o b=BD id id (rR o b) st:=by
 have h:=Al st;unfold BD at h ⊢;have h1:=congrArg TS.tm h;have h2:=congrArg TS.bx h;simp only at h1 h2;rw[h1,h2];rfl
theorem bB.add (h:bB F A w0 φ st tm w) {o:Nat} {b:OB} {X:Nat→Prop} {v:Value} (h0:o≠0) (hn: ¬aT st.ob o) (hc:aB w φ.I b.m X (.sub b.z b.rows) v)
 (hX: ∀k,X k→k<w.heap.size∧(w0.heap.size≤k∨F k)) (hI: ∀k,X k→ ¬φ.I k) (hS: ∀k d,X k→aT st.ob d→ ¬φ.S d k)
 (hB: ∀b cs,az b st.bx=some cs→DY b=true→ ¬X (φ.β b).block):bB F A w0 (φ.add o X v) (st.an8 o b) tm w:=by
 rw[alL];refine h.LY (φ':=φ.add o X v) (w':=w) rfl rfl (fun e u he=>he.add h0 hn) (fun e u hv he=>he.add h0 hn hv) (fun _ _ _ _ _=>rfl) (fun p b' hb=> ?_) ?_ h.frm
 ·unfold rS
  by_cases hp:p=o
  ·subst hp
   rw[pF] at hb
   cases hb
   show aB w φ.I b.m (fun k=>if p=p then X k else φ.S p k) (.sub b.z b.rows) (if p=p then v else φ.V p);simp only[if_true];exact hc
  ·rw[ou hp] at hb
   have:=h.obj p b' hb;unfold rS at this;show aB w φ.I b'.m (fun k=>if p=o then X k else φ.S p k) (.sub b'.z b'.rows) (if p=o then v else φ.V p);simp only[aF hp];exact this
 ·rw[Pw]
  exact {
   arg:=by
    show(fun k=>if 0=o then X k else φ.S 0 k)=A.all;simp only[aF (Ne.symm h0)];exact h.sep.arg
   nz:=fun d hd=>(me.1 hd).elim (fun e=>e▸h0) (h.sep.nz d)
   apart:=fun d d' k h1 h2 h3 h4=>by
    by_cases e1:d=o
    ·by_cases e2:d'=o
     ·rw[e1,e2]
     ·subst e1
      rw[zu e2] at h4
      have h3:X k:=by have h3':(if d=d then X k else φ.S d k):=h3;simpa using h3'
      exact absurd h4 (hS k d' h3 ((me.1 h2).resolve_left e2))
    ·rw[zu e1] at h3
     by_cases e2:d'=o
     ·subst e2
      have h4:X k:=by have h4':(if d'=d' then X k else φ.S d' k):=h4;simpa using h4'
      exact absurd h3 (hS k d h4 ((me.1 h1).resolve_left e1))
     ·rw[zu e2] at h4
      exact h.sep.apart d d' k ((me.1 h1).resolve_left e1) ((me.1 h2).resolve_left e2) h3 h4
   read:=fun d k hd hk=>by
    by_cases e1:d=o
    ·subst e1
     have hk:X k:=by have hk':(if d=d then X k else φ.S d k):=hk;simpa using hk'
     exact hI k hk
    ·rw[zu e1] at hk
     exact h.sep.read d k ((me.1 hd).resolve_left e1) hk
   fresh:=fun d k hd hk=>by
    by_cases e1:d=o
    ·subst e1
     have hk:X k:=by have hk':(if d=d then X k else φ.S d k):=hk;simpa using hk'
     exact hX k hk
    ·rw[zu e1] at hk
     exact h.sep.fresh d k ((me.1 hd).resolve_left e1) hk
   ro:=h.sep.ro
   qL:=h.sep.qL
   box:=fun b' cs hb hw=>by
    obtain⟨a1,a2,a3,a4⟩:=h.sep.box b' cs hb hw;refine⟨a1,fun d hd hk=> ?_,a3,a4⟩
    by_cases e1:d=o
    ·subst e1
     have hk:X (φ.β b').block:=by have hk':(if d=d then X (φ.β b').block else φ.S d (φ.β b').block):=hk;simpa using hk'
     exact hB b' cs hb hw hk
    ·rw[zu e1] at hk
     exact a2 d ((me.1 hd).resolve_left e1) hk
   spot:=h.sep.spot
   soft:=h.sep.soft}
theorem bB.Jb (h:bB F A w0 φ st tm w) {o:Nat} {b:OB} {X:Nat→Prop} {v:Value} (h0:o≠0) (hc:aB w φ.I b.m X (.sub b.z b.rows) v)
 (hX: ∀k,X k→k<w.heap.size∧(w0.heap.size≤k∨F k)) (hI: ∀k,X k→ ¬φ.I k) (hS: ∀k d,X k→d≠o→aT st.ob d→ ¬φ.S d k)
 (hB: ∀b cs,az b st.bx=some cs→DY b=true→ ¬X (φ.β b).block):bB F A w0 (φ.add o X v) (T.Jb o b st) tm w:=
 (h.qQ o).add h0 (fun hd=>(m7.1 hd).1 rfl) hc hX hI (fun k d hx hd=>hS k d hx (m7.1 hd).1 (m7.1 hd).2)
   fun b cs hb hw=>by
    obtain⟨cs0,h1,_⟩:=jE _ b cs hb;exact hB b cs0 h1 hw
end Go.T
namespace Go.T
variable {F : Nat → Prop} {A : Arg} {w0 w w' : World} {φ φ' : Fp} {st st' : TS} {tm LS : Array Value}
attribute [local semireducible] aC in
theorem Fv (rows:List (List TC)) (l h:Int):aC rows l h=(rows.take h.toNat).drop l.toNat:=rfl
theorem VK {rows:List (List TC)} {l h:Int} (h2:h≤rows.length):(aC rows l h).length=h.toNat-l.toNat:=by
 rw[Fv,iR,eO]
 have:h.toNat≤rows.length:=by omega
 omega
theorem abE {rows:List (List TC)} {l h:Int} {i f:Nat} {tc:TC} (ht:BI (aC rows l h) i f=some tc):BI rows (i+l.toNat) f=some tc∧i+l.toNat<h.toNat:=by
 unfold BI at ht ⊢;rw[Fv,uu,Bz] at ht
 by_cases hi:l.toNat+i<h.toNat
 ·rw[aI hi] at ht
  rw[Nat.add_comm];exact⟨ht,hi⟩
 ·rw[aF hi] at ht;cases ht
theorem Jl {a:Addr} (n:Nat) (h:a.spot=none):(a.add n).spot=none:=by unfold Addr.add;split<;>simp[h]
theorem zL {a:Addr} (n:Nat) (h:a.spot=none):a.add n=⟨a.block,a.off+n,none⟩:=by
 unfold Addr.add;split
 ·subst n;cases a;simp_all
 ·rfl
theorem aB.cut {R S:Nat→Prop} {m:Mode} {z:Nat} {rows:List (List TC)} {V v:Value} {l h:Int} (k:aB w R m S (.sub z rows) V) (hc:Gl z rows.length l h V v):
 aB w R m S (.sub z (aC rows l h)) v:=by
 cases k with
 |sub _ _ _ _ A c u T k hn=>
  obtain⟨h0,h1,h2,A1,A',c1,e1,rfl,e2,e3,e4⟩:=hc
  cases e1
  have hlen:=VK (rows:=rows) (l:=l) h2
  have hle:h.toNat≤rows.length:=by omega
  rw[←hlen];have hcl:=k.len
  have hne: ∀i f tc,BI (aC rows l h) i f=some tc→c≠l.toNat:=fun i f tc ht=>by
   have:=(abE ht).2;omega
  refine .sub _ _ _ _ A' (c-l.toNat) (fun i f=>u (i+l.toNat) f) (fun i f=>T (i+l.toNat) f) ?_ fun i f tc ht=>hn _ _ _ (abE ht).1
  have hb: ∀ad',A'=some ad'→ ∃ad,A=some ad∧ad'.block=ad.block∧(ad.spot=none→ad'.spot=none):=fun ad' ha=>by
   cases hA:A with
   |none=>rw[e3 hA] at ha;cases ha
   |some ad=>
    obtain⟨ad2,b1,b2,b3⟩:=e4 ad hA;rw[b1] at ha;cases ha;exact⟨ad,rfl,b2,b3⟩
  have hnm:rows=[]→aC rows l h=[]:=fun e=>by rw[Fv,e];simp
  refine⟨by omega,uL (Nat.sub_le _ _) k.cap,k.z0,fun r hr=>k.width r ?_,fun hr=> ?_,fun ad' ha i f tc ht=> ?_,fun hm ad' ha hr=> ?_,fun hm=>⟨fun ha=> ?_,fun ad' ha=> ?_⟩,fun hm h1z ad' ha i=> ?_,fun hm i f q hq=> ?_⟩
  ·rw[Fv] at hr
   exact Ah (zm hr)
  ·obtain⟨ad,ha⟩:=k.addr fun e=>hr (hnm e)
   obtain⟨ad',b1,_⟩:=e4 ad ha;exact⟨ad',b1⟩
  ·obtain⟨ad,hA,_⟩:=hb ad' ha
   have:=e2 (hne i f tc ht);rw[hA] at this;simp only[pL] at this;rw[this] at ha
   cases ha
   rw[Addr.add_add];have:=k.cell ad hA _ _ _ (abE ht).1;rw[uK] at this;rw[show l.toNat*z+(i*z+f)=i*z+l.toNat*z+f by omega];exact this
  ·obtain⟨ad,hA,b1,_⟩:=hb ad' ha
   rw[b1];exact k.read hm ad hA fun e=>hr (hnm e)
  ·cases hA:A with
   |none=>rw[(k.own hm).1 hA];omega
   |some ad=>obtain⟨ad2,b1,_⟩:=e4 ad hA;rw[b1] at ha;cases ha
  ·obtain⟨ad,hA,b1,b2⟩:=hb ad' ha
   obtain⟨a1,a2,a3⟩:=(k.own hm).2 ad hA;refine⟨by rw[b1];exact a1,b2 a2,fun j hj=> ?_⟩
   have asf:c≠l.toNat:=fun e=>by rw[e] at hj;simp at hj
   have:=e2 asf;rw[hA] at this;simp only[pL] at this;rw[this] at ha
   cases ha
   rw[zL _ a2];simp only;rw[nq];refine a3 _ ?_
   have:l.toNat*z+(c-l.toNat)*z≤c*z:=by
    rw[←uK];exact qo _ ay
   omega
  ·obtain⟨ad,hA,b1,b2⟩:=hb ad' ha
   rw[b1];exact k.soft hm h1z ad hA i
  ·obtain⟨a1,a2,a3⟩:=k.sH hm _ _ _ hq
   refine⟨a1,fun ad' ha=> ?_,fun i' f' Ya=> ?_⟩
   ·obtain⟨ad,hA,b1,_⟩:=hb ad' ha
    rw[b1];exact a2 ad hA
   ·obtain⟨c1,c2⟩:=a3 _ _ Ya
    exact⟨by omega,c2⟩
theorem rS.cut {o:Nat} {b:OB} (h:rS w φ o b) {cut:Option (Int×Int)} {v:Value} (hc:match(generalizing:=false) cut with|none=>v=φ.V o|some (l,h)=>Gl b.z b.rows.length l h (φ.V o) v):
 aB w φ.I b.m (φ.S o) (.sub b.z (adi cut b.rows)) v:=by
 cases cut with
 |none=>simp only at hc;rw[hc];exact h
 |some q=>obtain⟨l,h1⟩:=q;exact aB.cut h hc
theorem ahE {o:Nat} {l:Option (Nat×Int×Nat)} {p:Nat} {i:Int} {f:Nat} (h:an9 o l=some (p,i,f)):l=some (p,i,f)∧p≠o:=by
 unfold an9 at h
 cases l with
 |none=>cases h
 |some q=>
  obtain⟨a,b,c⟩:=q;simp only at h
  cases h1:Nat.beq a o with
  |true=>rw[h1] at h;cases h
  |false=>rw[h1] at h;cases h;exact⟨rfl,wH h1⟩
theorem afv {o:Nat} {ds:List Nat} {k:Nat} (h:rd φ ds k):rd (φ.more (φ.S o)) (adh o ds) k:=by
 rcases h with h|⟨d,hd,h⟩
 ·exact .inl (.inl h)
 ·by_cases e:d=o
  ·subst e;exact .inl (.inr h)
  ·exact .inr ⟨d,Ea.2 ⟨hd,e⟩,h⟩
theorem eP.freeze {o:Nat} {b:OB} {ob:List (Nat×OB)} (hb:az o ob=some b) (hO:rS w φ o b) {e:CE} {v:Value} (h:eP ob w φ e v):eP (uM o ob) w (φ.more (φ.S o)) (Vf o b e) v:=by
 cases e with
 |ref p cut=>
  obtain⟨b',h1,h2⟩:=h;simp only[Vf]
  cases hd:Nat.beq p o with
  |true=>
   have:=kf hd;subst this;rw[hb] at h1;cases h1;refine And.intro (fun d hm=>by cases hm) (And.intro ?_ (fun _ _ _ hl=>by cases hl));exact(hO.cut h2).freeze (fun k hk=> .inl (.inl hk)) fun _ k hk=> .inl (.inr hk)
  |false=>
   have:=wH hd;exact⟨b',by rw[Am this];exact h1,h2⟩
 |snap ds loc z rows=>
  obtain⟨h1,h2,h3⟩:=h;refine⟨fun d hm=> ?_,h2.sP fun k hk=>afv hk,fun p i f hl=> ?_⟩
  ·obtain⟨a1,a2⟩:=Ea.1 hm
   exact(h1 d a1).imp id fun h=>rF.2 ⟨a2,h⟩
  ·obtain⟨a1,a2⟩:=ahE hl
   obtain⟨a3,b',a4,a5⟩:=h3 p i f a1;exact⟨Ea.2 ⟨a3,a2⟩,b',by rw[Am a2];exact a4,a5⟩
 |_=>exact h
theorem dK.freeze {o:Nat} {ob:List (Nat×OB)} {e:TE} {v:Value} (hv: ∀t es,e≠ .v t es) (h:dK ob w φ e v):dK (uM o ob) w (φ.more (φ.S o)) (abr o e) v:=by
 cases e with
 |v t es=>exact absurd rfl (hv t es)
 |ep ds cells=>
  obtain⟨h1,ad,h2,hr,h3⟩:=h;refine⟨fun d hm=> ?_,ad,h2,fun hc=>afv (hr hc),fun j tc hj=> ?_⟩
  ·obtain⟨a1,a2⟩:=Ea.1 hm
   exact(h1 d a1).imp id fun h=>rF.2 ⟨a2,h⟩
  ·obtain⟨u,h4,h5⟩:=h3 j tc hj
   exact⟨u,h4,h5.sP fun k hk=>afv hk⟩
 |er p path i f=>
  simp only[abr]
  cases hd:Nat.beq p o with
  |true=>trivial
  |false=>
   obtain⟨b,h1,h2⟩:=h;exact⟨b,by rw[Am (wH hd)];exact h1,h2⟩
 |_=>exact h
theorem bB.BE (h:bB F A w0 φ st tm w) (o:Nat): ∃φ',bB F A w0 φ' (BE st o) tm w∧φ'.β=φ.β∧φ'.V=φ.V∧φ'.S=φ.S∧ ∀k,φ'.I k↔φ.I k∨(aT st.ob o∧φ.S o k):=by
 unfold T.BE
 cases hb:az o st.ob with
 |none=>exact⟨φ,h,rfl,rfl,rfl,fun k=>⟨.inl,fun hk=>hk.elim id fun⟨⟨b,hb'⟩,_⟩=>by rw[hb] at hb';cases hb'⟩⟩
 |some b=>
  refine⟨φ.more (φ.S o),h.LY (φ':=φ.more (φ.S o)) (w':=w) rfl rfl (fun e v he=>he.freeze hb (h.obj o b hb)) (fun e v hv he=>he.freeze hv) (fun _ _ _ _ _=>rfl) (fun p b' hp=> ?_) ?_ h.frm,rfl,rfl,rfl,fun k=>⟨fun hk=>hk.imp id fun hk=>⟨⟨b,hb⟩,hk⟩,fun hk=>hk.imp id fun hk=>hk.2⟩⟩
  ·rw[kL] at hp
   split at hp
   ·cases hp
   ·exact(h.obj p b' hp).sP fun k hk=> .inl hk
  ·have hs:=(h.sep.boxes (jE (Vf o b))).sub (KJ:=uM o st.ob) fun d hd=>(rF.1 hd).2
   have hin:aT st.ob o:=⟨b,hb⟩
   exact {
    arg:=hs.arg,nz:=hs.nz,apart:=hs.apart,fresh:=hs.fresh,qL:=hs.qL,spot:=hs.spot,soft:=hs.soft
    read:=fun p k hp hk hI=>by
     obtain⟨a1,a2⟩:=rF.1 hp;rcases hI with hI|hI
     ·exact h.sep.read p k a2 hk hI
     ·exact a1 (h.sep.apart p o k a2 hin hk hI)
    ro:=fun k hk=>hk.elim (h.sep.ro k) fun hk=>⟨(h.sep.fresh o k hin hk).1,(h.sep.fresh o k hin hk).2.imp id .inl⟩
    box:=fun b' cs hb' hw=>by
     obtain⟨a1,a2,a3,a4⟩:=hs.box b' cs hb' hw;obtain⟨cs0,c1,_⟩:=jE _ b' cs hb'
     exact⟨fun hI=>hI.elim a1 ((h.sep.box b' cs0 c1 hw).2.1 o hin),a2,a3,a4⟩}
theorem bB.yM (h:bB F A w0 φ st tm w) {o:Nat} {b b':OB} {X:Nat→Prop} (hb:az o st.ob=some b) (hz:b'.z=b.z) (hl:b'.rows.length=b.rows.length)
 (hc:aB w' φ.I b'.m X (.sub b'.z b'.rows) (φ.V o)) (hf:Ns F w0 w') (hsz:w.heap.size≤w'.heap.size) (hw: ∀k,k<w.heap.size→ ¬φ.S o k→w'.heap[k]?=w.heap[k]?)
 (hX: ∀k,X k→k<w'.heap.size∧(w0.heap.size≤k∨F k)) (hI: ∀k,X k→ ¬φ.I k) (hS: ∀k d,X k→d≠o→aT st.ob d→ ¬φ.S d k)
 (hB: ∀b cs,az b st.bx=some cs→DY b=true→ ¬X (φ.β b).block):bB F A w0 (φ.add o X (φ.V o)) (yM o b' st) tm w':=by
 have hin:aT st.ob o:=⟨b,hb⟩;have h0:o≠0:=h.sep.nz o hin
 have hV:(φ.add o X (φ.V o)).V=φ.V:=by
  funext d
  show(if d=o then φ.V o else φ.V d)=φ.V d
  split
  ·subst_vars;rfl
  ·rfl
 have ur: ∀d,aT (rR o b' st.ob) d↔aT st.ob d:=fun d=>by
  rw[me];exact⟨fun h=>h.elim (fun e=>e▸hin) id,.inr⟩
 have stI: ∀k,φ.I k→w'.heap[k]?=w.heap[k]?:=fun k hk=>hw k (h.sep.ro k hk).1 fun hs=>h.sep.read o k hin hs hk
 have stS: ∀d k,d≠o→d=0∨aT st.ob d→φ.S d k→w'.heap[k]?=w.heap[k]?:=fun d k hne hd hk=>hw k (h.sep.lt h.frm.size hd hk) fun hs=>by
  rcases hd with rfl|hd
  ·rw[h.sep.arg] at hk
   have:=h.sep.qL k hk;rcases (h.sep.fresh o k hin hs).2 with h3|h3
   ·omega
   ·exact this.2 h3
  ·exact hne (h.sep.apart d o k hd hin hk hs)
 have stR: ∀ds k,o∉ds→(∀d∈ds,d=0∨aT st.ob d)→rd φ ds k→rd (φ.add o X (φ.V o)) ds k∧w'.heap[k]?=w.heap[k]?:=fun ds k hn hd hk=>by
  refine⟨abD hn hk,?_⟩;rcases hk with hk|⟨d,hm,hk⟩
  ·exact stI k hk
  ·exact stS d k (fun e=>by subst e;exact hn hm) (hd d hm) hk
 have stV: ∀p b1 ad n c i f tc u,p≠o→az p st.ob=some b1→φ.V p= .slice (some ad) n c→BI b1.rows i f=some tc→w.cell? (ad.add (i*b1.z+f))=some u→w'.cell? (ad.add (i*b1.z+f))=some u:=by
  intro p b1 ad n c i f tc u hne hp hv ht hcell;have hO:=h.obj p b1 hp;unfold rS at hO;rw[hv] at hO
  have hS:φ.S p ad.block:=by
   cases hO with
   |sub _ _ _ _ _ _ u T k hn=>exact(k.own (by unfold OB.m;split<;>simp)).2 ad rfl|>.1
  rw[ia (w:=w)]
  ·exact hcell
  ·rw[c7];exact stS p _ hne (.inr ⟨b1,hp⟩) hS
 have cbox: ∀p cs,az p st.bx=some cs→w'.heap[(φ.β p).block]?=w.heap[(φ.β p).block]?:=fun p cs hp=>by
  obtain⟨a1,a2,a3⟩:=h.sep.spot p cs hp;refine hw _ a2 fun hs=> ?_
  cases Lj:DY p with
  |true=>exact(h.sep.box p cs hp Lj).2.1 o hin hs
  |false=>
   have:=h.sep.qL _ (a3 Lj);rcases (h.sep.fresh o _ hin hs).2 with h3|h3
   ·omega
   ·exact this.2 h3
 refine h.LY (φ':=φ.add o X (φ.V o)) rfl rfl (fun e v he=> ?_) (fun e v hv he=> ?_) (fun p cs hp j hj=> ?_) (fun p b1 hp=> ?_) ?_ hf
 ·cases e with
  |ref p cut=>
   obtain⟨b1,h1,h2⟩:=he
   by_cases hp:p=o
   ·subst hp
    rw[hb] at h1;cases h1;refine⟨b',pF,?_⟩;rw[hV]
    cases cut with
    |none=>exact h2
    |some q=>obtain⟨l,r⟩:=q;simp only at h2 ⊢;rw[hz,hl];exact h2
   ·exact⟨b1,by rw[ou hp];exact h1,by rw[hV];exact h2⟩
  |snap ds loc z rows=>
   simp only[afn]
   cases hd:pE o ds with
   |true=>trivial
   |false=>
    have hd:=fP.1 hd;obtain⟨h1,h2,h3⟩:=he;refine⟨fun d hm=>(h1 d hm).imp id (ur d).2,h2.move (fun k hk=>stR ds k hd h1 hk) (fun hm=>absurd rfl hm),fun p i f hl=> ?_⟩;obtain⟨a1,b1,a2,a3,a4,ad,n,c,a5,a6⟩:=h3 p i f hl
    have hp:p≠o:=fun e=>by subst e;exact hd a1
    refine⟨a1,b1,by rw[ou hp];exact a2,a3,a4,ad,n,c,by rw[hV];exact a5,stV p b1 ad n c _ _ _ _ hp a2 a5 a4 a6⟩
  |_=>exact he
 ·cases e with
  |v t es=>exact absurd rfl (hv t es)
  |ep ds cells=>
   simp only[abq]
   cases hd:pE o ds with
   |true=>trivial
   |false=>
    have hd:=fP.1 hd;obtain⟨h1,ad,h2,hr,h3⟩:=he;refine⟨fun d hm=>(h1 d hm).imp id (ur d).2,ad,h2,fun hc=>(stR ds _ hd h1 (hr hc)).1,fun j tc hj=> ?_⟩;obtain⟨u,h4,h5⟩:=h3 j tc hj
    have hc:cells≠[]:=fun e=>by rw[e] at hj;simp at hj
    exact⟨u,by rw[ia (w:=w) (by rw[c7];exact(stR ds _ hd h1 (hr hc)).2)];exact h4,h5.move (fun k hk=>stR ds k hd h1 hk) (fun hm=>absurd rfl hm)⟩
  |er p path i f=>
   obtain⟨b1,h1,h2,ad,n,c,h3,h4⟩:=he
   cases path with
   |none=>
    simp only[abq]
    by_cases hp:p=o
    ·subst hp
     rw[hb] at h1;cases h1;exact⟨b',pF,h2,ad,n,c,by rw[hV];exact h3,by rw[hz];exact h4⟩
    ·exact⟨b1,by rw[ou hp];exact h1,h2,ad,n,c,by rw[hV];exact h3,h4⟩
   |some q=>
    obtain⟨i0,f0⟩:=q;simp only[abq]
    cases hd:Nat.beq p o with
    |true=>trivial
    |false=>
     have hp:=wH hd;obtain⟨a1,z1,uY,a2,ad1,n1,c1,a3,a4⟩:=h4;exact⟨b1,by rw[ou hp];exact h1,h2,ad,n,c,by rw[hV];exact h3,a1,z1,uY,a2,ad1,n1,c1,stV p b1 ad n c _ _ _ _ hp h1 h3 a2 a3,a4⟩
  |_=>exact he
 ·exact ia (by rw[c7];exact cbox p cs hp)
 ·unfold rS
  by_cases hp':p=o
  ·subst hp'
   rw[pF] at hp;cases hp;rw[hV];show aB w' φ.I b'.m (fun k=>if p=p then X k else φ.S p k) (.sub b'.z b'.rows) (φ.V p);simp only[if_true];exact hc
  ·rw[ou hp'] at hp
   rw[hV];show aB w' φ.I b1.m (fun k=>if p=o then X k else φ.S p k) (.sub b1.z b1.rows) (φ.V p);simp only[aF hp'];exact(h.obj p b1 hp).move (fun k hk=>⟨hk,stI k hk⟩) fun _ k hk=>stS p k hp' (.inr ⟨b1,hp⟩) hk
 ·have hs:=h.sep.boxes (jE (afn o))
  have self: ∀k,(φ.add o X (φ.V o)).S o k→X k:=fun k hk=>by
   have hk':(if o=o then X k else φ.S o k):=hk;simpa using hk'
  exact {
   arg:=by
    show(fun k=>if 0=o then X k else φ.S 0 k)=A.all;simp only[aF (Ne.symm h0)];exact h.sep.arg
   nz:=fun d hd=>h.sep.nz d ((ur d).1 hd)
   apart:=fun d d' k h1 h2 h3 h4=>by
    have i1:=(ur d).1 h1;have i2:=(ur d').1 h2
    by_cases e1:d=o
    ·subst e1
     by_cases e2:d'=d
     ·exact e2.symm
     ·rw[zu e2] at h4;exact absurd h4 (hS k d' (self k h3) e2 i2)
    ·rw[zu e1] at h3
     by_cases e2:d'=o
     ·subst e2;exact absurd h3 (hS k d (self k h4) e1 i1)
     ·rw[zu e2] at h4;exact h.sep.apart d d' k i1 i2 h3 h4
   read:=fun d k hd hk=>by
    have hd:=(ur d).1 hd
    by_cases e1:d=o
    ·subst e1;exact hI k (self k hk)
    ·rw[zu e1] at hk;exact h.sep.read d k hd hk
   fresh:=fun d k hd hk=>by
    have hd:=(ur d).1 hd
    by_cases e1:d=o
    ·subst e1;exact hX k (self k hk)
    ·rw[zu e1] at hk
     exact⟨lY (h.sep.fresh d k hd hk).1 hsz,(h.sep.fresh d k hd hk).2⟩
   ro:=fun k hk=>⟨lY (h.sep.ro k hk).1 hsz,(h.sep.ro k hk).2⟩
   qL:=h.sep.qL
   box:=fun p cs hp Lj=>by
    obtain⟨cs0,c1,_⟩:=jE _ p cs hp;obtain⟨a1,a2,a3,a4⟩:=hs.box p cs hp Lj;refine⟨a1,fun d hd hk=> ?_,a3,a4⟩;have hd:=(ur d).1 hd
    by_cases e1:d=o
    ·subst e1;exact hB p cs0 c1 Lj (self _ hk)
    ·rw[zu e1] at hk;exact a2 d hd hk
   spot:=fun p cs hp=>⟨(hs.spot p cs hp).1,lY (hs.spot p cs hp).2.1 hsz,(hs.spot p cs hp).2.2⟩
   soft:=fun p cs j hp Lj hj=>by
    obtain⟨cs0,c1,c2⟩:=jE _ p cs hp;rw[ot (w:=w) (by rw[c7];exact cbox p cs0 c1)]
    exact h.sep.soft p cs0 j c1 Lj ay}
end Go.T
namespace Go.T
variable {F : Nat → Prop} {A : Arg} {w0 w w' : World} {φ φ' : Fp} {st st' : TS} {tm LS : Array Value}
theorem bB.less (h:bB F A w0 φ st tm w) (ht: ∀i,st'.get i= .dead∨st'.get i=st.get i) (hb: ∀b cs,az b st'.bx=some cs→az b st.bx=some cs) (ho:st'.ob=st.ob):bB F A w0 φ st' tm w where
 tmp i:=by
  rw[ho];rcases ht i with h1|h1
  ·rw[h1];trivial
  ·rw[h1];exact h.tmp i
 box b cs h1:=by rw[ho];exact h.box b cs (hb b cs h1)
 obj:=by rw[ho];exact h.obj
 sep:=by rw[ho];exact h.sep.boxes fun b cs h1=>⟨cs,hb b cs h1,rfl⟩
 frm:=h.frm
theorem adr (st:TS) (l:List Nat) (bx:List (Nat×List CE)) (ob:List (Nat×OB)) (i:Nat):(⟨Gk l st.tm,bx,ob⟩:TS).get i= .dead∨(⟨Gk l st.tm,bx,ob⟩:TS).get i=st.get i:=by
 unfold TS.get;simp only[VJ]
 by_cases h:i∈l
 ·right;rw[aI h]
 ·left;rw[aF h]
theorem bB.keep (h:bB F A w0 φ st tm w) (l:List Nat):bB F A w0 φ ⟨Gk l st.tm,st.bx,st.ob⟩ tm w:=
 h.less (adr st l st.bx st.ob) (fun _ _ h=>h) rfl
theorem VL (l:List Nat) (j:Nat): ∀(m:List (Nat×List CE)) (cs:List CE),az j (BH l m)=some cs→az j m=some cs
 |[],cs,h=>by simp[BH,az] at h
 |(a,x)::r,cs,h=>by
  have ih:=VL l j r cs
  have key:az j ((a,x)::BH l r)=some cs→az j ((a,x)::r)=some cs:=fun h=>by
   simp only[az] at h ⊢
   cases h1:Nat.beq a j with
   |true=>rw[h1] at h;exact h
   |false=>rw[h1] at h;exact ih h
  have skip:(100000≤a→False)→a∉l→az j (BH l r)=some cs→az j ((a,x)::r)=some cs:=fun h1 h2 h=>by
   simp only[az]
   cases h3:Nat.beq a j with
   |false=>exact ih h
   |true=>
    exfalso
    have h3:=kf h3;subst h3
    have: ∀(m:List (Nat×List CE)),az a (BH l m)=none:=by
     intro m
     induction m with
     |nil=>rfl
     |cons p r ih=>
      obtain⟨c,y⟩:=p;simp only[BH]
      have hk: ∀(hc:c≠a),az a ((c,y)::BH l r)=none:=fun hc=>by
       simp only[az,beq_false hc];exact ih
      split
      ·rename_i h4
       exact hk fun e=>h1 (by subst e;exact wG h4)
      ·split
       ·rename_i h5
        exact hk fun e=>h2 (by subst e;exact nu.1 h5)
       ·exact ih
    rw[this] at h;cases h
  simp only[BH] at h
  split at h
  ·exact key h
  ·rename_i h4
   split at h
   ·exact key h
   ·rename_i h5
    exact skip (fun h6=>by rw[VA h6] at h4;cases h4) (fP.1 h5) h
theorem bB.aqg (h:bB F A w0 φ st tm w) (l:List Nat):bB F A w0 φ ⟨Gk l st.tm,BH l st.bx,st.ob⟩ tm w:=
 h.less (adr st l (BH l st.bx) st.ob) (fun b cs hb=>VL l b st.bx cs hb) rfl
theorem ahF {b:Nat} {ob:List (Nat×OB)} {β:Nat→Addr} (hβ: ∀c,c≠b→β c=φ.β c) {e:TE} {v:Value} (hn:VE b e=false) (h:dK ob w φ e v):dK ob w {φ with β:=β} e v:=by
 have anN: ∀(c:vE) (u:Value),anz b c=false→pZ ob w φ c u→pZ ob w {φ with β:=β} c u:=by
  intro c u hc h
  cases c with
  |ptr c=>
   simp only[pZ] at h ⊢;rw[hβ c (wH hc)];exact h
  |mk a cs=>cases a<;>exact h
 cases e with
 |v t es=>
  simp only[VE,List.any_eq_false] at hn
  cases t with
  |true=>
   obtain⟨vs,h1,h2,h3⟩:=h;refine⟨vs,h1,h2,fun k c hk=> ?_⟩;obtain⟨u,h4,h5⟩:=h3 k c hk;exact⟨u,h4,anN c u (by simpa using hn c (gP hk)) h5⟩
  |false=>
   obtain⟨c,rfl,h3⟩:=h;exact⟨c,rfl,anN c v (by simpa using hn c cW) h3⟩
 |bp c off=>
  simp only[dK] at h ⊢;rw[hβ c (wH hn)];exact h
 |fn f caps=>
  simp only[dK] at h ⊢;rw[h];have hn:=fP.1 hn
  congr 2
  refine List.map_congr_left fun c hc=> ?_;rw[hβ c fun e=>by subst e;exact hn hc]
 |_=>exact h
theorem aaG (b:Nat) (st:TS) (i:Nat):(aaD b st).get i=if VE b (st.get i)=true then .dead else st.get i:=by
 unfold TS.get aaD;simp only[xJ]
 cases az i st.tm with
 |none=>simp
 |some e=>
  simp only[pL]
  cases VE b e<;>simp
theorem bB.aaD (h:bB F A w0 φ st tm w) (b:Nat):bB F A w0 φ (aaD b st) tm w:=by
 refine h.less (fun i=> ?_) (fun c cs hc=> ?_) rfl
 ·rw[aaG];split<;>simp
 ·have:az c (uM b st.bx)=some cs:=hc
  rw[kL] at this
  split at this
  ·cases this
  ·exact this
def Fp.box (φ:Fp) (b:Nat) (ad:Addr):Fp:={φ with β:=fun c=>if c=b then ad else φ.β c}
theorem Ao {b:Nat} {ad:Addr}:(φ.box b ad).β b=ad:=aI rfl
theorem rT {b c:Nat} {ad:Addr} (h:c≠b):(φ.box b ad).β c=φ.β c:=aF h
theorem bB.Pm (h:bB F A w0 φ st tm w) {b:Nat} {cs:List CE} {ad:Addr} (hw:DY b=true) (hs:ad.spot=none) (hlt:ad.block<w.heap.size) (hS: ∀o,aT st.ob o→ ¬φ.S o ad.block)
 (hI: ¬φ.I ad.block) (hF:w0.heap.size≤ad.block∨F ad.block) (hB: ∀b' cs',az b' st.bx=some cs'→b'≠b→(φ.β b').block≠ad.block)
 (hc: ∀(j:Nat) (e:CE),cs[j]?=some e→ ∃v,w.cell? (ad.add j)=some v∧v.cells= #[v]∧eP st.ob w φ e v) (hf: ∀j,j<cs.length→w.frozen? (ad.add j)=false):bB F A w0 (φ.box b ad) (Pm b cs st) tm w:=by
 have Br: ∀c,az c (T.Pm b cs st).bx=if c=b then some cs else az c st.bx:=fun c=>by
  show az c (rR b cs (uM b st.bx))=_;rw[gM,kL]
  by_cases hc:c=b<;>simp[hc]
 refine⟨fun i=> ?_,fun c cs' Bt j e he=> ?_,h.obj,?_,h.frm⟩
 ·show dK st.ob w (φ.box b ad) ((T.aaD b st).get i) (tm.getD i undef)
  rw[aaG]
  split
  ·trivial
  ·rename_i hn
   exact ahF (fun c hc=>rT hc) (by simpa using hn) (h.tmp i)
 ·rw[Br] at Bt
  by_cases hcb:c=b
  ·subst hcb
   rw[aI rfl] at Bt;cases Bt;rw[Ao];exact hc j e he
  ·rw[aF hcb] at Bt
   rw[rT hcb];exact h.box c cs' Bt j e he
 ·exact {
   arg:=h.sep.arg,nz:=h.sep.nz,apart:=h.sep.apart,read:=h.sep.read,fresh:=h.sep.fresh,ro:=h.sep.ro,qL:=h.sep.qL
   box:=fun c cs' Bt hwc=>by
    rw[Br] at Bt
    by_cases hcb:c=b
    ·subst hcb
     rw[Ao];refine⟨hI,hS,hF,fun b' ac1 hb' hne=> ?_⟩;rw[Br,aF hne] at hb';rw[rT hne];exact hB b' ac1 hb' hne
    ·rw[aF hcb] at Bt
     rw[rT hcb];obtain⟨a1,a2,a3,a4⟩:=h.sep.box c cs' Bt hwc;refine⟨a1,a2,a3,fun b' ac1 hb' hne=> ?_⟩;rw[Br] at hb'
     by_cases hb2:b'=b
     ·subst hb2
      rw[Ao];exact fun e=>hB c cs' Bt hcb e.symm
     ·rw[aF hb2] at hb'
      rw[rT hb2];exact a4 b' ac1 hb' hne
   spot:=fun c cs' Bt=>by
    rw[Br] at Bt
    by_cases hcb:c=b
    ·subst hcb
     rw[Ao];exact⟨fun _=>hs,hlt,fun e=>by rw[hw] at e;cases e⟩
    ·rw[aF hcb] at Bt
     rw[rT hcb];exact h.sep.spot c cs' Bt
   soft:=fun c cs' j Bt hwc hj=>by
    rw[Br] at Bt
    by_cases hcb:c=b
    ·subst hcb
     rw[aI rfl] at Bt;cases Bt;rw[Ao];exact hf j hj
    ·rw[aF hcb] at Bt
     rw[rT hcb];exact h.sep.soft c cs' j Bt hwc hj}
theorem bB.Pk (h:bB F A w0 φ st tm w) {b:Nat} {cs old:List CE} (hb:az b st.bx=some old) (Lj:DY b=true) (hl:cs.length=old.length) (hf:Ns F w0 w') (hsz:w.heap.size≤w'.heap.size)
 (hw: ∀k,k<w.heap.size→k≠(φ.β b).block→w'.heap[k]?=w.heap[k]?) (hfz: ∀j,j<cs.length→w'.frozen? ((φ.β b).add j)=false)
 (hc: ∀(j:Nat) (e:CE),cs[j]?=some e→ ∃v,w'.cell? ((φ.β b).add j)=some v∧v.cells= #[v]∧eP st.ob w φ e v):bB F A w0 φ (st.Pk b cs) tm w':=by
 obtain⟨b1,b2,b3,b4⟩:=h.sep.box b old hb Lj;have stI: ∀k,φ.I k→w'.heap[k]?=w.heap[k]?:=fun k hk=>hw k (h.sep.ro k hk).1 fun e=>b1 (e▸hk)
 have nA: ∀k,A.all k→k≠(φ.β b).block:=fun k hk e=>by
  subst e;have:=h.sep.qL _ hk;rcases b3 with b3|b3
  ·omega
  ·exact this.2 b3
 have stS: ∀d k,d=0∨aT st.ob d→φ.S d k→w'.heap[k]?=w.heap[k]?:=fun d k hd hk=>hw k (h.sep.lt h.frm.size hd hk) fun e=>by
  subst e;rcases hd with rfl|hd
  ·rw[h.sep.arg] at hk;exact nA _ hk rfl
  ·exact b2 d hd hk
 have own: ∀o ad n c,aT st.ob o→φ.V o= .slice (some ad) n c→φ.S o ad.block:=fun o ad n c ⟨bo,ho⟩ hv=>by
  have hO:=h.obj o bo ho;unfold rS at hO;rw[hv] at hO
  cases hO with
  |sub _ _ _ _ _ _ u T k hn=>exact(k.own (by unfold OB.m;split<;>simp)).2 ad rfl|>.1
 have hV: ∀o,aT st.ob o→ ∀ad n c,φ.V o= .slice (some ad) n c→ ∀i v,w.cell? (ad.add i)=some v→w'.cell? (ad.add i)=some v:=fun o ho ad n c hv i v hcell=>by
  rw[ia (w:=w)]
  ·exact hcell
  ·rw[c7];exact stS o _ (.inr ho) (own o ad n c ho hv)
 have hCE: ∀e v,eP st.ob w φ e v→eP st.ob w' φ e v:=fun e v he=>he.stay stI stS hV
 have hE: ∀ds cells v,dK st.ob w φ (.ep ds cells) v→dK st.ob w' φ (.ep ds cells) v:=by
  intro ds cells v ⟨h1,ad,h2,hr,h3⟩;refine⟨h1,ad,h2,hr,fun j tc hj=> ?_⟩;obtain⟨u,h4,h5⟩:=h3 j tc hj
  have hcn:cells≠[]:=fun e=>by rw[e] at hj;simp at hj
  have stR: ∀k,rd φ ds k→w'.heap[k]?=w.heap[k]?:=fun k hk=>by
   rcases hk with hk|⟨d,hm,hk⟩
   ·exact stI k hk
   ·exact stS d k (h1 d hm) hk
  exact⟨u,by rw[ia (w:=w) (by rw[c7];exact stR _ (hr hcn))];exact h4,h5.move (fun k hk=>⟨hk,stR k hk⟩) (fun hm=>absurd rfl hm)⟩
 have hT: ∀e v,dK st.ob w φ e v→dK st.ob w' φ e v:=fun e v he=>by
  have:=dK.LY (f:=id) (g:=id) rfl hCE (fun e v hv he=>dK.stay stI stS hV (fun ad v hc hk=>by rw[ia (w:=w) (hk _ rfl)];exact hc) hE hv he) he
  have hid:Dx id id e=e:=by
   have h1:=congrArg TS.tm (Al ⟨[(0,e)],[],[]⟩);simpa [BD,mapA] using h1
  rw[hid] at this;exact this
 have Br: ∀c,az c (st.Pk b cs).bx=if c=b then some cs else az c st.bx:=fun c=>gM _ _ _ _
 have obox: ∀c cs',az c st.bx=some cs'→c≠b→w'.heap[(φ.β c).block]?=w.heap[(φ.β c).block]?:=fun c cs' Bt hne=>hw _ (h.sep.spot c cs' Bt).2.1 (b4 c cs' Bt hne);refine⟨fun i=>hT _ _ (h.tmp i),fun c cs' Bt j e he=> ?_,fun o bo ho=> ?_,?_,hf⟩
 ·rw[Br] at Bt
  by_cases hcb:c=b
  ·subst hcb
   rw[aI rfl] at Bt;cases Bt;obtain⟨v,h1,h3,h2⟩:=hc j e he;exact⟨v,h1,h3,hCE _ _ h2⟩
  ·rw[aF hcb] at Bt
   obtain⟨v,h1,h3,h2⟩:=h.box c cs' Bt j e he;exact⟨v,by rw[ia (w:=w) (by rw[c7];exact obox c cs' Bt hcb)];exact h1,h3,hCE _ _ h2⟩
 ·exact(h.obj o bo ho).move (fun k hk=>⟨hk,stI k hk⟩) fun _ k hk=>stS o k (.inr ⟨bo,ho⟩) hk
 ·have len: ∀c cs',az c (st.Pk b cs).bx=some cs'→ ∃cs0,az c st.bx=some cs0∧cs'.length=cs0.length:=fun c cs' Bt=>by
   rw[Br] at Bt
   by_cases hcb:c=b
   ·subst hcb
    rw[aI rfl] at Bt;cases Bt;exact⟨old,hb,hl⟩
   ·rw[aF hcb] at Bt;exact⟨cs',Bt,rfl⟩
  have hs:=h.sep.boxes len
  exact {
   arg:=hs.arg,nz:=hs.nz,apart:=hs.apart,read:=hs.read,qL:=hs.qL,box:=hs.box
   fresh:=fun o k ho hk=>⟨lY (hs.fresh o k ho hk).1 hsz,(hs.fresh o k ho hk).2⟩
   ro:=fun k hk=>⟨lY (hs.ro k hk).1 hsz,(hs.ro k hk).2⟩
   spot:=fun c cs' Bt=>⟨(hs.spot c cs' Bt).1,lY (hs.spot c cs' Bt).2.1 hsz,(hs.spot c cs' Bt).2.2⟩
   soft:=fun c cs' j Bt hwc hj=>by
    obtain⟨cs0,c1,c2⟩:=len c cs' Bt
    by_cases hcb:c=b
    ·subst hcb
     rw[Br,aI rfl] at Bt;cases Bt;exact hfz j hj
    ·rw[ot (w:=w) (by rw[c7];exact obox c cs0 c1 hcb)]
     exact h.sep.soft c cs0 j c1 hwc ay}
end Go.T
namespace Go.T
variable {F : Nat → Prop} {A : Arg} {w0 w w' : World} {φ φ' : Fp} {st st' : TS} {tm LS : Array Value}
structure Ext (ob KJ:List (Nat×OB)) (φ φ':Fp):Prop where
 look: ∀d b,az d ob=some b→az d KJ=some b
 I:φ'.I=φ.I
 β:φ'.β=φ.β
 S: ∀d,d=0∨aT ob d→φ'.S d=φ.S d
 V: ∀d,aT ob d→φ'.V d=φ.V d
section
variable {ob KJ : List (Nat × OB)}
theorem Ext.dom (x:Ext ob KJ φ φ') {d:Nat} (h:aT ob d):aT KJ d:=let ⟨b,h⟩:=h;⟨b,x.look d b h⟩
theorem Ext.rd (x:Ext ob KJ φ φ') {ds:List Nat} (hd: ∀d∈ds,d=0∨aT ob d) {k:Nat} (h:T.rd φ ds k):T.rd φ' ds k:=by
 rcases h with h|⟨d,hm,h⟩
 ·exact .inl (by rw[x.I];exact h)
 ·exact .inr ⟨d,hm,by rw[x.S d (hd d hm)];exact h⟩
theorem eP.ext (x:Ext ob KJ φ φ') {e:CE} {v:Value} (h:eP ob w φ e v):eP KJ w φ' e v:=by
 cases e with
 |ref o cut=>
  obtain⟨b,h1,h2⟩:=h;exact⟨b,x.look o b h1,by rw[x.V o ⟨b,h1⟩];exact h2⟩
 |snap ds loc z rows=>
  obtain⟨h1,h2,h3⟩:=h;refine⟨fun d hm=>(h1 d hm).imp id x.dom,h2.sP fun k hk=>x.rd h1 hk,fun o i f hl=> ?_⟩;obtain⟨a1,b,a2,a3,a4,ad,n,c,a5,a6⟩:=h3 o i f hl;exact⟨a1,b,x.look o b a2,a3,a4,ad,n,c,by rw[x.V o ⟨b,a2⟩];exact a5,a6⟩
 |_=>exact h
theorem pZ.ext (x:Ext ob KJ φ φ') {c:vE} {v:Value} (h:pZ ob w φ c v):pZ KJ w φ' c v:=by
 cases c with
 |ptr b=>simp only[pZ] at h ⊢;rw[x.β];exact h
 |mk a cs=>
  cases a with
  |true=>obtain⟨xs,h1,h2,h3⟩:=h;exact⟨xs,h1,h2,fun j e he=>let ⟨y,h4,h6,h5⟩:=h3 j e he;⟨y,h4,h6,h5.ext x⟩⟩
  |false=>obtain⟨e,h1,h2,h3⟩:=h;exact⟨e,h1,h2,h3.ext x⟩
theorem dK.ext (x:Ext ob KJ φ φ') {e:TE} {v:Value} (h:dK ob w φ e v):dK KJ w φ' e v:=by
 cases e with
 |v t es=>
  cases t with
  |true=>obtain⟨vs,h1,h2,h3⟩:=h;exact⟨vs,h1,h2,fun j e he=>let ⟨y,h4,h5⟩:=h3 j e he;⟨y,h4,h5.ext x⟩⟩
  |false=>obtain⟨c,h1,h2⟩:=h;exact⟨c,h1,h2.ext x⟩
 |ep ds cells=>
  obtain⟨h1,ad,h2,hr,h3⟩:=h;refine⟨fun d hm=>(h1 d hm).imp id x.dom,ad,h2,fun hc=>x.rd h1 (hr hc),fun j tc hj=> ?_⟩;obtain⟨u,h4,h5⟩:=h3 j tc hj;exact⟨u,h4,h5.sP fun k hk=>x.rd h1 hk⟩
 |er o path i f=>
  obtain⟨b,h1,h2,ad,n,c,h3,h4⟩:=h;exact⟨b,x.look o b h1,h2,ad,n,c,by rw[x.V o ⟨b,h1⟩];exact h3,h4⟩
 |bp b off=>simp only[dK] at h ⊢;rw[x.β];exact h
 |fn f caps=>simp only[dK] at h ⊢;rw[x.β];exact h
 |_=>exact h
end
def Asc:Nat→Nat→List (Nat×OB)→Prop
 |n,m,[]=>n≤m
 |n,m,(i,b)::r=>n≤i∧(b.deep=true∧b.rows=[]∧0<b.z)∧Asc (i+1) m r
theorem Asc.le: ∀{n m:Nat} {l:List (Nat×OB)},Asc n m l→n≤m
 |_,_,[],h=>h
 |_,_,(i,b)::r,h=>by have:=Asc.le h.2.2;have:=h.1;omega
theorem Asc.down {n n' m:Nat} {l:List (Nat×OB)} (h:Asc n m l) (hn:n'≤n):Asc n' m l:=by
 cases l with
 |nil=>exact uL hn h
 |cons p r=>obtain⟨i,b⟩:=p;exact⟨uL hn h.1,h.2⟩
theorem Asc.app: ∀{n m k:Nat} {l l':List (Nat×OB)},Asc n m l→Asc m k l'→Asc n k (l++l')
 |_,_,_,[],_,h,h'=>h'.down h
 |_,_,_,(i,b)::r,_,h,h'=>⟨h.1,h.2.1,h.2.2.app h'⟩
theorem Asc.mem: ∀{n m:Nat} {l:List (Nat×OB)} {i:Nat} {b:OB},Asc n m l→(i,b)∈l→n≤i∧i<m∧b.deep=true∧b.rows=[]∧0<b.z
 |n,m,(j,b')::r,i,b,h,hm=>by
  rcases fX.1 hm with e|hm
  ·cases e
   have:=h.2.2.le;exact⟨h.1,by omega,h.2.1⟩
  ·obtain⟨h1,h2,h3⟩:=h.2.2.mem hm
   exact⟨by have:=h.1;omega,h2,h3⟩
theorem RV: ∀{n m:Nat} {l:List (Nat×OB)} {ob:List (Nat×OB)},Asc n m l→(∀i b,(i,b)∈l→az i (nt l ob)=some b)∧ ∀d,d<n→az d (nt l ob)=az d ob
 |_,_,[],ob,_=>⟨fun _ _ h=>(by cases h),fun _ _=>rfl⟩
 |n,m,(j,b')::r,ob,h=>by
  obtain⟨h1,h2⟩:=RV (ob:=ob) h.2.2;refine⟨fun i b hm=> ?_,fun d hd=> ?_⟩
  ·simp only[nt,gM]
   rcases fX.1 hm with e|hm
   ·cases e;rw[aI rfl]
   ·have:=(h.2.2.mem hm).1
    rw[aF ay];exact h1 i b hm
  ·have:=h.1
   simp only[nt,gM];rw[aF ay];exact h2 d ay
theorem LZ: ∀{l:List (Nat×OB)} {ob:List (Nat×OB)} {d:Nat} {b:OB},az d (nt l ob)=some b→(d,b)∈l∨az d ob=some b
 |[],_,_,_,h=> .inr h
 |(j,b')::r,ob,d,b,h=>by
  simp only[nt,gM] at h
  by_cases hd:d=j
  ·rw[aI hd] at h;cases h;subst hd;exact .inl (.head _)
  ·rw[aF hd] at h
   exact(LZ h).imp (.tail _) id
def aol:Value:= .slice none 0 0
def opened (N:Nat) (φ:Fp):Fp:={φ with S:=fun d k=>d<N∧φ.S d k,V:=fun d=>if d<N then φ.V d else aol}
section
variable {ob KJ : List (Nat × OB)} {N : Nat} (x : Ext ob KJ φ (opened N φ))
include x
theorem L0: ∀(cs:List CE) (n:Nat),N≤n→Asc n (jP n cs).2.1 (jP n cs).2.2∧(jP n cs).1.length=cs.length∧
 ((∀i b,(i,b)∈(jP n cs).2.2→az i KJ=some b)→ ∀(j:Nat) (e':CE),(jP n cs).1[j]?=some e'→ ∃e,cs[j]?=some e∧ ∀v,eP ob w φ e v→eP KJ w (opened N φ) e' v)
 |[],n,hn=>⟨cV _,rfl,fun _ j e' h=>by simp[jP] at h⟩
 |e::r,n,hn=>by
  have keep: ∀(e:CE),(∀z,Nat.ble 1 z=true→e≠ .nil z)→jP n (e::r)=(e::(jP n r).1,(jP n r).2.1,(jP n r).2.2):=by
   intro e he
   cases e with
   |nil z=>
    simp only[jP]
    cases h:Nat.ble 1 z with
    |true=>exact absurd rfl (he z h)
    |false=>rfl
   |_=>rfl
  by_cases hz: ∃z,Nat.ble 1 z=true∧e= .nil z
  ·obtain⟨z,hz,rfl⟩:=hz
   have heq:jP n (.nil z::r)=(.ref n none::(jP (n+1) r).1,(jP (n+1) r).2.1,(n,⟨true,z,[]⟩)::(jP (n+1) r).2.2):=by simp only[jP,hz]
   rw[heq];obtain⟨h1,h2,h3⟩:=L0 r (n+1) ay;refine⟨⟨cV _,⟨rfl,rfl,wG hz⟩,h1⟩,by simp[h2],fun hl j e' he=> ?_⟩
   cases j with
   |zero=>
    simp only[gE,aY] at he;subst he;refine⟨_,rfl,fun v hv=>⟨_,hl n _ (.head _),?_⟩⟩
    show v=if n<N then φ.V n else aol
    rw[aF ay];exact hv.1
   |succ j=>
    simp only[yo] at he ⊢;exact h3 (fun i b hm=>hl i b (.tail _ hm)) j e' he
  ·rw[keep e fun z hz' he=>hz ⟨z,hz',he⟩]
   obtain⟨h1,h2,h3⟩:=L0 r n hn;refine⟨h1,by simp[h2],fun hl j e' he=> ?_⟩
   cases j with
   |zero=>
    simp only[gE,aY] at he;subst he;exact⟨_,rfl,fun v hv=>hv.ext x⟩
   |succ j=>
    simp only[yo] at he ⊢;exact h3 hl j e' he
theorem Fw: ∀(cs:List vE) (n:Nat),N≤n→Asc n (iZ n cs).2.1 (iZ n cs).2.2∧(iZ n cs).1.length=cs.length∧
 ((∀i b,(i,b)∈(iZ n cs).2.2→az i KJ=some b)→ ∀(j:Nat) (e':vE),(iZ n cs).1[j]?=some e'→ ∃e,cs[j]?=some e∧ ∀v,pZ ob w φ e v→pZ KJ w (opened N φ) e' v)
 |[],n,hn=>⟨cV _,rfl,fun _ j e' h=>by simp[iZ] at h⟩
 | .ptr b::r,n,hn=>by
   obtain⟨h1,h2,h3⟩:=Fw r n hn;refine⟨h1,by simp[iZ,h2],fun hl j e' he=> ?_⟩
   cases j with
   |zero=>
    simp only[iZ,gE,aY] at he;subst he;exact⟨_,rfl,fun v hv=>hv.ext x⟩
   |succ j=>
    simp only[iZ,yo] at he ⊢;exact h3 hl j e' he
 | .mk a cs::r,n,hn=>by
   obtain⟨g1,g2,g3⟩:=L0 (w:=w) x cs n hn;obtain⟨h1,h2,h3⟩:=Fw r (jP n cs).2.1 (uL hn g1.le);refine⟨g1.app h1,by simp[iZ,h2],fun hl j e' he=> ?_⟩
   cases j with
   |zero=>
    simp only[iZ,gE,aY] at he;subst he;refine⟨_,rfl,fun v hv=> ?_⟩;have g4:=g3 fun i b hm=>hl i b (lX _ hm)
    cases a with
    |true=>
     obtain⟨xs,k1,k2,k3⟩:=hv;refine⟨xs,k1,by rw[g2];exact k2,fun j e' he=> ?_⟩;obtain⟨e,k4,k5⟩:=g4 j e' he;obtain⟨y,k6,k8,k7⟩:=k3 j e k4;exact⟨y,k6,k8,k5 y k7⟩
    |false=>
     obtain⟨e,rfl,k2,k3⟩:=hv;have hlen:(jP n [e]).1.length=1:=g2
     obtain⟨e',he'⟩: ∃e',(jP n [e]).1=[e']:=by
      cases hq:(jP n [e]).1 with
      |nil=>rw[hq] at hlen;cases hlen
      |cons y t=>cases t with
       |nil=>exact⟨y,rfl⟩
       |cons _ _=>rw[hq] at hlen;simp at hlen
     obtain⟨e0,k4,k5⟩:=g4 0 e' (by rw[he'];rfl);simp only[gE,aY] at k4;subst k4;exact⟨e',he',k2,k5 v k3⟩
   |succ j=>
    simp only[iZ,yo] at he ⊢;exact h3 (fun i b hm=>hl i b (rZ _ hm)) j e' he
theorem ahG (e:TE) (n:Nat) (hn:N≤n):Asc n (LX n e).2.1 (LX n e).2.2∧
 ((∀i b,(i,b)∈(LX n e).2.2→az i KJ=some b)→ ∀v,dK ob w φ e v→dK KJ w (opened N φ) (LX n e).1 v):=by
 cases e with
 |v t es=>
  obtain⟨h1,h2,h3⟩:=Fw (w:=w) x es n hn;refine⟨h1,fun hl v hv=> ?_⟩;have h4:=h3 hl;simp only[LX]
  cases t with
  |true=>
   obtain⟨vs,k1,k2,k3⟩:=hv;refine⟨vs,k1,by rw[h2];exact k2,fun j e' he=> ?_⟩;obtain⟨e,k4,k5⟩:=h4 j e' he;obtain⟨y,k6,k7⟩:=k3 j e k4;exact⟨y,k6,k5 y k7⟩
  |false=>
   obtain⟨c,rfl,k1⟩:=hv;have hlen:(iZ n [c]).1.length=1:=h2
   obtain⟨e',he'⟩: ∃e',(iZ n [c]).1=[e']:=by
    cases hq:(iZ n [c]).1 with
    |nil=>rw[hq] at hlen;cases hlen
    |cons y t=>cases t with
     |nil=>exact⟨y,rfl⟩
     |cons _ _=>rw[hq] at hlen;simp at hlen
   obtain⟨e0,k4,k5⟩:=h4 0 e' (by rw[he'];rfl);simp only[gE,aY] at k4;subst k4;exact⟨e',he',k5 v k1⟩
 |kb b=>
  refine⟨cV _,fun _ v hv=> ?_⟩;simp only[dK] at hv;subst hv;exact⟨_,rfl,_,rfl,rfl,rfl,trivial⟩
 |_=>exact⟨cV _,fun _ v hv=>hv.ext x⟩
theorem VM: ∀(l:List (Nat×TE)) (n:Nat),N≤n→(∃m,Asc n m (D8 n l).2)∧
 ((∀i b,(i,b)∈(D8 n l).2→az i KJ=some b)→ ∀(i:Nat) (e':TE),az i (D8 n l).1=some e'→ ∃e,az i l=some e∧ ∀v,dK ob w φ e v→dK KJ w (opened N φ) e' v)
 |[],n,hn=>⟨⟨n,cV _⟩,fun _ i e' h=>by simp[D8,az] at h⟩
 |(j,e)::r,n,hn=>by
  obtain⟨g1,g2⟩:=ahG (w:=w) x e n hn;obtain⟨⟨m,h1⟩,h2⟩:=VM r (LX n e).2.1 (uL hn g1.le);refine⟨⟨m,g1.app h1⟩,fun hl i e' he=> ?_⟩;simp only[D8,az] at he ⊢
  cases hj:Nat.beq j i with
  |true=>
   rw[hj] at he;simp only[aY] at he;subst he;exact⟨e,rfl,g2 fun i b hm=>hl i b (lX _ hm)⟩
  |false=>
   rw[hj] at he;exact h2 (fun i b hm=>hl i b (rZ _ hm)) i e' he
end
theorem adt {n:Nat}: ∀{ob:List (Nat×OB)},adn n ob=true→ ∀o,aT ob o→o<n
 |[],_,o,⟨b,h⟩=>by cases h
 |(i,x)::r,ha,o,⟨b,h⟩=>by
  simp only[adn] at ha
  cases h1:Nat.ble n i with
  |true=>rw[h1] at ha;cases ha
  |false=>
   rw[h1] at ha;simp only[az] at h
   cases h2:Nat.beq i o with
   |true=>
    have:=kf h2;subst this
    exact Nat.lt_of_not_le fun h3=>by rw[VA h3] at h1;cases h1
   |false=>rw[h2] at h;exact adt ha o ⟨b,h⟩
theorem bB.ado (h:bB F A w0 φ st tm w): ∃φ',bB F A w0 φ' (ado st) tm w∧φ'.β=φ.β:=by
 unfold T.ado
 cases ha:adn 900000000 st.ob with
 |false=>exact⟨φ,h,rfl⟩
 |true=>
  have hlt:=adt ha
  have x1: ∀KJ,(∀d b,az d st.ob=some b→az d KJ=some b)→Ext st.ob KJ φ (opened 900000000 φ):=fun KJ hl=>
   ⟨hl,rfl,rfl,fun d hd=>by
     have:d<900000000:=hd.elim (fun e=>by omega) (hlt d)
     funext k
     simp[opened,this],fun d hd=>aI (hlt d hd)⟩
  obtain⟨⟨m,apt⟩,_⟩:=VM (w:=w) (x1 st.ob fun _ _ h=>h) st.tm 900000000 (cV _);obtain⟨l1,l2⟩:=RV (ob:=st.ob) apt
  have x:Ext st.ob (nt (D8 900000000 st.tm).2 st.ob) φ (opened 900000000 φ):=x1 _ fun d b hd=>by rw[l2 d (hlt d ⟨b,hd⟩)];exact hd
  obtain⟨_,hT⟩:=VM (w:=w) x st.tm 900000000 (cV _);have hT:=hT l1
  have old: ∀d,aT (nt (D8 900000000 st.tm).2 st.ob) d→(d<900000000∧aT st.ob d)∨900000000≤d:=fun d ⟨b,hd⟩=>by
   rcases LZ hd with h1|h1
   ·exact .inr (apt.mem h1).1
   ·exact .inl ⟨hlt d ⟨b,h1⟩,b,h1⟩
  have oldS: ∀d k,aT (nt (D8 900000000 st.tm).2 st.ob) d→(opened 900000000 φ).S d k→aT st.ob d∧φ.S d k:=fun d k hd hk=>by
   rcases old d hd with h1|h1
   ·exact⟨h1.2,hk.2⟩
   ·exact absurd hk.1 ay
  refine⟨opened 900000000 φ,⟨fun i=> ?_,fun b cs hb j e he=> ?_,fun o b ho=> ?_,?_,h.frm⟩,rfl⟩
  ·show dK (nt (D8 900000000 st.tm).2 st.ob) w (opened 900000000 φ) (match az i (D8 900000000 st.tm).1 with|some e=>e|none=> .dead) (tm.getD i undef)
   cases hi:az i (D8 900000000 st.tm).1 with
   |none=>trivial
   |some e'=>
    obtain⟨e,h1,h2⟩:=hT i e' hi;have:=h.tmp i;unfold TS.get at this;rw[h1] at this;exact h2 _ this
  ·obtain⟨v,h1,h3,h2⟩:=h.box b cs hb j e he
   exact⟨v,h1,h3,h2.ext x⟩
  ·unfold rS
   rcases LZ ho with h1|h1
   ·obtain⟨a1,a2,a3,a4,a5⟩:=apt.mem h1
    obtain⟨bd,bz,br⟩:=b;simp only at a3 a4 a5;subst a3 a4;have hv:(opened 900000000 φ).V o=aol:=aF ay;rw[hv]
    refine aB.sub _ _ bz [] none 0 (fun _ _=>default) (fun _ _ _=>False) ⟨cV _,D4 _,a5,fun r hr=>(by cases hr),fun hr=>absurd rfl hr,fun _ ha=>(by cases ha),fun _ _ ha=>(by cases ha),
     fun _=>⟨fun _=>rfl,fun _ ha=>(by cases ha)⟩,fun _ _ _ ha=>(by cases ha),fun _ _ _ _ hk=>hk.elim⟩ fun i f tc ht=>absurd rfl (Pv ht)
   ·have hd:=hlt o ⟨b,h1⟩
    have:=h.obj o b h1;unfold rS at this;rw[x.V o ⟨b,h1⟩,x.S o (.inr ⟨b,h1⟩)];exact this
  ·exact {
    arg:=by rw[x.S 0 (.inl rfl)];exact h.sep.arg
    nz:=fun o ho e=>by
     rcases old o ho with h1|h1
     ·exact h.sep.nz o h1.2 e
     ·omega
    apart:=fun o o' k h1 h2 h3 h4=>h.sep.apart o o' k (oldS o k h1 h3).1 (oldS o' k h2 h4).1 (oldS o k h1 h3).2 (oldS o' k h2 h4).2
    read:=fun o k h1 h2=>h.sep.read o k (oldS o k h1 h2).1 (oldS o k h1 h2).2
    fresh:=fun o k h1 h2=>h.sep.fresh o k (oldS o k h1 h2).1 (oldS o k h1 h2).2
    ro:=h.sep.ro
    qL:=h.sep.qL
    box:=fun b cs hb hw=>by
     obtain⟨a1,a2,a3,a4⟩:=h.sep.box b cs hb hw;exact⟨a1,fun o ho hk=>a2 o (oldS o _ ho hk).1 (oldS o _ ho hk).2,a3,a4⟩
    spot:=h.sep.spot
    soft:=h.sep.soft}
end Go.T
namespace Go.T
variable {F : Nat → Prop} {A : Arg} {w0 w w' : World} {φ φ' : Fp} {st st' : TS} {tm LS : Array Value}
structure VN (n:Nat) (ρ:List (Nat×Nat)):Prop where
 rng: ∀o m,(o,m)∈ρ→1≤m∧m<n∧o≠0
 apart:ρ.Pairwise fun a b=>a.1≠b.1∧a.2≠b.2
theorem lH {α:Type} {o:Nat} {m:α}: ∀{ρ:List (Nat×α)},az o ρ=some m→(o,m)∈ρ
 |(a,x)::r,h=>by
  simp only[az] at h
  cases h1:Nat.beq a o with
  |true=>
   rw[h1] at h
   cases h
   have:=kf h1;subst this;exact .head _
  |false=>rw[h1] at h;exact .tail _ (lH h)
theorem yP {α:Type} {o:Nat}: ∀{ρ:List (Nat×α)},az o ρ=none→ ∀m,(o,m)∉ρ
 |[],_,_=>by simp
 |(a,x)::r,h,m=>by
  simp only[az] at h
  cases h1:Nat.beq a o with
  |true=>rw[h1] at h;cases h
  |false=>
   rw[h1] at h;intro hm;rcases fX.1 hm with e|hm
   ·cases e;exact wH h1 rfl
   ·exact yP h m hm
theorem Jm {n o m:Nat}: ∀{ρ:List (Nat×Nat)},(ρ.Pairwise fun a b=>a.1≠b.1∧a.2≠b.2)→(o,m)∈ρ→az o ρ=some m
 |(a,x)::r,h,hm=>by
  simp only[az];rw[List.pairwise_cons] at h;rcases fX.1 hm with e|hm
  ·cases e;rw[Jk]
  ·have:=(h.1 _ hm).1
   rw[beq_false this];exact Jm (n:=n) h.2 hm
theorem KT: ∀(l:List Nat) (n:Nat) (ρ:List (Nat×Nat)),1≤n→VN n ρ→ ∃n',VN n' (number l n ρ)∧(∀o m,az o ρ=some m→az o (number l n ρ)=some m)∧ ∀o∈l,o≠0→ ∃m,az o (number l n ρ)=some m
 |[],n,ρ,_,h=>⟨n,h,fun _ _ h=>h,fun _ h=>by cases h⟩
 |o::r,n,ρ,hn,h=>by
  simp only[number]
  cases h0:Nat.beq o 0 with
  |true=>
   obtain⟨n',h1,h2,h3⟩:=KT r n ρ hn h;refine⟨n',h1,h2,fun p hp hp0=> ?_⟩;rcases fX.1 hp with e|hp
   ·exact absurd (e.trans (kf h0)) hp0
   ·exact h3 p hp hp0
  |false=>
   have h0:=wH h0
   cases hl:az o ρ with
   |some m=>
    obtain⟨n',h1,h2,h3⟩:=KT r n ρ hn h;refine⟨n',h1,h2,fun p hp hp0=> ?_⟩;rcases fX.1 hp with e|hp
    ·subst e;exact⟨m,h2 _ _ hl⟩
    ·exact h3 p hp hp0
   |none=>
    have hk:VN (n+1) ((o,n)::ρ):=by
     refine⟨fun p m hm=> ?_,List.pairwise_cons.2 ⟨fun a ha=>⟨fun e=> ?_,fun e=> ?_⟩,h.apart⟩⟩
     ·rcases fX.1 hm with e|hm
      ·cases e;exact⟨hn,by omega,h0⟩
      ·have:=h.rng p m hm;exact⟨this.1,by omega,this.2.2⟩
     ·obtain⟨a1,a2⟩:=a
      simp only at e;subst e;exact yP hl a2 ha
     ·obtain⟨a1,a2⟩:=a
      simp only at e;have:=(h.rng a1 a2 ha).2.1;omega
    obtain⟨n',h1,h2,h3⟩:=KT r (n+1) ((o,n)::ρ) ay hk
    have hon:az o ((o,n)::ρ)=some n:=by simp only[az,Jk]
    refine⟨n',h1,fun p m hp=>h2 p m ?_,fun p hp hp0=> ?_⟩
    ·simp only[az]
     rw[beq_false fun e=>by subst e;rw[hl] at hp;cases hp];exact hp
    ·rcases fX.1 hp with e|hp
     ·subst e;exact⟨n,h2 _ _ hon⟩
     ·exact h3 p hp hp0
theorem anE {o o' m:Nat}: ∀{ρ:List (Nat×Nat)},(ρ.Pairwise fun a b=>a.1≠b.1∧a.2≠b.2)→(o,m)∈ρ→(o',m)∈ρ→o=o'
 |p::r,h,h1,h2=>by
  rw[List.pairwise_cons] at h;rcases fX.1 h1 with e1|h1
  ·rcases fX.1 h2 with e2|h2
   ·rw[←e1] at e2;cases e2;rfl
   ·exact absurd (by rw[←e1]) (h.1 _ h2).2
  ·rcases fX.1 h2 with e2|h2
   ·exact absurd (by rw[←e2]) (h.1 _ h1).2
   ·exact anE h.2 h1 h2
def inv (ρ:List (Nat×Nat)) (m:Nat):Nat:=match ρ.find? fun p=>Nat.beq p.2 m with|some p=>p.1|none=>0
theorem inv_eq {n o m:Nat} {ρ:List (Nat×Nat)} (h:VN n ρ) (hl:az o ρ=some m):inv ρ m=o:=by
 unfold inv;have hm:=lH hl
 cases hf:ρ.find? fun p=>Nat.beq p.2 m with
 |none=>
  have:=List.find?_eq_none.1 hf _ hm;simp at this
 |some p=>
  have h1:=List.mem_of_find?_eq_some hf;have h2:=List.find?_some hf;have h2:=kf h2;simp only;obtain⟨p1,p2⟩:=p;simp only at h2;subst h2;exact anE h.apart h1 hm
theorem inv_zero {n:Nat} {ρ:List (Nat×Nat)} (h:VN n ρ):inv ρ 0=0:=by
 unfold inv
 cases hf:ρ.find? fun p=>Nat.beq p.2 0 with
 |none=>rfl
 |some p=>
  have h1:=List.mem_of_find?_eq_some hf;have h2:=List.find?_some hf;have h2:=kf h2;obtain⟨p1,p2⟩:=p;have:=(h.rng p1 p2 h1).1;simp only at h2;omega
theorem Nv {o m:Nat} {ρ:List (Nat×Nat)} (hl:az o ρ=some m):Pp ρ o=m:=by unfold Pp;rw[hl]
theorem aaH {n:Nat} {ρ:List (Nat×Nat)} (h:VN n ρ):Pp ρ 0=0:=by
 unfold Pp
 cases hl:az 0 ρ with
 |none=>rfl
 |some m=>exact absurd rfl (h.rng 0 m (lH hl)).2.2
theorem Nw {ob:List (Nat×OB)} {m:Nat} {b:OB}: ∀{ρ:List (Nat×Nat)},az m (zp ob ρ)=some b→ ∃o,(o,m)∈ρ∧az o ob=some b
 |(o,n)::r,h=>by
  simp only[zp] at h
  cases ho:az o ob with
  |none=>
   rw[ho] at h;obtain⟨o',h1,h2⟩:=Nw h;exact⟨o',.tail _ h1,h2⟩
  |some b'=>
   rw[ho] at h;simp only[gM] at h
   by_cases hm:m=n
   ·rw[aI hm] at h;cases h;subst hm;exact⟨o,.head _,ho⟩
   ·rw[aF hm] at h
    obtain⟨o',h1,h2⟩:=Nw h;exact⟨o',.tail _ h1,h2⟩
theorem adu {ob:List (Nat×OB)} {o m:Nat} {b:OB} (ho:az o ob=some b): ∀{ρ:List (Nat×Nat)},(ρ.Pairwise fun a b=>a.1≠b.1∧a.2≠b.2)→(o,m)∈ρ→az m (zp ob ρ)=some b
 |(o',n)::r,h,hm=>by
  rw[List.pairwise_cons] at h;simp only[zp];rcases fX.1 hm with e|hm
  ·cases e
   rw[ho];simp only[gM,aI]
  ·have h1:=(h.1 _ hm).2
   have ih:=adu ho h.2 hm
   cases ho':az o' ob with
   |none=>exact ih
   |some b'=>
    simp only[gM];rw[aF (Ne.symm h1)];exact ih
def Fp.ren (φ:Fp) (ρ:List (Nat×Nat)):Fp:={φ with S:=fun m=>φ.S (inv ρ m),V:=fun m=>φ.V (inv ρ m)}
section
variable {ob : List (Nat × OB)} {n : Nat} {ρ : List (Nat × Nat)} (hρ : VN n ρ)
include hρ
theorem Nx {o m:Nat} {b:OB} (hm:az o ρ=some m) (ho:az o ob=some b):az m (zp ob ρ)=some b:=adu ho hρ.apart (lH hm)
theorem ajg {o m:Nat} (hm:az o ρ=some m):(φ.ren ρ).S m=φ.S o:=by show φ.S (inv ρ m)=_;rw[inv_eq hρ hm]
theorem agP {o m:Nat} (hm:az o ρ=some m):(φ.ren ρ).V m=φ.V o:=by show φ.V (inv ρ m)=_;rw[inv_eq hρ hm]
theorem ajh:(φ.ren ρ).S 0=φ.S 0:=by show φ.S (inv ρ 0)=_;rw[inv_zero hρ]
theorem aji {ds:List Nat} (hz: ∀d,aT ob d→d≠0) (hd: ∀d∈ds,d=0∨aT ob d) (hc: ∀o∈ds,o≠0→ ∃m,az o ρ=some m):
 (∀d∈ds.map (Pp ρ),d=0∨aT (zp ob ρ) d)∧ ∀k,rd φ ds k→rd (φ.ren ρ) (ds.map (Pp ρ)) k:=by
 refine⟨fun d hm=> ?_,fun k hk=> ?_⟩
 ·obtain⟨o,h1,rfl⟩:=List.mem_map.1 hm
  rcases hd o h1 with rfl|h2
  ·exact .inl (aaH hρ)
  ·obtain⟨m,h3⟩:=hc o h1 (hz o h2)
   obtain⟨b,h4⟩:=h2;rw[Nv h3];exact .inr ⟨b,Nx hρ h3 h4⟩
 ·rcases hk with hk|⟨d,hm,hk⟩
  ·exact .inl hk
  ·refine .inr ⟨Pp ρ d,List.mem_map_of_mem hm,?_⟩
   rcases hd d hm with rfl|h2
   ·rw[aaH hρ,ajh hρ];exact hk
   ·obtain⟨m,h3⟩:=hc d hm (hz d h2)
    rw[Nv h3,ajg hρ h3];exact hk
theorem eP.ren (hz: ∀d,aT ob d→d≠0) {e:CE} {v:Value} (hc: ∀o∈iM e,o≠0→ ∃m,az o ρ=some m) (h:eP ob w φ e v):eP (zp ob ρ) w (φ.ren ρ) (Nr ρ e) v:=by
 cases e with
 |ref o cut=>
  obtain⟨b,h1,h2⟩:=h;obtain⟨m,h3⟩:=hc o (by simp[iM]) (hz o ⟨b,h1⟩);simp only[Nr];rw[Nv h3];exact⟨b,Nx hρ h3 h1,by rw[agP hρ h3];exact h2⟩
 |snap ds loc z rows=>
  obtain⟨h1,h2,h3⟩:=h;obtain⟨g1,g2⟩:=aji hρ (φ:=φ) hz h1 hc;refine⟨g1,h2.sP g2,fun o i f hl=> ?_⟩
  cases loc with
  |none=>cases hl
  |some q=>
   obtain⟨o',i',f'⟩:=q;simp only[aY,BC] at hl;obtain⟨rfl,rfl,rfl⟩:=hl;obtain⟨a1,b,a2,a3,a4,ad,n,c,a5,a6⟩:=h3 o' i' f' rfl;obtain⟨m,a7⟩:=hc o' a1 (hz o' ⟨b,a2⟩);refine⟨List.mem_map_of_mem a1,?_⟩;rw[Nv a7];exact⟨b,Nx hρ a7 a2,a3,a4,ad,n,c,by rw[agP hρ a7];exact a5,a6⟩
 |_=>exact h
theorem dK.ren (hz: ∀d,aT ob d→d≠0) {e:TE} {v:Value} (hc: ∀o∈Dy e,o≠0→ ∃m,az o ρ=some m) (h:dK ob w φ e v):dK (zp ob ρ) w (φ.ren ρ) (Dx (Nr ρ) (ai7 ρ) e) v:=by
 have comp: ∀(c:vE) (u:Value),(∀o∈kK [c],o≠0→ ∃m,az o ρ=some m)→pZ ob w φ c u→pZ (zp ob ρ) w (φ.ren ρ) (Ak (Nr ρ) c) u:=by
  intro c u hc h
  cases c with
  |ptr b=>exact h
  |mk a cs=>
   simp only[kK,qm] at hc;have hc1: ∀e∈cs,∀o∈iM e,o≠0→ ∃m,az o ρ=some m:=fun e he o ho=>hc o (List.mem_flatMap.2 ⟨e,he,ho⟩)
   cases a with
   |true=>
    obtain⟨xs,h1,h2,h3⟩:=h;refine⟨xs,h1,by simp[h2],fun j e he=> ?_⟩;rw[lW] at he
    cases h4:cs[j]? with
    |none=>rw[h4] at he;cases he
    |some e0=>
     rw[h4] at he;simp only[pL,aY] at he;subst he;obtain⟨x,hx,hx1,hok⟩:=h3 j e0 h4;exact⟨x,hx,hx1,hok.ren hρ hz (hc1 e0 (gP h4))⟩
   |false=>
    obtain⟨e,rfl,h2,h3⟩:=h;exact⟨_,rfl,h2,h3.ren hρ hz (hc1 e cW)⟩
 have dcomp: ∀(es:List vE) (c:vE),c∈es→ ∀o,o∈kK [c]→o∈kK es:=by
  intro es
  induction es with
  |nil=>intro c hc;cases hc
  |cons x r ih=>
   intro c hc o ho;rcases fX.1 hc with rfl|hc
   ·cases c with
    |ptr b=>simp[kK] at ho
    |mk a cs=>
     simp only[kK,qm] at ho;simp only[kK];exact lX _ ho
   ·have:=ih c hc o ho
    cases x with
    |ptr b=>exact this
    |mk a cs=>simp only[kK];exact rZ _ this
 cases e with
 |v t es=>
  cases t with
  |true=>
   obtain⟨vs,h1,h2,h3⟩:=h;refine⟨vs,h1,by rw[u5];exact h2,fun k c hk=> ?_⟩;rw[zK] at hk
   cases h4:es[k]? with
   |none=>rw[h4] at hk;cases hk
   |some c0=>
    rw[h4] at hk;simp only[pL,aY] at hk;obtain⟨u,hu,hok⟩:=h3 k c0 h4;exact⟨u,hu,by rw[←hk];exact comp c0 u (fun o ho=>hc o (dcomp es c0 (gP h4) o ho)) hok⟩
  |false=>
   obtain⟨c,rfl,hok⟩:=h;refine⟨Ak (Nr ρ) c,?_,comp c v hc hok⟩
   cases c<;>rfl
 |ep ds cells=>
  obtain⟨h1,ad,h2,hr,h3⟩:=h;obtain⟨g1,g2⟩:=aji hρ (φ:=φ) hz h1 hc;refine⟨g1,ad,h2,fun hne=>g2 _ (hr hne),fun j tc hj=> ?_⟩;obtain⟨u,h4,h5⟩:=h3 j tc hj;exact⟨u,h4,h5.sP g2⟩
 |er o path i f=>
  obtain⟨b,h1,h2,ad,n,c,h3,h4⟩:=h;obtain⟨m,h5⟩:=hc o (by simp[Dy]) (hz o ⟨b,h1⟩);show dK (zp ob ρ) w (φ.ren ρ) (.er (Pp ρ o) path i f) v;rw[Nv h5];exact⟨b,Nx hρ h5 h1,h2,ad,n,c,by rw[agP hρ h5];exact h3,h4⟩
 |_=>exact h
end
theorem bB.canon (h:bB F A w0 φ st tm w): ∃φ',bB F A w0 φ' (canon st) tm w∧φ'.β=φ.β:=by
 obtain⟨n,hρ,_,hall⟩:=KT (aof st) 1 [] (cV _) ⟨fun _ _ h=>(by cases h),List.Pairwise.nil⟩;unfold T.canon aqe;generalize number (aof st) 1 []=ρ at hρ hall;have hz:=h.sep.nz
 have dom: ∀m,aT (zp st.ob ρ) m→ ∃o,az o ρ=some m∧aT st.ob o:=fun m ⟨b,hm⟩=>by
  obtain⟨o,h1,h2⟩:=Nw hm;exact⟨o,Jm (n:=n) hρ.apart h1,b,h2⟩
 have domS: ∀m k,aT (zp st.ob ρ) m→(φ.ren ρ).S m k→ ∃o,az o ρ=some m∧aT st.ob o∧φ.S o k:=fun m k hm hk=>by
  obtain⟨o,h1,h2⟩:=dom m hm;rw[ajg hρ h1] at hk;exact⟨o,h1,h2,hk⟩
 refine⟨φ.ren ρ,⟨fun i=> ?_,fun b cs hb j e he=> ?_,fun m b hm=> ?_,?_,h.frm⟩,rfl⟩
 ·show dK (zp st.ob ρ) w (φ.ren ρ) (match az i (mapA (Dx (Nr ρ) (ai7 ρ)) st.tm) with|some e=>e|none=> .dead) (tm.getD i undef)
  rw[xJ]
  cases hi:az i st.tm with
  |none=>trivial
  |some e=>
   have:=h.tmp i;unfold TS.get at this;rw[hi] at this;exact this.ren hρ hz fun o ho ho0=>hall o (lX _ (List.mem_flatMap.2 ⟨_,lH hi,ho⟩)) ho0
 ·simp only[xJ] at hb
  cases h1:az b st.bx with
  |none=>rw[h1] at hb;cases hb
  |some cs0=>
   rw[h1] at hb;simp only[pL,aY] at hb;subst hb;rw[lW] at he
   cases h2:cs0[j]? with
   |none=>rw[h2] at he;cases he
   |some e0=>
    rw[h2] at he;simp only[pL,aY] at he;subst he;obtain⟨v,h3,h5,h4⟩:=h.box b cs0 h1 j e0 h2;exact⟨v,h3,h5,h4.ren hρ hz fun o ho ho0=>hall o (rZ _ (List.mem_flatMap.2 ⟨_,lH h1,List.mem_flatMap.2 ⟨e0,gP h2,ho⟩⟩)) ho0⟩
 ·obtain⟨o,h1,h2⟩:=Nw hm
  have h1:=Jm (n:=n) hρ.apart h1;unfold rS;rw[ajg hρ h1,agP hρ h1];exact h.obj o b h2
 ·have hs:=h.sep.boxes (jE (Nr ρ))
  exact {
   arg:=by rw[ajh hρ];exact h.sep.arg
   nz:=fun m hm e=>by
    obtain⟨o,h1,_⟩:=dom m hm;have:=(hρ.rng o m (lH h1)).1;omega
   apart:=fun m m' k h1 h2 h3 h4=>by
    obtain⟨o,a1,a2,a3⟩:=domS m k h1 h3;obtain⟨o',b1,b2,b3⟩:=domS m' k h2 h4;have:=h.sep.apart o o' k a2 b2 a3 b3;subst this;rw[a1] at b1;cases b1;rfl
   read:=fun m k h1 h2=>by obtain⟨o,a1,a2,a3⟩:=domS m k h1 h2;exact h.sep.read o k a2 a3
   fresh:=fun m k h1 h2=>by obtain⟨o,a1,a2,a3⟩:=domS m k h1 h2;exact h.sep.fresh o k a2 a3
   ro:=hs.ro
   qL:=hs.qL
   box:=fun b cs hb hw=>by
    obtain⟨a1,a2,a3,a4⟩:=hs.box b cs hb hw;refine⟨a1,fun m hm hk=> ?_,a3,a4⟩;obtain⟨o,c1,c2,c3⟩:=domS m _ hm hk;exact a2 o c2 c3
   spot:=hs.spot
   soft:=hs.soft}
theorem bB.head (h:bB F A w0 φ st tm w) (l:List Nat):Rel F A w0 (adp l st) tm w:=by
 obtain⟨φ1,h1,_⟩:=(h.aqg l).ado;obtain⟨φ2,h2,_⟩:=h1.canon;exact⟨φ2,h2⟩
end Go.T
