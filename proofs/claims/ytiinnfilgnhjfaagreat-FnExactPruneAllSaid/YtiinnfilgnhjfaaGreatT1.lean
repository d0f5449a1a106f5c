/- Definitions of the abstract runs: an interpreter of the model's code over closed trees (no program, no proof). Traces: a run whose questions are answered from a list; what it asked is told. A trace that ends tells a run that holds. What a tree is at a value in a world. The state of an abstract run and the machine's. The state and the machine: temporaries are set; objects come and go. The state and the machine: cuts, freezing, writing in place. The state and the machine: boxes; what is forgotten. The state and the machine: at a loop's head. The state and the machine: objects by other numbers. -/
import Derived.Below
import Derived.WalkKit
import Derived.Laws.AppendOwn
import Derived.DataElems
namespace Go.T
inductive TC where
 |sc (v:Value)
 |sub (s:Nat) (rows:List (List TC))
 |any
 deriving Inhabited
inductive Mode where
 |snap|top|deep
 deriving DecidableEq,Inhabited
inductive CE where
 |sc (v:Value)
 |nil (z:Nat)
 |ref (o:Nat) (cut:Option (Int×Int))
 |snap (ds:List Nat) (loc:Option (Nat×Int×Nat)) (z:Nat) (rows:List (List TC))
 |gone
 deriving Inhabited
inductive qK where
 |mk (agg:Bool) (cs:List CE)
 |ptr (b:Nat)
inductive TE where
 |dead
 |v (tup:Bool) (es:List qK)
 |bp (b off:Nat)
 |ep (ds:List Nat) (cells:List TC)
 |er (o:Nat) (path:Option (Int×Nat)) (i:Int) (f:Nat)
 |fn (f:FuncId) (caps:List Nat)
 |kb (b:Bool)
 deriving Inhabited
structure OB where
 deep:Bool
 z:Nat
 rows:List (List TC)
structure TS where
 tm:List (Nat×TE)
 bx:List (Nat×List CE)
 ob:List (Nat×OB)
inductive TI where
 |int (k:IntKind)
 |bool
 |str
 |slice (e:TypeId)
 |ptr (e:TypeId)
 |struct (fs:List (Nat×TypeId))
 |other
 deriving Inhabited
structure kJ where
 ti:TI
 size:Nat
 bytes:Nat
 flat:Bool
 zero:List TC
 eqs:List Nat:=[]
 deriving Inhabited
inductive TV where
 |c (c:TC)
 |ag (cs:List TC)
 |tu (vs:List (Nat×List TC))
 |bx (cs:List TC)
 |fn (f:FuncId) (caps:List (List TC))
inductive bN where
 |borrow|inout (ms:List Mode)|consume
 deriving DecidableEq
def bN.mc:bN→Nat→Mode
 | .borrow,_=> .snap
 | .inout ms,j=>match ms[j]? with|some .snap=> .snap|_=> .deep
 | .consume,_=> .deep
structure XP where
 ps:List bN
 shares:Bool
 res:List (List Mode)
inductive Ej where
 |nil
 |op (i:Nat) (fl:List Nat) (r:Ej)
 |alt (a b:Ej)
structure mz where
 P:Program
 tt:TypeId→kJ
 sig:FuncId→XP
 lr:FuncId→Nat→List Nat
 lb:FuncId→Nat→List Nat
 MP:FuncId→Nat→Option Ej
 ext:FuncId→Option (List TV→Option (TV×List TV))
inductive TX where
 |norm|ex (id:Nat)|ret
 deriving DecidableEq
inductive Ev (R:Type) where
 |fail
 |ret (r:R)
 |test (b:Bool) (k:Bool→Ev R)
 |row (rows:List (List TC)) (i:Int) (k:List TC→Ev R)
 |byte (s:ByteArray) (i:Int) (k:Int→Ev R)
 |bytes (rows:List (List TC)) (k:List Int→Ev R)
 |call (f:FuncId) (vs:List TV) (k:TV→List TV→Ev R)
 |loop (f:FuncId) (i:Nat) (c:Code) (st:TS) (k:TX→TS→Ev R)
 |both (a b:Ev R)
@[irreducible] def bI (a b:Int):Bool:=decide (a<b)
@[irreducible] def oI (a b:Int):Bool:=decide (a≤b)
@[irreducible] def dF (a b:Int):Bool:=a==b
@[irreducible] def XQ (a b:Bool):Bool:=a==b
@[irreducible] def Tf (a b:ByteArray):Bool:=a.toList==b.toList
@[irreducible] def OZ (a b:ByteArray):Bool:=Op.bytesLess a.toList b.toList
@[irreducible] def fits (n b:Nat):Bool:=decide (n*b≤140737488355328∧n≤140737488355328)
@[irreducible] def bS (rows:List (List TC)):Bool:=rows.all fun r=>r.all fun c=>match c with| .sc _=>true|_=>false
@[irreducible] def eU (l h n:Int):Bool:=decide (0≤l∧l≤h∧h≤n)
@[irreducible] def rowAt (rows:List (List TC)) (i:Int):Option (List TC):=if 0≤i then rows[i.toNat]? else none
@[irreducible] def rZ (s:ByteArray) (i:Int):Option Int:=if 0≤i then(s[i.toNat]?).map fun b=>(b.toNat:Int) else none
@[irreducible] def aA (rows:List (List TC)) (l h:Int):List (List TC):=(rows.take h.toNat).drop l.toNat
@[irreducible] def iE (z:Nat) (rows:List (List TC)) (l h:Int):List (List TC):=rows.take l.toNat++List.replicate (h.toNat-l.toNat) (List.replicate z .any)++rows.drop h.toNat
@[irreducible] def oL (rows rows':List (List TC)):List (List TC):=rows'.take rows.length++rows.drop rows'.length
@[irreducible] def setRow (rows:List (List TC)) (i:Int) (f:Nat) (cs:List TC):List (List TC):=
  match rows[i.toNat]? with
  |some r=>rows.set i.toNat (r.take f++cs++r.drop (f+cs.length))
  |none=>rows
@[irreducible] def Kr (a b:Int):Int:=if b<a then b else a
@[irreducible] def pZ (n:Int):Nat:=n.toNat
@[irreducible] def Gj (a b:Int):Int:=a+b
@[irreducible] def UT (k:IntKind) (a b:Int):Int:=k.wrap (a+b)
@[irreducible] def MS (k:IntKind) (a b:Int):Int:=k.wrap (a-b)
@[irreducible] def UU (k:IntKind) (a b:Int):Int:=k.wrap (a*b)
@[irreducible] def gf (k:IntKind) (a b:Int):Int:=k.wrap (a.tdiv b)
@[irreducible] def x8 (a b:Int):Int:=a.tmod b
@[irreducible] def abB (k:IntKind) (a b:Int):Int:=k.wrap (a*2 ^ (min b.toNat k.bits))
@[irreducible] def acW (k:IntKind) (a b:Int):Int:=a.fdiv (2 ^ (min b.toNat k.bits))
@[irreducible] def UW (op:BinOp) (k:IntKind) (a b:Int):Int:=Go.bits op k a b
@[irreducible] def tT (k:IntKind) (n:Int):Int:=k.wrap n
@[irreducible] def O0 (a b:ByteArray):ByteArray:=a++b
@[irreducible] def acX (s:ByteArray) (l h:Int):ByteArray:=s.extract l.toNat h.toNat
def uy:List (List TC)→Option (List Int)
 |[]=>some []
 |[.sc (.int .u8 n)]::r=>(uy r).map fun ns=>n::ns
 |_=>none
@[irreducible] def ry (rows:List (List TC)):Option (List Int):=uy rows
@[irreducible] def CX (ns:List Int):ByteArray:=⟨(ns.map fun n:Int=>UInt8.ofNat n.toNat).toArray⟩
@[irreducible] def EO (s:ByteArray):List (List TC):=s.data.toList.map fun b=>[TC.sc (.int .u8 b.toNat)]
abbrev one (c:CE):TE:= .v false [.mk false [c]]
abbrev S (v:Value):TE:=one (.sc v)
def mh (o:Nat):List Nat→Bool
 |[]=>false
 |a::r=>match Nat.beq a o with|true=>true|false=>mh o r
def Tg (o:Nat):List Nat→List Nat
 |[]=>[]
 |a::r=>match Nat.beq a o with|true=>Tg o r|false=>a::Tg o r
def tU:List Nat→List Nat→Bool
 |[],_=>false
 |a::r,l=>match mh a l with|true=>true|false=>tU r l
section
variable {α : Type}
def aq (i:Nat):List (Nat×α)→Option α
 |[]=>none
 |(j,e)::r=>match Nat.beq j i with|true=>some e|false=>aq i r
def nW (i:Nat) (e:α):List (Nat×α)→List (Nat×α)
 |[]=>[(i,e)]
 |(j,e')::r=>match Nat.beq j i with
  |true=>(i,e)::r
  |false=>match Nat.ble i j with
   |true=>(i,e)::(j,e')::r
   |false=>(j,e')::nW i e r
def p9 (i:Nat):List (Nat×α)→List (Nat×α)
 |[]=>[]
 |(j,e)::r=>match Nat.beq j i with|true=>p9 i r|false=>(j,e)::p9 i r
def mapA (f:α→α):List (Nat×α)→List (Nat×α)
 |[]=>[]
 |(j,e)::r=>(j,f e)::mapA f r
end
def TS.get (st:TS) (i:Nat):TE:=match aq i st.tm with|some e=>e|none=> .dead
def TS.set (st:TS) (i:Nat) (e:TE):TS:=⟨nW i e st.tm,st.bx,st.ob⟩
def TS.HW (st:TS) (i:Nat) (cs:List CE):TS:=⟨st.tm,nW i cs st.bx,st.ob⟩
def TS.abC (st:TS) (i:Nat) (o:OB):TS:=⟨st.tm,st.bx,nW i o st.ob⟩
def kY (f:CE→CE):List qK→List qK
 |[]=>[]
 | .mk a cs::r=> .mk a (cs.map f)::kY f r
 | .ptr b::r=> .ptr b::kY f r
def x9 (f:CE→CE) (g:TE→TE):TE→TE
 | .v tup es=> .v tup (kY f es)
 |e=>g e
def vO (f:CE→CE) (g:TE→TE) (h:List (Nat×OB)→List (Nat×OB)) (st:TS):TS:=
 ⟨mapA (x9 f g) st.tm,mapA (List.map f) st.bx,h st.ob⟩
def fQ:CE→List Nat
 | .ref o _=>[o]
 | .snap d _ _ _=>d
 |_=>[]
def iF:List qK→List Nat
 |[]=>[]
 | .mk _ cs::r=>cs.flatMap fQ++iF r
 | .ptr _::r=>iF r
def ya:TE→List Nat
 | .v _ es=>iF es
 | .ep d _=>d
 | .er o _ _ _=>[o]
 |_=>[]
def Q1 (o:Nat) (e:CE):CE:=match mh o (fQ e) with|true=> .gone|false=>e
def VZ (o:Nat):TE→TE
 | .ep d cells=>match mh o d with|true=> .dead|false=> .ep d cells
 | .er p path i f=>match Nat.beq p o with|true=> .dead|false=> .er p path i f
 |e=>e
def ni (o:Nat) (st:TS):TS:=vO (Q1 o) (VZ o) (p9 o) st
def UX (o:Nat) (e:CE):CE:=match e with
 | .snap d l z rows=>match mh o d with|true=> .gone|false=> .snap d l z rows
 |e=>e
def RN (o:Nat):TE→TE
 | .ep d cells=>match mh o d with|true=> .dead|false=> .ep d cells
 | .er p (some q) i f=>match Nat.beq p o with|true=> .dead|false=> .er p (some q) i f
 |e=>e
def tj (o:Nat) (b:OB) (st:TS):TS:=vO (UX o) (RN o) (nW o b) st
def Th (cut:Option (Int×Int)) (rows:List (List TC)):List (List TC):=match cut with
 |none=>rows
 |some (l,h)=>aA rows l h
def abD (o:Nat) (l:Option (Nat×Int×Nat)):Option (Nat×Int×Nat):=match l with
 |some (p,i,f)=>match Nat.beq p o with|true=>none|false=>some (p,i,f)
 |none=>none
def MB (o:Nat) (b:OB) (e:CE):CE:=match e with
 | .ref p cut=>match Nat.beq p o with|true=> .snap [] none b.z (Th cut b.rows)|false=> .ref p cut
 | .snap d l z rows=> .snap (Tg o d) (abD o l) z rows
 |e=>e
def RO (o:Nat):TE→TE
 | .ep d cells=> .ep (Tg o d) cells
 | .er p path i f=>match Nat.beq p o with|true=> .dead|false=> .er p path i f
 |e=>e
def vP (st:TS) (o:Nat):TS:=match aq o st.ob with
 |some b=>vO (MB o b) (RO o) (p9 o) st
 |none=>st
def CY (o:Nat) (b:OB) (st:TS):TS:=(ni o st).abC o b
def kg:List (Nat×OB)→List (Nat×OB)→List (Nat×OB)
 |[],ob=>ob
 |(i,b)::r,ob=>nW i b (kg r ob)
def rY {α:Type}:List (Nat×α)→List Nat
 |[]=>[]
 |(o,_)::r=>o::rY r
def Ek (l:List Nat) (e:CE):CE:=match e with
 | .snap d l' z rows=>match tU d l with|true=> .gone|false=> .snap d l' z rows
 |e=>e
def zY (l:List Nat):TE→TE
 | .ep d cells=>match tU d l with|true=> .dead|false=> .ep d cells
 | .er p (some q) i f=>match mh p l with|true=> .dead|false=> .er p (some q) i f
 |e=>e
def tr (W:List (Nat×OB)) (st:TS):TS:=match W with
 |[]=>st
 |W=>vO (Ek (rY W)) (zY (rY W)) (kg W) st
section
variable {Z : Type}
def fL {α:Type} (f:α→(α→Z)→Z):List α→(List α→Z)→Z
 |[],K=>K []
 |a::r,K=>f a fun a'=>fL f r fun r'=>K (a'::r')
def fB (b:Bool) (K:Bool→Z):Z:=match b with|true=>K true|false=>K false
def fN (n:Nat) (K:Nat→Z):Z:=K n
def abk (p:Option (Int×Nat)) (K:Option (Int×Nat)→Z):Z:=match p with|none=>K none|some (a,b)=>K (some (a,b))
def acY (p:Option (Int×Int)) (K:Option (Int×Int)→Z):Z:=match p with|none=>K none|some (a,b)=>K (some (a,b))
def fAt (p:Option (Nat×Int×Nat)) (K:Option (Nat×Int×Nat)→Z):Z:=match p with|none=>K none|some (a,b,c)=>K (some (a,b,c))
def fV (v:Value) (K:Value→Z):Z:=match v with
 | .int k n=>K (.int k n)
 | .bool b=>K (.bool b)
 | .string s=>K (.string s)
 |v=>K v
def fTC (c:TC) (K:TC→Z):Z:=match c with| .sc v=>fV v fun v=>K (.sc v)| .sub z rows=>K (.sub z rows)| .any=>K .any
def fCE (e:CE) (K:CE→Z):Z:=match e with
 | .sc v=>fV v fun v=>K (.sc v)
 | .nil z=>K (.nil z)
 | .ref o cut=>acY cut fun cut=>K (.ref o cut)
 | .snap d l z rows=>fL fN d fun d=>fAt l fun l=>K (.snap d l z rows)
 | .gone=>K .gone
def XR (c:qK) (K:qK→Z):Z:=match c with
 | .mk a cs=>fB a fun a=>fL fCE cs fun cs=>K (.mk a cs)
 | .ptr b=>K (.ptr b)
def fTE (e:TE) (K:TE→Z):Z:=match e with
 | .dead=>K .dead
 | .v tup es=>fB tup fun tup=>fL XR es fun es=>K (.v tup es)
 | .bp b off=>K (.bp b off)
 | .ep d cells=>fL fN d fun d=>fL fTC cells fun cells=>K (.ep d cells)
 | .er r path i f=>abk path fun path=>K (.er r path i f)
 | .fn f caps=>K (.fn f caps)
 | .kb b=>fB b fun b=>K (.kb b)
def fOB (b:OB) (K:OB→Z):Z:=match b with|⟨d,z,rows⟩=>fB d fun d=>K ⟨d,z,rows⟩
def XT (cs:List TC) (K:List TC→Z):Z:=fL fTC cs K
def fTV (v:TV) (K:TV→Z):Z:=match v with
 | .c c=>fTC c fun c=>K (.c c)
 | .ag cs=>XT cs fun cs=>K (.ag cs)
 | .tu vs=>fL (fun p K=>match p with|(i,cs)=>XT cs fun cs=>K (i,cs)) vs fun vs=>K (.tu vs)
 | .bx cs=>XT cs fun cs=>K (.bx cs)
 | .fn f caps=>K (.fn f caps)
def XO (st:TS) (K:TS→Z):Z:=
 fL (fun p K=>match p with|(i,e)=>fTE e fun e=>K (i,e)) st.tm fun tm=>
 fL (fun p K=>match p with|(i,cs)=>fL fCE cs fun cs=>K (i,cs)) st.bx fun bx=>
 fL (fun p K=>match p with|(i,b)=>fOB b fun b=>K (i,b)) st.ob fun ob=>K ⟨tm,bx,ob⟩
end
def oM (st:TS):CE→Option (Nat×List (List TC))
 | .nil z=>some (z,[])
 | .ref o cut=>match aq o st.ob with|some ⟨_,z,rows⟩=>some (z,Th cut rows)|none=>none
 | .snap _ _ z rows=>some (z,rows)
 |_=>none
def CZ (st:TS) (e:CE):Option TC:=match e with
 | .sc v=>some (.sc v)
 |e=>match oM st e with|some (z,rows)=>some (.sub z rows)|none=>none
def tY (st:TS):List CE→Option (List TC)
 |[]=>some []
 |e::r=>match CZ st e,tY st r with
  |some c,some cs=>some (c::cs)
  |_,_=>none
def RP (c:TC):CE:=match c with| .sc v=> .sc v| .sub z _=> .nil z| .any=> .gone
section
variable (C : mz)
def RQ (ty:TypeId):Value→TE
 | .slice none 0 0=>match(C.tt ty).ti with
   | .slice e=>one (.nil (C.tt e).size)
   |_=> .dead
 | .int k n=>S (.int k n)
 | .bool b=> .kb b
 | .string s=>S (.string s)
 |_=> .dead
def rV (st:TS) (ty:TypeId):Operand→TE
 | .tmp i=>st.get i
 | .const v=>RQ C ty v
 | .func f=> .fn f []
 | .global _=> .dead
def XU:TE→Option Value
 | .v false [.mk false [.sc v]]=>some v
 | .kb b=>some (.bool b)
 |_=>none
def asInt:TE→Option Int
 | .v false [.mk false [.sc (.int _ n)]]=>some n
 |_=>none
def vL:TE→Option CE
 | .v false [.mk false [e]]=>some e
 | .kb b=>some (.sc (.bool b))
 |_=>none
def El:TE→Option (List CE)
 | .v false [.mk _ cs]=>some cs
 | .kb b=>some [.sc (.bool b)]
 |_=>none
def XV (op:BinOp):Value→Value→Option Value
 | .int k a,.int k' b=>
   match op with
   | .shl=>if 0≤b then some (.int k (abB k a b)) else none
   | .shr=>if 0≤b then some (.int k (acW k a b)) else none
   |_=>if k=k' then
    match op with
    | .add=>some (.int k (UT k a b))
    | .sub=>some (.int k (MS k a b))
    | .mul=>some (.int k (UU k a b))
    | .and=>some (.int k (UW .and k a b))
    | .or=>some (.int k (UW .or k a b))
    | .xor=>some (.int k (UW .xor k a b))
    | .eql=>some (.bool (dF a b))
    | .neq=>some (.bool (!dF a b))
    | .lss=>some (.bool (bI a b))
    | .leq=>some (.bool (oI a b))
    | .gtr=>some (.bool (bI b a))
    | .geq=>some (.bool (oI b a))
    |_=>none
    else none
 | .string a,.string b=>match op with
   | .eql=>some (.bool (Tf a b))
   | .neq=>some (.bool (!Tf a b))
   | .lss=>some (.bool (OZ a b))
   | .leq=>some (.bool (OZ a b||Tf a b))
   | .gtr=>some (.bool (!(OZ a b||Tf a b)))
   | .geq=>some (.bool (!OZ a b))
   |_=>none
 |_,_=>none
def vQ:List Nat→List CE→List CE→Option Bool
 |[],[],[]=>some true
 |1::ks,.sc (.int k a)::r,.sc (.int k' b)::r'=>if k=k' then(match vQ ks r r' with|some q=>some (dF a b&&q)|none=>none) else none
 |2::ks,.sc (.bool a)::r,.sc (.bool b)::r'=>match vQ ks r r' with|some q=>some (XQ a b&&q)|none=>none
 |3::ks,.sc (.string a)::r,.sc (.string b)::r'=>match vQ ks r r' with|some q=>some (Tf a b&&q)|none=>none
 |_,_,_=>none
def Gk (t:TypeId):Bool:=match(C.tt t).ti with| .struct _=>true|_=>false
def qa (t:TypeId) (f:Nat):Option (Nat×TypeId):=match(C.tt t).ti with| .struct fs=>fs[f]?|_=>none
def ZY (t:TypeId) (f:Nat):TypeId:=match qa C t f with|some (_,ft)=>ft|none=>0
def zZ (t:TypeId):Option TypeId:=match(C.tt t).ti with| .slice e=>some e|_=>none
def abF (ds:List Nat) (loc:Option (Nat×Int×Nat)) (j:Nat) (c:TC):CE:=
 match c with
 | .sc v=> .sc v
 | .sub z rows=> .snap ds (match loc with|some (o,i,f)=>some (o,i,f+j)|none=>none) z rows
 | .any=> .gone
def z5 (ds:List Nat) (loc:Option (Nat×Int×Nat)):Nat→List TC→List CE
 |_,[]=>[]
 |j,c::r=>abF ds loc j c::z5 ds loc (j+1) r
def known (i:kJ):Bool:=match i.ti with| .other=>false|_=>true
def yc (i:kJ):Bool:=match i.ti with| .other=>false| .ptr _=>false|_=>true
def XW (t:TypeId) (xs:List CE):TE:= .v false [.mk (Gk C t) xs]
variable {R : Type}
def EP (t:TypeId) (xs:List CE) (K:TE→Ev R):Ev R:=match known (C.tt t),Nat.beq xs.length (C.tt t).size with
 |true,true=>K (XW C t xs)
 |_,_=> .fail
def RS (e:TypeId) (z:Nat):Bool:=match known (C.tt e) with|true=>Nat.beq z (C.tt e).size|false=>false
def V0 (st:TS) (o:Nat) (path:Option (Int×Nat)) (i:Int) (f:Nat) (K:List TC→Ev R):Ev R:=
 match aq o st.ob with
 |some ⟨_,_,rows⟩=>match path with
  |none=> .row rows i fun row=>K (row.drop f)
  |some (i0,f0)=> .row rows i0 fun row0=>match row0[f0]? with
   |some (.sub _ rows1)=> .row rows1 i fun row=>K (row.drop f)
   |_=> .fail
 |none=> .fail
def ER (st:TS) (t:TypeId) (e:TE) (K:TE→Ev R):Ev R:=
 match e with
 | .bp b off=>match aq b st.bx with
   |some cs=>EP C t ((cs.drop off).take (C.tt t).size) K
   |none=> .fail
 | .ep ds cells=>EP C t (z5 ds none 0 (cells.take (C.tt t).size)) K
 | .er o path i f=>V0 st o path i f fun cells=>
     EP C t (z5 [o] (match path with|none=>some (o,i,f)|some _=>none) 0 (cells.take (C.tt t).size)) K
 |_=> .fail
def z6 (t:TypeId):List (Nat×TE)→List CE→Option (List CE)
 |[],cs=>some cs
 |(f,e)::r,cs=>match qa C t f,El e with
  |some (off,ft),some c=>match Nat.beq c.length (C.tt ft).size with
   |true=>z6 t r (cs.take off++c++cs.drop (off+c.length))
   |false=>none
  |_,_=>none
def MC (st:TS):List Operand→Option (List Nat)
 |[]=>some []
 |x::r=>match rV C st 0 x,MC st r with
  | .bp b 0,some bs=>some (b::bs)
  |_,_=>none
def bound (st:TS) (d:Int):Option Operand→Option Int
 |none=>some d
 |some a=>asInt (rV C st 0 a)
def plain:TE→TE
 | .kb b=>S (.bool b)
 |e=>e
def XX (e:CE) (l h:Int):CE:=match e with
 | .nil z=> .nil z
 | .ref o none=> .ref o (some (l,h))
 | .ref o (some (a,_))=> .ref o (some (Gj a l,Gj a h))
 | .snap ds _ z rows=> .snap ds none z (aA rows l h)
 |e=>e
def XY (e:CE) (n:Int) (cells:List TC):TE:=match e with
 | .ref o none=> .er o none n 0
 | .ref o (some _)=> .ep [o] cells
 | .snap _ (some (o,i,f)) _ _=> .er o (some (i,f)) n 0
 | .snap ds none _ _=> .ep ds cells
 |_=> .dead
def MD (t:TypeId):Bool:=match(C.tt t).ti with| .bool=>true|_=>false
def abG (bt:Bool) (op:BinOp) (a b:Value) (K:TE→Ev R):Ev R:=match op,a,b with
 | .eql,.bool p,.bool q=>match bt with|true=>K (S (.bool (XQ p q)))|false=> .fail
 | .neq,.bool p,.bool q=>match bt with|true=>K (S (.bool (!XQ p q)))|false=> .fail
 | .rem,.int k p,.int k' q=>if k=k' then .test (dF q 0) fun z=>match z with
     |false=>K (S (.int k (x8 p q)))
     |true=> .fail
   else .fail
 | .quo,.int k p,.int k' q=>if k=k' then .test (dF q 0) fun z=>match z with
     |false=>K (S (.int k (gf k p q)))
     |true=> .fail
   else .fail
 | .add,.string p,.string q=> .test (fits (p.size+q.size) 1) fun z=>match z with
   |true=>K (S (.string (O0 p q)))
   |false=> .fail
 |_,_,_=>match XV op a b with
  |some v=>K (S v)
  |none=> .fail
def abH (st:TS) (t:TypeId) (e:CE) (K:Value→Ev R):Ev R:=match(C.tt t).ti,e with
 | .str,.sc (.string s)=>K (.int .i64 s.size)
 | .slice _,e=>match oM st e with
   |some (_,rows)=>K (.int .i64 rows.length)
   |none=> .fail
 |_,_=> .fail
def ic (st:TS) (o:Oper) (K:TE→Ev R):Ev R:=
 match o.op with
 | .move x=>K (rV C st o.type x)
 | .assign x=>K (rV C st o.type x)
 | .pick c a b=>match rV C st o.type c with
   | .kb p=>match p with
     |true=>K (rV C st o.type a)
     |false=>K (rV C st o.type b)
   |_=> .fail
 | .load t a=>ER C st t (rV C st 0 a) K
 | .nilCheck x=>match rV C st 0 x with
   | .bp b off=>K (.bp b off)
   | .ep d c=>K (.ep d c)
   | .er r p i f=>K (.er r p i f)
   |_=> .fail
 | .binOp op t x y _=>match plain (rV C st t x),plain (rV C st t y) with
   | .v false [.mk false [.sc a]],.v false [.mk false [.sc b]]=>abG (MD C t) op a b K
   | .v false [.mk true xs],.v false [.mk true ys]=>match known (C.tt t),(C.tt t).eqs with
     |false,_=> .fail
     |true,[]=> .fail
     |true,k::ks=>match op,vQ (k::ks) xs ys with
      | .eql,some b=>K (S (.bool b))
      | .neq,some b=>K (S (.bool (!b)))
      |_,_=> .fail
   |_,_=> .fail
 | .unOp op _ x=>match op,rV C st o.type x with
   | .not,.kb b=>match b with|true=>K (.kb false)|false=>K (.kb true)
   | .not,.v false [.mk false [.sc (.bool b)]]=>K (S (.bool (!b)))
   | .neg,.v false [.mk false [.sc (.int k n)]]=>K (S (.int k (MS k 0 n)))
   |_,_=> .fail
 | .convert src dst x=>match(C.tt dst).ti,(C.tt src).ti,rV C st src x with
   | .int k,.int _,.v false [.mk false [.sc (.int _ n)]]=>K (S (.int k (tT k n)))
   | .str,.str,.v false [.mk false [.sc (.string s)]]=>K (S (.string s))
   | .str,.slice et,.v false [.mk false [e]]=>match(C.tt et).ti,oM st e with
     | .int .u8,some (_,rows)=> .bytes rows fun ns=>K (S (.string (CX ns)))
     |_,_=> .fail
   |_,_,_=> .fail
 | .fieldAddr s x f=>match qa C s f,rV C st 0 x with
   |some (off,_),.bp b o=>K (.bp b (o+off))
   |some (off,_),.ep d cells=>K (.ep d (cells.drop off))
   |some (off,_),.er r p i g=>K (.er r p i (g+off))
   |_,_=> .fail
 | .field t x f=>match qa C t f,rV C st t x with
   |some (off,ft),.v false [.mk true cs]=>EP C ft ((cs.drop off).take (C.tt ft).size) K
   |_,_=> .fail
 | .indexAddr t x i=>match zZ C t,vL (rV C st t x),asInt (rV C st 0 i) with
   |some et,some e,some n=>match oM st e with
    |some (z,rows)=>match RS C et z with
     |true=> .row rows n fun cells=>K (XY e n cells)
     |false=> .fail
    |none=> .fail
   |_,_,_=> .fail
 | .index t x i=>match(C.tt t).ti,XU (rV C st t x),asInt (rV C st 0 i) with
   | .str,some (.string s),some n=> .byte s n fun b=>K (S (.int .u8 b))
   |_,_,_=> .fail
 | .slice t x lo hi mx=>match mx,(C.tt t).ti,vL (rV C st t x) with
   |none,.str,some (.sc (.string s))=>match bound C st 0 lo,bound C st s.size hi with
    |some l,some h=> .test (eU l h s.size) fun z=>match z with
     |true=>K (S (.string (acX s l h)))
     |false=> .fail
    |_,_=> .fail
   |none,.slice et,some e=>match oM st e with
    |some (z,rows)=>match RS C et z,bound C st 0 lo,bound C st rows.length hi with
     |true,some l,some h=> .test (eU l h rows.length) fun b=>match b with
      |true=>K (one (XX e l h))
      |false=> .fail
     |_,_,_=> .fail
    |none=> .fail
   |_,_,_=> .fail
 | .extract x i=>match rV C st 0 x with
   | .v true es=>match es[i]? with
     |some (.mk a cs)=>K (.v false [.mk a cs])
     |some (.ptr b)=>K (.bp b 0)
     |none=> .fail
   |_=> .fail
 | .build t ps=>match Gk C t,z6 C t (ps.toList.map fun p=>(p.1,rV C st (ZY C t p.1) p.2)) ((C.tt t).zero.map RP) with
   |true,some cs=>K (.v false [.mk true cs])
   |_,_=> .fail
 | .makeFunc fn first caps=>match fn,first.toList,MC C st caps.toList with
   | .func f,[],some bs=>K (.fn f bs)
   |_,_,_=> .fail
 | .call {callee:= .builtin .len,args,argTypes}=>match args.toList,argTypes.toList with
   |[x],[t]=>match vL (rV C st t x) with
    |some e=>abH C st t e fun v=>K (S v)
    |none=> .fail
   |_,_=> .fail
 | .call {callee:= .builtin .min,args,argTypes}=>match args.toList,argTypes.toList with
   |[x,y],t::_=>match XU (rV C st t x),asInt (rV C st t y) with
    |some (.int k a),some b=>K (S (.int k (Kr a b)))
    |_,_=> .fail
   |_,_=> .fail
 |_=> .fail
def oN (e:CE) (st:TS):Option (TC×TS×Bool):=
 match e with
 | .sc v=>some (.sc v,st,true)
 | .nil z=>some (.sub z [],st,true)
 | .ref o cut=>match aq o st.ob with
   |some ⟨d,z,rows⟩=>some (.sub z (Th cut rows),ni o st,d)
   |none=>none
 | .snap [] _ z rows=>some (.sub z rows,st,false)
 |_=>none
def MT:List CE→TS→Option (List TC×TS×Bool)
 |[],st=>some ([],st,true)
 |e::r,st=>match oN e st with
  |some (c,st1,d1)=>match MT r st1 with
   |some (cs,st2,d2)=>some (c::cs,st2,d1&&d2)
   |none=>none
  |none=>none
def rowsOf (st:TS) (ty:TypeId):List (Nat×Operand)→Nat→Option (List (List TC)×TS×Bool)
 |[],_=>some ([],st,true)
 |(i,x)::r,n=>match Nat.beq i n,El (rV C st ty x) with
  |true,some cs=>match Nat.beq cs.length (C.tt ty).size,MT cs st with
   |true,some (cs',st1,d1)=>match rowsOf st1 ty r (n+1) with
    |some (rs,st2,d2)=>some (cs'::rs,st2,d1&&d2)
    |none=>none
   |_,_=>none
  |_,_=>none
def rW (d k j:Nat):Nat:=1000+400*d+20*k+j
def bid (b j:Nat):Nat:=1000000000+100*b+j
def yu (b:Nat):Bool:=match Nat.ble 200000 b with|true=>Nat.ble 300000 b|false=>true
def abl (b:Nat):qK→Bool
 | .ptr c=>Nat.beq c b
 | .mk _ _=>false
def MU (b:Nat):TE→Bool
 | .bp c _=>Nat.beq c b
 | .fn _ caps=>mh b caps
 | .v _ es=>es.any (abl b)
 |_=>false
def Q2 (b:Nat) (st:TS):TS:=⟨mapA (fun e=>match MU b e with|true=> .dead|false=>e) st.tm,p9 b st.bx,st.ob⟩
def HX (b:Nat) (cs:List CE) (st:TS):TS:=(Q2 b st).HW b cs
def setCells (f:Nat) (cs:List TC) (rows:List (List TC)) (i:Int):List (List TC):=setRow rows i f cs
def MV (o:Nat) (e:CE):CE:=match e with
 | .snap d (some (p,i,f)) z rows=>match Nat.beq p o with|true=> .snap [] none z rows|false=> .snap d (some (p,i,f)) z rows
 |e=>e
def abm (o:Nat):TE→TE
 | .er p (some q) i f=>match Nat.beq p o with|true=> .dead|false=> .er p (some q) i f
 |e=>e
def O1 (b:OB):OB:=⟨false,b.z,b.rows⟩
def yw (o:Nat) (st:TS):TS:=match aq o st.ob with
 |some b=>vO (MV o) (abm o) (nW o (O1 b)) st
 |none=>st
def UY (o:Nat):List CE→Bool
 |[]=>false
 | .snap _ (some (p,_,_)) _ _::r=>match Nat.beq p o with|true=>true|false=>UY o r
 |_::r=>UY o r
def Gl (o:Nat) (path:Option (Int×Nat)) (i:Int) (f:Nat) (cs:List CE) (st:TS) (K:TS→Ev R):Ev R:=
 match MT cs st with
 |some (ts,st1,d1)=>match aq o st1.ob with
  |some ⟨d,z,rows⟩=>match path with
   |none=> .row rows i fun row=>match Nat.ble (f+ts.length) row.length with
    |true=>K (tr [(o,⟨d&&d1,z,setRow rows i f ts⟩)] st1)
    |false=> .fail
   |some (i0,f0)=>match d,d1 with
    |true,true=> .row rows i0 fun row0=>match row0[f0]? with
     |some (.sub z1 rows1)=> .row rows1 i fun row=>match Nat.ble (f+ts.length) row.length with
      |true=>K (tr [(o,⟨true,z,setRow rows i0 f0 [.sub z1 (setRow rows1 i f ts)]⟩)] st1)
      |false=> .fail
     |_=> .fail
    |_,_=> .fail
  |none=> .fail
 |none=> .fail
def ME:List CE→Bool
 |[]=>false
 | .gone::_=>true
 |_::r=>ME r
def MW (b off:Nat) (cs:List CE) (st:TS):Option TS:=
 match aq b st.bx with
 |some old=>match yu b&& !ME cs,Nat.ble (off+cs.length) old.length with
  |true,true=>some (st.HW b (old.take off++cs++old.drop (off+cs.length)))
  |_,_=>none
 |none=>none
def yd (st:TS) (e:CE):Option (Option Nat×Nat×Bool×List (List TC)):=
 match e with
 | .nil z=>some (none,z,true,[])
 | .ref o cut=>match aq o st.ob with
   |some ⟨d,z,rows⟩=>some (some o,z,d,Th cut rows)
   |none=>none
 |_=>none
def oc (o:Option Nat) (st:TS):TS:=match o with|some o=>ni o st|none=>st
def vM (d:Nat) (b:OB) (st:TS):TS:=(CY (rW d 0 0) b st).set d (one (.ref (rW d 0 0) none))
def HY (e:TypeId) (z:Nat):Bool:=match yc (C.tt e) with|true=>Nat.beq z (C.tt e).size|false=>false
def Fg (g o':Nat) (b:OB) (l h:Int) (st:TS):TS:=CY g ⟨true,1,[]⟩ (tj o' ⟨b.deep,b.z,iE b.z b.rows l h⟩ st)
def UZ (d:Nat) (o:Option Nat) (dp:Bool) (cx:CE) (st:TS):Option (Nat×List (List TC)×TS):=match cx with
 | .ref o' (some (l,h))=>match dp,aq o' st.ob,(match o with|some o=>Nat.beq o o'||Nat.beq o (rW d 1 0)|none=>false)||Nat.beq o' (rW d 1 0) with
   |true,some ⟨true,z,rows⟩,false=>some (z,aA rows l h,ni (rW d 1 0) (oc o (Fg (rW d 1 0) o' ⟨true,z,rows⟩ l h st)))
   |_,_,_=>none
 |_=>none
def XZ (st:TS) (cx:CE):Option (Nat×List (List TC)):=match cx with
 | .ref o' cut=>match aq o' st.ob with
   |some ⟨false,z,rows⟩=>some (z,Th cut rows)
   |_=>none
 |_=>none
def V2 (st:TS) (d:Nat) (t t':TypeId) (s:TE) (x:TE) (K:TS→Ev R):Ev R:=
 match zZ C t,vL s,vL x with
 |some e,some cs,some cx=>match yd st cs,(C.tt t').ti with
  |some (o,z,dp,rows),.str=>match HY C e z,Nat.beq z 1,cx with
   |true,true,.sc (.string b)=> .test (fits (rows.length+b.size) (C.tt e).bytes) fun q=>match q with
    |true=>K (vM d ⟨dp,z,rows++EO b⟩ (oc o st))
    |false=> .fail
   |_,_,_=> .fail
  |some (o,z,dp,rows),.slice _=>match HY C e z with
   |false=> .fail
   |true=>match(C.tt e).flat with
     |true=>match oM st cx with
      |some (z',rows')=>match Nat.beq z z' with
       |true=> .test (bS rows'&&fits (rows.length+rows'.length) (C.tt e).bytes) fun q=>match q with
        |true=>K (vM d ⟨dp,z,rows++rows'⟩ (oc o st))
        |false=> .fail
       |false=> .fail
      |none=> .fail
     |false=>match UZ d o dp cx st with
      |some (z',rows',st1)=>match Nat.beq z z' with
        |true=> .test (fits (rows.length+rows'.length) (C.tt e).bytes) fun q=>match q with
         |true=>K (vM d ⟨dp,z,rows++rows'⟩ st1)
         |false=> .fail
        |false=> .fail
      |none=>match XZ st cx with
       |some (z',rows')=>match Nat.beq z z' with
        |true=> .test (fits (rows.length+rows'.length) (C.tt e).bytes) fun q=>match q with
         |true=>K (vM d ⟨false,z,rows++rows'⟩ (oc o st))
         |false=> .fail
        |false=> .fail
       |none=>match oN cx (oc o st) with
       |some (.sub z' rows',st1,d1)=>match Nat.beq z z' with
        |true=> .test (fits (rows.length+rows'.length) (C.tt e).bytes) fun q=>match q with
         |true=>K (vM d ⟨dp&&d1,z,rows++rows'⟩ st1)
         |false=> .fail
        |false=> .fail
       |_=> .fail
  |_,_=> .fail
 |_,_,_=> .fail
def abn (st:TS) (d:Option Nat) (t:TypeId) (s:TE) (x:TE) (K:TS→Ev R):Ev R:=
 match zZ C t,vL s,vL x with
 |some e,some (.ref o none),some cx=>match aq o st.ob,oM st cx,yc (C.tt e) with
  |some ⟨true,z,rows⟩,some (z',rows'),true=>match Nat.beq z z'&&Nat.beq z (C.tt e).size with
   |true=> .test (bS rows') fun q=>match q with
    |true=>match d with
     |some d=>K ((tj o ⟨true,z,oL rows rows'⟩ st).set d (one (.sc (.int .i64 (Int.ofNat (Nat.min rows'.length rows.length))))))
     |none=>K (tj o ⟨true,z,oL rows rows'⟩ st)
    |false=> .fail
   |false=> .fail
  |_,_,_=> .fail
 |_,_,_=> .fail
def RT (st:TS):List Nat→Option (List (List TC))
 |[]=>some []
 |b::r=>match aq b st.bx with
  |some cs=>match tY st cs,RT st r with
   |some c,some cs=>some (c::cs)
   |_,_=>none
  |none=>none
def X3 (st:TS) (e:TE) (K:TV→Ev R):Ev R:=
 match e with
 | .v false [.mk a cs]=>match tY st cs with
   |some ts=>match a,ts with
    |true,ts=>K (.ag ts)
    |false,[c]=>K (.c c)
    |_,_=> .fail
   |none=> .fail
 | .kb b=>K (.c (.sc (.bool b)))
 | .bp b off=>match aq b st.bx with
   |some cs=>match tY st (cs.drop off) with
    |some ts=>K (.bx ts)
    |none=> .fail
   |none=> .fail
 | .ep _ (c::cells)=>K (.bx (c::cells))
 | .er r p i f=>V0 st r p i f fun cells=>match cells with
   |[]=> .fail
   |c::cells=>K (.bx (c::cells))
 | .fn f caps=>match RT st caps with
   |some xs=>K (.fn f xs)
   |none=> .fail
 |_=> .fail
def Ti (st:TS):List TE→(List TV→Ev R)→Ev R
 |[],K=>K []
 |e::r,K=>X3 st e fun v=>Ti st r fun vs=>K (v::vs)
def z7 (st:TS) (b:Nat):List Nat:=match aq b st.bx with
 |some cs=>(2*b+1)::(cs.flatMap fQ).map (2* ·)
 |none=>[2*b+1]
def rz (st:TS):TE→List Nat
 | .v _ es=>(iF es).map (2* ·)
 | .ep d _=>d.map (2* ·)
 | .er o _ _ _=>[2*o]
 | .bp b _=>z7 st b
 | .fn _ caps=>caps.flatMap (z7 st)
 |_=>[]
def yx (st:TS) (o:Nat):Bool:=match aq o st.ob with|some ⟨true,_,_⟩=>true|_=>false
def tZ (st:TS) (c:Bool):List Mode→List CE→Option (List Nat)
 |_,[]=>some []
 |ms,e::r=>match tZ st c (ms.drop 1) r with
  |some l=>match ms.headD .deep,e with
   |_,.sc _=>some l
   |_,.nil _=>some l
   | .snap,.snap [] none _ _=>some l
   | .snap,_=>none
   |_,.ref o none=>match yx st o with|true=>some ((2*o)::l)|false=>none
   |_,.ref o (some _)=>match c,yx st o with|true,true=>some ((2*o)::l)|_,_=>none
   |_,.snap _ (some (o,_,_)) _ _=>match c,yx st o with|false,true=>some ((2*o)::l)|_,_=>none
   |_,_=>none
  |none=>none
def qL (st:TS) (c:Bool) (ms:List Mode) (e:TE):Option (List Nat):=match e with
 | .v false [.mk _ cs]=>match ms with|[]=>tZ st c [] cs|_=>none
 | .bp b 0=>match c,yu b,aq b st.bx with
   |false,true,some cs=>match tZ st true ms cs with
    |some l=>some ((2*b+1)::l)
    |none=>none
   |_,_,_=>none
 |_=>none
def bN.ms:bN→List Mode
 | .inout ms=>ms
 |_=>[]
def Fh:List Nat→Bool
 |[]=>true
 |a::r=>match mh a r with|true=>false|false=>Fh r
def z8 (st:TS):List bN→List TE→Option (List Nat×List Nat)
 |[],[]=>some ([],[])
 |p::ps,e::es=>match z8 st ps es with
  |some (own,rd)=>match p with
   | .borrow=>some (own,rz st e++rd)
   | .inout ms=>match qL st false ms e with|some l=>some (l++own,rd)|none=>none
   | .consume=>match qL st true [] e with|some l=>some (l++own,rd)|none=>none
  |none=>none
 |_,_=>none
def ua:List CE→TS→TS
 |[],st=>st
 | .ref o _::r,st=>ua r (ni o st)
 |_::r,st=>ua r st
def r5 (st:TS) (e:CE) (c:TC):Option (List (Nat×OB)):=
 match e,c with
 | .sc _,.sc _=>some []
 | .nil _,.sub _ []=>some []
 | .ref o none,.sub z rows=>match aq o st.ob with
   |some ⟨true,z0,_⟩=>match Nat.beq z z0 with|true=>some [(o,⟨true,z,rows⟩)]|false=>none
   |_=>none
 | .snap _ (some (o,i,f)) z0 _,.sub z' rows'=>match aq o st.ob,Nat.beq z' z0 with
   |some ⟨true,z,rows⟩,true=>some [(o,⟨true,z,setRow rows i f [.sub z' rows']⟩)]
   |_,_=>none
 |_,_=>none
def MF (st:TS):List CE→List TC→Option (List (Nat×OB))
 |[],[]=>some []
 |e::r,c::cs=>match r5 st e c,MF st r cs with
  |some a,some b=>some (a++b)
  |_,_=>none
 |_,_=>none
def bW (f:Nat→Nat):List Mode→Nat→List TC→TS→List CE×TS
 |_,_,[],st=>([],st)
 |ms,j,c::cs,st=>match c with
  | .sc v=>match bW f (ms.drop 1) (j+1) cs st with|(r,st')=>(.sc v::r,st')
  | .sub z rows=>match ms.headD .snap with
    | .snap=>match bW f (ms.drop 1) (j+1) cs st with|(r,st')=>(.snap [] none z rows::r,st')
    | .top=>match bW f (ms.drop 1) (j+1) cs (CY (f j) ⟨false,z,rows⟩ st) with|(r,st')=>(.ref (f j) none::r,st')
    | .deep=>match bW f (ms.drop 1) (j+1) cs (CY (f j) ⟨true,z,rows⟩ st) with|(r,st')=>(.ref (f j) none::r,st')
  | .any=>match bW f (ms.drop 1) (j+1) cs st with|(r,st')=>(.gone::r,st')
def sL (st0:TS):List bN→List TE→TS→TS
 |p::ps,e::es,st=>match p,e with
  | .consume,.v false [.mk _ cs]=>sL st0 ps es (ua cs st)
  | .inout _,.bp b _=>match aq b st0.bx with
    |some cs=>sL st0 ps es ⟨(ua cs st).tm,p9 b (ua cs st).bx,(ua cs st).ob⟩
    |none=>sL st0 ps es st
  |_,_=>sL st0 ps es st
 |_,_,st=>st
def uc (st:TS):List bN→List TE→List TV→Option (List (Nat×OB)×List (Nat×List Mode×List TC))
 |p::ps,e::es,fs=>match p with
  | .inout ms=>match e,fs with
    | .v false [.mk false [e]],.c c::fs=>match r5 st e c,uc st ps es fs with
      |some a,some (b,bs)=>some (a++b,bs)
      |_,_=>none
    | .v false [.mk true cs],.ag ts::fs=>match MF st cs ts,uc st ps es fs with
      |some a,some (b,bs)=>some (a++b,bs)
      |_,_=>none
    | .bp b 0,.bx ts::fs=>match aq b st.bx,uc st ps es fs with
      |some cs,some (a,bs)=>match Nat.beq cs.length ts.length with|true=>some (a,(b,ms,ts)::bs)|false=>none
      |_,_=>none
    |_,_=>none
  |_=>uc st ps es fs
 |[],[],[]=>some ([],[])
 |_,_,_=>none
def Tj:List Mode→List TC→List Mode
 |_,[]=>[]
 |ms,_::r=>(match ms.headD .deep with| .snap=> .snap|_=> .deep)::Tj (ms.drop 1) r
def Gm:List (Nat×List Mode×List TC)→TS→TS
 |[],st=>st
 |(b,ms,ts)::r,st=>match bW (bid b) (Tj ms ts) 0 ts st with
  |(cs,st')=>Gm r (st'.HW b cs)
def yy (st:TS):List Nat→TS
 |[]=>st
 |o::r=>yy (vP st o) r
def C0 (st:TS):TE→List Nat
 | .bp b _=>match aq b st.bx with|some cs=>cs.flatMap fQ|none=>[]
 | .fn _ caps=>caps.flatMap fun b=>match aq b st.bx with|some cs=>cs.flatMap fQ|none=>[]
 |e=>ya e
def borrowed (st:TS):List bN→List TE→List Nat
 | .borrow::ps,e::es=>C0 st e++borrowed st ps es
 |_::ps,_::es=>borrowed st ps es
 |_,_=>[]
def ud (d k:Nat):Nat:=400000+20*d+k
def gL (d:Nat):Nat→List (List Mode)→List (Nat×List TC)→TS→List qK×TS
 |_,_,[],st=>([],st)
 |k,ms,(a,cs)::r,st=>match bW (rW d k) (ms.headD []) 0 cs st with
  |(cs',st')=>match Nat.beq a 2 with
   |true=>match gL d (k+1) (ms.drop 1) r (HX (ud d k) cs' st') with
    |(es,st'')=>(.ptr (ud d k)::es,st'')
   |false=>match gL d (k+1) (ms.drop 1) r st' with
    |(es,st'')=>(.mk (Nat.beq a 1) cs'::es,st'')
def Em:List (Nat×List TC)→Bool
 |[]=>true
 |(_,cs)::r=>match Nat.ble cs.length 20 with|true=>Em r|false=>false
def X4 (d:Nat) (ms:List (List Mode)) (v:TV) (st:TS):Option TS:=
 match v with
 | .c c=>match bW (rW d 0) (ms.headD []) 0 [c] st with|(cs,st')=>some (st'.set d (.v false [.mk false cs]))
 | .ag cs=>match bW (rW d 0) (ms.headD []) 0 cs st with|(cs,st')=>some (st'.set d (.v false [.mk true cs]))
 | .tu vs=>match Em vs with
   |true=>match gL d 0 ms vs st with|(es,st')=>some (st'.set d (.v true es))
   |false=>none
 | .bx cs=>match bW (rW d 0) (ms.headD []) 0 cs st with|(cs',st')=>some ((HX (ud d 0) cs' st').set d (.bp (ud d 0) 0))
 |_=>none
def vR:TV→Bool
 | .c _=>true
 | .ag cs=>Nat.ble cs.length 16
 | .bx cs=>Nat.ble cs.length 16
 | .fn _ caps=>Nat.ble caps.length 900
 | .tu _=>false
def qb:List TV→Bool
 |[]=>true
 |v::r=>match vR v with|true=>qb r|false=>false
def uF (vs:List TV):Bool:=match Nat.ble vs.length 50 with|true=>qb vs|false=>false
def C1 (sh:Bool) (st:TS) (ps:List bN) (es:List TE):TS:=match sh with
 |true=>yy (sL st ps es st) (borrowed st ps es)
 |false=>sL st ps es st
def o8:List Mode→List TC→Bool
 |_,[]=>true
 |ms,.sc _::r=>o8 (ms.drop 1) r
 |ms,.sub _ _::r=>match ms.headD .snap with| .deep=>o8 (ms.drop 1) r|_=>false
 |ms,.any::r=>match ms.headD .snap with| .deep=>o8 (ms.drop 1) r|_=>false
def MG:List (List Mode)→List (Nat×List TC)→Bool
 |_,[]=>true
 |ms,(_,cs)::r=>match o8 (ms.headD []) cs with|true=>MG (ms.drop 1) r|false=>false
def V3 (ms:List (List Mode)):TV→Bool
 | .c c=>o8 (ms.headD []) [c]
 | .ag cs=>o8 (ms.headD []) cs
 | .bx cs=>o8 (ms.headD []) cs
 | .tu vs=>MG ms vs
 | .fn _ _=>false
def RU:List bN→Bool
 |[]=>true
 | .inout (_::_)::_=>false
 |_::r=>RU r
def U0 (g:XP) (r:TV):Bool:=match g.shares with
 |true=>true
 |false=>match RU g.ps with|true=>V3 g.res r|false=>false
def Gn (d:Option Tmp) (f:FuncId) (es:List TE) (st:TS) (K:TS→Ev R):Ev R:=
 match z8 st (C.sig f).ps es with
 |some (own,rd)=>match Fh own,tU own rd,(C.sig f).shares&&mh 0 rd with
  |true,false,false=>Ti st es fun vs=>match uF vs with
   |true=> .call f vs fun r fs=>match U0 (C.sig f) r with
    |false=> .fail
    |true=>match uc st (C.sig f).ps es fs with
     |some (W,B)=>XO (Gm B (tr W (C1 (C.sig f).shares st (C.sig f).ps es))) fun st2=>match d with
      |some d=>match X4 d (C.sig f).res r st2 with
       |some st4=>K st4
       |none=> .fail
      |none=>K st2
     |none=> .fail
   |false=> .fail
  |_,_,_=> .fail
 |none=> .fail
def HZ (st:TS):List Operand→List TypeId→List TE
 |x::xs,t::ts=>rV C st t x::HZ st xs ts
 |_,_=>[]
def Q3 (st:TS) (o:Oper) (K:TS→Ev R):Ev R:=match o.dst with
 |some d=>ic C st o fun e=>K (st.set d e)
 |none=> .fail
def oO (st:TS) (o:Oper) (K:TS→Ev R):Ev R:=
 match o.op with
 | .alloc t=>match o.dst,yc (C.tt t) with
   |some d,true=>match yu d with
    |true=>K ((HX d ((C.tt t).zero.map RP) st).set d (.bp d 0))
    |false=> .fail
   |_,_=> .fail
 | .box t x=>match o.dst,El (rV C st t x) with
   |some d,some cs=>match yu d with
    |true=>K ((HX d cs st).set d (.bp d 0))
    |false=> .fail
   |_,_=> .fail
 | .store t a x=>match o.dst,known (C.tt t),El (rV C st t x) with
   |none,true,some cs=>match Nat.beq cs.length (C.tt t).size,rV C st 0 a with
    |true,.bp b off=>match MW b off cs st with
     |some st'=>K st'
     |none=> .fail
    |true,.er r none i f=>match UY r cs with
     |true=>Gl r none i f (cs.map (MV r)) (yw r st) K
     |false=>Gl r none i f cs st K
    |true,.er r p i f=>Gl r p i f cs st K
    |_,_=> .fail
   |_,_,_=> .fail
 | .buildSlice t n ps=>match o.dst,zZ C t with
   |some d,some e=>match Nat.beq n ps.size&&Nat.ble (n*(C.tt e).size) 16777216&&yc (C.tt e),rowsOf C st e ps.toList 0 with
    |true,some (rs,st',dp)=>K (vM d ⟨dp,(C.tt e).size,rs⟩ st')
    |_,_=> .fail
   |_,_=> .fail
 | .makeSlice t l c=>match o.dst,zZ C t,asInt (rV C st 3 l),asInt (rV C st 3 c) with
   |some d,some e,some n,some n'=> .test (yc (C.tt e)&&dF n n'&&oI 0 n&&fits (pZ n) (C.tt e).bytes) fun z=>match z with
    |true=>K (vM d ⟨true,(C.tt e).size,List.replicate (pZ n) (C.tt e).zero⟩ st)
    |false=> .fail
   |_,_,_,_=> .fail
 | .convert src dst x=>match(C.tt dst).ti,(C.tt src).ti with
   | .slice et,.str=>match o.dst,(C.tt et).ti,XU (rV C st src x) with
     |some d,.int .u8,some (.string s)=> .test (fits s.size 1) fun z=>match z with
      |true=>K (vM d ⟨true,1,EO s⟩ st)
      |false=> .fail
     |_,_,_=> .fail
   |_,_=>Q3 C st o K
 | .call {callee:= .builtin .append,args,argTypes}=>match o.dst,args.toList,argTypes.toList with
   |some d,[s,x],[t,t']=>V2 C st d t t' (rV C st t s) (rV C st t' x) K
   |_,_,_=> .fail
 | .call {callee:= .builtin .copy,args,argTypes}=>match args.toList,argTypes.toList with
   |[s,x],[t,t']=>abn C st o.dst t (rV C st t s) (rV C st t' x) K
   |_,_=> .fail
 | .call {callee:= .value (.func f),args,argTypes}=>match Nat.beq args.toList.length argTypes.toList.length with
   |true=>Gn C o.dst f (HZ C st args.toList argTypes.toList) st K
   |false=> .fail
 | .call {callee:= .value (.tmp i),args,argTypes}=>match Nat.beq args.toList.length argTypes.toList.length with
   |true=>match st.get i with
    | .fn f caps=>Gn C o.dst f (HZ C st args.toList argTypes.toList++caps.map fun b=> .bp b 0) st K
    |_=> .fail
   |false=> .fail
 |_=>Q3 C st o K
def RV (st:TS) (b:Nat):List Nat:=match aq b st.bx with
 |some cs=>(2*b+1)::(cs.flatMap fQ).map (2* ·)
 |none=>[2*b+1]
def C2 (st:TS):TE→List Nat
 | .v _ es=>(iF es).map (2* ·)
 | .bp b _=>RV st b
 |_=>[]
def qM (st:TS):List bN→List TE→List Nat
 | .borrow::ps,_::es=>qM st ps es
 |_::ps,e::es=>C2 st e++qM st ps es
 |_,_=>[]
def writes (st:TS) (o:Oper):List Nat:=match o.op with
 | .store _ a _=>match rV C st 0 a with
   | .bp b _=>[2*b+1]
   | .er o _ _ _=>[2*o]
   |_=>[]
 | .call {callee:= .builtin .append,args,argTypes}=>match args.toList,argTypes.toList with
   |s::_,t::_=>(ya (rV C st t s)).map (2* ·)
   |_,_=>[]
 | .call {callee:= .builtin .copy,args,argTypes}=>match args.toList,argTypes.toList with
   |s::_,t::_=>(ya (rV C st t s)).map (2* ·)
   |_,_=>[]
 | .call {callee:= .value (.func f),args,argTypes}=>qM st (C.sig f).ps (HZ C st args.toList argTypes.toList)
 | .call {callee:= .value (.tmp i),args,argTypes}=>match st.get i with
   | .fn f caps=>qM st (C.sig f).ps (HZ C st args.toList argTypes.toList++caps.map fun b=> .bp b 0)
   |_=>[]
 |_=>[]
def X5 (st:TS) (o:Oper):Option (List Nat):=match o.op with
 | .load _ a=>match rV C st 0 a with
   | .bp b _=>match aq b st.bx with
     |some _=>some [2*b+1]
     |none=>none
   | .ep d (_::_)=>some (d.map (2* ·))
   | .er o none _ _=>some [2*o]
   | .er o (some _) _ _=>match aq o st.ob with
     |some ⟨true,_,_⟩=>some [2*o]
     |_=>none
   |_=>none
 |_=>none
def abo (ops:Array Oper) (st:TS) (o:Oper):Bool:=match o.guard with
 |none=>false
 |some (j,want)=>match ops[j]? with
  |some oj=>match oj.dst with
   |some t=>match st.get t with
    | .kb b=>match b,want with
      |true,false=>true
      |false,true=>true
      |_,_=>false
    | .v true []=>true
    |_=>false
   |none=>false
  |none=>false
def C3 (ops:Array Oper) (st:TS) (o:Oper):List Nat→Bool
 |[]=>true
 |l::r=>match ops[l]? with
  |some ol=>match abo ops st ol with
   |true=>C3 ops st o r
   |false=>match X5 C st ol with
    |some rd=>match tU rd (writes C st o) with|true=>false|false=>C3 ops st o r
    |none=>false
  |none=>false
def Tk (fl:List Nat) (ops:Array Oper) (st:TS) (o:Oper) (K:TS→Ev R):Ev R:=match C3 C ops st o fl with
 |true=>oO C st o K
 |false=> .fail
def Tl (st:TS) (o:Oper) (K:TS→Ev R):Ev R:=match o.dst with
 |some d=>K (st.set d (.v true []))
 |none=>K st
def U1 (fl:List Nat) (ops:Array Oper) (st:TS) (o:Oper) (b want:Bool) (K:TS→Ev R):Ev R:=
 match b,want with
 |true,true=>Tk C fl ops st o K
 |false,false=>Tk C fl ops st o K
 |_,_=>Tl st o K
def V4 (fx:List Nat) (o:Oper):Bool:=match o.dst with|some d=> !mh d fx|none=>true
def guarded (fx fl:List Nat) (ops:Array Oper) (st:TS) (o:Oper) (K:TS→Ev R):Ev R:=
 match V4 fx o with
 |false=> .fail
 |true=>match o.guard with
  |none=>Tk C fl ops st o K
  |some (j,want)=>match ops[j]? with
   |some oj=>match oj.dst with
    |some t=>match st.get t with
     | .kb b=>U1 C fl ops st o b want K
     | .v false [.mk false [.sc (.bool b)]]=> .test b fun b=>U1 C fl ops (st.set t (.kb b)) o b want K
     | .v true []=>Tl st o K
     |_=> .fail
    |none=> .fail
   |none=> .fail
def AN {α:Type} (l:List Nat):List (Nat×α)→List (Nat×α)
 |[]=>[]
 |(i,e)::r=>match mh i l with|true=>(i,e)::AN l r|false=>AN l r
def RW (fx:List Nat) (l:List Nat) (ops:Array Oper):List Oper→TS→(TS→Ev R)→Ev R
 |[],st,K=>XO ⟨AN l st.tm,st.bx,st.ob⟩ K
 |o::r,st,K=>guarded C fx [] ops st o fun st'=>XO st' fun st'=>RW fx l ops r st' K
def rA (fx:List Nat) (l:List Nat) (ops:Array Oper):Ej→TS→(TS→Ev R)→Ev R
 | .nil,st,K=>XO ⟨AN l st.tm,st.bx,st.ob⟩ K
 | .op i fl r,st,K=>match ops[i]? with
   |some o=>guarded C fx fl ops st o fun st'=>XO st' fun st'=>rA fx l ops r st' K
   |none=> .fail
 | .alt a b,st,K=> .both (rA fx l ops a st K) (rA fx l ops b st K)
def vT (l:List Nat):List (Nat×List CE)→List (Nat×List CE)
 |[]=>[]
 |(i,cs)::r=>match Nat.ble 100000 i with
  |true=>(i,cs)::vT l r
  |false=>match mh i l with|true=>(i,cs)::vT l r|false=>vT l r
def gW (n:Nat):List CE→List CE×Nat×List (Nat×OB)
 |[]=>([],n,[])
 | .nil z::r=>match Nat.ble 1 z with
   |true=>match gW (n+1) r with|(cs,m,obs)=>(.ref n none::cs,m,(n,⟨true,z,[]⟩)::obs)
   |false=>match gW n r with|(cs,m,obs)=>(.nil z::cs,m,obs)
 |e::r=>match gW n r with|(cs,m,obs)=>(e::cs,m,obs)
def ga (n:Nat):List qK→List qK×Nat×List (Nat×OB)
 |[]=>([],n,[])
 | .mk a cs::r=>match gW n cs with
   |(cs',m,o1)=>match ga m r with|(es,m',o2)=>(.mk a cs'::es,m',o1++o2)
 | .ptr b::r=>match ga n r with|(es,m,o2)=>(.ptr b::es,m,o2)
def Fi (n:Nat) (e:TE):TE×Nat×List (Nat×OB):=match e with
 | .v tup es=>match ga n es with|(es',m,o)=>(.v tup es',m,o)
 | .kb b=>(S (.bool b),n,[])
 |e=>(e,n,[])
def yz (n:Nat):List (Nat×TE)→List (Nat×TE)×List (Nat×OB)
 |[]=>([],[])
 |(i,e)::r=>match Fi n e with
  |(e',m,o1)=>match yz m r with|(r',o2)=>((i,e')::r',o1++o2)
def Tm (n:Nat):List (Nat×OB)→Bool
 |[]=>true
 |(i,_)::r=>match Nat.ble n i with|true=>false|false=>Tm n r
def Tn (st:TS):TS:=match Tm 900000000 st.ob with
 |true=>match yz 900000000 st.tm with|(tm,obs)=>⟨tm,st.bx,kg obs st.ob⟩
 |false=>st
def abJ (st:TS):List Nat:=(st.tm.flatMap fun p=>ya p.2)++st.bx.flatMap fun p=>p.2.flatMap fQ
def number:List Nat→Nat→List (Nat×Nat)→List (Nat×Nat)
 |[],_,ρ=>ρ
 |o::r,n,ρ=>match Nat.beq o 0 with
  |true=>number r n ρ
  |false=>match aq o ρ with
   |some _=>number r n ρ
   |none=>number r (n+1) ((o,n)::ρ)
def H6 (ρ:List (Nat×Nat)) (o:Nat):Nat:=match aq o ρ with|some n=>n|none=>0
def Gp (ρ:List (Nat×Nat)):CE→CE
 | .ref o cut=> .ref (H6 ρ o) cut
 | .snap d l z rows=> .snap (d.map (H6 ρ)) (match l with|some (o,i,f)=>some (H6 ρ o,i,f)|none=>none) z rows
 |e=>e
def X6 (ρ:List (Nat×Nat)):TE→TE
 | .ep d cells=> .ep (d.map (H6 ρ)) cells
 | .er o p i f=> .er (H6 ρ o) p i f
 |e=>e
def tV (ob:List (Nat×OB)):List (Nat×Nat)→List (Nat×OB)
 |[]=>[]
 |(o,n)::r=>match aq o ob with|some b=>nW n b (tV ob r)|none=>tV ob r
def ac0 (ρ:List (Nat×Nat)) (st:TS):TS:=⟨mapA (x9 (Gp ρ) (X6 ρ)) st.tm,mapA (List.map (Gp ρ)) st.bx,tV st.ob ρ⟩
def canon (st:TS):TS:=ac0 (number (abJ st) 1 []) st
def To (l:List Nat) (st:TS):TS:=canon (Tn ⟨AN l st.tm,vT l st.bx,st.ob⟩)
def run (fx:List Nat) (f:FuncId):Nat→Code→TS→(TX→TS→Ev R)→Ev R
 |_,.skip,st,K=>K .norm st
 |_,.region id ops draw,st,K=>match draw with
  |false=>RW C fx (C.lr f id) ops ops.toList st (K .norm)
  |true=>match C.MP f id with
   |some l=>rA C fx (C.lr f id) ops l st (K .norm)
   |none=> .fail
 |i,.seq a b,st,K=>run fx f i a st fun x st'=>match x with
  | .norm=>run fx f i b st' K
  |x=>K x st'
 |i,.cond c a b,st,K=>match rV C st 0 c with
  | .kb p=>match p with
    |true=>run fx f i a st K
    |false=>run fx f i b st K
  | .v false [.mk false [.sc (.bool p)]]=> .test p fun p=>match p with
    |true=>run fx f i a st K
    |false=>run fx f i b st K
  |_=> .fail
 |_,.block id body,st,K=>run fx f id body st fun x st'=>match x with
  | .ex id'=>match Nat.beq id' id with|true=>K .norm st'|false=>K (.ex id') st'
  |x=>K x st'
 |i,.loop body,st,K=>XO (To (C.lb f i) st) fun st=> .loop f i body st K
 |_,.exit id,st,K=>K (.ex id) st
 |_,.ret,st,K=>K .ret st
 |_,_,_,_=> .fail
def dN (sh:Bool) (p:bN) (n:Nat):Nat→List TC→List CE×List (Nat×OB)
 |_,[]=>([],[])
 |j,c::r=>match dN sh p n (j+1) r with
  |(es,obs)=>match c with
   | .sc v=>(.sc v::es,obs)
   | .sub z rows=>match p.mc j with
     | .snap=>(.snap (match sh with|true=>[]|false=>[0]) none z rows::es,obs)
     |_=>(.ref (n+j) none::es,(n+j,⟨true,z,rows⟩)::obs)
   | .any=>(.gone::es,obs)
def H7 (sh:Bool) (i:Nat):List (List TC)→List (Nat×List CE)
 |[]=>[]
 |c::r=>(i,(dN sh .borrow 0 0 c).1)::H7 sh (i+1) r
def yA (p:bN) (i:Nat):Nat:=match p with| .borrow=>200000+1000*i|_=>100000+1000*i
def init (sh:Bool) (ps:List bN) (i:Nat):List TV→TS
 |[]=>⟨[],[],[]⟩
 |v::r=>match init sh (ps.drop 1) (i+1) r with
  |⟨tm,bx,ob⟩=>match v with
   | .c c=>match dN sh (ps.headD .borrow) (500+16*i) 0 [c] with|(cs,o)=>⟨(i,.v false [.mk false cs])::tm,bx,o++ob⟩
   | .ag cs=>match dN sh (ps.headD .borrow) (500+16*i) 0 cs with|(cs,o)=>⟨(i,.v false [.mk true cs])::tm,bx,o++ob⟩
   | .bx cs=>match dN sh (ps.headD .borrow) (500+16*i) 0 cs with
     |(cs,o)=>⟨(i,.bp (yA (ps.headD .borrow) i) 0)::tm,(yA (ps.headD .borrow) i,cs)::bx,o++ob⟩
   | .fn f caps=>⟨(i,.fn f (List.range' (200000+1000*i+1) caps.length))::tm,H7 sh (200000+1000*i+1) caps++bx,ob⟩
   | .tu _=>⟨tm,bx,ob⟩
def U2 (m:Mode) (e:CE) (deep:Bool):Bool:=match m,e with
 |_,.sc _=>true
 | .snap,_=>true
 |_,.nil _=>true
 | .top,.ref _ _=>true
 | .deep,.ref _ _=>deep
 |_,_=>false
def C4:List Mode→List CE→TS→Option (List TC×TS)
 |_,[],st=>some ([],st)
 |ms,e::r,st=>match oN e st with
  |some (c,st',d)=>match U2 (ms.headD .snap) e d with
   |true=>match C4 (ms.drop 1) r st' with
    |some (cs,st'')=>some (c::cs,st'')
    |none=>none
   |false=>none
  |none=>none
def mF:List Mode→List CE→TS→Option (List TC×TS)
 |_,[],st=>some ([],st)
 |ms,e::r,st=>match ms.headD .deep,e with
  | .snap,e=>match oN e st with
    |some (c,st',_)=>match mF (ms.drop 1) r st' with
     |some (cs,st'')=>some (c::cs,st'')
     |none=>none
    |none=>none
  |_,.sc v=>match mF (ms.drop 1) r st with
   |some (cs,st')=>some (.sc v::cs,st')
   |none=>none
  |_,.nil z=>match mF (ms.drop 1) r st with
   |some (cs,st')=>some (.sub z []::cs,st')
   |none=>none
  |_,.ref o none=>match aq o st.ob with
   |some ⟨true,z,rows⟩=>match mF (ms.drop 1) r (ni o st) with
    |some (cs,st')=>some (.sub z rows::cs,st')
    |none=>none
   |_=>none
  |_,_=>none
def abK (a:Bool):Nat:=match a with|true=>1|false=>0
def V5 (st:TS) (r:ResultVar) (K:TE→Ev R):Ev R:=match r with
 | .tmp t=>K (st.get t)
 | .cell a t=>ER C st t (st.get a) K
def MX:List (List Mode)→List ResultVar→TS→(List (Nat×List TC)→TS→Ev R)→Ev R
 |_,[],st,K=>K [] st
 |ms,r::rs,st,K=>V5 C st r fun e=>match e with
  | .v false [.mk a cs]=>match C4 (ms.headD []) cs st with
    |some (ts,st')=>MX (ms.drop 1) rs st' fun vs st''=>K ((abK a,ts)::vs) st''
    |none=> .fail
  | .kb b=>MX (ms.drop 1) rs st fun vs st''=>K ((0,[.sc (.bool b)])::vs) st''
  | .bp b 0=>match yu b,aq b st.bx with
    |true,some cs=>match C4 (ms.headD []) cs ⟨st.tm,p9 b st.bx,st.ob⟩ with
     |some (ts,st')=>MX (ms.drop 1) rs st' fun vs st''=>K ((2,ts)::vs) st''
     |none=> .fail
    |_,_=> .fail
  |_=> .fail
def Tp:List bN→Nat→TS→Option (List TV)
 |[],_,_=>some []
 |p::ps,i,st=>match p with
  | .inout ms=>match ms,st.get i with
    |[],.v false [.mk false [e]]=>match mF [] [e] st with
     |some ([c],st')=>match Tp ps (i+1) st' with
      |some vs=>some (.c c::vs)
      |none=>none
     |_=>none
    |[],.v false [.mk true cs]=>match mF [] cs st with
     |some (ts,st')=>match Tp ps (i+1) st' with
      |some vs=>some (.ag ts::vs)
      |none=>none
     |none=>none
    |ms,.bp b 0=>match yu b,aq b st.bx with
     |true,some cs=>match mF ms cs st with
      |some (ts,st')=>match Tp ps (i+1) st' with
       |some vs=>some (.bx ts::vs)
       |none=>none
      |none=>none
     |_,_=>none
    |_,_=>none
  |_=>Tp ps (i+1) st
def H8:List (Nat×List TC)→TV
 |[(0,[c])]=> .c c
 |[(1,cs)]=> .ag cs
 |[(2,cs)]=> .bx cs
 |vs=> .tu vs
def tw:List bN→Nat→List Nat
 |[],_=>[]
 | .inout _::r,i=>i::tw r (i+1)
 |_::r,i=>tw r (i+1)
def X7 (g:XP) (rs:List ResultVar) (x:TX) (st:TS):Ev (TV×List TV):=match x with
 | .ex _=> .fail
 |_=>MX C g.res rs st fun rs st'=>match Tp g.ps 0 st' with
  |some fs=>fTV (H8 rs) fun r=>fL fTV fs fun fs=> .ret (r,fs)
  |none=> .fail
def C5 (g:XP) (vs:List TV):TS:=init true g.ps 0 vs
def body (f:FuncId) (vs:List TV):Ev (TV×List TV):=
 match C.P.funcs[f]? with
 |none=> .fail
 |some fn=>match fn.body with
  |none=> .fail
  |some c=>XO (C5 (C.sig f) vs) fun st=>run C (tw (C.sig f).ps 0) f 0 c st (X7 C (C.sig f) fn.results.toList)
end
abbrev Cf:=FuncId→List TV→TV→List TV→Prop
abbrev Lp:=FuncId→Nat→Code→TS→(TX→TS→Prop)→Prop
def Ev.holds {R:Type} (cf:Cf) (lp:Lp) (Q:R→Prop):Ev R→Prop
 | .fail=>False
 | .ret r=>Q r
 | .test b k=>(k b).holds cf lp Q
 | .row rows i k=> ∃c,rowAt rows i=some c∧(k c).holds cf lp Q
 | .byte s i k=> ∃b,rZ s i=some b∧(k b).holds cf lp Q
 | .bytes rows k=> ∃ns,ry rows=some ns∧(k ns).holds cf lp Q
 | .call f vs k=> ∃r fs,cf f vs r fs∧(k r fs).holds cf lp Q
 | .loop f i c st k=>lp f i c st fun x st'=>(k x st').holds cf lp Q
 | .both a b=> ∃r,a.holds cf lp (fun r'=>r'=r)∧b.holds cf lp (fun r'=>r'=r)∧Q r
section
variable (C : mz)
def MY (x:TX) (st:TS):Ev (TX×TS):= .ret (x,st)
def iter (cf:Cf) (lp:Lp) (fx:List Nat) (f i:Nat) (c:Code) (Q:TX→TS→Prop):Nat→TS→Prop
 |0,_=>False
 |n+1,st=>(run C fx f i c st MY).holds cf lp fun p=>match p with
   |(.norm,st')=>XO (To (C.lb f i) st') fun st'=>iter cf lp fx f i c Q n st'
   |(x,st')=>Q x st'
def U3 (cf:Cf) (k:Nat) (fx:List Nat):Nat→Lp
 |0=>fun _ _ _ _ _=>False
 |n+1=>fun f i c st Q=>iter C cf (U3 cf k fx n) fx f i c Q k st
def jh:Nat→Cf
 |0=>fun _ _ _ _=>False
 |k+1=>fun f vs r fs=>match C.ext f with
  |some p=>p vs=some (r,fs)
  |none=>(body C f vs).holds (jh k) (U3 C (jh k) k (tw (C.sig f).ps 0) 4) fun p=>p=(r,fs)
end
end Go.T
set_option linter.unusedVariables false
set_option linter.unusedSimpArgs false
namespace Go.T
inductive An where
 |b (x:Bool)
 |row (c:List TC)
 |n (i:Int)
 |ns (l:List Int)
 |call (r:TV) (fs:List TV)
 |loop (x:TX) (st:TS)
inductive Qr where
 |test (b x:Bool)
 |row (rows:List (List TC)) (i:Int) (c:List TC)
 |byte (s:ByteArray) (i b:Int)
 |bytes (rows:List (List TC)) (ns:List Int)
 |call (f:FuncId) (vs:List TV) (r:TV) (fs:List TV)
 |loop (f:FuncId) (i:Nat) (c:Code) (st:TS) (x:TX) (st':TS)
def Ev.trace {R:Type}:Ev R→List An→List Qr→Option (R×List Qr)
 | .fail,_,_=>none
 | .ret r,as,qs=>match as with|[]=>some (r,qs)|_=>none
 | .test b k,as,qs=>match as with| .b x::as=>(k x).trace as (.test b x::qs)|_=>none
 | .row rows i k,as,qs=>match as with| .row c::as=>(k c).trace as (.row rows i c::qs)|_=>none
 | .byte s i k,as,qs=>match as with| .n b::as=>(k b).trace as (.byte s i b::qs)|_=>none
 | .bytes rows k,as,qs=>match as with| .ns l::as=>(k l).trace as (.bytes rows l::qs)|_=>none
 | .call f vs k,as,qs=>match as with| .call r fs::as=>fL fTV vs fun vs=>(k r fs).trace as (.call f vs r fs::qs)|_=>none
 | .loop f i c st k,as,qs=>match as with| .loop x st'::as=>(k x st').trace as (.loop f i c st x st'::qs)|_=>none
 | .both _ _,_,_=>none
def Qr.ok (cf:Cf) (lp:Lp):Qr→Prop
 | .test b x=>b=x
 | .row rows i c=>rowAt rows i=some c
 | .byte s i b=>rZ s i=some b
 | .bytes rows ns=>ry rows=some ns
 | .call f vs r fs=>cf f vs r fs
 | .loop f i c st x st'=>lp f i c st fun x1 st1=>x1=x∧st1=st'
section
variable {Z : Type}
theorem uG {α:Type} {f:α→(α→Z)→Z} (h: ∀a K,f a K=K a): ∀(l:List α) (K:List α→Z),fL f l K=K l
 |[],K=>rfl
 |a::r,K=>by simp only[fL,h,uG h r]
theorem X8 (b:Bool) (K:Bool→Z):fB b K=K b:=by cases b<;>rfl
theorem X9 (b:Nat) (K:Nat→Z):fN b K=K b:=rfl
theorem Ya (p:Option (Int×Nat)) (K:Option (Int×Nat)→Z):abk p K=K p:=by cases p<;>rfl
theorem Z0 (p:Option (Int×Int)) (K:Option (Int×Int)→Z):acY p K=K p:=by cases p<;>rfl
theorem abL (p:Option (Nat×Int×Nat)) (K:Option (Nat×Int×Nat)→Z):fAt p K=K p:=by cases p<;>rfl
theorem abp (v:Value) (K:Value→Z):fV v K=K v:=by cases v<;>rfl
theorem RX (c:TC) (K:TC→Z):fTC c K=K c:=by cases c<;>simp only[fTC,abp]
theorem Yb (e:CE) (K:CE→Z):fCE e K=K e:=by
 cases e<;>simp only[fCE,abp,Z0,abL,uG X9]
theorem Yc (c:qK) (K:qK→Z):XR c K=K c:=by cases c<;>simp only[XR,X8,uG Yb]
theorem abM (e:TE) (K:TE→Z):fTE e K=K e:=by
 cases e<;>simp only[fTE,X8,uG Yc,uG X9,uG RX,Ya]
theorem abN (b:OB) (K:OB→Z):fOB b K=K b:=by cases b;simp only[fOB,X8]
theorem Yd (v:TV) (K:TV→Z):fTV v K=K v:=by
 cases v<;>simp only[fTV,XT,RX,uG RX]
 rw[uG (fun a K=>by cases a;simp only[XT,uG RX])]
theorem r6 (st:TS) (K:TS→Z):XO st K=K st:=by
 cases st;simp only[XO]
 rw[uG (fun a K=>by cases a;simp only[abM]),uG (fun a K=>by cases a;simp only[uG Yb]),uG (fun a K=>by cases a;simp only[abN])]
end
theorem fk {R:Type} {cf cf':Cf} {lp lp':Lp} (hc: ∀f vs r fs,cf f vs r fs→cf' f vs r fs) (hlp: ∀f i c st (Q Q':TX→TS→Prop),(∀x s,Q x s→Q' x s)→lp f i c st Q→lp' f i c st Q') {Q Q':R→Prop} (hQ: ∀r,Q r→Q' r):
 ∀(e:Ev R),e.holds cf lp Q→e.holds cf' lp' Q'
 | .fail,h=>h
 | .ret r,h=>hQ r h
 | .test b k,h=>fk hc hlp hQ (k b) h
 | .row rows i k,⟨c,h1,h2⟩=>⟨c,h1,fk hc hlp hQ (k c) h2⟩
 | .byte rows i k,⟨c,h1,h2⟩=>⟨c,h1,fk hc hlp hQ (k c) h2⟩
 | .bytes rows k,⟨c,h1,h2⟩=>⟨c,h1,fk hc hlp hQ (k c) h2⟩
 | .call f vs k,⟨r,fs,h1,h2⟩=>⟨r,fs,hc _ _ _ _ h1,fk hc hlp hQ (k r fs) h2⟩
 | .loop f i c st k,h=>hlp _ _ _ _ _ _ (fun x s hxs=>fk hc hlp hQ (k x s) hxs) h
 | .both a b,⟨r,h1,h2,h3⟩=>⟨r,fk hc hlp (fun _ h=>h) a h1,fk hc hlp (fun _ h=>h) b h2,hQ r h3⟩
section
variable {C : mz}
theorem En {cf cf':Cf} {lp lp':Lp} (hc: ∀f vs r fs,cf f vs r fs→cf' f vs r fs) (hlp: ∀f i c st (Q Q':TX→TS→Prop),(∀x s,Q x s→Q' x s)→lp f i c st Q→lp' f i c st Q')
 {fx:List Nat} {f i:Nat} {c:Code} {Q Q':TX→TS→Prop} (hQ: ∀x s,Q x s→Q' x s): ∀(n n':Nat),n≤n'→ ∀(st:TS),iter C cf lp fx f i c Q n st→iter C cf' lp' fx f i c Q' n' st
 |0,_,_,_,h=>h.elim
 |n+1,0,hn,_,_=>absurd hn (by omega)
 |n+1,n'+1,hn,st,h=>by
  refine fk hc hlp (fun p hp=> ?_) _ h
  obtain⟨x,s⟩:=p
  cases x with
  |norm=>
   simp only at hp ⊢
   rw[r6] at hp ⊢
   exact En hc hlp hQ n n' (by omega) _ hp
  |ex id=>exact hQ _ _ hp
  |ret=>exact hQ _ _ hp
theorem qc {cf cf':Cf} (hc: ∀f vs r fs,cf f vs r fs→cf' f vs r fs) {k k':Nat} (hk:k≤k') {fx:List Nat}: ∀(n:Nat) (f i:Nat) (c:Code) (st:TS) (Q Q':TX→TS→Prop),(∀x s,Q x s→Q' x s)→
 U3 C cf k fx n f i c st Q→U3 C cf' k' fx n f i c st Q'
 |0,_,_,_,_,_,_,_,h=>h.elim
 |n+1,f,i,c,st,Q,Q',hQ,h=>En hc (qc hc hk n) hQ k k' hk st h
theorem C6: ∀(k:Nat) (f:FuncId) (vs:List TV) (r:TV) (fs:List TV),jh C k f vs r fs→jh C (k+1) f vs r fs
 |0,_,_,_,_,h=>h.elim
 |k+1,f,vs,r,fs,h=>by
  unfold jh at h ⊢
  cases hx:C.ext f with
  |some p=>rw[hx] at h;exact h
  |none=>rw[hx] at h;exact fk (C6 k) (qc (C6 k) (Nat.le_succ k) 4) (fun _ h=>h) _ h
theorem U4 {k:Nat} {f:FuncId} {vs:List TV} {r:TV} {fs:List TV} (hx:C.ext f=none) (h:(body C f vs).holds (jh C k) (U3 C (jh C k) k (tw (C.sig f).ps 0) 4) fun p=>p=(r,fs)):jh C (k+1) f vs r fs:=by
 unfold jh;rw[hx];exact h
theorem WL {k:Nat} {f:FuncId} {vs:List TV} {r:TV} {fs:List TV} {p:List TV→Option (TV×List TV)} (hx:C.ext f=some p) (h:p vs=some (r,fs)):jh C (k+1) f vs r fs:=by
 unfold jh;rw[hx];exact h
theorem mX {k k':Nat} (hk:k≤k') {f:FuncId} {vs:List TV} {r:TV} {fs:List TV} (h:jh C k f vs r fs):jh C k' f vs r fs:=by
 induction hk with
 |refl=>exact h
 |step _ ih=>exact C6 _ _ _ _ _ ih
def H9 (C:mz) (k:Nat) (fx:List Nat) (n:Nat) (f i:Nat) (c:Code) (m:Nat) (st:TS) (x:TX) (st':TS):Prop:=
 iter C (jh C k) (U3 C (jh C k) k fx n) fx f i c (fun x1 st1=>x1=x∧st1=st') m st
theorem H9.ok {k:Nat} {fx:List Nat} {n f i:Nat} {c:Code} {m:Nat} {st:TS} {x:TX} {st':TS} (h:H9 C k fx n f i c m st x st') (hm:m≤k):(Qr.loop f i c st x st').ok (jh C k) (U3 C (jh C k) k fx (n+1)):=
 En (fun _ _ _ _ h=>h) (qc (fun _ _ _ _ h=>h) (Nat.le_refl _) n) (fun _ _ h=>h) m k hm st h
end
end Go.T
namespace Go.T
def vU (rows:List (List TC)) (i f:Nat):Option TC:=(rows[i]?).bind fun r=>r[f]?
def Ks:Value→Prop
 | .int _ _=>True
 | .bool _=>True
 | .string _=>True
 | .slice _ _ _=>True
 |_=>False
def Mode.nx:Mode→Mode
 | .deep=> .deep
 |_=> .snap
structure ac1 (w:World) (R:Nat→Prop) (m:Mode) (S:Nat→Prop) (z:Nat) (rows:List (List TC)) (A:Option Addr) (c:Nat) (u:Nat→Nat→Value) (T:Nat→Nat→Nat→Prop):Prop where
 len:rows.length≤c
 cap:c≤maxLen
 z0:0<z
 width: ∀r∈rows,r.length=z
 addr:rows≠[]→ ∃ad,A=some ad
 cell: ∀ad,A=some ad→ ∀i f tc,vU rows i f=some tc→w.cell? (ad.add (i*z+f))=some (u i f)
 read:m= .snap→ ∀ad,A=some ad→rows≠[]→R ad.block
 own:m≠ .snap→(A=none→c=0)∧ ∀ad,A=some ad→S ad.block∧ad.spot=none∧
  ∀j,j<c*z→(∃x,w.cell? ⟨ad.block,ad.off+j,none⟩=some x)∧w.frozen? ⟨ad.block,ad.off+j,none⟩=false
 soft:m≠ .snap→1<z→ ∀ad,A=some ad→ ∀i,w.frozen? ⟨ad.block,i,none⟩=false
 disj:m= .deep→ ∀i f k,T i f k→S k∧(∀ad,A=some ad→k≠ad.block)∧ ∀i' f',T i' f' k→i'=i∧f'=f
inductive ax (w:World) (R:Nat→Prop):Mode→(Nat→Prop)→TC→Value→Prop
 |sc (m:Mode) (S:Nat→Prop) (v:Value) (h:Ks v):ax w R m S (.sc v) v
 |sub (m:Mode) (S:Nat→Prop) (z:Nat) (rows:List (List TC)) (A:Option Addr) (c:Nat) (u:Nat→Nat→Value) (T:Nat→Nat→Nat→Prop)
   (h:ac1 w R m S z rows A c u T) (hn: ∀i f tc,vU rows i f=some tc→ax w R m.nx (T i f) tc (u i f)):
   ax w R m S (.sub z rows) (.slice A rows.length c)
 |any (m:Mode) (S:Nat→Prop) (v:Value) (h:v.oneCell'=true∧v.cells= #[v]):ax w R m S .any v
variable {w w' : World} {R R' S S' : Nat → Prop} {m : Mode} {c : TC} {v : Value}
theorem Ia {rows:List (List TC)} {i f:Nat} {tc:TC} (h:vU rows i f=some tc):rows≠[]:=by
 rintro rfl;simp[vU] at h
theorem fm {w w':World} {a:Addr} (h:w'.heap[a.block]?=w.heap[a.block]?):w'.cell? a=w.cell? a:=by
 unfold World.cell?;rw[h]
theorem kZ {w w':World} {a:Addr} (h:w'.heap[a.block]?=w.heap[a.block]?):w'.frozen? a=w.frozen? a:=by
 unfold World.frozen?;rw[h]
theorem cn (a:Addr) (n:Nat):(a.add n).block=a.block:=by unfold Addr.add;split<;>rfl
theorem ax.mono (h:ax w R m S c v) (hS: ∀k,S k→S' k):ax w R m S' c v:=by
 cases h with
 |any _ _ _ h=>exact .any _ _ _ h
 |sc _ _ _ h=>exact .sc _ _ _ h
 |sub _ _ z rows A c u T h hn=>
  refine .sub _ _ z rows A c u T {h with own:=fun hm=>⟨(h.own hm).1,fun ad ha=>⟨hS _ ((h.own hm).2 ad ha).1,((h.own hm).2 ad ha).2⟩⟩,disj:=fun hm i f k hk=>⟨hS _ (h.disj hm i f k hk).1,(h.disj hm i f k hk).2⟩} hn
theorem ue {m:Mode} (h:m.nx≠ .snap):m= .deep:=by cases m<;>simp_all [Mode.nx]
theorem ax.move (h:ax w R m S c v):(∀k,R k→R' k∧w'.heap[k]?=w.heap[k]?)→(m≠ .snap→ ∀k,S k→w'.heap[k]?=w.heap[k]?)→ax w' R' m S c v:=by
 induction h with
 |any _ _ _ h=>exact fun _ _=> .any _ _ _ h
 |sc _ _ _ h=>exact fun _ _=> .sc _ _ _ h
 |sub m S z rows A c u T h hn ih=>
  intro hR hS
  refine .sub _ _ z rows A c u T {h with cell:= ?_,read:= ?_,own:= ?_,soft:=fun hm h1 ad ha i=>by rw[kZ (w:=w) (a:=⟨ad.block,i,none⟩) (hS hm _ ((h.own hm).2 ad ha).1)];exact h.soft hm h1 ad ha i} fun i f tc ht=>ih i f tc ht hR fun hm k hk=> ?_
  ·intro ad ha i f tc ht
   rw[fm (w:=w)]
   ·exact h.cell ad ha i f tc ht
   ·rw[cn]
    by_cases hm:m= .snap
    ·exact(hR _ (h.read hm ad ha (Ia ht))).2
    ·exact hS hm _ ((h.own hm).2 ad ha).1
  ·exact fun hm ad ha hne=>(hR _ (h.read hm ad ha hne)).1
  ·intro hm
   refine⟨(h.own hm).1,fun ad ha=>⟨((h.own hm).2 ad ha).1,((h.own hm).2 ad ha).2.1,fun j hj=> ?_⟩⟩
   have hb:=hS hm _ ((h.own hm).2 ad ha).1
   obtain⟨⟨x,hx⟩,hf⟩:=((h.own hm).2 ad ha).2.2 j hj
   exact⟨⟨x,by rw[fm (w:=w) (by exact hb)];exact hx⟩,by rw[kZ (w:=w) (by exact hb)];exact hf⟩
  ·have:=ue hm
   subst this
   exact hS (by simp) k (h.disj rfl i f k hk).1
theorem ax.freeze (h:ax w R m S c v):(∀k,R k→R' k)→(m≠ .snap→ ∀k,S k→R' k)→ax w R' .snap S' c v:=by
 induction h generalizing S' with
 |any _ _ _ h=>exact fun _ _=> .any _ _ _ h
 |sc _ _ _ h=>exact fun _ _=> .sc _ _ _ h
 |sub m S z rows A c u T h hn ih=>
  intro hR hS
  refine .sub _ _ z rows A c u (fun _ _ _=>False) {h with read:= ?_,own:=fun hm=>absurd rfl hm,soft:=fun hm=>absurd rfl hm,disj:=fun hm=>by cases hm} fun i f tc ht=>ih i f tc ht hR fun hm k hk=> ?_
  ·intro _ ad ha hne
   by_cases hm:m= .snap
   ·exact hR _ (h.read hm ad ha hne)
   ·exact hS hm _ ((h.own hm).2 ad ha).1
  ·have:=ue hm
   subst this
   exact hS (by simp) k (h.disj rfl i f k hk).1
theorem ax.pW (h:ax w R .snap S c v) (hR: ∀k,R k→R' k):ax w R' .snap S' c v:=h.freeze hR fun h=>absurd rfl h
end Go.T
namespace Go.T
theorem ki {o:Nat}: ∀{l:List Nat},mh o l=true↔o∈l
 |[]=>by simp[mh]
 |a::r=>by
  simp only[mh,List.mem_cons]
  cases h:Nat.beq a o with
  |true=>simp[Nat.eq_of_beq_eq_true h]
  |false=>simp only[ki (l:=r)];have:=Nat.ne_of_beq_eq_false h;simp[Ne.symm this]
theorem dQ {o:Nat} {l:List Nat}:mh o l=false↔o∉l:=by
 rw[←ki];simp
theorem yB {o d:Nat}: ∀{l:List Nat},d∈Tg o l↔d∈l∧d≠o
 |[]=>by simp[Tg]
 |a::r=>by
  simp only[Tg]
  cases h:Nat.beq a o with
  |true=>
   have h1:=Nat.eq_of_beq_eq_true h
   subst h1
   simp only[yB (l:=r),List.mem_cons]
   exact⟨fun⟨x,y⟩=>⟨.inr x,y⟩,fun⟨x,y⟩=>⟨x.resolve_left y,y⟩⟩
  |false=>
   have h1:=Nat.ne_of_beq_eq_false h
   simp only[List.mem_cons,yB (l:=r)]
   constructor
   ·rintro(rfl|⟨x,y⟩)
    ·exact⟨.inl rfl,h1⟩
    ·exact⟨.inr x,y⟩
   ·rintro⟨rfl|x,y⟩
    ·exact .inl rfl
    ·exact .inr ⟨x,y⟩
theorem qW {a:List Nat} {l:List Nat} (h:tU a l=false) {x:Nat} (hx:x∈a):x∉l:=by
 induction a with
 |nil=>cases hx
 |cons y r ih=>
  simp only[tU] at h
  cases h1:mh y l with
  |true=>rw[h1] at h;cases h
  |false=>
   rw[h1] at h
   rcases List.mem_cons.1 hx with rfl|hx
   ·exact dQ.1 h1
   ·exact ih h hx
theorem beq_false {a b:Nat} (h:a≠b):Nat.beq a b=false:=by
 cases h1:Nat.beq a b with
 |true=>exact absurd (Nat.eq_of_beq_eq_true h1) h
 |false=>rfl
theorem C7 (a:Nat):Nat.beq a a=true:=by simp
section
variable {α β : Type}
theorem eT (i j:Nat) (e:α): ∀(l:List (Nat×α)),aq j (nW i e l)=if j=i then some e else aq j l
 |[]=>by
  simp only[nW,aq]
  by_cases h:j=i
  ·subst h;simp
  ·rw[beq_false (Ne.symm h),if_neg h]
 |(a,x)::r=>by
  have ih:=eT i j e r
  simp only[nW]
  cases h1:Nat.beq a i with
  |true=>
   have h1:=Nat.eq_of_beq_eq_true h1
   subst h1
   simp only[aq]
   by_cases h:j=a
   ·subst h;simp
   ·rw[beq_false (Ne.symm h),if_neg h]
  |false=>
   have h1:=Nat.ne_of_beq_eq_false h1
   cases h2:Nat.ble i a with
   |true=>
    simp only[aq]
    by_cases h:j=i
    ·subst h;simp
    ·rw[beq_false (Ne.symm h),if_neg h]
   |false=>
    simp only[aq]
    by_cases h3:a=j
    ·subst h3;rw[C7,if_neg h1]
    ·rw[beq_false h3];exact ih
theorem iG (i j:Nat): ∀(l:List (Nat×α)),aq j (p9 i l)=if j=i then none else aq j l
 |[]=>by simp[p9,aq]
 |(a,x)::r=>by
  have ih:=iG i j r
  simp only[p9]
  cases h1:Nat.beq a i with
  |true=>
   have h1:=Nat.eq_of_beq_eq_true h1
   subst h1
   simp only[aq,ih]
   by_cases h:j=a
   ·simp[h]
   ·rw[beq_false (Ne.symm h)]
  |false=>
   have h1:=Nat.ne_of_beq_eq_false h1
   simp only[aq]
   by_cases h3:a=j
   ·subst h3;rw[C7,if_neg h1]
   ·rw[beq_false h3];exact ih
theorem r7 (f:α→α) (j:Nat): ∀(l:List (Nat×α)),aq j (mapA f l)=(aq j l).map f
 |[]=>rfl
 |(a,x)::r=>by
  simp only[mapA,aq]
  cases Nat.beq a j with
  |true=>rfl
  |false=>exact r7 f j r
theorem MZ (l:List Nat) (j:Nat): ∀(m:List (Nat×α)),aq j (AN l m)=if j∈l then aq j m else none
 |[]=>by simp[AN,aq]
 |(a,x)::r=>by
  have ih:=MZ l j r
  simp only[AN]
  cases h1:mh a l with
  |true=>
   have h1:=ki.1 h1
   simp only[aq]
   by_cases h:a=j
   ·subst h;rw[C7,if_pos h1]
   ·rw[beq_false h];exact ih
  |false=>
   have h1:=dQ.1 h1
   simp only[aq,ih]
   by_cases h:a=j
   ·subst h;rw[if_neg h1,if_neg h1]
   ·rw[beq_false h]
end
structure Fp where
 I:Nat→Prop
 S:Nat→Nat→Prop
 V:Nat→Value
 β:Nat→Addr
def rd (φ:Fp) (ds:List Nat) (k:Nat):Prop:=φ.I k∨ ∃d,d∈ds∧φ.S d k
abbrev HV:Nat→Prop:=fun _=>False
def OB.m (b:OB):Mode:=if b.deep then .deep else .top
def nX (w:World) (φ:Fp) (o:Nat) (b:OB):Prop:=ax w φ.I b.m (φ.S o) (.sub b.z b.rows) (φ.V o)
def AO (z n:Nat) (l h:Int) (V v:Value):Prop:=
 0≤l∧l≤h∧h≤n∧ ∃A A' c,V= .slice A n c∧v= .slice A' (h.toNat-l.toNat) (c-l.toNat)∧(c≠l.toNat→A'=A.map fun a=>a.add (l.toNat*z))∧(A=none→A'=none)∧
  ∀ad,A=some ad→ ∃ad',A'=some ad'∧ad'.block=ad.block∧(ad.spot=none→ad'.spot=none)
def aF (ob:List (Nat×OB)) (d:Nat):Prop:= ∃b,aq d ob=some b
def V6 (ob:List (Nat×OB)) (w:World) (φ:Fp) (z:Nat) (rows:List (List TC)) (v:Value) (o:Nat) (i:Int) (f:Nat):Prop:=
 ∃b,aq o ob=some b∧0≤i∧vU b.rows i.toNat f=some (.sub z rows)∧ ∃ad n c,φ.V o= .slice (some ad) n c∧w.cell? (ad.add (i.toNat*b.z+f))=some v
def dn (ob:List (Nat×OB)) (w:World) (φ:Fp) (e:CE) (v:Value):Prop:=
 match e with
 | .sc x=>v=x∧Ks x
 | .nil z=>v= .slice none 0 0∧0<z
 | .ref o cut=> ∃b,aq o ob=some b∧match cut with
   |none=>v=φ.V o
   |some (l,h)=>AO b.z b.rows.length l h (φ.V o) v
 | .snap ds loc z rows=>(∀d∈ds,d=0∨aF ob d)∧ax w (rd φ ds) .snap HV (.sub z rows) v∧ ∀o i f,loc=some (o,i,f)→o∈ds∧V6 ob w φ z rows v o i f
 | .gone=>True
def mG (ob:List (Nat×OB)) (w:World) (φ:Fp) (c:qK) (u:Value):Prop:=
 match c with
 | .mk true cs=> ∃xs:Array Value,u= .agg xs∧xs.size=cs.length∧ ∀(j:Nat) (e:CE),cs[j]?=some e→ ∃x,xs[j]?=some x∧x.cells= #[x]∧dn ob w φ e x
 | .mk false cs=> ∃e,cs=[e]∧u.cells= #[u]∧dn ob w φ e u
 | .ptr b=>u= .pointer (some (φ.β b))
def cC (ob:List (Nat×OB)) (w:World) (φ:Fp) (e:TE) (v:Value):Prop:=
 match e with
 | .dead=>True
 | .v true es=> ∃vs:Array Value,v= .tuple vs∧vs.size=es.length∧ ∀(k:Nat) (c:qK),es[k]?=some c→ ∃u,vs[k]?=some u∧mG ob w φ c u
 | .v false es=> ∃c,es=[c]∧mG ob w φ c v
 | .bp b off=>v= .pointer (some ((φ.β b).add off))
 | .ep ds cells=>(∀d∈ds,d=0∨aF ob d)∧ ∃ad,v= .pointer (some ad)∧(cells≠[]→rd φ ds ad.block)∧ ∀(j:Nat) (tc:TC),cells[j]?=some tc→ ∃u,w.cell? (ad.add j)=some u∧ax w (rd φ ds) .snap HV tc u
 | .er o path i f=> ∃b,aq o ob=some b∧0≤i∧ ∃ad n c,φ.V o= .slice (some ad) n c∧match path with
   |none=>v= .pointer (some (ad.add (i.toNat*b.z+f)))
   |some (i0,f0)=>0≤i0∧ ∃z1 rows1,vU b.rows i0.toNat f0=some (.sub z1 rows1)∧ ∃ad1 n1 c1,w.cell? (ad.add (i0.toNat*b.z+f0))=some (.slice (some ad1) n1 c1)∧
    v= .pointer (some (ad1.add (i.toNat*z1+f)))
 | .fn f caps=>v= .func (.func f) #[] (caps.map fun b=>Value.pointer (some (φ.β b))).toArray
 | .kb b=>v= .bool b
structure Gq (F:Nat→Prop) (w0 w:World):Prop where
 os:w.os=w0.os
 tape:w.tape=w0.tape
 output:w.output=w0.output
 size:w0.heap.size≤w.heap.size
 block: ∀k,k<w0.heap.size→ ¬F k→w.heap[k]?=w0.heap[k]?
structure Arg where
 all:Nat→Prop
 sh:Nat→Prop
structure Sep (F:Nat→Prop) (A:Arg) (w0 w:World) (φ:Fp) (bx:List (Nat×List CE)) (ob:List (Nat×OB)):Prop where
 arg:φ.S 0=A.all
 nz: ∀o,aF ob o→o≠0
 apart: ∀o o' k,aF ob o→aF ob o'→φ.S o k→φ.S o' k→o=o'
 read: ∀o k,aF ob o→φ.S o k→ ¬φ.I k
 fresh: ∀o k,aF ob o→φ.S o k→k<w.heap.size∧(w0.heap.size≤k∨F k)
 ro: ∀k,φ.I k→k<w.heap.size∧(w0.heap.size≤k∨F k∨A.sh k)
 came: ∀k,A.all k→k<w0.heap.size∧ ¬F k
 box: ∀b cs,aq b bx=some cs→yu b=true→ ¬φ.I (φ.β b).block∧(∀o,aF ob o→ ¬φ.S o (φ.β b).block)∧(w0.heap.size≤(φ.β b).block∨F (φ.β b).block)∧
  ∀b' cs',aq b' bx=some cs'→b'≠b→(φ.β b').block≠(φ.β b).block
 spot: ∀b cs,aq b bx=some cs→(yu b=true→(φ.β b).spot=none)∧(φ.β b).block<w.heap.size∧(yu b=false→A.all (φ.β b).block)
 soft: ∀b cs j,aq b bx=some cs→yu b=true→j<cs.length→w.frozen? ((φ.β b).add j)=false
structure aT (F:Nat→Prop) (A:Arg) (w0:World) (φ:Fp) (st:TS) (tm:Array Value) (w:World):Prop where
 tmp: ∀i,cC st.ob w φ (st.get i) (tm.getD i undef)
 box: ∀b cs,aq b st.bx=some cs→ ∀(j:Nat) (e:CE),cs[j]?=some e→ ∃v,w.cell? ((φ.β b).add j)=some v∧v.cells= #[v]∧dn st.ob w φ e v
 obj: ∀o b,aq o st.ob=some b→nX w φ o b
 sep:Sep F A w0 w φ st.bx st.ob
 frm:Gq F w0 w
def Rel (F:Nat→Prop) (A:Arg) (w0:World) (st:TS) (tm:Array Value) (w:World):Prop:= ∃φ,aT F A w0 φ st tm w
section
variable {ob ob' : List (Nat × OB)} {w w' : World} {φ φ' : Fp} {f : CE → CE} {g : TE → TE}
def uH (f:CE→CE):qK→qK
 | .mk a cs=> .mk a (cs.map f)
 | .ptr b=> .ptr b
theorem uf (f:CE→CE): ∀(es:List qK) (k:Nat),(kY f es)[k]?=(es[k]?).map (uH f)
 |[],_=>by simp[kY]
 | .mk a cs::r,0=>by simp[kY,uH]
 | .ptr b::r,0=>by simp[kY,uH]
 | .mk a cs::r,k+1=>by simp[kY,uf f r k]
 | .ptr b::r,k+1=>by simp[kY,uf f r k]
theorem qj (f:CE→CE): ∀(es:List qK),(kY f es).length=es.length
 |[]=>rfl
 | .mk a cs::r=>by simp[kY,qj f r]
 | .ptr b::r=>by simp[kY,qj f r]
theorem mG.Fj (hβ:φ'.β=φ.β) (hc: ∀e v,dn ob w φ e v→dn ob' w' φ' (f e) v) {c:qK} {u:Value} (h:mG ob w φ c u):
 mG ob' w' φ' (uH f c) u:=by
 cases c with
 |ptr b=>simp only[mG,uH] at h ⊢;rw[hβ];exact h
 |mk a cs=>
  cases a with
  |true=>
   obtain⟨xs,h1,h2,h3⟩:=h
   refine⟨xs,h1,by simp[h2],fun j e he=> ?_⟩
   rw[List.getElem?_map] at he
   cases h4:cs[j]? with
   |none=>rw[h4] at he;cases he
   |some e0=>
    rw[h4] at he
    simp only[Option.map_some,Option.some.injEq] at he
    subst he
    obtain⟨x,hx,hx1,hok⟩:=h3 j e0 h4
    exact⟨x,hx,hx1,hc _ _ hok⟩
  |false=>
   obtain⟨e,rfl,h2,h3⟩:=h
   exact⟨f e,rfl,h2,hc _ _ h3⟩
theorem cC.Fj (hβ:φ'.β=φ.β) (hc: ∀e v,dn ob w φ e v→dn ob' w' φ' (f e) v) (ht: ∀e v,(∀t es,e≠ .v t es)→cC ob w φ e v→cC ob' w' φ' (g e) v) {e:TE} {v:Value} (h:cC ob w φ e v):
 cC ob' w' φ' (x9 f g e) v:=by
 by_cases hv: ∃t es,e= .v t es
 ·obtain⟨tup,es,rfl⟩:=hv
  cases tup with
  |true=>
   obtain⟨vs,h1,h2,h3⟩:=h
   refine⟨vs,h1,by rw[qj];exact h2,fun k c hk=> ?_⟩
   rw[uf] at hk
   cases h4:es[k]? with
   |none=>rw[h4] at hk;cases hk
   |some c0=>
    rw[h4] at hk
    simp only[Option.map_some,Option.some.injEq] at hk
    obtain⟨u,hu,hok⟩:=h3 k c0 h4
    exact⟨u,hu,by rw[←hk];exact hok.Fj hβ hc⟩
  |false=>
   obtain⟨c,rfl,hok⟩:=h
   refine⟨_,?_,hok.Fj hβ hc⟩
   cases c<;>rfl
 ·have h1:x9 f g e=g e:=by cases e<;>first|rfl|exact absurd ⟨_,_,rfl⟩ hv
  rw[h1]
  exact ht e v (fun t es he=>hv ⟨t,es,he⟩) h
end
theorem get_map (f:CE→CE) (g:TE→TE) (h:List (Nat×OB)→List (Nat×OB)) (hd:g .dead= .dead) (st:TS) (i:Nat):(vO f g h st).get i=x9 f g (st.get i):=by
 unfold TS.get vO
 simp only[r7]
 cases aq i st.tm with
 |none=>exact hd.symm
 |some e=>rfl
variable {F : Nat → Prop} {A : Arg} {w0 w w' : World} {φ φ' : Fp} {st st' : TS} {tm tm' : Array Value}
theorem aT.Fj (h:aT F A w0 φ st tm w) {f:CE→CE} {g:TE→TE} {k:List (Nat×OB)→List (Nat×OB)} (hd:g .dead= .dead) (hβ:φ'.β=φ.β)
 (hc: ∀e v,dn st.ob w φ e v→dn (k st.ob) w' φ' (f e) v) (ht: ∀e v,(∀t es,e≠ .v t es)→cC st.ob w φ e v→cC (k st.ob) w' φ' (g e) v)
 (hw: ∀b cs,aq b st.bx=some cs→ ∀j,j<cs.length→w'.cell? ((φ.β b).add j)=w.cell? ((φ.β b).add j))
 (ho: ∀o b,aq o (k st.ob)=some b→nX w' φ' o b) (hs:Sep F A w0 w' φ' (mapA (List.map f) st.bx) (k st.ob)) (hf:Gq F w0 w'):aT F A w0 φ' (vO f g k st) tm w' where
 tmp i:=by rw[get_map f g k hd];exact(h.tmp i).Fj hβ hc ht
 box b cs hb j e he:=by
  simp only[vO,r7] at hb
  cases h1:aq b st.bx with
  |none=>rw[h1] at hb;cases hb
  |some cs0=>
   rw[h1] at hb
   simp only[Option.map_some,Option.some.injEq] at hb
   subst hb
   rw[List.getElem?_map] at he
   cases h2:cs0[j]? with
   |none=>rw[h2] at he;cases he
   |some e0=>
    rw[h2] at he
    simp only[Option.map_some,Option.some.injEq] at he
    subst he
    obtain⟨v,hv,h1c,hok⟩:=h.box b cs0 h1 j e0 h2
    refine⟨v,?_,h1c,hc _ _ hok⟩
    rw[hβ,hw b cs0 h1 j (List.getElem?_eq_some_iff.1 h2).1]
    exact hv
 obj:=ho
 sep:=hs
 frm:=hf
theorem Sep.boxes {bx bx':List (Nat×List CE)} {ob:List (Nat×OB)} (h:Sep F A w0 w φ bx ob) (hb: ∀b cs',aq b bx'=some cs'→ ∃cs,aq b bx=some cs∧cs'.length=cs.length):Sep F A w0 w φ bx' ob where
 arg:=h.arg
 nz:=h.nz
 apart:=h.apart
 read:=h.read
 fresh:=h.fresh
 ro:=h.ro
 came:=h.came
 box b cs' hl hw:=by
  obtain⟨cs,h1,_⟩:=hb b cs' hl
  obtain⟨a1,a2,a3,a4⟩:=h.box b cs h1 hw
  refine⟨a1,a2,a3,fun b' cs'' hl' hne=> ?_⟩
  obtain⟨cs2,h2,_⟩:=hb b' cs'' hl'
  exact a4 b' cs2 h2 hne
 spot b cs' hl:=by obtain⟨cs,h1,_⟩:=hb b cs' hl;exact h.spot b cs h1
 soft b cs' j hl hw hj:=by obtain⟨cs,h1,h2⟩:=hb b cs' hl;exact h.soft b cs j h1 hw (by omega)
theorem gM (f:CE→CE) {bx:List (Nat×List CE)}: ∀b cs',aq b (mapA (List.map f) bx)=some cs'→ ∃cs,aq b bx=some cs∧cs'.length=cs.length:=by
 intro b cs' h
 rw[r7] at h
 cases h1:aq b bx with
 |none=>rw[h1] at h;cases h
 |some cs=>
  rw[h1] at h
  simp only[Option.map_some,Option.some.injEq] at h
  exact⟨cs,rfl,by rw[←h];simp⟩
theorem Sep.lt {bx:List (Nat×List CE)} {ob:List (Nat×OB)} (h:Sep F A w0 w φ bx ob) (hs:w0.heap.size≤w.heap.size) {d:Nat} (hd:d=0∨aF ob d) {k:Nat} (hk:φ.S d k):k<w.heap.size:=by
 rcases hd with rfl|hd
 ·rw[h.arg] at hk;exact Nat.lt_of_lt_of_le (h.came k hk).1 hs
 ·exact(h.fresh d k hd hk).1
theorem Sep.abO {bx:List (Nat×List CE)} {ob:List (Nat×OB)} (h:Sep F A w0 w φ bx ob) (hs:w0.heap.size≤w.heap.size) {ds:List Nat} (hd: ∀d∈ds,d=0∨aF ob d) {k:Nat} (hk:rd φ ds k):k<w.heap.size:=by
 rcases hk with hk|⟨d,hm,hk⟩
 ·exact(h.ro k hk).1
 ·exact h.lt hs (hd d hm) hk
structure mA (w w':World):Prop where
 os:w'.os=w.os
 tape:w'.tape=w.tape
 output:w'.output=w.output
 size:w.heap.size≤w'.heap.size
 block: ∀k,k<w.heap.size→w'.heap[k]?=w.heap[k]?
theorem mA.refl (w:World):mA w w:=⟨rfl,rfl,rfl,Nat.le_refl _,fun _ _=>rfl⟩
theorem mA.alloc (w:World) (o:Obj):mA w (w.alloc o):=⟨rfl,rfl,rfl,by simp,fun k hk=>heap_alloc_old w o hk⟩
theorem mA.drew (w:World):mA w w.drew:=⟨rfl,rfl,rfl,Nat.le_refl _,fun _ _=>rfl⟩
theorem mA.trans {a b c:World} (h:mA a b) (k:mA b c):mA a c:=
 ⟨k.os.trans h.os,k.tape.trans h.tape,k.output.trans h.output,Nat.le_trans h.size k.size,fun i hi=>(k.block i (Nat.lt_of_lt_of_le hi h.size)).trans (h.block i hi)⟩
theorem Gq.Gr (h:Gq F w0 w) (g:mA w w'):Gq F w0 w':=
 ⟨g.os.trans h.os,g.tape.trans h.tape,g.output.trans h.output,Nat.le_trans h.size g.size,fun k hk hf=>(g.block k (Nat.lt_of_lt_of_le hk h.size)).trans (h.block k hk hf)⟩
theorem mA.cell (g:mA w w') {a:Addr} {v:Value} (h:w.cell? a=some v):w'.cell? a=some v:=by
 rw[fm (w:=w) (g.block _ (World.block_lt_of_cell? w a h))];exact h
theorem mA.Gs (g:mA w w') {a:Addr} (h:a.block<w.heap.size):w'.cell? a=w.cell? a:=fm (g.block _ h)
theorem dn.stay {ob:List (Nat×OB)} (hI: ∀k,φ.I k→w'.heap[k]?=w.heap[k]?) (hS: ∀d k,d=0∨aF ob d→φ.S d k→w'.heap[k]?=w.heap[k]?)
 (hV: ∀o,aF ob o→ ∀ad n c,φ.V o= .slice (some ad) n c→ ∀i v,w.cell? (ad.add i)=some v→w'.cell? (ad.add i)=some v) {e:CE} {v:Value} (h:dn ob w φ e v):dn ob w' φ e v:=by
 cases e with
 |snap ds loc z rows=>
  obtain⟨h1,h2,h3⟩:=h
  refine⟨h1,h2.move (fun k hk=>⟨hk,?_⟩) (fun hm=>absurd rfl hm),fun o i f hl=>⟨(h3 o i f hl).1,?_⟩⟩
  ·rcases hk with hk|⟨d,hd,hk⟩
   ·exact hI k hk
   ·exact hS d k (h1 d hd) hk
  ·obtain⟨b,a1,a2,a3,ad,n,c,a4,a5⟩:=(h3 o i f hl).2
   exact⟨b,a1,a2,a3,ad,n,c,a4,hV o ⟨b,a1⟩ ad n c a4 _ _ a5⟩
 |_=>exact h
theorem cC.stay {ob:List (Nat×OB)} (hI: ∀k,φ.I k→w'.heap[k]?=w.heap[k]?) (hS: ∀d k,d=0∨aF ob d→φ.S d k→w'.heap[k]?=w.heap[k]?)
 (hV: ∀o,aF ob o→ ∀ad n c,φ.V o= .slice (some ad) n c→ ∀i v,w.cell? (ad.add i)=some v→w'.cell? (ad.add i)=some v)
 (hA: ∀ad v,w.cell? ad=some v→(∀k,ad.block=k→w'.heap[k]?=w.heap[k]?)→w'.cell? ad=some v) (hE: ∀ds cells v,cC ob w φ (.ep ds cells) v→cC ob w' φ (.ep ds cells) v) {e:TE} {v:Value} (hv: ∀t es,e≠ .v t es)
 (h:cC ob w φ e v):cC ob w' φ e v:=by
 cases e with
 |v t es=>exact absurd rfl (hv t es)
 |ep ds cells=>exact hE ds cells v h
 |er o path i f=>
  obtain⟨b,h1,h2,ad,n,c,h3,h4⟩:=h
  refine⟨b,h1,h2,ad,n,c,h3,?_⟩
  cases path with
  |none=>exact h4
  |some q=>
   obtain⟨i0,f0⟩:=q
   obtain⟨a1,z1,rows1,a2,ad1,n1,c1,a3,a4⟩:=h4
   exact⟨a1,z1,rows1,a2,ad1,n1,c1,hV o ⟨b,h1⟩ ad n c h3 _ _ a3,a4⟩
 |_=>exact h
theorem uI (st:TS):vO id id id st=st:=by
 have h1: ∀(es:List qK),kY id es=es:=by
  intro es
  induction es with
  |nil=>rfl
  |cons c r ih=>cases c<;>simp[kY,ih]
 have h2: ∀e:TE,x9 id id e=e:=by
  intro e;cases e<;>first|rfl|(simp only[x9,h1])
 have h3: ∀{α:Type} (f:α→α) (hf: ∀a,f a=a) (l:List (Nat×α)),mapA f l=l:=by
  intro α f hf l
  induction l with
  |nil=>rfl
  |cons a r ih=>obtain⟨j,x⟩:=a;simp only[mapA,hf,ih]
 unfold vO
 rw[h3 _ h2,h3 _ (fun l=>List.map_id l)]
 rfl
theorem Sep.Gr {bx:List (Nat×List CE)} {ob:List (Nat×OB)} (h:Sep F A w0 w φ bx ob) (g:mA w w'):Sep F A w0 w' φ bx ob where
 arg:=h.arg
 nz:=h.nz
 apart:=h.apart
 read:=h.read
 fresh o k ho hk:=⟨Nat.lt_of_lt_of_le (h.fresh o k ho hk).1 g.size,(h.fresh o k ho hk).2⟩
 ro k hk:=⟨Nat.lt_of_lt_of_le (h.ro k hk).1 g.size,(h.ro k hk).2⟩
 came:=h.came
 box:=h.box
 spot b cs hb:=⟨(h.spot b cs hb).1,Nat.lt_of_lt_of_le (h.spot b cs hb).2.1 g.size,(h.spot b cs hb).2.2⟩
 soft b cs j hb hw hj:=by
  rw[kZ (w:=w) (g.block _ (by rw[cn];exact(h.spot b cs hb).2.1))]
  exact h.soft b cs j hb hw hj
theorem aT.Gr (h:aT F A w0 φ st tm w) (g:mA w w'):aT F A w0 φ st tm w':=by
 have hI: ∀k,φ.I k→w'.heap[k]?=w.heap[k]?:=fun k hk=>g.block k (h.sep.ro k hk).1
 have hS: ∀d k,d=0∨aF st.ob d→φ.S d k→w'.heap[k]?=w.heap[k]?:=fun d k hd hk=>g.block k (h.sep.lt h.frm.size hd hk)
 have hE: ∀ds cells v,cC st.ob w φ (.ep ds cells) v→cC st.ob w' φ (.ep ds cells) v:=by
  intro ds cells v ⟨h1,ad,h2,hr,h3⟩
  refine⟨h1,ad,h2,hr,fun j tc hj=> ?_⟩
  obtain⟨u,h4,h5⟩:=h3 j tc hj
  exact⟨u,g.cell h4,h5.move (fun k hk=>⟨hk,g.block k (h.sep.abO h.frm.size h1 hk)⟩) (fun hm=>absurd rfl hm)⟩
 have:=h.Fj (f:=id) (g:=id) (k:=id) (φ':=φ) (w':=w') rfl rfl (fun e v he=>he.stay hI hS (fun o ho ad n c hv i v hc=>g.cell hc))
  (fun e v hv he=>cC.stay hI hS (fun o ho ad n c hv i v hc=>g.cell hc) (fun ad v hc _=>g.cell hc) hE hv he)
  (fun b cs hb j hj=>g.Gs (by rw[cn];exact(h.sep.spot b cs hb).2.1))
  (fun o b hb=>(h.obj o b hb).move (fun k hk=>⟨hk,hI k hk⟩) (fun _ k hk=>hS o k (.inr ⟨b,hb⟩) hk))
  (by
    have h3:mapA (List.map (id:CE→CE)) st.bx=st.bx:=by
     have:=congrArg TS.bx (uI st)
     exact this
    rw[h3]
    exact h.sep.Gr g) (h.frm.Gr g)
 rw[uI] at this
 exact this
end Go.T
namespace Go.T
variable {F : Nat → Prop} {A : Arg} {w0 w w' : World} {φ φ' : Fp} {st st' : TS} {tm tm' : Array Value}
theorem getD_set_ne (tm:Array Value) (d i:Nat) (v x:Value) (h:i≠d):(tm.setIfInBounds d v).getD i x=tm.getD i x:=by
 simp only[Array.getD_eq_getD_getElem?,Array.getElem?_setIfInBounds]
 rw[if_neg fun h'=>h h'.symm]
theorem O2 (tm:Array Value) (d:Nat) (v x:Value) (h:d<tm.size):(tm.setIfInBounds d v).getD d x=v:=by
 simp only[Array.getD_eq_getD_getElem?,Array.getElem?_setIfInBounds]
 simp[h]
theorem RY (st:TS) (d i:Nat) (e:TE):(st.set d e).get i=if i=d then e else st.get i:=by
 unfold TS.get TS.set
 simp only[eT]
 by_cases h:i=d
 ·simp[h]
 ·simp[h]
theorem aT.O3 (h:aT F A w0 φ st tm w) {d:Nat} {e:TE} {v:Value} (hd:d<tm.size) (ht:cC st.ob w φ e v):aT F A w0 φ (st.set d e) (tm.setIfInBounds d v) w where
 tmp i:=by
  rw[RY]
  by_cases hi:i=d
  ·subst hi;rw[if_pos rfl,O2 _ _ _ _ hd];exact ht
  ·rw[if_neg hi,getD_set_ne _ _ _ _ _ hi];exact h.tmp i
 box:=h.box
 obj:=h.obj
 sep:=h.sep
 frm:=h.frm
theorem aT.Z3 (h:aT F A w0 φ st tm w) {d:Nat} {e:TE} (ht:cC st.ob w φ e (tm.getD d undef)):aT F A w0 φ (st.set d e) tm w where
 tmp i:=by
  rw[RY]
  by_cases hi:i=d
  ·subst hi;rw[if_pos rfl];exact ht
  ·rw[if_neg hi];exact h.tmp i
 box:=h.box
 obj:=h.obj
 sep:=h.sep
 frm:=h.frm
theorem Sep.sub {bx:List (Nat×List CE)} {ob ob':List (Nat×OB)} (h:Sep F A w0 w φ bx ob) (hd: ∀o,aF ob' o→aF ob o):Sep F A w0 w φ bx ob' where
 arg:=h.arg
 nz o ho:=h.nz o (hd o ho)
 apart o o' k h1 h2:=h.apart o o' k (hd o h1) (hd o' h2)
 read o k ho:=h.read o k (hd o ho)
 fresh o k ho:=h.fresh o k (hd o ho)
 ro:=h.ro
 came:=h.came
 box b cs hb hw:=by
  obtain⟨a1,a2,a3,a4⟩:=h.box b cs hb hw
  exact⟨a1,fun o ho=>a2 o (hd o ho),a3,a4⟩
 spot:=h.spot
 soft:=h.soft
theorem nM {o d:Nat} {ob:List (Nat×OB)}:aF (p9 o ob) d↔d≠o∧aF ob d:=by
 unfold aF
 rw[iG]
 by_cases h:d=o
 ·simp[h]
 ·simp[h]
theorem uJ {o d:Nat} {ob:List (Nat×OB)} (h:d≠o):aq d (p9 o ob)=aq d ob:=by rw[iG,if_neg h]
theorem dn.kill {o:Nat} {ob:List (Nat×OB)} {e:CE} {v:Value} (h:dn ob w φ e v):dn (p9 o ob) w φ (Q1 o e) v:=by
 unfold Q1
 cases hd:mh o (fQ e) with
 |true=>trivial
 |false=>
  have hd:=dQ.1 hd
  cases e with
  |ref p cut=>
   simp only[fQ,List.mem_singleton] at hd
   obtain⟨b,h1,h2⟩:=h
   exact⟨b,by rw[uJ (Ne.symm hd)];exact h1,h2⟩
  |snap ds loc z rows=>
   simp only[fQ] at hd
   obtain⟨h1,h2,h3⟩:=h
   refine⟨fun d hm=> ?_,h2,fun p i f hl=> ?_⟩
   ·rcases h1 d hm with h|h
    ·exact .inl h
    ·exact .inr (nM.2 ⟨fun e=>hd (e▸hm),h⟩)
   ·obtain⟨a1,b,a2,a3⟩:=h3 p i f hl
    have hp:p≠o:=fun e=>by subst e;exact hd a1
    exact⟨a1,b,by rw[uJ hp];exact a2,a3⟩
  |_=>exact h
theorem cC.kill {o:Nat} {ob:List (Nat×OB)} {e:TE} {v:Value} (hv: ∀t es,e≠ .v t es) (h:cC ob w φ e v):cC (p9 o ob) w φ (VZ o e) v:=by
 cases e with
 |v t es=>exact absurd rfl (hv t es)
 |ep ds cells=>
  simp only[VZ]
  cases hd:mh o ds with
  |true=>trivial
  |false=>
   have hd:=dQ.1 hd
   obtain⟨h1,h2⟩:=h
   refine⟨fun d hm=> ?_,h2⟩
   rcases h1 d hm with h|h
   ·exact .inl h
   ·exact .inr (nM.2 ⟨fun e=>hd (e▸hm),h⟩)
 |er p path i f=>
  simp only[VZ]
  cases hd:Nat.beq p o with
  |true=>trivial
  |false=>
   have hd:=Nat.ne_of_beq_eq_false hd
   obtain⟨b,h1,h2⟩:=h
   exact⟨b,by rw[uJ hd];exact h1,h2⟩
 |_=>exact h
theorem aT.ni (h:aT F A w0 φ st tm w) (o:Nat):aT F A w0 φ (ni o st) tm w:=by
 refine h.Fj (φ':=φ) rfl rfl (fun e v he=>he.kill) (fun e v hv he=>he.kill hv) (fun _ _ _ _ _=>rfl) (fun p b hb=> ?_) ?_ h.frm
 ·rw[iG] at hb
  split at hb
  ·cases hb
  ·exact h.obj p b hb
 ·exact(h.sep.boxes (gM _)).sub fun d hd=>(nM.1 hd).2
theorem j6 {o d:Nat}:aF (T.ni o st).ob d↔d≠o∧aF st.ob d:=nM
theorem Q4 {o d:Nat} (h:d≠o):aq d (T.ni o st).ob=aq d st.ob:=uJ h
def Fp.more (φ:Fp) (X:Nat→Prop):Fp:={φ with I:=fun k=>φ.I k∨X k}
theorem RZ {X:Nat→Prop} {ds:List Nat} {k:Nat} (h:rd φ ds k):rd (φ.more X) ds k:=h.imp .inl id
theorem ax.oP {R R' S:Nat→Prop} {m:Mode} {c:TC} {v:Value} (h:ax w R m S c v) (hR: ∀k,R k→R' k):ax w R' m S c v:=
 h.move (fun k hk=>⟨hR k hk,rfl⟩) fun _ _ _=>rfl
theorem dn.more {X:Nat→Prop} {ob:List (Nat×OB)} {e:CE} {v:Value} (h:dn ob w φ e v):dn ob w (φ.more X) e v:=by
 cases e with
 |snap ds loc z rows=>
  obtain⟨h1,h2,h3⟩:=h
  exact⟨h1,h2.oP fun k hk=>RZ hk,h3⟩
 |_=>exact h
theorem cC.more {X:Nat→Prop} {ob:List (Nat×OB)} {e:TE} {v:Value} (hv: ∀t es,e≠ .v t es) (h:cC ob w φ e v):cC ob w (φ.more X) e v:=by
 cases e with
 |v t es=>exact absurd rfl (hv t es)
 |ep ds cells=>
  obtain⟨h1,ad,h2,hr,h3⟩:=h
  refine⟨h1,ad,h2,fun hc=>RZ (hr hc),fun j tc hj=> ?_⟩
  obtain⟨u,h4,h5⟩:=h3 j tc hj
  exact⟨u,h4,h5.oP fun k hk=>RZ hk⟩
 |_=>exact h
theorem Ib (st:TS):mapA (List.map (id:CE→CE)) st.bx=st.bx:=congrArg TS.bx (uI st)
theorem aT.more (h:aT F A w0 φ st tm w) {X:Nat→Prop} (hX: ∀k,X k→k<w.heap.size∧(w0.heap.size≤k∨F k∨A.sh k)) (hS: ∀k o,X k→aF st.ob o→ ¬φ.S o k)
 (hB: ∀b cs,aq b st.bx=some cs→yu b=true→ ¬X (φ.β b).block):aT F A w0 (φ.more X) st tm w:=by
 have:=h.Fj (f:=id) (g:=id) (k:=id) (φ':=φ.more X) (w':=w) rfl rfl (fun e v he=>he.more) (fun e v hv he=>he.more hv) (fun _ _ _ _ _=>rfl)
  (fun o b hb=>(h.obj o b hb).oP fun k hk=> .inl hk)
  (by
    rw[Ib]
    exact {
     arg:=h.sep.arg,nz:=h.sep.nz,apart:=h.sep.apart,fresh:=h.sep.fresh,came:=h.sep.came,spot:=h.sep.spot,soft:=h.sep.soft
     read:=fun o k ho hk hI=>hI.elim (h.sep.read o k ho hk) fun hx=>hS k o hx ho hk
     ro:=fun k hk=>hk.elim (h.sep.ro k) (hX k)
     box:=fun b cs hb hw=>by
      obtain⟨a1,a2,a3,a4⟩:=h.sep.box b cs hb hw
      exact⟨fun hI=>hI.elim a1 (hB b cs hb hw),a2,a3,a4⟩}) h.frm
 rw[uI] at this
 exact this
def Fp.add (φ:Fp) (o:Nat) (X:Nat→Prop) (v:Value):Fp:={φ with S:=fun d k=>if d=o then X k else φ.S d k,V:=fun d=>if d=o then v else φ.V d}
theorem R0 {o:Nat} {X:Nat→Prop} {v:Value} {ds:List Nat} (hd:o∉ds) {k:Nat} (h:rd φ ds k):rd (φ.add o X v) ds k:=by
 rcases h with h|⟨d,hm,h⟩
 ·exact .inl h
 ·refine .inr ⟨d,hm,?_⟩
  show(if d=o then X k else φ.S d k)
  have hp:d≠o:=fun e=>by subst e;exact hd hm
  rw[if_neg hp]
  exact h
theorem tW {o d:Nat} {X:Nat→Prop} {v:Value} (h:d≠o) {k:Nat}:(φ.add o X v).S d k=φ.S d k:=if_neg h
theorem Ye {o d:Nat} {X:Nat→Prop} {v:Value} (h:d≠o):(φ.add o X v).V d=φ.V d:=if_neg h
theorem jr {o d:Nat} {b:OB} {ob:List (Nat×OB)}:aF (nW o b ob) d↔d=o∨aF ob d:=by
 unfold aF
 rw[eT]
 by_cases h:d=o
 ·simp[h]
 ·simp[h]
theorem k9 {o d:Nat} {b:OB} {ob:List (Nat×OB)} (h:d≠o):aq d (nW o b ob)=aq d ob:=by rw[eT,if_neg h]
theorem mj {o:Nat} {b:OB} {ob:List (Nat×OB)}:aq o (nW o b ob)=some b:=by rw[eT,if_pos rfl]
theorem dn.add {o:Nat} {b:OB} {X:Nat→Prop} {V:Value} {ob:List (Nat×OB)} (h0:o≠0) (hn: ¬aF ob o) {e:CE} {v:Value} (h:dn ob w φ e v):dn (nW o b ob) w (φ.add o X V) e v:=by
 cases e with
 |ref p cut=>
  obtain⟨b',h1,h2⟩:=h
  have hp:p≠o:=fun e=>hn ⟨b',e▸h1⟩
  refine⟨b',by rw[k9 hp];exact h1,?_⟩
  rw[Ye hp];exact h2
 |snap ds loc z rows=>
  obtain⟨h1,h2,h3⟩:=h
  have hd:o∉ds:=fun hm=>(h1 o hm).elim h0 hn
  refine⟨fun d hm=>(h1 d hm).imp id fun h=>jr.2 (.inr h),h2.oP fun k hk=>R0 hd hk,fun p i f hl=>⟨(h3 p i f hl).1,?_⟩⟩
  obtain⟨a1,b',a2,a3,a4,ad,n,c,a5,a6⟩:=h3 p i f hl
  have hp:p≠o:=fun e=>hn ⟨b',e▸a2⟩
  exact⟨b',by rw[k9 hp];exact a2,a3,a4,ad,n,c,by rw[Ye hp];exact a5,a6⟩
 |_=>exact h
theorem cC.add {o:Nat} {b:OB} {X:Nat→Prop} {V:Value} {ob:List (Nat×OB)} (h0:o≠0) (hn: ¬aF ob o) {e:TE} {v:Value} (hv: ∀t es,e≠ .v t es) (h:cC ob w φ e v):
 cC (nW o b ob) w (φ.add o X V) e v:=by
 cases e with
 |v t es=>exact absurd rfl (hv t es)
 |ep ds cells=>
  obtain⟨h1,ad,h2,hr,h3⟩:=h
  have hd:o∉ds:=fun hm=>(h1 o hm).elim h0 hn
  refine⟨fun d hm=>(h1 d hm).imp id fun h=>jr.2 (.inr h),ad,h2,fun hc=>R0 hd (hr hc),fun j tc hj=> ?_⟩
  obtain⟨u,h4,h5⟩:=h3 j tc hj
  exact⟨u,h4,h5.oP fun k hk=>R0 hd hk⟩
 |er p path i f=>
  obtain⟨b',h1,h2,ad,n,c,h3,h4⟩:=h
  have hp:p≠o:=fun e=>hn ⟨b',e▸h1⟩
  exact⟨b',by rw[k9 hp];exact h1,h2,ad,n,c,by rw[Ye hp];exact h3,h4⟩
 |_=>exact h
theorem Z4 (st:TS) (o:Nat) (b:OB):st.abC o b=vO id id (nW o b) st:=by
 have h:=uI st
 unfold vO at h ⊢
 have h1:=congrArg TS.tm h
 have h2:=congrArg TS.bx h
 simp only at h1 h2
 rw[h1,h2];rfl
theorem aT.add (h:aT F A w0 φ st tm w) {o:Nat} {b:OB} {X:Nat→Prop} {v:Value} (h0:o≠0) (hn: ¬aF st.ob o) (hc:ax w φ.I b.m X (.sub b.z b.rows) v)
 (hX: ∀k,X k→k<w.heap.size∧(w0.heap.size≤k∨F k)) (hI: ∀k,X k→ ¬φ.I k) (hS: ∀k d,X k→aF st.ob d→ ¬φ.S d k)
 (hB: ∀b cs,aq b st.bx=some cs→yu b=true→ ¬X (φ.β b).block):aT F A w0 (φ.add o X v) (st.abC o b) tm w:=by
 rw[Z4]
 refine h.Fj (φ':=φ.add o X v) (w':=w) rfl rfl (fun e u he=>he.add h0 hn) (fun e u hv he=>he.add h0 hn hv) (fun _ _ _ _ _=>rfl) (fun p b' hb=> ?_) ?_ h.frm
 ·unfold nX
  by_cases hp:p=o
  ·subst hp
   rw[mj] at hb
   cases hb
   show ax w φ.I b.m (fun k=>if p=p then X k else φ.S p k) (.sub b.z b.rows) (if p=p then v else φ.V p)
   simp only[if_true]
   exact hc
  ·rw[k9 hp] at hb
   have:=h.obj p b' hb
   unfold nX at this
   show ax w φ.I b'.m (fun k=>if p=o then X k else φ.S p k) (.sub b'.z b'.rows) (if p=o then v else φ.V p)
   simp only[if_neg hp]
   exact this
 ·rw[Ib]
  exact {
   arg:=by
    show(fun k=>if 0=o then X k else φ.S 0 k)=A.all
    simp only[if_neg (Ne.symm h0)]
    exact h.sep.arg
   nz:=fun d hd=>(jr.1 hd).elim (fun e=>e▸h0) (h.sep.nz d)
   apart:=fun d d' k h1 h2 h3 h4=>by
    by_cases e1:d=o
    ·by_cases e2:d'=o
     ·rw[e1,e2]
     ·subst e1
      rw[tW e2] at h4
      have h3:X k:=by have h3':(if d=d then X k else φ.S d k):=h3;simpa using h3'
      exact absurd h4 (hS k d' h3 ((jr.1 h2).resolve_left e2))
    ·rw[tW e1] at h3
     by_cases e2:d'=o
     ·subst e2
      have h4:X k:=by have h4':(if d'=d' then X k else φ.S d' k):=h4;simpa using h4'
      exact absurd h3 (hS k d h4 ((jr.1 h1).resolve_left e1))
     ·rw[tW e2] at h4
      exact h.sep.apart d d' k ((jr.1 h1).resolve_left e1) ((jr.1 h2).resolve_left e2) h3 h4
   read:=fun d k hd hk=>by
    by_cases e1:d=o
    ·subst e1
     have hk:X k:=by have hk':(if d=d then X k else φ.S d k):=hk;simpa using hk'
     exact hI k hk
    ·rw[tW e1] at hk
     exact h.sep.read d k ((jr.1 hd).resolve_left e1) hk
   fresh:=fun d k hd hk=>by
    by_cases e1:d=o
    ·subst e1
     have hk:X k:=by have hk':(if d=d then X k else φ.S d k):=hk;simpa using hk'
     exact hX k hk
    ·rw[tW e1] at hk
     exact h.sep.fresh d k ((jr.1 hd).resolve_left e1) hk
   ro:=h.sep.ro
   came:=h.sep.came
   box:=fun b' cs hb hw=>by
    obtain⟨a1,a2,a3,a4⟩:=h.sep.box b' cs hb hw
    refine⟨a1,fun d hd hk=> ?_,a3,a4⟩
    by_cases e1:d=o
    ·subst e1
     have hk:X (φ.β b').block:=by have hk':(if d=d then X (φ.β b').block else φ.S d (φ.β b').block):=hk;simpa using hk'
     exact hB b' cs hb hw hk
    ·rw[tW e1] at hk
     exact a2 d ((jr.1 hd).resolve_left e1) hk
   spot:=h.sep.spot
   soft:=h.sep.soft}
theorem aT.CY (h:aT F A w0 φ st tm w) {o:Nat} {b:OB} {X:Nat→Prop} {v:Value} (h0:o≠0) (hc:ax w φ.I b.m X (.sub b.z b.rows) v)
 (hX: ∀k,X k→k<w.heap.size∧(w0.heap.size≤k∨F k)) (hI: ∀k,X k→ ¬φ.I k) (hS: ∀k d,X k→d≠o→aF st.ob d→ ¬φ.S d k)
 (hB: ∀b cs,aq b st.bx=some cs→yu b=true→ ¬X (φ.β b).block):aT F A w0 (φ.add o X v) (T.CY o b st) tm w:=
 (h.ni o).add h0 (fun hd=>(j6.1 hd).1 rfl) hc hX hI (fun k d hx hd=>hS k d hx (j6.1 hd).1 (j6.1 hd).2)
   fun b cs hb hw=>by
    obtain⟨cs0,h1,_⟩:=gM _ b cs hb
    exact hB b cs0 h1 hw
end Go.T
namespace Go.T
variable {F : Nat → Prop} {A : Arg} {w0 w w' : World} {φ φ' : Fp} {st st' : TS} {tm tm' : Array Value}
attribute [local semireducible] aA in
theorem Aa (rows:List (List TC)) (l h:Int):aA rows l h=(rows.take h.toNat).drop l.toNat:=rfl
theorem M0 {rows:List (List TC)} {l h:Int} (h2:h≤rows.length):(aA rows l h).length=h.toNat-l.toNat:=by
 rw[Aa,List.length_drop,List.length_take]
 have:h.toNat≤rows.length:=by omega
 omega
theorem R1 {rows:List (List TC)} {l h:Int} {i f:Nat} {tc:TC} (ht:vU (aA rows l h) i f=some tc):vU rows (i+l.toNat) f=some tc∧i+l.toNat<h.toNat:=by
 unfold vU at ht ⊢
 rw[Aa,List.getElem?_drop,List.getElem?_take] at ht
 by_cases hi:l.toNat+i<h.toNat
 ·rw[if_pos hi] at ht
  rw[Nat.add_comm]
  exact⟨ht,hi⟩
 ·rw[if_neg hi] at ht;cases ht
theorem C8 {a:Addr} (n:Nat) (h:a.spot=none):(a.add n).spot=none:=by unfold Addr.add;split<;>simp[h]
theorem ug {a:Addr} (n:Nat) (h:a.spot=none):a.add n=⟨a.block,a.off+n,none⟩:=by
 unfold Addr.add;split
 ·subst n;cases a;simp_all
 ·rfl
theorem ax.cut {R S:Nat→Prop} {m:Mode} {z:Nat} {rows:List (List TC)} {V v:Value} {l h:Int} (k:ax w R m S (.sub z rows) V) (hc:AO z rows.length l h V v):
 ax w R m S (.sub z (aA rows l h)) v:=by
 cases k with
 |sub _ _ _ _ A c u T k hn=>
  obtain⟨h0,h1,h2,A1,A',c1,e1,rfl,e2,e3,e4⟩:=hc
  cases e1
  have hlen:=M0 (rows:=rows) (l:=l) h2
  have hle:h.toNat≤rows.length:=by omega
  rw[←hlen]
  have hcl:=k.len
  have hne: ∀i f tc,vU (aA rows l h) i f=some tc→c≠l.toNat:=fun i f tc ht=>by
   have:=(R1 ht).2
   omega
  refine .sub _ _ _ _ A' (c-l.toNat) (fun i f=>u (i+l.toNat) f) (fun i f=>T (i+l.toNat) f) ?_ fun i f tc ht=>hn _ _ _ (R1 ht).1
  have hb: ∀ad',A'=some ad'→ ∃ad,A=some ad∧ad'.block=ad.block∧(ad.spot=none→ad'.spot=none):=fun ad' ha=>by
   cases hA:A with
   |none=>rw[e3 hA] at ha;cases ha
   |some ad=>
    obtain⟨ad2,b1,b2,b3⟩:=e4 ad hA
    rw[b1] at ha;cases ha
    exact⟨ad,rfl,b2,b3⟩
  have hnm:rows=[]→aA rows l h=[]:=fun e=>by rw[Aa,e];simp
  refine⟨by omega,Nat.le_trans (Nat.sub_le _ _) k.cap,k.z0,fun r hr=>k.width r ?_,fun hr=> ?_,fun ad' ha i f tc ht=> ?_,fun hm ad' ha hr=> ?_,fun hm=>⟨fun ha=> ?_,fun ad' ha=> ?_⟩,fun hm h1z ad' ha i=> ?_,fun hm i f q hq=> ?_⟩
  ·rw[Aa] at hr
   exact List.mem_of_mem_take (List.mem_of_mem_drop hr)
  ·obtain⟨ad,ha⟩:=k.addr fun e=>hr (hnm e)
   obtain⟨ad',b1,_⟩:=e4 ad ha
   exact⟨ad',b1⟩
  ·obtain⟨ad,hA,_⟩:=hb ad' ha
   have:=e2 (hne i f tc ht)
   rw[hA] at this
   simp only[Option.map_some] at this
   rw[this] at ha
   cases ha
   rw[Addr.add_add]
   have:=k.cell ad hA _ _ _ (R1 ht).1
   rw[Nat.add_mul] at this
   rw[show l.toNat*z+(i*z+f)=i*z+l.toNat*z+f by omega]
   exact this
  ·obtain⟨ad,hA,b1,_⟩:=hb ad' ha
   rw[b1]
   exact k.read hm ad hA fun e=>hr (hnm e)
  ·cases hA:A with
   |none=>rw[(k.own hm).1 hA];omega
   |some ad=>obtain⟨ad2,b1,_⟩:=e4 ad hA;rw[b1] at ha;cases ha
  ·obtain⟨ad,hA,b1,b2⟩:=hb ad' ha
   obtain⟨a1,a2,a3⟩:=(k.own hm).2 ad hA
   refine⟨by rw[b1];exact a1,b2 a2,fun j hj=> ?_⟩
   have hcne:c≠l.toNat:=fun e=>by rw[e] at hj;simp at hj
   have:=e2 hcne
   rw[hA] at this
   simp only[Option.map_some] at this
   rw[this] at ha
   cases ha
   rw[ug _ a2]
   simp only
   rw[Nat.add_assoc]
   refine a3 _ ?_
   have:l.toNat*z+(c-l.toNat)*z≤c*z:=by
    rw[←Nat.add_mul]
    exact Nat.mul_le_mul_right _ (by omega)
   omega
  ·obtain⟨ad,hA,b1,b2⟩:=hb ad' ha
   rw[b1]
   exact k.soft hm h1z ad hA i
  ·obtain⟨a1,a2,a3⟩:=k.disj hm _ _ _ hq
   refine⟨a1,fun ad' ha=> ?_,fun i' f' hq'=> ?_⟩
   ·obtain⟨ad,hA,b1,_⟩:=hb ad' ha
    rw[b1];exact a2 ad hA
   ·obtain⟨c1,c2⟩:=a3 _ _ hq'
    exact⟨by omega,c2⟩
theorem nX.cut {o:Nat} {b:OB} (h:nX w φ o b) {cut:Option (Int×Int)} {v:Value} (hc:match(generalizing:=false) cut with|none=>v=φ.V o|some (l,h)=>AO b.z b.rows.length l h (φ.V o) v):
 ax w φ.I b.m (φ.S o) (.sub b.z (Th cut b.rows)) v:=by
 cases cut with
 |none=>simp only at hc;rw[hc];exact h
 |some q=>obtain⟨l,h1⟩:=q;exact ax.cut h hc
theorem WM {o:Nat} {l:Option (Nat×Int×Nat)} {p:Nat} {i:Int} {f:Nat} (h:abD o l=some (p,i,f)):l=some (p,i,f)∧p≠o:=by
 unfold abD at h
 cases l with
 |none=>cases h
 |some q=>
  obtain⟨a,b,c⟩:=q
  simp only at h
  cases h1:Nat.beq a o with
  |true=>rw[h1] at h;cases h
  |false=>rw[h1] at h;cases h;exact⟨rfl,Nat.ne_of_beq_eq_false h1⟩
theorem U5 {o:Nat} {ds:List Nat} {k:Nat} (h:rd φ ds k):rd (φ.more (φ.S o)) (Tg o ds) k:=by
 rcases h with h|⟨d,hd,h⟩
 ·exact .inl (.inl h)
 ·by_cases e:d=o
  ·subst e;exact .inl (.inr h)
  ·exact .inr ⟨d,yB.2 ⟨hd,e⟩,h⟩
theorem dn.freeze {o:Nat} {b:OB} {ob:List (Nat×OB)} (hb:aq o ob=some b) (hO:nX w φ o b) {e:CE} {v:Value} (h:dn ob w φ e v):dn (p9 o ob) w (φ.more (φ.S o)) (MB o b e) v:=by
 cases e with
 |ref p cut=>
  obtain⟨b',h1,h2⟩:=h
  simp only[MB]
  cases hd:Nat.beq p o with
  |true=>
   have:=Nat.eq_of_beq_eq_true hd
   subst this
   rw[hb] at h1;cases h1
   refine And.intro (fun d hm=>by cases hm) (And.intro ?_ (fun _ _ _ hl=>by cases hl))
   exact(hO.cut h2).freeze (fun k hk=> .inl (.inl hk)) fun _ k hk=> .inl (.inr hk)
  |false=>
   have:=Nat.ne_of_beq_eq_false hd
   exact⟨b',by rw[uJ this];exact h1,h2⟩
 |snap ds loc z rows=>
  obtain⟨h1,h2,h3⟩:=h
  refine⟨fun d hm=> ?_,h2.oP fun k hk=>U5 hk,fun p i f hl=> ?_⟩
  ·obtain⟨a1,a2⟩:=yB.1 hm
   exact(h1 d a1).imp id fun h=>nM.2 ⟨a2,h⟩
  ·obtain⟨a1,a2⟩:=WM hl
   obtain⟨a3,b',a4,a5⟩:=h3 p i f a1
   exact⟨yB.2 ⟨a3,a2⟩,b',by rw[uJ a2];exact a4,a5⟩
 |_=>exact h
theorem cC.freeze {o:Nat} {ob:List (Nat×OB)} {e:TE} {v:Value} (hv: ∀t es,e≠ .v t es) (h:cC ob w φ e v):cC (p9 o ob) w (φ.more (φ.S o)) (RO o e) v:=by
 cases e with
 |v t es=>exact absurd rfl (hv t es)
 |ep ds cells=>
  obtain⟨h1,ad,h2,hr,h3⟩:=h
  refine⟨fun d hm=> ?_,ad,h2,fun hc=>U5 (hr hc),fun j tc hj=> ?_⟩
  ·obtain⟨a1,a2⟩:=yB.1 hm
   exact(h1 d a1).imp id fun h=>nM.2 ⟨a2,h⟩
  ·obtain⟨u,h4,h5⟩:=h3 j tc hj
   exact⟨u,h4,h5.oP fun k hk=>U5 hk⟩
 |er p path i f=>
  simp only[RO]
  cases hd:Nat.beq p o with
  |true=>trivial
  |false=>
   obtain⟨b,h1,h2⟩:=h
   exact⟨b,by rw[uJ (Nat.ne_of_beq_eq_false hd)];exact h1,h2⟩
 |_=>exact h
theorem aT.vP (h:aT F A w0 φ st tm w) (o:Nat): ∃φ',aT F A w0 φ' (vP st o) tm w∧φ'.β=φ.β∧φ'.V=φ.V∧φ'.S=φ.S∧ ∀k,φ'.I k↔φ.I k∨(aF st.ob o∧φ.S o k):=by
 unfold T.vP
 cases hb:aq o st.ob with
 |none=>exact⟨φ,h,rfl,rfl,rfl,fun k=>⟨.inl,fun hk=>hk.elim id fun⟨⟨b,hb'⟩,_⟩=>by rw[hb] at hb';cases hb'⟩⟩
 |some b=>
  refine⟨φ.more (φ.S o),h.Fj (φ':=φ.more (φ.S o)) (w':=w) rfl rfl (fun e v he=>he.freeze hb (h.obj o b hb)) (fun e v hv he=>he.freeze hv) (fun _ _ _ _ _=>rfl) (fun p b' hp=> ?_) ?_ h.frm,rfl,rfl,rfl,fun k=>⟨fun hk=>hk.imp id fun hk=>⟨⟨b,hb⟩,hk⟩,fun hk=>hk.imp id fun hk=>hk.2⟩⟩
  ·rw[iG] at hp
   split at hp
   ·cases hp
   ·exact(h.obj p b' hp).oP fun k hk=> .inl hk
  ·have hs:=(h.sep.boxes (gM (MB o b))).sub (ob':=p9 o st.ob) fun d hd=>(nM.1 hd).2
   have hin:aF st.ob o:=⟨b,hb⟩
   exact {
    arg:=hs.arg,nz:=hs.nz,apart:=hs.apart,fresh:=hs.fresh,came:=hs.came,spot:=hs.spot,soft:=hs.soft
    read:=fun p k hp hk hI=>by
     obtain⟨a1,a2⟩:=nM.1 hp
     rcases hI with hI|hI
     ·exact h.sep.read p k a2 hk hI
     ·exact a1 (h.sep.apart p o k a2 hin hk hI)
    ro:=fun k hk=>hk.elim (h.sep.ro k) fun hk=>⟨(h.sep.fresh o k hin hk).1,(h.sep.fresh o k hin hk).2.imp id .inl⟩
    box:=fun b' cs hb' hw=>by
     obtain⟨a1,a2,a3,a4⟩:=hs.box b' cs hb' hw
     obtain⟨cs0,c1,_⟩:=gM _ b' cs hb'
     exact⟨fun hI=>hI.elim a1 ((h.sep.box b' cs0 c1 hw).2.1 o hin),a2,a3,a4⟩}
theorem aT.tj (h:aT F A w0 φ st tm w) {o:Nat} {b b':OB} {X:Nat→Prop} (hb:aq o st.ob=some b) (hz:b'.z=b.z) (hl:b'.rows.length=b.rows.length)
 (hc:ax w' φ.I b'.m X (.sub b'.z b'.rows) (φ.V o)) (hf:Gq F w0 w') (hsz:w.heap.size≤w'.heap.size) (hw: ∀k,k<w.heap.size→ ¬φ.S o k→w'.heap[k]?=w.heap[k]?)
 (hX: ∀k,X k→k<w'.heap.size∧(w0.heap.size≤k∨F k)) (hI: ∀k,X k→ ¬φ.I k) (hS: ∀k d,X k→d≠o→aF st.ob d→ ¬φ.S d k)
 (hB: ∀b cs,aq b st.bx=some cs→yu b=true→ ¬X (φ.β b).block):aT F A w0 (φ.add o X (φ.V o)) (tj o b' st) tm w':=by
 have hin:aF st.ob o:=⟨b,hb⟩
 have h0:o≠0:=h.sep.nz o hin
 have hV:(φ.add o X (φ.V o)).V=φ.V:=by
  funext d
  show(if d=o then φ.V o else φ.V d)=φ.V d
  split
  ·subst_vars;rfl
  ·rfl
 have hdom: ∀d,aF (nW o b' st.ob) d↔aF st.ob d:=fun d=>by
  rw[jr]
  exact⟨fun h=>h.elim (fun e=>e▸hin) id,.inr⟩
 have stI: ∀k,φ.I k→w'.heap[k]?=w.heap[k]?:=fun k hk=>hw k (h.sep.ro k hk).1 fun hs=>h.sep.read o k hin hs hk
 have stS: ∀d k,d≠o→d=0∨aF st.ob d→φ.S d k→w'.heap[k]?=w.heap[k]?:=fun d k hne hd hk=>hw k (h.sep.lt h.frm.size hd hk) fun hs=>by
  rcases hd with rfl|hd
  ·rw[h.sep.arg] at hk
   have:=h.sep.came k hk
   rcases (h.sep.fresh o k hin hs).2 with h3|h3
   ·omega
   ·exact this.2 h3
  ·exact hne (h.sep.apart d o k hd hin hk hs)
 have stR: ∀ds k,o∉ds→(∀d∈ds,d=0∨aF st.ob d)→rd φ ds k→rd (φ.add o X (φ.V o)) ds k∧w'.heap[k]?=w.heap[k]?:=fun ds k hn hd hk=>by
  refine⟨R0 hn hk,?_⟩
  rcases hk with hk|⟨d,hm,hk⟩
  ·exact stI k hk
  ·exact stS d k (fun e=>by subst e;exact hn hm) (hd d hm) hk
 have stV: ∀p b1 ad n c i f tc u,p≠o→aq p st.ob=some b1→φ.V p= .slice (some ad) n c→vU b1.rows i f=some tc→w.cell? (ad.add (i*b1.z+f))=some u→w'.cell? (ad.add (i*b1.z+f))=some u:=by
  intro p b1 ad n c i f tc u hne hp hv ht hcell
  have hO:=h.obj p b1 hp
  unfold nX at hO
  rw[hv] at hO
  have hS:φ.S p ad.block:=by
   cases hO with
   |sub _ _ _ _ _ _ u T k hn=>exact(k.own (by unfold OB.m;split<;>simp)).2 ad rfl|>.1
  rw[fm (w:=w)]
  ·exact hcell
  ·rw[cn];exact stS p _ hne (.inr ⟨b1,hp⟩) hS
 have cbox: ∀p cs,aq p st.bx=some cs→w'.heap[(φ.β p).block]?=w.heap[(φ.β p).block]?:=fun p cs hp=>by
  obtain⟨a1,a2,a3⟩:=h.sep.spot p cs hp
  refine hw _ a2 fun hs=> ?_
  cases hwb:yu p with
  |true=>exact(h.sep.box p cs hp hwb).2.1 o hin hs
  |false=>
   have:=h.sep.came _ (a3 hwb)
   rcases (h.sep.fresh o _ hin hs).2 with h3|h3
   ·omega
   ·exact this.2 h3
 refine h.Fj (φ':=φ.add o X (φ.V o)) rfl rfl (fun e v he=> ?_) (fun e v hv he=> ?_) (fun p cs hp j hj=> ?_) (fun p b1 hp=> ?_) ?_ hf
 ·cases e with
  |ref p cut=>
   obtain⟨b1,h1,h2⟩:=he
   by_cases hp:p=o
   ·subst hp
    rw[hb] at h1;cases h1
    refine⟨b',mj,?_⟩
    rw[hV]
    cases cut with
    |none=>exact h2
    |some q=>obtain⟨l,r⟩:=q;simp only at h2 ⊢;rw[hz,hl];exact h2
   ·exact⟨b1,by rw[k9 hp];exact h1,by rw[hV];exact h2⟩
  |snap ds loc z rows=>
   simp only[UX]
   cases hd:mh o ds with
   |true=>trivial
   |false=>
    have hd:=dQ.1 hd
    obtain⟨h1,h2,h3⟩:=he
    refine⟨fun d hm=>(h1 d hm).imp id (hdom d).2,h2.move (fun k hk=>stR ds k hd h1 hk) (fun hm=>absurd rfl hm),fun p i f hl=> ?_⟩
    obtain⟨a1,b1,a2,a3,a4,ad,n,c,a5,a6⟩:=h3 p i f hl
    have hp:p≠o:=fun e=>by subst e;exact hd a1
    refine⟨a1,b1,by rw[k9 hp];exact a2,a3,a4,ad,n,c,by rw[hV];exact a5,stV p b1 ad n c _ _ _ _ hp a2 a5 a4 a6⟩
  |_=>exact he
 ·cases e with
  |v t es=>exact absurd rfl (hv t es)
  |ep ds cells=>
   simp only[RN]
   cases hd:mh o ds with
   |true=>trivial
   |false=>
    have hd:=dQ.1 hd
    obtain⟨h1,ad,h2,hr,h3⟩:=he
    refine⟨fun d hm=>(h1 d hm).imp id (hdom d).2,ad,h2,fun hc=>(stR ds _ hd h1 (hr hc)).1,fun j tc hj=> ?_⟩
    obtain⟨u,h4,h5⟩:=h3 j tc hj
    have hc:cells≠[]:=fun e=>by rw[e] at hj;simp at hj
    exact⟨u,by rw[fm (w:=w) (by rw[cn];exact(stR ds _ hd h1 (hr hc)).2)];exact h4,h5.move (fun k hk=>stR ds k hd h1 hk) (fun hm=>absurd rfl hm)⟩
  |er p path i f=>
   obtain⟨b1,h1,h2,ad,n,c,h3,h4⟩:=he
   cases path with
   |none=>
    simp only[RN]
    by_cases hp:p=o
    ·subst hp
     rw[hb] at h1;cases h1
     exact⟨b',mj,h2,ad,n,c,by rw[hV];exact h3,by rw[hz];exact h4⟩
    ·exact⟨b1,by rw[k9 hp];exact h1,h2,ad,n,c,by rw[hV];exact h3,h4⟩
   |some q=>
    obtain⟨i0,f0⟩:=q
    simp only[RN]
    cases hd:Nat.beq p o with
    |true=>trivial
    |false=>
     have hp:=Nat.ne_of_beq_eq_false hd
     obtain⟨a1,z1,rows1,a2,ad1,n1,c1,a3,a4⟩:=h4
     exact⟨b1,by rw[k9 hp];exact h1,h2,ad,n,c,by rw[hV];exact h3,a1,z1,rows1,a2,ad1,n1,c1,stV p b1 ad n c _ _ _ _ hp h1 h3 a2 a3,a4⟩
  |_=>exact he
 ·exact fm (by rw[cn];exact cbox p cs hp)
 ·unfold nX
  by_cases hp':p=o
  ·subst hp'
   rw[mj] at hp;cases hp
   rw[hV]
   show ax w' φ.I b'.m (fun k=>if p=p then X k else φ.S p k) (.sub b'.z b'.rows) (φ.V p)
   simp only[if_true]
   exact hc
  ·rw[k9 hp'] at hp
   rw[hV]
   show ax w' φ.I b1.m (fun k=>if p=o then X k else φ.S p k) (.sub b1.z b1.rows) (φ.V p)
   simp only[if_neg hp']
   exact(h.obj p b1 hp).move (fun k hk=>⟨hk,stI k hk⟩) fun _ k hk=>stS p k hp' (.inr ⟨b1,hp⟩) hk
 ·have hs:=h.sep.boxes (gM (UX o))
  have self: ∀k,(φ.add o X (φ.V o)).S o k→X k:=fun k hk=>by
   have hk':(if o=o then X k else φ.S o k):=hk
   simpa using hk'
  exact {
   arg:=by
    show(fun k=>if 0=o then X k else φ.S 0 k)=A.all
    simp only[if_neg (Ne.symm h0)]
    exact h.sep.arg
   nz:=fun d hd=>h.sep.nz d ((hdom d).1 hd)
   apart:=fun d d' k h1 h2 h3 h4=>by
    have i1:=(hdom d).1 h1
    have i2:=(hdom d').1 h2
    by_cases e1:d=o
    ·subst e1
     by_cases e2:d'=d
     ·exact e2.symm
     ·rw[tW e2] at h4;exact absurd h4 (hS k d' (self k h3) e2 i2)
    ·rw[tW e1] at h3
     by_cases e2:d'=o
     ·subst e2;exact absurd h3 (hS k d (self k h4) e1 i1)
     ·rw[tW e2] at h4;exact h.sep.apart d d' k i1 i2 h3 h4
   read:=fun d k hd hk=>by
    have hd:=(hdom d).1 hd
    by_cases e1:d=o
    ·subst e1;exact hI k (self k hk)
    ·rw[tW e1] at hk;exact h.sep.read d k hd hk
   fresh:=fun d k hd hk=>by
    have hd:=(hdom d).1 hd
    by_cases e1:d=o
    ·subst e1;exact hX k (self k hk)
    ·rw[tW e1] at hk
     exact⟨Nat.lt_of_lt_of_le (h.sep.fresh d k hd hk).1 hsz,(h.sep.fresh d k hd hk).2⟩
   ro:=fun k hk=>⟨Nat.lt_of_lt_of_le (h.sep.ro k hk).1 hsz,(h.sep.ro k hk).2⟩
   came:=h.sep.came
   box:=fun p cs hp hwb=>by
    obtain⟨cs0,c1,_⟩:=gM _ p cs hp
    obtain⟨a1,a2,a3,a4⟩:=hs.box p cs hp hwb
    refine⟨a1,fun d hd hk=> ?_,a3,a4⟩
    have hd:=(hdom d).1 hd
    by_cases e1:d=o
    ·subst e1;exact hB p cs0 c1 hwb (self _ hk)
    ·rw[tW e1] at hk;exact a2 d hd hk
   spot:=fun p cs hp=>⟨(hs.spot p cs hp).1,Nat.lt_of_lt_of_le (hs.spot p cs hp).2.1 hsz,(hs.spot p cs hp).2.2⟩
   soft:=fun p cs j hp hwb hj=>by
    obtain⟨cs0,c1,c2⟩:=gM _ p cs hp
    rw[kZ (w:=w) (by rw[cn];exact cbox p cs0 c1)]
    exact h.sep.soft p cs0 j c1 hwb (by omega)}
end Go.T
namespace Go.T
variable {F : Nat → Prop} {A : Arg} {w0 w w' : World} {φ φ' : Fp} {st st' : TS} {tm tm' : Array Value}
theorem aT.less (h:aT F A w0 φ st tm w) (ht: ∀i,st'.get i= .dead∨st'.get i=st.get i) (hb: ∀b cs,aq b st'.bx=some cs→aq b st.bx=some cs) (ho:st'.ob=st.ob):aT F A w0 φ st' tm w where
 tmp i:=by
  rw[ho]
  rcases ht i with h1|h1
  ·rw[h1];trivial
  ·rw[h1];exact h.tmp i
 box b cs h1:=by rw[ho];exact h.box b cs (hb b cs h1)
 obj:=by rw[ho];exact h.obj
 sep:=by rw[ho];exact h.sep.boxes fun b cs h1=>⟨cs,hb b cs h1,rfl⟩
 frm:=h.frm
theorem Tq (st:TS) (l:List Nat) (bx:List (Nat×List CE)) (ob:List (Nat×OB)) (i:Nat):(⟨AN l st.tm,bx,ob⟩:TS).get i= .dead∨(⟨AN l st.tm,bx,ob⟩:TS).get i=st.get i:=by
 unfold TS.get
 simp only[MZ]
 by_cases h:i∈l
 ·right;rw[if_pos h]
 ·left;rw[if_neg h]
theorem aT.keep (h:aT F A w0 φ st tm w) (l:List Nat):aT F A w0 φ ⟨AN l st.tm,st.bx,st.ob⟩ tm w:=
 h.less (Tq st l st.bx st.ob) (fun _ _ h=>h) rfl
theorem M3 (l:List Nat) (j:Nat): ∀(m:List (Nat×List CE)) (cs:List CE),aq j (vT l m)=some cs→aq j m=some cs
 |[],cs,h=>by simp[vT,aq] at h
 |(a,x)::r,cs,h=>by
  have ih:=M3 l j r cs
  have key:aq j ((a,x)::vT l r)=some cs→aq j ((a,x)::r)=some cs:=fun h=>by
   simp only[aq] at h ⊢
   cases h1:Nat.beq a j with
   |true=>rw[h1] at h;exact h
   |false=>rw[h1] at h;exact ih h
  have skip:(100000≤a→False)→a∉l→aq j (vT l r)=some cs→aq j ((a,x)::r)=some cs:=fun h1 h2 h=>by
   simp only[aq]
   cases h3:Nat.beq a j with
   |false=>exact ih h
   |true=>
    exfalso
    have h3:=Nat.eq_of_beq_eq_true h3
    subst h3
    have: ∀(m:List (Nat×List CE)),aq a (vT l m)=none:=by
     intro m
     induction m with
     |nil=>rfl
     |cons p r ih=>
      obtain⟨c,y⟩:=p
      simp only[vT]
      have hk: ∀(hc:c≠a),aq a ((c,y)::vT l r)=none:=fun hc=>by
       simp only[aq,beq_false hc];exact ih
      split
      ·rename_i h4
       exact hk fun e=>h1 (by subst e;exact Nat.le_of_ble_eq_true h4)
      ·split
       ·rename_i h5
        exact hk fun e=>h2 (by subst e;exact ki.1 h5)
       ·exact ih
    rw[this] at h;cases h
  simp only[vT] at h
  split at h
  ·exact key h
  ·rename_i h4
   split at h
   ·exact key h
   ·rename_i h5
    exact skip (fun h6=>by rw[Nat.ble_eq_true_of_le h6] at h4;cases h4) (dQ.1 h5) h
theorem aT.ac2 (h:aT F A w0 φ st tm w) (l:List Nat):aT F A w0 φ ⟨AN l st.tm,vT l st.bx,st.ob⟩ tm w:=
 h.less (Tq st l (vT l st.bx) st.ob) (fun b cs hb=>M3 l b st.bx cs hb) rfl
theorem WN {b:Nat} {ob:List (Nat×OB)} {β:Nat→Addr} (hβ: ∀c,c≠b→β c=φ.β c) {e:TE} {v:Value} (hn:MU b e=false) (h:cC ob w φ e v):cC ob w {φ with β:=β} e v:=by
 have hcomp: ∀(c:qK) (u:Value),abl b c=false→mG ob w φ c u→mG ob w {φ with β:=β} c u:=by
  intro c u hc h
  cases c with
  |ptr c=>
   simp only[mG] at h ⊢
   rw[hβ c (Nat.ne_of_beq_eq_false hc)]
   exact h
  |mk a cs=>cases a<;>exact h
 cases e with
 |v t es=>
  simp only[MU,List.any_eq_false] at hn
  cases t with
  |true=>
   obtain⟨vs,h1,h2,h3⟩:=h
   refine⟨vs,h1,h2,fun k c hk=> ?_⟩
   obtain⟨u,h4,h5⟩:=h3 k c hk
   exact⟨u,h4,hcomp c u (by simpa using hn c (List.mem_of_getElem? hk)) h5⟩
  |false=>
   obtain⟨c,rfl,h3⟩:=h
   exact⟨c,rfl,hcomp c v (by simpa using hn c (by simp)) h3⟩
 |bp c off=>
  simp only[cC] at h ⊢
  rw[hβ c (Nat.ne_of_beq_eq_false hn)]
  exact h
 |fn f caps=>
  simp only[cC] at h ⊢
  rw[h]
  have hn:=dQ.1 hn
  congr 2
  refine List.map_congr_left fun c hc=> ?_
  rw[hβ c fun e=>by subst e;exact hn hc]
 |_=>exact h
theorem Q5 (b:Nat) (st:TS) (i:Nat):(Q2 b st).get i=if MU b (st.get i)=true then .dead else st.get i:=by
 unfold TS.get Q2
 simp only[r7]
 cases aq i st.tm with
 |none=>simp
 |some e=>
  simp only[Option.map_some]
  cases MU b e<;>simp
theorem aT.Q2 (h:aT F A w0 φ st tm w) (b:Nat):aT F A w0 φ (Q2 b st) tm w:=by
 refine h.less (fun i=> ?_) (fun c cs hc=> ?_) rfl
 ·rw[Q5];split<;>simp
 ·have:aq c (p9 b st.bx)=some cs:=hc
  rw[iG] at this
  split at this
  ·cases this
  ·exact this
def Fp.box (φ:Fp) (b:Nat) (ad:Addr):Fp:={φ with β:=fun c=>if c=b then ad else φ.β c}
theorem uK {b:Nat} {ad:Addr}:(φ.box b ad).β b=ad:=if_pos rfl
theorem nY {b c:Nat} {ad:Addr} (h:c≠b):(φ.box b ad).β c=φ.β c:=if_neg h
theorem aT.HX (h:aT F A w0 φ st tm w) {b:Nat} {cs:List CE} {ad:Addr} (hw:yu b=true) (hs:ad.spot=none) (hlt:ad.block<w.heap.size) (hS: ∀o,aF st.ob o→ ¬φ.S o ad.block)
 (hI: ¬φ.I ad.block) (hF:w0.heap.size≤ad.block∨F ad.block) (hB: ∀b' cs',aq b' st.bx=some cs'→b'≠b→(φ.β b').block≠ad.block)
 (hc: ∀(j:Nat) (e:CE),cs[j]?=some e→ ∃v,w.cell? (ad.add j)=some v∧v.cells= #[v]∧dn st.ob w φ e v) (hf: ∀j,j<cs.length→w.frozen? (ad.add j)=false):aT F A w0 (φ.box b ad) (HX b cs st) tm w:=by
 have hlook: ∀c,aq c (T.HX b cs st).bx=if c=b then some cs else aq c st.bx:=fun c=>by
  show aq c (nW b cs (p9 b st.bx))=_
  rw[eT,iG]
  by_cases hc:c=b<;>simp[hc]
 refine⟨fun i=> ?_,fun c cs' hc' j e he=> ?_,h.obj,?_,h.frm⟩
 ·show cC st.ob w (φ.box b ad) ((T.Q2 b st).get i) (tm.getD i undef)
  rw[Q5]
  split
  ·trivial
  ·rename_i hn
   exact WN (fun c hc=>nY hc) (by simpa using hn) (h.tmp i)
 ·rw[hlook] at hc'
  by_cases hcb:c=b
  ·subst hcb
   rw[if_pos rfl] at hc';cases hc'
   rw[uK];exact hc j e he
  ·rw[if_neg hcb] at hc'
   rw[nY hcb];exact h.box c cs' hc' j e he
 ·exact {
   arg:=h.sep.arg,nz:=h.sep.nz,apart:=h.sep.apart,read:=h.sep.read,fresh:=h.sep.fresh,ro:=h.sep.ro,came:=h.sep.came
   box:=fun c cs' hc' hwc=>by
    rw[hlook] at hc'
    by_cases hcb:c=b
    ·subst hcb
     rw[uK]
     refine⟨hI,hS,hF,fun b' cs'' hb' hne=> ?_⟩
     rw[hlook,if_neg hne] at hb'
     rw[nY hne]
     exact hB b' cs'' hb' hne
    ·rw[if_neg hcb] at hc'
     rw[nY hcb]
     obtain⟨a1,a2,a3,a4⟩:=h.sep.box c cs' hc' hwc
     refine⟨a1,a2,a3,fun b' cs'' hb' hne=> ?_⟩
     rw[hlook] at hb'
     by_cases hb2:b'=b
     ·subst hb2
      rw[uK]
      exact fun e=>hB c cs' hc' hcb e.symm
     ·rw[if_neg hb2] at hb'
      rw[nY hb2];exact a4 b' cs'' hb' hne
   spot:=fun c cs' hc'=>by
    rw[hlook] at hc'
    by_cases hcb:c=b
    ·subst hcb
     rw[uK]
     exact⟨fun _=>hs,hlt,fun e=>by rw[hw] at e;cases e⟩
    ·rw[if_neg hcb] at hc'
     rw[nY hcb];exact h.sep.spot c cs' hc'
   soft:=fun c cs' j hc' hwc hj=>by
    rw[hlook] at hc'
    by_cases hcb:c=b
    ·subst hcb
     rw[if_pos rfl] at hc';cases hc'
     rw[uK];exact hf j hj
    ·rw[if_neg hcb] at hc'
     rw[nY hcb];exact h.sep.soft c cs' j hc' hwc hj}
theorem aT.HW (h:aT F A w0 φ st tm w) {b:Nat} {cs old:List CE} (hb:aq b st.bx=some old) (hwb:yu b=true) (hl:cs.length=old.length) (hf:Gq F w0 w') (hsz:w.heap.size≤w'.heap.size)
 (hw: ∀k,k<w.heap.size→k≠(φ.β b).block→w'.heap[k]?=w.heap[k]?) (hfz: ∀j,j<cs.length→w'.frozen? ((φ.β b).add j)=false)
 (hc: ∀(j:Nat) (e:CE),cs[j]?=some e→ ∃v,w'.cell? ((φ.β b).add j)=some v∧v.cells= #[v]∧dn st.ob w φ e v):aT F A w0 φ (st.HW b cs) tm w':=by
 obtain⟨b1,b2,b3,b4⟩:=h.sep.box b old hb hwb
 have stI: ∀k,φ.I k→w'.heap[k]?=w.heap[k]?:=fun k hk=>hw k (h.sep.ro k hk).1 fun e=>b1 (e▸hk)
 have nA: ∀k,A.all k→k≠(φ.β b).block:=fun k hk e=>by
  subst e
  have:=h.sep.came _ hk
  rcases b3 with b3|b3
  ·omega
  ·exact this.2 b3
 have stS: ∀d k,d=0∨aF st.ob d→φ.S d k→w'.heap[k]?=w.heap[k]?:=fun d k hd hk=>hw k (h.sep.lt h.frm.size hd hk) fun e=>by
  subst e
  rcases hd with rfl|hd
  ·rw[h.sep.arg] at hk;exact nA _ hk rfl
  ·exact b2 d hd hk
 have own: ∀o ad n c,aF st.ob o→φ.V o= .slice (some ad) n c→φ.S o ad.block:=fun o ad n c ⟨bo,ho⟩ hv=>by
  have hO:=h.obj o bo ho
  unfold nX at hO
  rw[hv] at hO
  cases hO with
  |sub _ _ _ _ _ _ u T k hn=>exact(k.own (by unfold OB.m;split<;>simp)).2 ad rfl|>.1
 have hV: ∀o,aF st.ob o→ ∀ad n c,φ.V o= .slice (some ad) n c→ ∀i v,w.cell? (ad.add i)=some v→w'.cell? (ad.add i)=some v:=fun o ho ad n c hv i v hcell=>by
  rw[fm (w:=w)]
  ·exact hcell
  ·rw[cn];exact stS o _ (.inr ho) (own o ad n c ho hv)
 have hCE: ∀e v,dn st.ob w φ e v→dn st.ob w' φ e v:=fun e v he=>he.stay stI stS hV
 have hE: ∀ds cells v,cC st.ob w φ (.ep ds cells) v→cC st.ob w' φ (.ep ds cells) v:=by
  intro ds cells v ⟨h1,ad,h2,hr,h3⟩
  refine⟨h1,ad,h2,hr,fun j tc hj=> ?_⟩
  obtain⟨u,h4,h5⟩:=h3 j tc hj
  have hcn:cells≠[]:=fun e=>by rw[e] at hj;simp at hj
  have stR: ∀k,rd φ ds k→w'.heap[k]?=w.heap[k]?:=fun k hk=>by
   rcases hk with hk|⟨d,hm,hk⟩
   ·exact stI k hk
   ·exact stS d k (h1 d hm) hk
  exact⟨u,by rw[fm (w:=w) (by rw[cn];exact stR _ (hr hcn))];exact h4,h5.move (fun k hk=>⟨hk,stR k hk⟩) (fun hm=>absurd rfl hm)⟩
 have hT: ∀e v,cC st.ob w φ e v→cC st.ob w' φ e v:=fun e v he=>by
  have:=cC.Fj (f:=id) (g:=id) rfl hCE (fun e v hv he=>cC.stay stI stS hV (fun ad v hc hk=>by rw[fm (w:=w) (hk _ rfl)];exact hc) hE hv he) he
  have hid:x9 id id e=e:=by
   have h1:=congrArg TS.tm (uI ⟨[(0,e)],[],[]⟩)
   simpa [vO,mapA] using h1
  rw[hid] at this
  exact this
 have hlook: ∀c,aq c (st.HW b cs).bx=if c=b then some cs else aq c st.bx:=fun c=>eT _ _ _ _
 have obox: ∀c cs',aq c st.bx=some cs'→c≠b→w'.heap[(φ.β c).block]?=w.heap[(φ.β c).block]?:=fun c cs' hc' hne=>hw _ (h.sep.spot c cs' hc').2.1 (b4 c cs' hc' hne)
 refine⟨fun i=>hT _ _ (h.tmp i),fun c cs' hc' j e he=> ?_,fun o bo ho=> ?_,?_,hf⟩
 ·rw[hlook] at hc'
  by_cases hcb:c=b
  ·subst hcb
   rw[if_pos rfl] at hc';cases hc'
   obtain⟨v,h1,h3,h2⟩:=hc j e he
   exact⟨v,h1,h3,hCE _ _ h2⟩
  ·rw[if_neg hcb] at hc'
   obtain⟨v,h1,h3,h2⟩:=h.box c cs' hc' j e he
   exact⟨v,by rw[fm (w:=w) (by rw[cn];exact obox c cs' hc' hcb)];exact h1,h3,hCE _ _ h2⟩
 ·exact(h.obj o bo ho).move (fun k hk=>⟨hk,stI k hk⟩) fun _ k hk=>stS o k (.inr ⟨bo,ho⟩) hk
 ·have len: ∀c cs',aq c (st.HW b cs).bx=some cs'→ ∃cs0,aq c st.bx=some cs0∧cs'.length=cs0.length:=fun c cs' hc'=>by
   rw[hlook] at hc'
   by_cases hcb:c=b
   ·subst hcb
    rw[if_pos rfl] at hc';cases hc'
    exact⟨old,hb,hl⟩
   ·rw[if_neg hcb] at hc';exact⟨cs',hc',rfl⟩
  have hs:=h.sep.boxes len
  exact {
   arg:=hs.arg,nz:=hs.nz,apart:=hs.apart,read:=hs.read,came:=hs.came,box:=hs.box
   fresh:=fun o k ho hk=>⟨Nat.lt_of_lt_of_le (hs.fresh o k ho hk).1 hsz,(hs.fresh o k ho hk).2⟩
   ro:=fun k hk=>⟨Nat.lt_of_lt_of_le (hs.ro k hk).1 hsz,(hs.ro k hk).2⟩
   spot:=fun c cs' hc'=>⟨(hs.spot c cs' hc').1,Nat.lt_of_lt_of_le (hs.spot c cs' hc').2.1 hsz,(hs.spot c cs' hc').2.2⟩
   soft:=fun c cs' j hc' hwc hj=>by
    obtain⟨cs0,c1,c2⟩:=len c cs' hc'
    by_cases hcb:c=b
    ·subst hcb
     rw[hlook,if_pos rfl] at hc';cases hc'
     exact hfz j hj
    ·rw[kZ (w:=w) (by rw[cn];exact obox c cs0 c1 hcb)]
     exact h.sep.soft c cs0 j c1 hwc (by omega)}
end Go.T
namespace Go.T
variable {F : Nat → Prop} {A : Arg} {w0 w w' : World} {φ φ' : Fp} {st st' : TS} {tm tm' : Array Value}
structure Ext (ob ob':List (Nat×OB)) (φ φ':Fp):Prop where
 look: ∀d b,aq d ob=some b→aq d ob'=some b
 I:φ'.I=φ.I
 β:φ'.β=φ.β
 S: ∀d,d=0∨aF ob d→φ'.S d=φ.S d
 V: ∀d,aF ob d→φ'.V d=φ.V d
section
variable {ob ob' : List (Nat × OB)}
theorem Ext.dom (x:Ext ob ob' φ φ') {d:Nat} (h:aF ob d):aF ob' d:=let ⟨b,h⟩:=h;⟨b,x.look d b h⟩
theorem Ext.rd (x:Ext ob ob' φ φ') {ds:List Nat} (hd: ∀d∈ds,d=0∨aF ob d) {k:Nat} (h:T.rd φ ds k):T.rd φ' ds k:=by
 rcases h with h|⟨d,hm,h⟩
 ·exact .inl (by rw[x.I];exact h)
 ·exact .inr ⟨d,hm,by rw[x.S d (hd d hm)];exact h⟩
theorem dn.ext (x:Ext ob ob' φ φ') {e:CE} {v:Value} (h:dn ob w φ e v):dn ob' w φ' e v:=by
 cases e with
 |ref o cut=>
  obtain⟨b,h1,h2⟩:=h
  exact⟨b,x.look o b h1,by rw[x.V o ⟨b,h1⟩];exact h2⟩
 |snap ds loc z rows=>
  obtain⟨h1,h2,h3⟩:=h
  refine⟨fun d hm=>(h1 d hm).imp id x.dom,h2.oP fun k hk=>x.rd h1 hk,fun o i f hl=> ?_⟩
  obtain⟨a1,b,a2,a3,a4,ad,n,c,a5,a6⟩:=h3 o i f hl
  exact⟨a1,b,x.look o b a2,a3,a4,ad,n,c,by rw[x.V o ⟨b,a2⟩];exact a5,a6⟩
 |_=>exact h
theorem mG.ext (x:Ext ob ob' φ φ') {c:qK} {v:Value} (h:mG ob w φ c v):mG ob' w φ' c v:=by
 cases c with
 |ptr b=>simp only[mG] at h ⊢;rw[x.β];exact h
 |mk a cs=>
  cases a with
  |true=>obtain⟨xs,h1,h2,h3⟩:=h;exact⟨xs,h1,h2,fun j e he=>let ⟨y,h4,h6,h5⟩:=h3 j e he;⟨y,h4,h6,h5.ext x⟩⟩
  |false=>obtain⟨e,h1,h2,h3⟩:=h;exact⟨e,h1,h2,h3.ext x⟩
theorem cC.ext (x:Ext ob ob' φ φ') {e:TE} {v:Value} (h:cC ob w φ e v):cC ob' w φ' e v:=by
 cases e with
 |v t es=>
  cases t with
  |true=>obtain⟨vs,h1,h2,h3⟩:=h;exact⟨vs,h1,h2,fun j e he=>let ⟨y,h4,h5⟩:=h3 j e he;⟨y,h4,h5.ext x⟩⟩
  |false=>obtain⟨c,h1,h2⟩:=h;exact⟨c,h1,h2.ext x⟩
 |ep ds cells=>
  obtain⟨h1,ad,h2,hr,h3⟩:=h
  refine⟨fun d hm=>(h1 d hm).imp id x.dom,ad,h2,fun hc=>x.rd h1 (hr hc),fun j tc hj=> ?_⟩
  obtain⟨u,h4,h5⟩:=h3 j tc hj
  exact⟨u,h4,h5.oP fun k hk=>x.rd h1 hk⟩
 |er o path i f=>
  obtain⟨b,h1,h2,ad,n,c,h3,h4⟩:=h
  exact⟨b,x.look o b h1,h2,ad,n,c,by rw[x.V o ⟨b,h1⟩];exact h3,h4⟩
 |bp b off=>simp only[cC] at h ⊢;rw[x.β];exact h
 |fn f caps=>simp only[cC] at h ⊢;rw[x.β];exact h
 |_=>exact h
end
def Te:Nat→Nat→List (Nat×OB)→Prop
 |n,m,[]=>n≤m
 |n,m,(i,b)::r=>n≤i∧(b.deep=true∧b.rows=[]∧0<b.z)∧Te (i+1) m r
theorem Te.le: ∀{n m:Nat} {l:List (Nat×OB)},Te n m l→n≤m
 |_,_,[],h=>h
 |_,_,(i,b)::r,h=>by have:=Te.le h.2.2;have:=h.1;omega
theorem Te.down {n n' m:Nat} {l:List (Nat×OB)} (h:Te n m l) (hn:n'≤n):Te n' m l:=by
 cases l with
 |nil=>exact Nat.le_trans hn h
 |cons p r=>obtain⟨i,b⟩:=p;exact⟨Nat.le_trans hn h.1,h.2⟩
theorem Te.app: ∀{n m k:Nat} {l l':List (Nat×OB)},Te n m l→Te m k l'→Te n k (l++l')
 |_,_,_,[],_,h,h'=>h'.down h
 |_,_,_,(i,b)::r,_,h,h'=>⟨h.1,h.2.1,h.2.2.app h'⟩
theorem Te.mem: ∀{n m:Nat} {l:List (Nat×OB)} {i:Nat} {b:OB},Te n m l→(i,b)∈l→n≤i∧i<m∧b.deep=true∧b.rows=[]∧0<b.z
 |n,m,(j,b')::r,i,b,h,hm=>by
  rcases List.mem_cons.1 hm with e|hm
  ·cases e
   have:=h.2.2.le
   exact⟨h.1,by omega,h.2.1⟩
  ·obtain⟨h1,h2,h3⟩:=h.2.2.mem hm
   exact⟨by have:=h.1;omega,h2,h3⟩
theorem JX: ∀{n m:Nat} {l:List (Nat×OB)} {ob:List (Nat×OB)},Te n m l→(∀i b,(i,b)∈l→aq i (kg l ob)=some b)∧ ∀d,d<n→aq d (kg l ob)=aq d ob
 |_,_,[],ob,_=>⟨fun _ _ h=>(by cases h),fun _ _=>rfl⟩
 |n,m,(j,b')::r,ob,h=>by
  obtain⟨h1,h2⟩:=JX (ob:=ob) h.2.2
  refine⟨fun i b hm=> ?_,fun d hd=> ?_⟩
  ·simp only[kg,eT]
   rcases List.mem_cons.1 hm with e|hm
   ·cases e;rw[if_pos rfl]
   ·have:=(h.2.2.mem hm).1
    rw[if_neg (by omega)]
    exact h1 i b hm
  ·have:=h.1
   simp only[kg,eT]
   rw[if_neg (by omega)]
   exact h2 d (by omega)
theorem Fk: ∀{l:List (Nat×OB)} {ob:List (Nat×OB)} {d:Nat} {b:OB},aq d (kg l ob)=some b→(d,b)∈l∨aq d ob=some b
 |[],_,_,_,h=> .inr h
 |(j,b')::r,ob,d,b,h=>by
  simp only[kg,eT] at h
  by_cases hd:d=j
  ·rw[if_pos hd] at h;cases h;subst hd;exact .inl (.head _)
  ·rw[if_neg hd] at h
   exact(Fk h).imp (.tail _) id
def abP:Value:= .slice none 0 0
def opened (N:Nat) (φ:Fp):Fp:={φ with S:=fun d k=>d<N∧φ.S d k,V:=fun d=>if d<N then φ.V d else abP}
section
variable {ob ob' : List (Nat × OB)} {N : Nat} (x : Ext ob ob' φ (opened N φ))
include x
theorem Fl: ∀(cs:List CE) (n:Nat),N≤n→Te n (gW n cs).2.1 (gW n cs).2.2∧(gW n cs).1.length=cs.length∧
 ((∀i b,(i,b)∈(gW n cs).2.2→aq i ob'=some b)→ ∀(j:Nat) (e':CE),(gW n cs).1[j]?=some e'→ ∃e,cs[j]?=some e∧ ∀v,dn ob w φ e v→dn ob' w (opened N φ) e' v)
 |[],n,hn=>⟨Nat.le_refl _,rfl,fun _ j e' h=>by simp[gW] at h⟩
 |e::r,n,hn=>by
  have keep: ∀(e:CE),(∀z,Nat.ble 1 z=true→e≠ .nil z)→gW n (e::r)=(e::(gW n r).1,(gW n r).2.1,(gW n r).2.2):=by
   intro e he
   cases e with
   |nil z=>
    simp only[gW]
    cases h:Nat.ble 1 z with
    |true=>exact absurd rfl (he z h)
    |false=>rfl
   |_=>rfl
  by_cases hz: ∃z,Nat.ble 1 z=true∧e= .nil z
  ·obtain⟨z,hz,rfl⟩:=hz
   have heq:gW n (.nil z::r)=(.ref n none::(gW (n+1) r).1,(gW (n+1) r).2.1,(n,⟨true,z,[]⟩)::(gW (n+1) r).2.2):=by simp only[gW,hz]
   rw[heq]
   obtain⟨h1,h2,h3⟩:=Fl r (n+1) (by omega)
   refine⟨⟨Nat.le_refl _,⟨rfl,rfl,Nat.le_of_ble_eq_true hz⟩,h1⟩,by simp[h2],fun hl j e' he=> ?_⟩
   cases j with
   |zero=>
    simp only[List.getElem?_cons_zero,Option.some.injEq] at he
    subst he
    refine⟨_,rfl,fun v hv=>⟨_,hl n _ (.head _),?_⟩⟩
    show v=if n<N then φ.V n else abP
    rw[if_neg (by omega)]
    exact hv.1
   |succ j=>
    simp only[List.getElem?_cons_succ] at he ⊢
    exact h3 (fun i b hm=>hl i b (.tail _ hm)) j e' he
  ·rw[keep e fun z hz' he=>hz ⟨z,hz',he⟩]
   obtain⟨h1,h2,h3⟩:=Fl r n hn
   refine⟨h1,by simp[h2],fun hl j e' he=> ?_⟩
   cases j with
   |zero=>
    simp only[List.getElem?_cons_zero,Option.some.injEq] at he
    subst he
    exact⟨_,rfl,fun v hv=>hv.ext x⟩
   |succ j=>
    simp only[List.getElem?_cons_succ] at he ⊢
    exact h3 hl j e' he
theorem Ab: ∀(cs:List qK) (n:Nat),N≤n→Te n (ga n cs).2.1 (ga n cs).2.2∧(ga n cs).1.length=cs.length∧
 ((∀i b,(i,b)∈(ga n cs).2.2→aq i ob'=some b)→ ∀(j:Nat) (e':qK),(ga n cs).1[j]?=some e'→ ∃e,cs[j]?=some e∧ ∀v,mG ob w φ e v→mG ob' w (opened N φ) e' v)
 |[],n,hn=>⟨Nat.le_refl _,rfl,fun _ j e' h=>by simp[ga] at h⟩
 | .ptr b::r,n,hn=>by
   obtain⟨h1,h2,h3⟩:=Ab r n hn
   refine⟨h1,by simp[ga,h2],fun hl j e' he=> ?_⟩
   cases j with
   |zero=>
    simp only[ga,List.getElem?_cons_zero,Option.some.injEq] at he
    subst he
    exact⟨_,rfl,fun v hv=>hv.ext x⟩
   |succ j=>
    simp only[ga,List.getElem?_cons_succ] at he ⊢
    exact h3 hl j e' he
 | .mk a cs::r,n,hn=>by
   obtain⟨g1,g2,g3⟩:=Fl (w:=w) x cs n hn
   obtain⟨h1,h2,h3⟩:=Ab r (gW n cs).2.1 (Nat.le_trans hn g1.le)
   refine⟨g1.app h1,by simp[ga,h2],fun hl j e' he=> ?_⟩
   cases j with
   |zero=>
    simp only[ga,List.getElem?_cons_zero,Option.some.injEq] at he
    subst he
    refine⟨_,rfl,fun v hv=> ?_⟩
    have g4:=g3 fun i b hm=>hl i b (List.mem_append_left _ hm)
    cases a with
    |true=>
     obtain⟨xs,k1,k2,k3⟩:=hv
     refine⟨xs,k1,by rw[g2];exact k2,fun j e' he=> ?_⟩
     obtain⟨e,k4,k5⟩:=g4 j e' he
     obtain⟨y,k6,k8,k7⟩:=k3 j e k4
     exact⟨y,k6,k8,k5 y k7⟩
    |false=>
     obtain⟨e,rfl,k2,k3⟩:=hv
     have hlen:(gW n [e]).1.length=1:=g2
     obtain⟨e',he'⟩: ∃e',(gW n [e]).1=[e']:=by
      cases hq:(gW n [e]).1 with
      |nil=>rw[hq] at hlen;cases hlen
      |cons y t=>cases t with
       |nil=>exact⟨y,rfl⟩
       |cons _ _=>rw[hq] at hlen;simp at hlen
     obtain⟨e0,k4,k5⟩:=g4 0 e' (by rw[he'];rfl)
     simp only[List.getElem?_cons_zero,Option.some.injEq] at k4
     subst k4
     exact⟨e',he',k2,k5 v k3⟩
   |succ j=>
    simp only[ga,List.getElem?_cons_succ] at he ⊢
    exact h3 (fun i b hm=>hl i b (List.mem_append_right _ hm)) j e' he
theorem WO (e:TE) (n:Nat) (hn:N≤n):Te n (Fi n e).2.1 (Fi n e).2.2∧
 ((∀i b,(i,b)∈(Fi n e).2.2→aq i ob'=some b)→ ∀v,cC ob w φ e v→cC ob' w (opened N φ) (Fi n e).1 v):=by
 cases e with
 |v t es=>
  obtain⟨h1,h2,h3⟩:=Ab (w:=w) x es n hn
  refine⟨h1,fun hl v hv=> ?_⟩
  have h4:=h3 hl
  simp only[Fi]
  cases t with
  |true=>
   obtain⟨vs,k1,k2,k3⟩:=hv
   refine⟨vs,k1,by rw[h2];exact k2,fun j e' he=> ?_⟩
   obtain⟨e,k4,k5⟩:=h4 j e' he
   obtain⟨y,k6,k7⟩:=k3 j e k4
   exact⟨y,k6,k5 y k7⟩
  |false=>
   obtain⟨c,rfl,k1⟩:=hv
   have hlen:(ga n [c]).1.length=1:=h2
   obtain⟨e',he'⟩: ∃e',(ga n [c]).1=[e']:=by
    cases hq:(ga n [c]).1 with
    |nil=>rw[hq] at hlen;cases hlen
    |cons y t=>cases t with
     |nil=>exact⟨y,rfl⟩
     |cons _ _=>rw[hq] at hlen;simp at hlen
   obtain⟨e0,k4,k5⟩:=h4 0 e' (by rw[he'];rfl)
   simp only[List.getElem?_cons_zero,Option.some.injEq] at k4
   subst k4
   exact⟨e',he',k5 v k1⟩
 |kb b=>
  refine⟨Nat.le_refl _,fun _ v hv=> ?_⟩
  simp only[cC] at hv
  subst hv
  exact⟨_,rfl,_,rfl,rfl,rfl,trivial⟩
 |_=>exact⟨Nat.le_refl _,fun _ v hv=>hv.ext x⟩
theorem M4: ∀(l:List (Nat×TE)) (n:Nat),N≤n→(∃m,Te n m (yz n l).2)∧
 ((∀i b,(i,b)∈(yz n l).2→aq i ob'=some b)→ ∀(i:Nat) (e':TE),aq i (yz n l).1=some e'→ ∃e,aq i l=some e∧ ∀v,cC ob w φ e v→cC ob' w (opened N φ) e' v)
 |[],n,hn=>⟨⟨n,Nat.le_refl _⟩,fun _ i e' h=>by simp[yz,aq] at h⟩
 |(j,e)::r,n,hn=>by
  obtain⟨g1,g2⟩:=WO (w:=w) x e n hn
  obtain⟨⟨m,h1⟩,h2⟩:=M4 r (Fi n e).2.1 (Nat.le_trans hn g1.le)
  refine⟨⟨m,g1.app h1⟩,fun hl i e' he=> ?_⟩
  simp only[yz,aq] at he ⊢
  cases hj:Nat.beq j i with
  |true=>
   rw[hj] at he
   simp only[Option.some.injEq] at he
   subst he
   exact⟨e,rfl,g2 fun i b hm=>hl i b (List.mem_append_left _ hm)⟩
  |false=>
   rw[hj] at he
   exact h2 (fun i b hm=>hl i b (List.mem_append_right _ hm)) i e' he
end
theorem Tr {n:Nat}: ∀{ob:List (Nat×OB)},Tm n ob=true→ ∀o,aF ob o→o<n
 |[],_,o,⟨b,h⟩=>by cases h
 |(i,x)::r,ha,o,⟨b,h⟩=>by
  simp only[Tm] at ha
  cases h1:Nat.ble n i with
  |true=>rw[h1] at ha;cases ha
  |false=>
   rw[h1] at ha
   simp only[aq] at h
   cases h2:Nat.beq i o with
   |true=>
    have:=Nat.eq_of_beq_eq_true h2
    subst this
    exact Nat.lt_of_not_le fun h3=>by rw[Nat.ble_eq_true_of_le h3] at h1;cases h1
   |false=>rw[h2] at h;exact Tr ha o ⟨b,h⟩
theorem aT.Tn (h:aT F A w0 φ st tm w): ∃φ',aT F A w0 φ' (Tn st) tm w∧φ'.β=φ.β:=by
 unfold T.Tn
 cases ha:Tm 900000000 st.ob with
 |false=>exact⟨φ,h,rfl⟩
 |true=>
  have hlt:=Tr ha
  have x1: ∀ob',(∀d b,aq d st.ob=some b→aq d ob'=some b)→Ext st.ob ob' φ (opened 900000000 φ):=fun ob' hl=>
   ⟨hl,rfl,rfl,fun d hd=>by
     have:d<900000000:=hd.elim (fun e=>by omega) (hlt d)
     funext k
     simp[opened,this],fun d hd=>if_pos (hlt d hd)⟩
  obtain⟨⟨m,hasc⟩,_⟩:=M4 (w:=w) (x1 st.ob fun _ _ h=>h) st.tm 900000000 (Nat.le_refl _)
  obtain⟨l1,l2⟩:=JX (ob:=st.ob) hasc
  have x:Ext st.ob (kg (yz 900000000 st.tm).2 st.ob) φ (opened 900000000 φ):=x1 _ fun d b hd=>by rw[l2 d (hlt d ⟨b,hd⟩)];exact hd
  obtain⟨_,hT⟩:=M4 (w:=w) x st.tm 900000000 (Nat.le_refl _)
  have hT:=hT l1
  have old: ∀d,aF (kg (yz 900000000 st.tm).2 st.ob) d→(d<900000000∧aF st.ob d)∨900000000≤d:=fun d ⟨b,hd⟩=>by
   rcases Fk hd with h1|h1
   ·exact .inr (hasc.mem h1).1
   ·exact .inl ⟨hlt d ⟨b,h1⟩,b,h1⟩
  have oldS: ∀d k,aF (kg (yz 900000000 st.tm).2 st.ob) d→(opened 900000000 φ).S d k→aF st.ob d∧φ.S d k:=fun d k hd hk=>by
   rcases old d hd with h1|h1
   ·exact⟨h1.2,hk.2⟩
   ·exact absurd hk.1 (by omega)
  refine⟨opened 900000000 φ,⟨fun i=> ?_,fun b cs hb j e he=> ?_,fun o b ho=> ?_,?_,h.frm⟩,rfl⟩
  ·show cC (kg (yz 900000000 st.tm).2 st.ob) w (opened 900000000 φ) (match aq i (yz 900000000 st.tm).1 with|some e=>e|none=> .dead) (tm.getD i undef)
   cases hi:aq i (yz 900000000 st.tm).1 with
   |none=>trivial
   |some e'=>
    obtain⟨e,h1,h2⟩:=hT i e' hi
    have:=h.tmp i
    unfold TS.get at this
    rw[h1] at this
    exact h2 _ this
  ·obtain⟨v,h1,h3,h2⟩:=h.box b cs hb j e he
   exact⟨v,h1,h3,h2.ext x⟩
  ·unfold nX
   rcases Fk ho with h1|h1
   ·obtain⟨a1,a2,a3,a4,a5⟩:=hasc.mem h1
    obtain⟨bd,bz,br⟩:=b
    simp only at a3 a4 a5
    subst a3 a4
    have hv:(opened 900000000 φ).V o=abP:=if_neg (by omega)
    rw[hv]
    refine ax.sub _ _ bz [] none 0 (fun _ _=>default) (fun _ _ _=>False) ⟨Nat.le_refl _,Nat.zero_le _,a5,fun r hr=>(by cases hr),fun hr=>absurd rfl hr,fun _ ha=>(by cases ha),fun _ _ ha=>(by cases ha),
     fun _=>⟨fun _=>rfl,fun _ ha=>(by cases ha)⟩,fun _ _ _ ha=>(by cases ha),fun _ _ _ _ hk=>hk.elim⟩ fun i f tc ht=>absurd rfl (Ia ht)
   ·have hd:=hlt o ⟨b,h1⟩
    have:=h.obj o b h1
    unfold nX at this
    rw[x.V o ⟨b,h1⟩,x.S o (.inr ⟨b,h1⟩)]
    exact this
  ·exact {
    arg:=by rw[x.S 0 (.inl rfl)];exact h.sep.arg
    nz:=fun o ho e=>by
     rcases old o ho with h1|h1
     ·exact h.sep.nz o h1.2 e
     ·omega
    apart:=fun o o' k h1 h2 h3 h4=>h.sep.apart o o' k (oldS o k h1 h3).1 (oldS o' k h2 h4).1 (oldS o k h1 h3).2 (oldS o' k h2 h4).2
    read:=fun o k h1 h2=>h.sep.read o k (oldS o k h1 h2).1 (oldS o k h1 h2).2
    fresh:=fun o k h1 h2=>h.sep.fresh o k (oldS o k h1 h2).1 (oldS o k h1 h2).2
    ro:=h.sep.ro
    came:=h.sep.came
    box:=fun b cs hb hw=>by
     obtain⟨a1,a2,a3,a4⟩:=h.sep.box b cs hb hw
     exact⟨a1,fun o ho hk=>a2 o (oldS o _ ho hk).1 (oldS o _ ho hk).2,a3,a4⟩
    spot:=h.sep.spot
    soft:=h.sep.soft}
end Go.T
namespace Go.T
variable {F : Nat → Prop} {A : Arg} {w0 w w' : World} {φ φ' : Fp} {st st' : TS} {tm tm' : Array Value}
structure M5 (n:Nat) (ρ:List (Nat×Nat)):Prop where
 rng: ∀o m,(o,m)∈ρ→1≤m∧m<n∧o≠0
 apart:ρ.Pairwise fun a b=>a.1≠b.1∧a.2≠b.2
theorem ji {α:Type} {o:Nat} {m:α}: ∀{ρ:List (Nat×α)},aq o ρ=some m→(o,m)∈ρ
 |(a,x)::r,h=>by
  simp only[aq] at h
  cases h1:Nat.beq a o with
  |true=>
   rw[h1] at h
   cases h
   have:=Nat.eq_of_beq_eq_true h1
   subst this
   exact .head _
  |false=>rw[h1] at h;exact .tail _ (ji h)
theorem tC {α:Type} {o:Nat}: ∀{ρ:List (Nat×α)},aq o ρ=none→ ∀m,(o,m)∉ρ
 |[],_,_=>by simp
 |(a,x)::r,h,m=>by
  simp only[aq] at h
  cases h1:Nat.beq a o with
  |true=>rw[h1] at h;cases h
  |false=>
   rw[h1] at h
   intro hm
   rcases List.mem_cons.1 hm with e|hm
   ·cases e;exact Nat.ne_of_beq_eq_false h1 rfl
   ·exact tC h m hm
theorem C9 {n o m:Nat}: ∀{ρ:List (Nat×Nat)},(ρ.Pairwise fun a b=>a.1≠b.1∧a.2≠b.2)→(o,m)∈ρ→aq o ρ=some m
 |(a,x)::r,h,hm=>by
  simp only[aq]
  rw[List.pairwise_cons] at h
  rcases List.mem_cons.1 hm with e|hm
  ·cases e;rw[C7]
  ·have:=(h.1 _ hm).1
   rw[beq_false this]
   exact C9 (n:=n) h.2 hm
theorem Eo: ∀(l:List Nat) (n:Nat) (ρ:List (Nat×Nat)),1≤n→M5 n ρ→ ∃n',M5 n' (number l n ρ)∧(∀o m,aq o ρ=some m→aq o (number l n ρ)=some m)∧ ∀o∈l,o≠0→ ∃m,aq o (number l n ρ)=some m
 |[],n,ρ,_,h=>⟨n,h,fun _ _ h=>h,fun _ h=>by cases h⟩
 |o::r,n,ρ,hn,h=>by
  simp only[number]
  cases h0:Nat.beq o 0 with
  |true=>
   obtain⟨n',h1,h2,h3⟩:=Eo r n ρ hn h
   refine⟨n',h1,h2,fun p hp hp0=> ?_⟩
   rcases List.mem_cons.1 hp with e|hp
   ·exact absurd (e.trans (Nat.eq_of_beq_eq_true h0)) hp0
   ·exact h3 p hp hp0
  |false=>
   have h0:=Nat.ne_of_beq_eq_false h0
   cases hl:aq o ρ with
   |some m=>
    obtain⟨n',h1,h2,h3⟩:=Eo r n ρ hn h
    refine⟨n',h1,h2,fun p hp hp0=> ?_⟩
    rcases List.mem_cons.1 hp with e|hp
    ·subst e;exact⟨m,h2 _ _ hl⟩
    ·exact h3 p hp hp0
   |none=>
    have hk:M5 (n+1) ((o,n)::ρ):=by
     refine⟨fun p m hm=> ?_,List.pairwise_cons.2 ⟨fun a ha=>⟨fun e=> ?_,fun e=> ?_⟩,h.apart⟩⟩
     ·rcases List.mem_cons.1 hm with e|hm
      ·cases e;exact⟨hn,by omega,h0⟩
      ·have:=h.rng p m hm;exact⟨this.1,by omega,this.2.2⟩
     ·obtain⟨a1,a2⟩:=a
      simp only at e
      subst e
      exact tC hl a2 ha
     ·obtain⟨a1,a2⟩:=a
      simp only at e
      have:=(h.rng a1 a2 ha).2.1
      omega
    obtain⟨n',h1,h2,h3⟩:=Eo r (n+1) ((o,n)::ρ) (by omega) hk
    have hon:aq o ((o,n)::ρ)=some n:=by simp only[aq,C7]
    refine⟨n',h1,fun p m hp=>h2 p m ?_,fun p hp hp0=> ?_⟩
    ·simp only[aq]
     rw[beq_false fun e=>by subst e;rw[hl] at hp;cases hp]
     exact hp
    ·rcases List.mem_cons.1 hp with e|hp
     ·subst e;exact⟨n,h2 _ _ hon⟩
     ·exact h3 p hp hp0
theorem abq {o o' m:Nat}: ∀{ρ:List (Nat×Nat)},(ρ.Pairwise fun a b=>a.1≠b.1∧a.2≠b.2)→(o,m)∈ρ→(o',m)∈ρ→o=o'
 |p::r,h,h1,h2=>by
  rw[List.pairwise_cons] at h
  rcases List.mem_cons.1 h1 with e1|h1
  ·rcases List.mem_cons.1 h2 with e2|h2
   ·rw[←e1] at e2;cases e2;rfl
   ·exact absurd (by rw[←e1]) (h.1 _ h2).2
  ·rcases List.mem_cons.1 h2 with e2|h2
   ·exact absurd (by rw[←e2]) (h.1 _ h1).2
   ·exact abq h.2 h1 h2
def inv (ρ:List (Nat×Nat)) (m:Nat):Nat:=match ρ.find? fun p=>Nat.beq p.2 m with|some p=>p.1|none=>0
theorem inv_eq {n o m:Nat} {ρ:List (Nat×Nat)} (h:M5 n ρ) (hl:aq o ρ=some m):inv ρ m=o:=by
 unfold inv
 have hm:=ji hl
 cases hf:ρ.find? fun p=>Nat.beq p.2 m with
 |none=>
  have:=List.find?_eq_none.1 hf _ hm
  simp at this
 |some p=>
  have h1:=List.mem_of_find?_eq_some hf
  have h2:=List.find?_some hf
  have h2:=Nat.eq_of_beq_eq_true h2
  simp only
  obtain⟨p1,p2⟩:=p
  simp only at h2
  subst h2
  exact abq h.apart h1 hm
theorem inv_zero {n:Nat} {ρ:List (Nat×Nat)} (h:M5 n ρ):inv ρ 0=0:=by
 unfold inv
 cases hf:ρ.find? fun p=>Nat.beq p.2 0 with
 |none=>rfl
 |some p=>
  have h1:=List.mem_of_find?_eq_some hf
  have h2:=List.find?_some hf
  have h2:=Nat.eq_of_beq_eq_true h2
  obtain⟨p1,p2⟩:=p
  have:=(h.rng p1 p2 h1).1
  simp only at h2
  omega
theorem Gt {o m:Nat} {ρ:List (Nat×Nat)} (hl:aq o ρ=some m):H6 ρ o=m:=by unfold H6;rw[hl]
theorem Q6 {n:Nat} {ρ:List (Nat×Nat)} (h:M5 n ρ):H6 ρ 0=0:=by
 unfold H6
 cases hl:aq 0 ρ with
 |none=>rfl
 |some m=>exact absurd rfl (h.rng 0 m (ji hl)).2.2
theorem Gu {ob:List (Nat×OB)} {m:Nat} {b:OB}: ∀{ρ:List (Nat×Nat)},aq m (tV ob ρ)=some b→ ∃o,(o,m)∈ρ∧aq o ob=some b
 |(o,n)::r,h=>by
  simp only[tV] at h
  cases ho:aq o ob with
  |none=>
   rw[ho] at h
   obtain⟨o',h1,h2⟩:=Gu h
   exact⟨o',.tail _ h1,h2⟩
  |some b'=>
   rw[ho] at h
   simp only[eT] at h
   by_cases hm:m=n
   ·rw[if_pos hm] at h;cases h;subst hm;exact⟨o,.head _,ho⟩
   ·rw[if_neg hm] at h
    obtain⟨o',h1,h2⟩:=Gu h
    exact⟨o',.tail _ h1,h2⟩
theorem Ts {ob:List (Nat×OB)} {o m:Nat} {b:OB} (ho:aq o ob=some b): ∀{ρ:List (Nat×Nat)},(ρ.Pairwise fun a b=>a.1≠b.1∧a.2≠b.2)→(o,m)∈ρ→aq m (tV ob ρ)=some b
 |(o',n)::r,h,hm=>by
  rw[List.pairwise_cons] at h
  simp only[tV]
  rcases List.mem_cons.1 hm with e|hm
  ·cases e
   rw[ho]
   simp only[eT,if_pos]
  ·have h1:=(h.1 _ hm).2
   have ih:=Ts ho h.2 hm
   cases ho':aq o' ob with
   |none=>exact ih
   |some b'=>
    simp only[eT]
    rw[if_neg (Ne.symm h1)]
    exact ih
def Fp.Tt (φ:Fp) (ρ:List (Nat×Nat)):Fp:={φ with S:=fun m=>φ.S (inv ρ m),V:=fun m=>φ.V (inv ρ m)}
section
variable {ob : List (Nat × OB)} {n : Nat} {ρ : List (Nat × Nat)} (hρ : M5 n ρ)
include hρ
theorem Gv {o m:Nat} {b:OB} (hm:aq o ρ=some m) (ho:aq o ob=some b):aq m (tV ob ρ)=some b:=Ts ho hρ.apart (ji hm)
theorem Yf {o m:Nat} (hm:aq o ρ=some m):(φ.Tt ρ).S m=φ.S o:=by show φ.S (inv ρ m)=_;rw[inv_eq hρ hm]
theorem V7 {o m:Nat} (hm:aq o ρ=some m):(φ.Tt ρ).V m=φ.V o:=by show φ.V (inv ρ m)=_;rw[inv_eq hρ hm]
theorem Yg:(φ.Tt ρ).S 0=φ.S 0:=by show φ.S (inv ρ 0)=_;rw[inv_zero hρ]
theorem Yh {ds:List Nat} (hz: ∀d,aF ob d→d≠0) (hd: ∀d∈ds,d=0∨aF ob d) (hc: ∀o∈ds,o≠0→ ∃m,aq o ρ=some m):
 (∀d∈ds.map (H6 ρ),d=0∨aF (tV ob ρ) d)∧ ∀k,rd φ ds k→rd (φ.Tt ρ) (ds.map (H6 ρ)) k:=by
 refine⟨fun d hm=> ?_,fun k hk=> ?_⟩
 ·obtain⟨o,h1,rfl⟩:=List.mem_map.1 hm
  rcases hd o h1 with rfl|h2
  ·exact .inl (Q6 hρ)
  ·obtain⟨m,h3⟩:=hc o h1 (hz o h2)
   obtain⟨b,h4⟩:=h2
   rw[Gt h3]
   exact .inr ⟨b,Gv hρ h3 h4⟩
 ·rcases hk with hk|⟨d,hm,hk⟩
  ·exact .inl hk
  ·refine .inr ⟨H6 ρ d,List.mem_map_of_mem hm,?_⟩
   rcases hd d hm with rfl|h2
   ·rw[Q6 hρ,Yg hρ];exact hk
   ·obtain⟨m,h3⟩:=hc d hm (hz d h2)
    rw[Gt h3,Yf hρ h3];exact hk
theorem dn.Tt (hz: ∀d,aF ob d→d≠0) {e:CE} {v:Value} (hc: ∀o∈fQ e,o≠0→ ∃m,aq o ρ=some m) (h:dn ob w φ e v):dn (tV ob ρ) w (φ.Tt ρ) (Gp ρ e) v:=by
 cases e with
 |ref o cut=>
  obtain⟨b,h1,h2⟩:=h
  obtain⟨m,h3⟩:=hc o (by simp[fQ]) (hz o ⟨b,h1⟩)
  simp only[Gp]
  rw[Gt h3]
  exact⟨b,Gv hρ h3 h1,by rw[V7 hρ h3];exact h2⟩
 |snap ds loc z rows=>
  obtain⟨h1,h2,h3⟩:=h
  obtain⟨g1,g2⟩:=Yh hρ (φ:=φ) hz h1 hc
  refine⟨g1,h2.oP g2,fun o i f hl=> ?_⟩
  cases loc with
  |none=>cases hl
  |some q=>
   obtain⟨o',i',f'⟩:=q
   simp only[Option.some.injEq,Prod.mk.injEq] at hl
   obtain⟨rfl,rfl,rfl⟩:=hl
   obtain⟨a1,b,a2,a3,a4,ad,n,c,a5,a6⟩:=h3 o' i' f' rfl
   obtain⟨m,a7⟩:=hc o' a1 (hz o' ⟨b,a2⟩)
   refine⟨List.mem_map_of_mem a1,?_⟩
   rw[Gt a7]
   exact⟨b,Gv hρ a7 a2,a3,a4,ad,n,c,by rw[V7 hρ a7];exact a5,a6⟩
 |_=>exact h
theorem cC.Tt (hz: ∀d,aF ob d→d≠0) {e:TE} {v:Value} (hc: ∀o∈ya e,o≠0→ ∃m,aq o ρ=some m) (h:cC ob w φ e v):cC (tV ob ρ) w (φ.Tt ρ) (x9 (Gp ρ) (X6 ρ) e) v:=by
 have comp: ∀(c:qK) (u:Value),(∀o∈iF [c],o≠0→ ∃m,aq o ρ=some m)→mG ob w φ c u→mG (tV ob ρ) w (φ.Tt ρ) (uH (Gp ρ) c) u:=by
  intro c u hc h
  cases c with
  |ptr b=>exact h
  |mk a cs=>
   simp only[iF,List.append_nil] at hc
   have hc1: ∀e∈cs,∀o∈fQ e,o≠0→ ∃m,aq o ρ=some m:=fun e he o ho=>hc o (List.mem_flatMap.2 ⟨e,he,ho⟩)
   cases a with
   |true=>
    obtain⟨xs,h1,h2,h3⟩:=h
    refine⟨xs,h1,by simp[h2],fun j e he=> ?_⟩
    rw[List.getElem?_map] at he
    cases h4:cs[j]? with
    |none=>rw[h4] at he;cases he
    |some e0=>
     rw[h4] at he
     simp only[Option.map_some,Option.some.injEq] at he
     subst he
     obtain⟨x,hx,hx1,hok⟩:=h3 j e0 h4
     exact⟨x,hx,hx1,hok.Tt hρ hz (hc1 e0 (List.mem_of_getElem? h4))⟩
   |false=>
    obtain⟨e,rfl,h2,h3⟩:=h
    exact⟨_,rfl,h2,h3.Tt hρ hz (hc1 e (by simp))⟩
 have dcomp: ∀(es:List qK) (c:qK),c∈es→ ∀o,o∈iF [c]→o∈iF es:=by
  intro es
  induction es with
  |nil=>intro c hc;cases hc
  |cons x r ih=>
   intro c hc o ho
   rcases List.mem_cons.1 hc with rfl|hc
   ·cases c with
    |ptr b=>simp[iF] at ho
    |mk a cs=>
     simp only[iF,List.append_nil] at ho
     simp only[iF]
     exact List.mem_append_left _ ho
   ·have:=ih c hc o ho
    cases x with
    |ptr b=>exact this
    |mk a cs=>simp only[iF];exact List.mem_append_right _ this
 cases e with
 |v t es=>
  cases t with
  |true=>
   obtain⟨vs,h1,h2,h3⟩:=h
   refine⟨vs,h1,by rw[qj];exact h2,fun k c hk=> ?_⟩
   rw[uf] at hk
   cases h4:es[k]? with
   |none=>rw[h4] at hk;cases hk
   |some c0=>
    rw[h4] at hk
    simp only[Option.map_some,Option.some.injEq] at hk
    obtain⟨u,hu,hok⟩:=h3 k c0 h4
    exact⟨u,hu,by rw[←hk];exact comp c0 u (fun o ho=>hc o (dcomp es c0 (List.mem_of_getElem? h4) o ho)) hok⟩
  |false=>
   obtain⟨c,rfl,hok⟩:=h
   refine⟨uH (Gp ρ) c,?_,comp c v hc hok⟩
   cases c<;>rfl
 |ep ds cells=>
  obtain⟨h1,ad,h2,hr,h3⟩:=h
  obtain⟨g1,g2⟩:=Yh hρ (φ:=φ) hz h1 hc
  refine⟨g1,ad,h2,fun hne=>g2 _ (hr hne),fun j tc hj=> ?_⟩
  obtain⟨u,h4,h5⟩:=h3 j tc hj
  exact⟨u,h4,h5.oP g2⟩
 |er o path i f=>
  obtain⟨b,h1,h2,ad,n,c,h3,h4⟩:=h
  obtain⟨m,h5⟩:=hc o (by simp[ya]) (hz o ⟨b,h1⟩)
  show cC (tV ob ρ) w (φ.Tt ρ) (.er (H6 ρ o) path i f) v
  rw[Gt h5]
  exact⟨b,Gv hρ h5 h1,h2,ad,n,c,by rw[V7 hρ h5];exact h3,h4⟩
 |_=>exact h
end
theorem aT.canon (h:aT F A w0 φ st tm w): ∃φ',aT F A w0 φ' (canon st) tm w∧φ'.β=φ.β:=by
 obtain⟨n,hρ,_,hall⟩:=Eo (abJ st) 1 [] (Nat.le_refl _) ⟨fun _ _ h=>(by cases h),List.Pairwise.nil⟩
 unfold T.canon ac0
 generalize number (abJ st) 1 []=ρ at hρ hall
 have hz:=h.sep.nz
 have dom: ∀m,aF (tV st.ob ρ) m→ ∃o,aq o ρ=some m∧aF st.ob o:=fun m ⟨b,hm⟩=>by
  obtain⟨o,h1,h2⟩:=Gu hm
  exact⟨o,C9 (n:=n) hρ.apart h1,b,h2⟩
 have domS: ∀m k,aF (tV st.ob ρ) m→(φ.Tt ρ).S m k→ ∃o,aq o ρ=some m∧aF st.ob o∧φ.S o k:=fun m k hm hk=>by
  obtain⟨o,h1,h2⟩:=dom m hm
  rw[Yf hρ h1] at hk
  exact⟨o,h1,h2,hk⟩
 refine⟨φ.Tt ρ,⟨fun i=> ?_,fun b cs hb j e he=> ?_,fun m b hm=> ?_,?_,h.frm⟩,rfl⟩
 ·show cC (tV st.ob ρ) w (φ.Tt ρ) (match aq i (mapA (x9 (Gp ρ) (X6 ρ)) st.tm) with|some e=>e|none=> .dead) (tm.getD i undef)
  rw[r7]
  cases hi:aq i st.tm with
  |none=>trivial
  |some e=>
   have:=h.tmp i
   unfold TS.get at this
   rw[hi] at this
   exact this.Tt hρ hz fun o ho ho0=>hall o (List.mem_append_left _ (List.mem_flatMap.2 ⟨_,ji hi,ho⟩)) ho0
 ·simp only[r7] at hb
  cases h1:aq b st.bx with
  |none=>rw[h1] at hb;cases hb
  |some cs0=>
   rw[h1] at hb
   simp only[Option.map_some,Option.some.injEq] at hb
   subst hb
   rw[List.getElem?_map] at he
   cases h2:cs0[j]? with
   |none=>rw[h2] at he;cases he
   |some e0=>
    rw[h2] at he
    simp only[Option.map_some,Option.some.injEq] at he
    subst he
    obtain⟨v,h3,h5,h4⟩:=h.box b cs0 h1 j e0 h2
    exact⟨v,h3,h5,h4.Tt hρ hz fun o ho ho0=>hall o (List.mem_append_right _ (List.mem_flatMap.2 ⟨_,ji h1,List.mem_flatMap.2 ⟨e0,List.mem_of_getElem? h2,ho⟩⟩)) ho0⟩
 ·obtain⟨o,h1,h2⟩:=Gu hm
  have h1:=C9 (n:=n) hρ.apart h1
  unfold nX
  rw[Yf hρ h1,V7 hρ h1]
  exact h.obj o b h2
 ·have hs:=h.sep.boxes (gM (Gp ρ))
  exact {
   arg:=by rw[Yg hρ];exact h.sep.arg
   nz:=fun m hm e=>by
    obtain⟨o,h1,_⟩:=dom m hm
    have:=(hρ.rng o m (ji h1)).1
    omega
   apart:=fun m m' k h1 h2 h3 h4=>by
    obtain⟨o,a1,a2,a3⟩:=domS m k h1 h3
    obtain⟨o',b1,b2,b3⟩:=domS m' k h2 h4
    have:=h.sep.apart o o' k a2 b2 a3 b3
    subst this
    rw[a1] at b1;cases b1;rfl
   read:=fun m k h1 h2=>by obtain⟨o,a1,a2,a3⟩:=domS m k h1 h2;exact h.sep.read o k a2 a3
   fresh:=fun m k h1 h2=>by obtain⟨o,a1,a2,a3⟩:=domS m k h1 h2;exact h.sep.fresh o k a2 a3
   ro:=hs.ro
   came:=hs.came
   box:=fun b cs hb hw=>by
    obtain⟨a1,a2,a3,a4⟩:=hs.box b cs hb hw
    refine⟨a1,fun m hm hk=> ?_,a3,a4⟩
    obtain⟨o,c1,c2,c3⟩:=domS m _ hm hk
    exact a2 o c2 c3
   spot:=hs.spot
   soft:=hs.soft}
theorem aT.head (h:aT F A w0 φ st tm w) (l:List Nat):Rel F A w0 (To l st) tm w:=by
 obtain⟨φ1,h1,_⟩:=(h.ac2 l).Tn
 obtain⟨φ2,h2,_⟩:=h1.canon
 exact⟨φ2,h2⟩
end Go.T
