/- The rules of the functions (printed by Gen.lean). -/
import Derived.Test.YtiinnfilgnhjfaaGreatTC
import Derived.Test.YtiinnfilgnhjfaaGreatT6
set_option linter.unusedVariables false
set_option linter.unusedSimpArgs false
set_option maxRecDepth 100000
namespace Go.T.R
open Go Go.T
abbrev zPl (a b c d e:RR) (n:Int):List TC:=[TC.sub 1 a,TC.sub 1 b,TC.sub 2 c,TC.sub 3 d,TC.sub 4 e,iI n]
abbrev zTr (a b:RR):List TC:=[TC.sub 1 a,TC.sub 1 b]
abbrev zZ (a b c d e:Int):List TC:=[iI a,iI b,iI c,iI d,iI e]
abbrev zB (Q:QV) (A B:QV→Prop):Prop:= ∃r:TV×List TV,A (fun a b=>(a,b)=r)∧B (fun a b=>(a,b)=r)∧Q r.1 r.2
abbrev zD (Q:QV) (A:QV→Prop):Prop:= ∃r:TV×List TV,A (fun a b=>(a,b)=r)∧A (fun a b=>(a,b)=r)∧Q r.1 r.2
abbrev zX (Q:QV) (A:RR→RR→RR→RR→RR→Int→Prop) (B:Int→ByteArray→ByteArray→Int→Int→Prop) (K:QV→RR→RR→RR→RR→RR→Int→Int→ByteArray→ByteArray→Int→Int→Prop):Prop:= ∃r:TV×List TV,(∃a b c d e n,A a b c d e n∧ ∃k s t x y,B k s t x y∧K (fun a b=>(a,b)=r) a b c d e n k s t x y)∧(∃k s t x y,B k s t x y∧ ∃a b c d e n,A a b c d e n∧K (fun a b=>(a,b)=r) a b c d e n k s t x y)∧Q r.1 r.2
theorem aX {f:FuncId} {vs:List TV} {Q:QV} {Φ:Prop} (h:Hint) (hΦ:Φ) (e:(body C f vs).pre (an C) (Sx C (fxs C f) 4) (fun p=>Q p.1 p.2) h=Φ:=by kernel_rfl) (hx:C.ext f=none:=by rfl):aV C f vs Q:=aqm h e hΦ hx
theorem aO {f:FuncId} {p:List fI} {x:TX} {st:TS} {Q:QV} {Φ:Prop} (h:Hint) (hΦ:Φ) (e:(aj3 C f p x st).pre (an C) (Sx C (fxs C f) 4) (fun p=>Q p.1 p.2) h=Φ:=by kernel_rfl):ax C f p x st Q:=aoA h e hΦ
theorem zd {f:FuncId} {p q:List fI} {n i:Nat} {x:TX} {st:TS} {Q:QX} {Φ:Prop} (h:Hint) (hΦ:Φ) (e:(aj4 C f p i q x st).pre (an C) (Sx C (fxs C f) (n-1)) (aj5 C f p n i Q) h=Φ:=by kernel_rfl):qy C f p n i q x st Q:=amd h e hΦ
theorem bE {f:FuncId} {p:List fI} {n i:Nat} {st:TS} {Q:QX} {Φ:Prop} (h:Hint) (hΦ:Φ) (e:(run C (fxs C f) f i (ab3 C f p) st VI).pre (an C) (Sx C (fxs C f) n) (aj5 C f p (n+1) i Q) h=Φ:=by kernel_rfl):aa C f p (n+1) i st Q:=aoB h e hΦ
abbrev iK (l:RR):TV:= .c (.sub 1 l)
abbrev lE (l:RR):TV:= .c (.sub 2 l)
abbrev qV (l:RR):TV:= .c (.sub 3 l)
abbrev I1 (l:RR):TV:= .c (.sub 4 l)
abbrev fO (l:RR):TV:= .c (.sub 5 l)
abbrev cq (a b c d e:RR) (n:Int):TV:= .ag (zPl a b c d e n)
abbrev rX (a b c d e:RR) (n:Int):TV:= .bx (zPl a b c d e n)
abbrev dI (a b:RR):TV:= .ag (zTr a b)
abbrev jk (a b c d e:Int):TV:= .ag (zZ a b c d e)
abbrev nQ (a b c d e:RR) (n m:Int):TV:= .tu [(1,zPl a b c d e n),(0,[iI m])]
abbrev xF (a b c d e:RR) (n:Int) (m:Bool):TV:= .tu [(1,zPl a b c d e n),(0,[iB m])]
abbrev YZ (a b c d e:Int) (m:Bool):TV:= .tu [(1,zZ a b c d e),(0,[iB m])]
abbrev qW (a b:RR) (m:Bool):TV:= .tu [(1,zTr a b),(0,[iB m])]
abbrev Ss (a:Int) (b c:ByteArray) (d e:Int):TV:= .ag [iI a,iS b,iS c,iI d,iI e]
structure ZW where
 P:FuncId→List TV→(RR→RR→RR→RR→RR→Int→Prop)→Prop
 J:FuncId→List TV→(RR→RR→RR→RR→RR→Int→Int→Prop)→Prop
 L:FuncId→List TV→(RR→RR→RR→RR→RR→Int→Bool→Prop)→Prop
 M:FuncId→List TV→(Int→Int→Int→Int→Int→Bool→Prop)→Prop
 N:FuncId→List TV→(RR→RR→Bool→Prop)→Prop
 T:FuncId→List TV→(RR→RR→Prop)→Prop
 O:FuncId→List TV→(Int→ByteArray→ByteArray→Int→Int→Prop)→Prop
 I:FuncId→List TV→(Int→Prop)→Prop
 B:FuncId→List TV→(Bool→Prop)→Prop
 S:FuncId→List TV→(ByteArray→Prop)→Prop
 A:FuncId→List TV→(RR→Prop)→Prop
 D:FuncId→List TV→(RR→Prop)→Prop
 E:FuncId→List TV→(RR→Prop)→Prop
 F:FuncId→List TV→(RR→Prop)→Prop
 G:FuncId→List TV→(RR→Prop)→Prop
 k:RR→Int→(Int→Int→Int→Int→Int→Prop)→Prop
 i:RR→Int→(Int→Prop)→Prop
 a:RR→Int→(RR→Prop)→Prop
 e:RR→Int→(RR→Prop)→Prop
 v:RR→Int→(ByteArray→Int→Int→Bool→Prop)→Prop
 c:RR→Int→(Int→Bool→Int→Prop)→Prop
 p:RR→Int→(Int→Int→Prop)→Prop
abbrev z:ZW:={P:=fun f v k=> ∃a b c d e n,an C f v (cq a b c d e n) []∧k a b c d e n,J:=fun f v k=> ∃a b c d e n m,an C f v (nQ a b c d e n m) []∧k a b c d e n m,L:=fun f v k=> ∃a b c d e n m,an C f v (xF a b c d e n m) []∧k a b c d e n m,M:=fun f v k=> ∃a b c d e n,an C f v (YZ a b c d e n) []∧k a b c d e n,N:=fun f v k=> ∃a b n,an C f v (qW a b n) []∧k a b n,T:=fun f v k=> ∃a b,an C f v (dI a b) []∧k a b,O:=fun f v k=> ∃a b c d e,an C f v (Ss a b c d e) []∧k a b c d e,I:=fun f v k=> ∃x,an C f v (vI x) []∧k x,B:=fun f v k=> ∃x,an C f v (vB x) []∧k x,S:=fun f v k=> ∃x,an C f v (vS x) []∧k x,A:=fun f v k=> ∃x,an C f v (iK x) []∧k x,D:=fun f v k=> ∃x,an C f v (lE x) []∧k x,E:=fun f v k=> ∃x,an C f v (qV x) []∧k x,F:=fun f v k=> ∃x,an C f v (I1 x) []∧k x,G:=fun f v k=> ∃x,an C f v (fO x) []∧k x,k:=fun l i k=> ∃a b c d e,rowAt l i=some (zZ a b c d e)∧k a b c d e,i:=fun l i k=> ∃a,rowAt l i=some [iI a]∧k a,a:=fun l i k=> ∃a,rowAt l i=some [TC.sub 1 a]∧k a,e:=fun l i k=> ∃a,rowAt l i=some [TC.sub 5 a]∧k a,v:=fun l i k=> ∃a b c d,rowAt l i=some [iS a,iI b,iI c,iB d]∧k a b c d,c:=fun l i k=> ∃a b c,rowAt l i=some [iI a,iB b,iI c]∧k a b c,p:=fun l i k=> ∃a b,rowAt l i=some [iI a,iI b]∧k a b}
abbrev zH (h:Hint):Hint:= .both h h
abbrev bS:=TC.sub 1
abbrev Gc:=TC.sub 2
abbrev QH:=TC.sub 3
abbrev zS4:=TC.sub 4
abbrev MM:=TC.sub 5
abbrev MN:=Ej.ag [Sh.sub 1,Sh.sub 1,Sh.sub 2,Sh.sub 3,Sh.sub 4,sI]
abbrev Ot:=hc (Ej.tu [(1,[Sh.sub 1,Sh.sub 1,Sh.sub 2,Sh.sub 3,Sh.sub 4,sI]),(0,[sI])]) [] hz
abbrev iL:=Ej.c (sB)
abbrev Ou:=Ej.ag [Sh.sub 1,Sh.sub 1]
abbrev qN:=hb hz hz
abbrev cH:=TX.ex 0
abbrev I2:=Ej.c (Sh.sub 5)
abbrev QI:=Ej.ag [Sh.sub 1]
abbrev lF:=CE.ref 1 none
abbrev zz9:=Ej.bx [Sh.sub 1,Sh.sub 1,Sh.sub 2,Sh.sub 3,Sh.sub 4,sI]
abbrev hD:=Ej.c (sI)
abbrev J8:=Ej.tu [(1,[sI,sI,sI,sI,sI]),(0,[sB])]
abbrev agy:=Ej.tu [(1,[Sh.sub 1,Sh.sub 1,Sh.sub 2,Sh.sub 3,Sh.sub 4,sI]),(0,[sB])]
abbrev Y0:=Ej.tu [(1,[Sh.sub 1,Sh.sub 1]),(0,[sB])]
abbrev vV:=hc iL [] qN
abbrev asc:=hr [Sh.sub 1] (hc I2 [] (hc I2 [] (hc I2 [] (hb hz (hr [sI] (hr [sI,sI,sI,sI,sI] (hr [sI,sI,sI,sI,sI] (hb (hb (hc hD [] (Hint.both (hc QI [] (hc QI [] (hc Ou [] (hc Ou [] vV)))) (hc QI [] (Hint.both (hc QI [] (hc Ou [] (hc Ou [] vV))) (hc QI [] (zH (hc Ou [] (hc Ou [] vV)))))))) hz) hz))))))))
abbrev pQ:=hc MN [] hz
abbrev ak9:=hc iL [] (hb hz (hc I2 [] (hc I2 [] (hc I2 [] (hb (hc QI [] hz) (hc QI [] (hc iL [] (hb (hc QI [] hz) (hc QI [] hz)))))))))
abbrev AP:=hb qN hz
abbrev asd:=hb (hc I2 [] (hb (hc Ou [] (hc Ou [] vV)) (hc Ou [] vV))) (hc Ou [] vV)
abbrev ana:=Ej.tu [(0,[Sh.sub 3]),(0,[sI]),(0,[sB])]
abbrev W5:=Ej.c (Sh.sub 3)
abbrev Eu:=Ej.c (Sh.sub 1)
abbrev acA:=Ej.tu [(0,[Sh.sub 2]),(0,[sB])]
abbrev DU:=hc I2 [] hz
abbrev MO:=hc hD [] qN
abbrev aeR:=hr [sS,sI,sI,sB] vV
abbrev MP:=Ej.c (Sh.sub 2)
abbrev anb:=hc iL [] (hb hz (hc I2 [] (hc QI [] (hb (hc QI [] hz) (hc iL [] (hb (hc QI [] hz) hz))))))
abbrev agz:=hr [sS,sI,sI,sB] hz
abbrev Y1:=hc iL [] hz
abbrev ala:=hc iL [] (hb Y1 hz)
abbrev agA:=hr [sI,sI,sI,sI,sI] qN
abbrev S0:=hb pQ (hc iL [] (hb pQ hz))
abbrev alb:=hb AP AP
abbrev aeS:=hc Ou [] hz
abbrev aiC:=hc Ou [] (hc iL [] (hb aeS hz))
abbrev MQ:=hc hD [] hz
abbrev alc:=hr [sI,sI,sI,sI,sI] (hr [sI,sI,sI,sI,sI] hz)
abbrev aiD:=hr [sI,sB,sI] (hr [sI,sB,sI] hz)
abbrev S3:=CE.ref 2 none
abbrev apl:=hb pQ (hc MN [] (hc ana [] (hb pQ (hr [sS,sI,sI,sB] (hr [sI,sB,sI] (hr [sI,sB,sI] (hc iL [zz9] Ot)))))))
abbrev anc:=hc iL [] (hb (hb (hb (hc iL [] (hb ala hz)) hz) hz) hz)
abbrev Y2:=hc W5 [] qN
abbrev MR:=hb hz qN
abbrev acB:=hr [sI,sI] qN
abbrev acC:=hc iL [zz9] hz
abbrev apm:=hb hz (hc ana [] (hb (hr [sI,sB,sI] (hc hD [] (hr [sS,sI,sI,sB] (hc iL [zz9] Ot)))) Ot))
abbrev ald:=Ej.tu [(0,[sI]),(0,[sI])]
abbrev apn:=hr [Sh.sub 5] (hr [Sh.sub 5] (hc I2 [] (hr [Sh.sub 5] (hr [Sh.sub 5] ak9))))
abbrev aeT:=hc J8 [] hz
abbrev ane:=hb (hr [Sh.sub 1] (hc QI [] qN)) hz
abbrev ale:=hr [sS,sI,sI,sB] agz
abbrev alf:=hc Ou [] (hb asc asd)
abbrev apo:=hb (hr [Sh.sub 1] (hc QI [] (hr [Sh.sub 1] (hr [Sh.sub 1] hz)))) hz
abbrev aeU:=hr [sI] qN
abbrev anf:=hb (hr [sS,sI,sI,sB] qN) hz
abbrev S4:=TX.ex 2
abbrev aiE:=Ej.c (Sh.sub 4)
abbrev ang:=hb (hr [sI,sI,sI,sI,sI] (hr [sI,sI,sI,sI,sI] vV)) hz
abbrev anh:=hb alb (hb (hb alb alb) (hb alb alb))
abbrev alg:=hr [sI,sB,sI] qN
abbrev W6:=cI (-1)
abbrev aiF:=hc iL [] AP
abbrev aiG:=hc I2 [] qN
abbrev apq:=hr [sI,sI,sI,sI,sI] (hc iL [] (hb agA hz))
abbrev apr:=hr [sS,sI,sI,sB] (hr [sS,sI,sI,sB] Ot)
abbrev ani:=hc hD [] (hb hz MO)
abbrev anj:=hr [sI] (hr [sI] hz)
abbrev ze:List fI:=[fI.r,fI.l,fI.b,fI.r,fI.b]
abbrev AQ:List fI:=[fI.r,fI.l,fI.b,fI.r,fI.r,fI.r,fI.b]
abbrev wD:List fI:=[fI.r,fI.l,fI.b,fI.r,fI.r,fI.r,fI.r,fI.r,fI.r,fI.b]
abbrev aj:List fI:=[fI.r,fI.l,fI.r,fI.b]
abbrev pI:List fI:=[fI.r,fI.l,fI.r,fI.b,fI.b,fI.r,fI.l,fI.b,fI.r,fI.r,fI.r,fI.b]
abbrev pJ:List fI:=[fI.r,fI.l,fI.r,fI.b,fI.b,fI.r,fI.r,fI.l,fI.b,fI.r,fI.r,fI.b]
abbrev Ov:List fI:=[fI.r,fI.r,fI.l,fI.b]
abbrev qX:List fI:=[fI.r,fI.r,fI.l,fI.b,fI.r,fI.r,fI.b]
abbrev ai:List fI:=[fI.r,fI.r,fI.l,fI.r,fI.b]
abbrev kN:List fI:=[fI.r,fI.r,fI.r,fI.l,fI.b]
abbrev av:List fI:=[fI.r,fI.r,fI.r,fI.l,fI.r,fI.b]
abbrev iu:List fI:=[fI.r,fI.r,fI.r,fI.l,fI.r,fI.b,fI.b,fI.r,fI.l,fI.b,fI.r,fI.b]
abbrev jz:List fI:=[fI.r,fI.r,fI.r,fI.l,fI.r,fI.b,fI.b,fI.r,fI.l,fI.b,fI.r,fI.r,fI.r,fI.r,fI.r,fI.r,fI.b]
abbrev qY:List fI:=[fI.r,fI.r,fI.r,fI.l,fI.r,fI.b,fI.b,fI.r,fI.r,fI.l,fI.b,fI.r,fI.r,fI.b]
abbrev bN:List fI:=[fI.r,fI.r,fI.r,fI.r,fI.l,fI.r,fI.b]
abbrev fF:List fI:=[fI.r,fI.r,fI.r,fI.r,fI.r,fI.l,fI.r,fI.b]
abbrev iX:List fI:=[fI.r,fI.r,fI.r,fI.r,fI.r,fI.r,fI.r,fI.l,fI.r,fI.b]
def xh (a:RR) (b:Int) (c:RR):TS:=TS.mk [(0,one (CE.snap [] none 5 a)),(3,one lF),(4,one (cI b))] [] [(1,OB.mk true 5 c)]
def J9 (a:RR) (b:Int) (c:Bool) (d:RR):TS:=TS.mk [(0,one (CE.snap [] none 5 a)),(3,one lF),(4,one (cI b)),(11,one (cB c))] [] [(1,OB.mk true 5 d)]
def mD (a b:Int) (c:Bool) (d:Int) (e f g h i:RR) (j:Int) (k l m n:RR) (o:Int) (p:RR):TS:=TS.mk [(2,one (cI a)),(3,TE.bp 3 0),(6,TE.bp 6 0),(8,TE.bp 8 0),(10,one (cI b)),(11,one (cB c)),(12,one (cI d))] [(3,[CE.snap [] none 1 e,CE.snap [] none 1 f,CE.snap [] none 2 g,CE.snap [] none 3 h,CE.snap [] none 4 i,cI j]),(6,[CE.nil 1,CE.nil 1,CE.nil 2,CE.nil 3,CE.nil 4,cI 0]),(8,[CE.snap [] none 1 k,CE.snap [] none 1 l,CE.snap [] none 2 m,CE.snap [] none 3 n,CE.ref 1 none,cI o])] [(1,OB.mk true 4 p)]
def GC (b c:Int) (a:Bool) (d:Int) (e f g h i:RR) (j:Int) (k l m n:RR) (o:Int) (p:RR):TS:=TS.mk [(2,one (cI b)),(3,TE.bp 3 0),(6,TE.bp 6 0),(8,TE.bp 8 0),(10,one (cI c)),(11,one (cB a)),(12,one (cI d)),(44,one (cB a))] [(3,[CE.snap [] none 1 e,CE.snap [] none 1 f,CE.snap [] none 2 g,CE.snap [] none 3 h,CE.snap [] none 4 i,cI j]),(6,[CE.nil 1,CE.nil 1,CE.nil 2,CE.nil 3,CE.nil 4,cI 0]),(8,[CE.snap [] none 1 k,CE.snap [] none 1 l,CE.snap [] none 2 m,CE.snap [] none 3 n,CE.ref 1 none,cI o])] [(1,OB.mk true 4 p)]
def GD (a b:Int) (c:Bool) (d:Int) (e f g h i:RR) (j:Int) (k l m n:RR) (o:Int) (p:RR):TS:=TS.mk [(2,one (cI a)),(3,TE.bp 3 0),(6,TE.bp 6 0),(8,TE.bp 8 0),(10,one (cI b)),(11,one (cB c)),(12,one (cI d)),(44,TE.kb false)] [(3,[CE.snap [] none 1 e,CE.snap [] none 1 f,CE.snap [] none 2 g,CE.snap [] none 3 h,CE.snap [] none 4 i,cI j]),(6,[CE.nil 1,CE.nil 1,CE.nil 2,CE.nil 3,CE.nil 4,cI 0]),(8,[CE.snap [] none 1 k,CE.snap [] none 1 l,CE.snap [] none 2 m,CE.snap [] none 3 n,CE.ref 1 none,cI o])] [(1,OB.mk true 4 p)]
def vh (a:RR) (b:Int) (c:RR):TS:=TS.mk [(0,one (CE.snap [] none 4 a)),(3,one lF),(4,one (cI b))] [] [(1,OB.mk true 4 c)]
def GF (a:RR) (b:Int) (c:Bool) (d:RR):TS:=TS.mk [(0,one (CE.snap [] none 4 a)),(3,one lF),(4,one (cI b)),(11,one (cB c))] [] [(1,OB.mk true 4 d)]
def tV (a b:RR) (c:Int):TS:=TS.mk [(0,one (CE.snap [] none 3 a)),(1,one (CE.snap [] none 3 b)),(5,one (cI c))] [] []
def QJ:TS:=TS.mk [(4,TE.kb false)] [] []
def Ew (a b:RR) (c:Int) (d:Bool):TS:=TS.mk [(0,one (CE.snap [] none 3 a)),(1,one (CE.snap [] none 3 b)),(5,one (cI c)),(14,one (cB d))] [] []
def qF (a b:Int) (c:RR):TS:=TS.mk [(0,one lF),(1,one (cI a)),(5,one (cI b))] [] [(1,OB.mk true 3 c)]
def AR (a b:Int) (c:Bool) (d:RR):TS:=TS.mk [(0,one lF),(1,one (cI a)),(5,one (cI b)),(9,one (cB c))] [] [(1,OB.mk true 3 d)]
def qG (a:RR) (b c:Int):TS:=TS.mk [(0,one (CE.snap [] none 3 a)),(1,one (cI b)),(5,one (cI c))] [] []
def vW:TS:=TS.mk [(4,one W6)] [] []
def AS (a:RR) (b c:Int) (d:Bool):TS:=TS.mk [(0,one (CE.snap [] none 3 a)),(1,one (cI b)),(5,one (cI c)),(9,one (cB d))] [] []
def si (a:Int) (b:ByteArray):TS:=TS.mk [(0,one (cI a)),(3,one (cS b))] [] []
def Cl (a:Int) (b:ByteArray) (c:Bool):TS:=TS.mk [(0,one (cI a)),(3,one (cS b)),(7,one (cB c))] [] []
def qH (a b:Int) (c:RR):TS:=TS.mk [(0,one lF),(1,one (cI a)),(5,one (cI b))] [] [(1,OB.mk true 1 c)]
def AT (a b:Int) (c:Bool) (d:RR):TS:=TS.mk [(0,one lF),(1,one (cI a)),(5,one (cI b)),(9,one (cB c))] [] [(1,OB.mk true 1 d)]
def nc (a:Int) (b c d e f:RR) (g:Int):TS:=TS.mk [(1,TE.bp 1 0),(3,one (cI a))] [(1,[CE.snap [] none 1 b,CE.snap [] none 1 c,CE.snap [] none 2 d,CE.snap [] none 3 e,CE.snap [] none 4 f,cI g])] []
def ng (a b c d e:RR) (f:Int) (g:ByteArray) (h i:Int) (j:Bool):TS:=TS.mk [(2,TE.kb false)] [(1,[CE.snap [] none 1 a,CE.snap [] none 1 b,CE.snap [] none 2 c,CE.snap [] none 3 d,CE.snap [] none 4 e,cI f]),(4,[cS g,cI h,cI i,cB j])] []
def tW (a b c d e:RR) (f:Int) (g:ByteArray) (h i:Int) (j:Bool) (k:RR):TS:=TS.mk [(2,TE.kb false)] [(1,[CE.snap [] none 1 a,CE.snap [] none 1 b,CE.snap [] none 2 c,CE.snap [] none 3 d,CE.snap [] none 4 e,cI f]),(4,[cS g,cI h,cI i,cB j])] [(17400,OB.mk true 1 k)]
def kO (a b:Int) (c d e f g:RR) (h:Int) (i:ByteArray) (j k:Int) (l:Bool):TS:=TS.mk [(1,TE.bp 1 0),(3,one (cI a)),(4,TE.bp 4 0),(5,one (cI b))] [(1,[CE.snap [] none 1 c,CE.snap [] none 1 d,CE.snap [] none 2 e,CE.snap [] none 3 f,CE.snap [] none 4 g,cI h]),(4,[cS i,cI j,cI k,cB l])] []
def Ex (a:Int) (b:Bool) (c d e f g:RR) (h:Int):TS:=TS.mk [(1,TE.bp 1 0),(3,one (cI a)),(10,one (cB b))] [(1,[CE.snap [] none 1 c,CE.snap [] none 1 d,CE.snap [] none 2 e,CE.snap [] none 3 f,CE.snap [] none 4 g,cI h])] []
def Ey (a b c d e:RR) (f:Int) (g:ByteArray) (h i:Int) (j:Bool):TS:=TS.mk [(2,TE.kb false)] [(1,[CE.snap [] none 1 a,CE.snap [] none 1 b,CE.snap [] none 2 c,CE.snap [] none 3 d,CE.snap [] none 4 e,cI f]),(4,[cS g,cI h,cI i,cB j])] []
def Ez (a b:Int) (c d e f g:RR) (h:Int) (i:ByteArray) (j k:Int) (l:Bool):TS:=TS.mk [(1,TE.bp 1 0),(3,one (cI a)),(4,TE.bp 4 0),(5,one (cI b)),(63,one (cB (bK b a)))] [(1,[CE.snap [] none 1 c,CE.snap [] none 1 d,CE.snap [] none 2 e,CE.snap [] none 3 f,CE.snap [] none 4 g,cI h]),(4,[cS i,cI j,cI k,cB l])] []
def kP (a:Int) (b:ByteArray) (c d:Int) (e:Bool) (f:RR):TS:=TS.mk [(3,TE.bp 3 0),(5,one lF),(6,one (cI a))] [(3,[cS b,cI c,cI d,cB e])] [(1,OB.mk true 4 f)]
def AU (a:Int) (b:Bool) (c:ByteArray) (d e:Int) (f:Bool) (g:RR):TS:=TS.mk [(3,TE.bp 3 0),(5,one lF),(6,one (cI a)),(28,one (cB b))] [(3,[cS c,cI d,cI e,cB f])] [(1,OB.mk true 4 g)]
def AV (a:Int) (b:ByteArray) (c d:Int) (e:Bool) (f:RR):TS:=TS.mk [(3,TE.bp 3 0),(5,one lF),(6,one (cI a)),(28,TE.kb false)] [(3,[cS b,cI c,cI d,cB e])] [(1,OB.mk true 4 f)]
def jr (b:Int) (a:RR) (c:Int) (d:RR):TS:=TS.mk [(1,TE.bp 1 0),(3,one (cI b)),(29,one (CE.snap [] none 1 a)),(30,one (cI (Int.ofNat (List.length a)))),(31,one (cI c))] [(1,[CE.snap [] none 1 d,CE.snap [] none 1 a])] []
def mE (a b c:RR):TS:=TS.mk [(2,TE.kb false)] [(1,[CE.snap [] none 1 a,CE.snap [] none 1 b]),(5,[CE.snap [] none 1 c])] []
def vi (a b c d:RR):TS:=TS.mk [(2,TE.kb false)] [(1,[CE.snap [] none 1 a,CE.snap [] none 1 b]),(5,[CE.snap [] none 1 c])] [(26600,OB.mk true 5 d)]
def GG (b:Int) (a:RR) (c d:Int) (e:Bool) (f:RR):TS:=TS.mk [(1,TE.bp 1 0),(3,one (cI b)),(29,one (CE.snap [] none 1 a)),(30,one (cI c)),(31,one (cI d)),(32,one (cB e))] [(1,[CE.snap [] none 1 f,CE.snap [] none 1 a])] []
def kQ (b:Int) (a:RR) (c:Int) (d e f g h:RR) (i:Int) (j:RR):TS:=TS.mk [(1,TE.bp 1 0),(3,one lF),(4,one (cI b)),(12,one S3),(13,one (cI (Int.ofNat (List.length a)))),(14,one (cI c))] [(1,[CE.snap [] none 1 d,CE.snap [] none 1 e,CE.snap [] none 2 f,CE.snap [] none 3 g,CE.snap [] none 4 h,cI i])] [(1,OB.mk true 1 j),(2,OB.mk true 5 a)]
def qc (a b c d e:RR) (f g h i j k:Int) (l m:RR):TS:=TS.mk [(2,TE.kb false)] [(1,[CE.snap [] none 1 a,CE.snap [] none 1 b,CE.snap [] none 2 c,CE.snap [] none 3 d,CE.snap [] none 4 e,cI f]),(6,[cI g,cI h,cI i,cI j,cI k])] [(1,OB.mk true 1 l),(2,OB.mk true 5 m)]
def EA (a b c:Int) (d:Bool) (e f g h i:RR) (j:Int) (k l:RR):TS:=TS.mk [(1,TE.bp 1 0),(3,one lF),(4,one (cI a)),(12,one S3),(13,one (cI b)),(14,one (cI c)),(15,one (cB d))] [(1,[CE.snap [] none 1 e,CE.snap [] none 1 f,CE.snap [] none 2 g,CE.snap [] none 3 h,CE.snap [] none 4 i,cI j])] [(1,OB.mk true 1 k),(2,OB.mk true 5 l)]
def rO (a:RR) (b:Int) (c:RR):TS:=TS.mk [(0,one (CE.snap [] none 5 a)),(3,one lF),(4,one (cI b))] [] [(1,OB.mk true 5 c)]
def LK (a:RR) (b:Int) (c:Bool) (d:RR):TS:=TS.mk [(0,one (CE.snap [] none 5 a)),(3,one lF),(4,one (cI b)),(9,one (cB c))] [] [(1,OB.mk true 5 d)]
def tX (a b c:Int) (d e:RR):TS:=TS.mk [(1,one (cI a)),(2,one (cI b)),(3,TE.bp 3 0),(7,one (cI c))] [(3,[CE.snap [] none 1 d,CE.snap [] none 1 e])] []
def EB (a:Int) (b c:RR):TS:=TS.mk [(6,one (cI a))] [(3,[CE.snap [] none 1 b,CE.snap [] none 1 c])] []
def EC (a b c:Int) (d:Bool) (e f:RR):TS:=TS.mk [(1,one (cI a)),(2,one (cI b)),(3,TE.bp 3 0),(7,one (cI c)),(13,one (cB d))] [(3,[CE.snap [] none 1 e,CE.snap [] none 1 f])] []
def tw (a:RR) (b c:Int):TS:=TS.mk [(0,one (CE.snap [] none 2 a)),(1,one (cI b)),(5,one (cI c))] [] []
def Ka (a:Int):TS:=TS.mk [(4,one (cI a))] [] []
def Kb (a:RR) (b c:Int) (d:Bool):TS:=TS.mk [(0,one (CE.snap [] none 2 a)),(1,one (cI b)),(5,one (cI c)),(9,one (cB d))] [] []
def nh (b:Int) (a:RR) (c:Int):TS:=TS.mk [(1,one (cI b)),(7,one (CE.snap [] none 5 a)),(8,one (cI (Int.ofNat (List.length a)))),(9,one (cI c))] [] []
def ED (a b c d e:Int):TS:=TS.mk [(4,TE.kb true)] [(6,[cI a,cI b,cI c,cI d,cI e])] []
def EE (a:Int) (b:RR) (c d:Int) (e:Bool):TS:=TS.mk [(1,one (cI a)),(7,one (CE.snap [] none 5 b)),(8,one (cI c)),(9,one (cI d)),(10,one (cB e))] [] []
def kz (a b:Int) (c d e:RR):TS:=TS.mk [(1,one (cI a)),(2,TE.bp 2 0),(5,TE.bp 5 0),(6,one (cI b))] [(2,[CE.snap [] none 1 c,CE.snap [] none 1 d]),(5,[CE.snap [] none 1 e])] []
def mF (a b c:Int) (d e f:RR):TS:=TS.mk [(1,one (cI a)),(2,TE.bp 2 0),(5,TE.bp 5 0),(6,one (cI b)),(7,one (cI c))] [(2,[CE.snap [] none 1 d,CE.snap [] none 1 e]),(5,[CE.snap [] none 1 f])] []
def GH (a b:Int) (c:Bool) (d e f:RR):TS:=TS.mk [(1,one (cI a)),(2,TE.bp 2 0),(5,TE.bp 5 0),(6,one (cI b)),(31,one (cB c))] [(2,[CE.snap [] none 1 d,CE.snap [] none 1 e]),(5,[CE.snap [] none 1 f])] []
def vj (a b c:RR):TS:=TS.mk [(4,TE.kb false)] [(2,[CE.snap [] none 1 a,CE.snap [] none 1 b]),(5,[CE.snap [] none 1 c])] []
def GI (a b c:Int) (d:Bool) (e f g:RR):TS:=TS.mk [(1,one (cI a)),(2,TE.bp 2 0),(5,TE.bp 5 0),(6,one (cI b)),(7,one (cI c)),(41,one (cB d))] [(2,[CE.snap [] none 1 e,CE.snap [] none 1 f]),(5,[CE.snap [] none 1 g])] []
def GJ (a b c:RR):TS:=TS.mk [(4,TE.kb false)] [(2,[CE.snap [] none 1 a,CE.snap [] none 1 b]),(5,[CE.snap [] none 1 c])] []
def qZ (b:Int) (a:RR) (c:Int):TS:=TS.mk [(1,TE.bp 1 0),(3,one (cI b)),(7,one (CE.snap [] none 1 a)),(8,one (cI (Int.ofNat (List.length a)))),(9,one (cI c))] [(1,[CE.snap [] none 1 a])] []
def vk (a:RR):TS:=TS.mk [(2,TE.kb false)] [(1,[CE.snap [] none 1 a])] []
def GK (b:Int) (a:RR) (c d:Int) (e:Bool):TS:=TS.mk [(1,TE.bp 1 0),(3,one (cI b)),(7,one (CE.snap [] none 1 a)),(8,one (cI c)),(9,one (cI d)),(10,one (cB e))] [(1,[CE.snap [] none 1 a])] []
def sj (a:RR):TS:=TS.mk [(2,TE.bp 2 0),(3,TE.bp 3 0),(8,one (CE.snap [] none 1 a)),(9,one (cI (Int.ofNat (List.length a)))),(10,one (cI 0))] [(2,[CE.nil 1]),(3,[CE.nil 1])] []
def oT (a:RR) (b:Int) (c:RR):TS:=TS.mk [(2,TE.bp 2 0),(3,TE.bp 3 0),(8,one (CE.snap [] none 1 a)),(9,one (cI (Int.ofNat (List.length a)))),(10,one (cI b))] [(2,[CE.nil 1]),(3,[CE.ref 1 none])] [(1,OB.mk true 1 c)]
def Cm (a:RR) (b:Int) (c:Bool):TS:=TS.mk [(2,TE.bp 2 0),(3,TE.bp 3 0),(8,one (CE.snap [] none 1 a)),(9,one (cI b)),(10,one (cI 0)),(11,one (cB c))] [(2,[CE.nil 1]),(3,[CE.nil 1])] []
def Cn (a:RR) (b c:Int) (d:Bool) (e:RR):TS:=TS.mk [(2,TE.bp 2 0),(3,TE.bp 3 0),(8,one (CE.snap [] none 1 a)),(9,one (cI b)),(10,one (cI c)),(11,one (cB d))] [(2,[CE.nil 1]),(3,[CE.ref 1 none])] [(1,OB.mk true 1 e)]
def nI (a:RR) (b:Int) (c:RR):TS:=TS.mk [(5,one lF),(10,one (CE.snap [] none 5 a)),(11,one (cI (Int.ofNat (List.length a)))),(12,one (cI b))] [] [(1,OB.mk true 5 c)]
def AW (a:RR) (b c:Int) (d:Bool) (e:RR):TS:=TS.mk [(5,one lF),(10,one (CE.snap [] none 5 a)),(11,one (cI b)),(12,one (cI c)),(13,one (cB d))] [] [(1,OB.mk true 5 e)]
def kC (a:RR) (b:Bool) (c d e f g h:Int) (i:RR):TS:=TS.mk [(2,one (CE.snap [] none 1 a)),(6,TE.bp 6 0),(8,TE.bp 8 0),(9,one (cB b)),(10,one lF),(11,one (cI c))] [(6,[cI 0,cI 0,cI 0,cI 0,cI 0]),(8,[cI d,cI e,cI f,cI g,cI h])] [(1,OB.mk true 5 i)]
def GL (a:RR) (b:Bool) (c:Int) (d:Bool) (e f g h i:Int) (j:RR):TS:=TS.mk [(2,one (CE.snap [] none 1 a)),(6,TE.bp 6 0),(8,TE.bp 8 0),(9,one (cB b)),(10,one lF),(11,one (cI c)),(19,one (cB d))] [(6,[cI 0,cI 0,cI 0,cI 0,cI 0]),(8,[cI e,cI f,cI g,cI h,cI i])] [(1,OB.mk true 5 j)]
def qd (a:RR) (b c:Int):TS:=TS.mk [(0,one (CE.snap [] none 1 a)),(1,one (cI b)),(5,one (cI c))] [] []
def EF:TS:=TS.mk [(4,one W6)] [] []
def EG (a:RR) (b c:Int) (d:Bool):TS:=TS.mk [(0,one (CE.snap [] none 1 a)),(1,one (cI b)),(5,one (cI c)),(15,one (cB d))] [] []
def sn (a:RR) (b c:Int):TS:=TS.mk [(0,one (CE.snap [] none 5 a)),(1,one (cI b)),(5,one (cI c))] [] []
def oU:TS:=TS.mk [(4,one W6)] [] []
def Co (a:RR) (b c:Int) (d:Bool):TS:=TS.mk [(0,one (CE.snap [] none 5 a)),(1,one (cI b)),(5,one (cI c)),(9,one (cB d))] [] []
def qe (a b:Int) (c:RR):TS:=TS.mk [(1,TE.bp 1 0),(3,one (cI a)),(4,one (cI b))] [(1,[CE.snap [] none 1 c])] []
def EH (a b:Int) (c:Bool) (d:RR):TS:=TS.mk [(1,TE.bp 1 0),(3,one (cI a)),(4,one (cI b)),(9,one (cB c))] [(1,[CE.snap [] none 1 d])] []
def tC (a:RR) (b c:Int):TS:=TS.mk [(0,one (CE.snap [] none 1 a)),(1,one (cI b)),(5,one (cI c))] [] []
def Kd:TS:=TS.mk [(4,TE.kb true)] [] []
def Ke (a:RR) (b c:Int) (d:Bool):TS:=TS.mk [(0,one (CE.snap [] none 1 a)),(1,one (cI b)),(5,one (cI c)),(9,one (cB d))] [] []
def ew (a:RR) (b:Int) (c:ByteArray):TS:=TS.mk [(0,one (CE.snap [] none 4 a)),(1,TE.fn 207 [201001]),(7,one (cI (Int.ofNat (List.length a)))),(8,one (cI b))] [(201001,[cS c])] []
def mm (a:Int) (b:ByteArray):TS:=TS.mk [(4,one (cI a))] [(201001,[cS b])] []
def mo (a:RR) (b c:Int) (d:Bool) (e:ByteArray):TS:=TS.mk [(0,one (CE.snap [] none 4 a)),(1,TE.fn 207 [201001]),(7,one (cI b)),(8,one (cI c)),(9,one (cB d))] [(201001,[cS e])] []
def so (a:RR) (b c:Int) (d e f g h:RR):TS:=TS.mk [(4,TE.bp 4 0),(5,TE.bp 5 0),(14,one (CE.snap [] none 5 (aC a 0 (Dv (Int.ofNat (List.length a)) 200)))),(15,one (cI (Int.ofNat (List.length (aC a 0 (Dv (Int.ofNat (List.length a)) 200)))))),(16,one (cI b))] [(4,[CE.nil 1,CE.nil 1,CE.nil 2,CE.nil 3,CE.nil 4,cI 0]),(5,[CE.ref 1 none,CE.ref 2 none,CE.ref 3 none,CE.ref 4 none,CE.ref 5 none,cI c])] [(1,OB.mk true 1 d),(2,OB.mk true 1 e),(3,OB.mk true 2 f),(4,OB.mk true 3 g),(5,OB.mk true 4 h)]
def Cp (a:RR) (b c:Int) (d:Bool) (e:Int) (f g h i j:RR):TS:=TS.mk [(4,TE.bp 4 0),(5,TE.bp 5 0),(14,one (CE.snap [] none 5 a)),(15,one (cI b)),(16,one (cI c)),(17,one (cB d))] [(4,[CE.nil 1,CE.nil 1,CE.nil 2,CE.nil 3,CE.nil 4,cI 0]),(5,[CE.ref 1 none,CE.ref 2 none,CE.ref 3 none,CE.ref 4 none,CE.ref 5 none,cI e])] [(1,OB.mk true 1 f),(2,OB.mk true 1 g),(3,OB.mk true 2 h),(4,OB.mk true 3 i),(5,OB.mk true 4 j)]
def j8 (b c:Int) (a:RR) (d:Int) (e f g h i:RR) (j k:Int) (l m n o p q:RR):TS:=TS.mk [(1,one (cI b)),(2,TE.bp 2 0),(4,TE.bp 4 0),(7,TE.bp 7 0),(8,one lF),(9,one (cI c)),(63,one S3),(64,one (cI (Int.ofNat (List.length a)))),(65,one (cI d))] [(2,[CE.snap [] none 1 e,CE.snap [] none 1 f,CE.snap [] none 2 g,CE.snap [] none 3 h,CE.snap [] none 4 i,cI j]),(4,[CE.nil 1,CE.nil 1,CE.nil 2,CE.nil 3,CE.nil 4,cI 0]),(7,[CE.ref 3 none,CE.ref 4 none,CE.ref 5 none,CE.ref 6 none,CE.ref 7 none,cI k])] [(1,OB.mk true 3 l),(2,OB.mk true 5 a),(3,OB.mk true 1 m),(4,OB.mk true 1 n),(5,OB.mk true 2 o),(6,OB.mk true 3 p),(7,OB.mk true 4 q)]
def Cq (a b c d e:RR) (f g h i j k l m:Int) (n o p q r s t u v w x y z A:RR):TS:=TS.mk [(4,TE.bp 4 0),(5,TE.kb false)] [(2,[CE.snap [] none 1 a,CE.snap [] none 1 b,CE.snap [] none 2 c,CE.snap [] none 3 d,CE.snap [] none 4 e,cI f]),(4,[CE.ref 39400 none,CE.ref 39401 none,CE.ref 39402 none,CE.ref 39403 none,CE.ref 39404 none,cI g]),(7,[CE.ref 3 none,CE.ref 4 none,CE.ref 5 none,CE.ref 6 none,CE.ref 7 none,cI h]),(12,[cI i,cI j,cI k,cI l,cI m]),(13,[CE.ref 37000 none,CE.ref 37001 none])] [(1,OB.mk true 3 n),(2,OB.mk true 5 o),(3,OB.mk true 1 p),(4,OB.mk true 1 q),(5,OB.mk true 2 r),(6,OB.mk true 3 s),(7,OB.mk true 4 t),(37000,OB.mk true 1 u),(37001,OB.mk true 1 v),(39400,OB.mk true 1 w),(39401,OB.mk true 1 x),(39402,OB.mk true 2 y),(39403,OB.mk true 3 z),(39404,OB.mk true 4 A)]
def xj (a b c d:Int) (e:Bool) (f g h i j:RR) (k l:Int) (m n o p q r s:RR):TS:=TS.mk [(1,one (cI a)),(2,TE.bp 2 0),(4,TE.bp 4 0),(7,TE.bp 7 0),(8,one lF),(9,one (cI b)),(63,one S3),(64,one (cI c)),(65,one (cI d)),(66,one (cB e))] [(2,[CE.snap [] none 1 f,CE.snap [] none 1 g,CE.snap [] none 2 h,CE.snap [] none 3 i,CE.snap [] none 4 j,cI k]),(4,[CE.nil 1,CE.nil 1,CE.nil 2,CE.nil 3,CE.nil 4,cI 0]),(7,[CE.ref 3 none,CE.ref 4 none,CE.ref 5 none,CE.ref 6 none,CE.ref 7 none,cI l])] [(1,OB.mk true 3 m),(2,OB.mk true 5 n),(3,OB.mk true 1 o),(4,OB.mk true 1 p),(5,OB.mk true 2 q),(6,OB.mk true 3 r),(7,OB.mk true 4 s)]
def nU (a b c:Int) (d e f g h:RR) (i j:Int) (k l m n o:RR):TS:=TS.mk [(2,one (cI a)),(3,TE.bp 3 0),(6,TE.bp 6 0),(8,one (cI b)),(10,TE.bp 10 0),(11,one (cI c))] [(3,[CE.snap [] none 1 d,CE.snap [] none 1 e,CE.snap [] none 2 f,CE.snap [] none 3 g,CE.snap [] none 4 h,cI i]),(6,[CE.nil 1,CE.nil 1,CE.nil 2,CE.nil 3,CE.nil 4,cI 0]),(10,[CE.ref 1 none,CE.ref 2 none,CE.ref 3 none,CE.ref 4 none,CE.ref 5 none,cI j])] [(1,OB.mk true 1 k),(2,OB.mk true 1 l),(3,OB.mk true 2 m),(4,OB.mk true 3 n),(5,OB.mk true 4 o)]
def GM (a b c d e:RR) (f g h:Int) (i j k l m n o p q r:RR):TS:=TS.mk [(6,TE.bp 6 0),(7,one (cI 6))] [(3,[CE.snap [] none 1 a,CE.snap [] none 1 b,CE.snap [] none 2 c,CE.snap [] none 3 d,CE.snap [] none 4 e,cI f]),(6,[CE.ref 20600 none,CE.ref 20601 none,CE.ref 20602 none,CE.ref 20603 none,CE.ref 20604 none,cI g]),(10,[CE.ref 1000001000 none,CE.ref 1000001001 none,CE.ref 1000001002 none,CE.ref 1000001003 none,CE.ref 1000001004 none,cI h])] [(20600,OB.mk true 1 i),(20601,OB.mk true 1 j),(20602,OB.mk true 2 k),(20603,OB.mk true 3 l),(20604,OB.mk true 4 m),(1000001000,OB.mk true 1 n),(1000001001,OB.mk true 1 o),(1000001002,OB.mk true 2 p),(1000001003,OB.mk true 3 q),(1000001004,OB.mk true 4 r)]
def GN (a b c:Int) (d:Bool) (e f g h i:RR) (j k:Int) (l m n o p:RR):TS:=TS.mk [(2,one (cI a)),(3,TE.bp 3 0),(6,TE.bp 6 0),(8,one (cI b)),(10,TE.bp 10 0),(11,one (cI c)),(41,one (cB d))] [(3,[CE.snap [] none 1 e,CE.snap [] none 1 f,CE.snap [] none 2 g,CE.snap [] none 3 h,CE.snap [] none 4 i,cI j]),(6,[CE.nil 1,CE.nil 1,CE.nil 2,CE.nil 3,CE.nil 4,cI 0]),(10,[CE.ref 1 none,CE.ref 2 none,CE.ref 3 none,CE.ref 4 none,CE.ref 5 none,cI k])] [(1,OB.mk true 1 l),(2,OB.mk true 1 m),(3,OB.mk true 2 n),(4,OB.mk true 3 o),(5,OB.mk true 4 p)]
def vl (a b:RR) (c:Int):TS:=TS.mk [(0,one (CE.snap [] none 4 a)),(1,one (CE.snap [] none 4 b)),(5,one (cI c))] [] []
def S5:TS:=TS.mk [(4,TE.kb false)] [] []
def GO (a b:RR) (c:Int) (d:Bool):TS:=TS.mk [(0,one (CE.snap [] none 4 a)),(1,one (CE.snap [] none 4 b)),(5,one (cI c)),(14,one (cB d))] [] []
def sq (a b:Int) (c:RR):TS:=TS.mk [(0,one lF),(1,one (cI a)),(5,one (cI b))] [] [(1,OB.mk true 4 c)]
def Cr (a b:Int) (c:Bool) (d:RR):TS:=TS.mk [(0,one lF),(1,one (cI a)),(5,one (cI b)),(9,one (cB c))] [] [(1,OB.mk true 4 d)]
def sr (a:RR) (b c:Int):TS:=TS.mk [(0,one (CE.snap [] none 4 a)),(1,one (cI b)),(5,one (cI c))] [] []
def su:TS:=TS.mk [(4,one W6)] [] []
def Cs (a:RR) (b c:Int) (d:Bool):TS:=TS.mk [(0,one (CE.snap [] none 4 a)),(1,one (cI b)),(5,one (cI c)),(9,one (cB d))] [] []
def q7 (a:RR) (b:Int) (c d e f:RR) (g:Int):TS:=TS.mk [(1,TE.bp 1 0),(28,one (CE.snap [] none 2 a)),(29,one (cI (Int.ofNat (List.length a)))),(30,one (cI b))] [(1,[CE.snap [] none 1 c,CE.snap [] none 1 d,CE.snap [] none 2 a,CE.snap [] none 3 e,CE.snap [] none 4 f,cI g])] []
def GP (a b c d e:RR) (f g h:Int):TS:=TS.mk [(2,TE.kb false)] [(1,[CE.snap [] none 1 a,CE.snap [] none 1 b,CE.snap [] none 2 c,CE.snap [] none 3 d,CE.snap [] none 4 e,cI f]),(4,[cI g,cI h])] []
def GQ (a:RR) (b c:Int) (d:Bool) (e f g h:RR) (i:Int):TS:=TS.mk [(1,TE.bp 1 0),(28,one (CE.snap [] none 2 a)),(29,one (cI b)),(30,one (cI c)),(31,one (cB d))] [(1,[CE.snap [] none 1 e,CE.snap [] none 1 f,CE.snap [] none 2 a,CE.snap [] none 3 g,CE.snap [] none 4 h,cI i])] []
def oV (a:RR) (b:Int) (c:RR):TS:=TS.mk [(3,one lF),(8,one (CE.snap [] none 1 a)),(9,one (cI (Int.ofNat (List.length a)))),(10,one (cI b))] [] [(1,OB.mk true 5 c)]
def Ct (a:RR) (b c:Int) (d:Bool) (e:RR):TS:=TS.mk [(3,one lF),(8,one (CE.snap [] none 1 a)),(9,one (cI b)),(10,one (cI c)),(11,one (cB d))] [] [(1,OB.mk true 5 e)]
def tD (a:ByteArray) (b:Int) (c d e f g:RR) (h:Int):TS:=TS.mk [(1,one (cS a)),(2,TE.bp 2 0),(5,one (cI b))] [(2,[CE.snap [] none 1 c,CE.snap [] none 1 d,CE.snap [] none 2 e,CE.snap [] none 3 f,CE.snap [] none 4 g,cI h])] []
def Kf (a:Int) (b c d e f:RR) (g:Int):TS:=TS.mk [(4,one (cI a))] [(2,[CE.snap [] none 1 b,CE.snap [] none 1 c,CE.snap [] none 2 d,CE.snap [] none 3 e,CE.snap [] none 4 f,cI g])] []
def Kg (a:ByteArray) (b:Int) (c:Bool) (d e f g h:RR) (i:Int):TS:=TS.mk [(1,one (cS a)),(2,TE.bp 2 0),(5,one (cI b)),(10,one (cB c))] [(2,[CE.snap [] none 1 d,CE.snap [] none 1 e,CE.snap [] none 2 f,CE.snap [] none 3 g,CE.snap [] none 4 h,cI i])] []
def oW (a:Int) (b c d e f:RR) (g:Int) (h:RR):TS:=TS.mk [(1,TE.bp 1 0),(4,one lF),(5,one (cI a))] [(1,[CE.snap [] none 1 b,CE.snap [] none 1 c,CE.snap [] none 2 d,CE.snap [] none 3 e,CE.snap [] none 4 f,cI g])] [(1,OB.mk true 5 h)]
def oX (a b:Int) (c d e f g:RR) (h:Int) (i:RR):TS:=TS.mk [(1,TE.bp 1 0),(4,one lF),(5,one (cI a)),(6,one (cI b))] [(1,[CE.snap [] none 1 c,CE.snap [] none 1 d,CE.snap [] none 2 e,CE.snap [] none 3 f,CE.snap [] none 4 g,cI h])] [(1,OB.mk true 5 i)]
def Cu (a:Int) (b c d e f:RR) (g:Int) (h:RR):TS:=TS.mk [(1,TE.bp 1 0),(4,one lF),(5,one (cI a)),(15,one (cB (m6 a 3)))] [(1,[CE.snap [] none 1 b,CE.snap [] none 1 c,CE.snap [] none 2 d,CE.snap [] none 3 e,CE.snap [] none 4 f,cI g])] [(1,OB.mk true 5 h)]
def Cv (a b:Int) (c d e f g:RR) (h:Int) (i:RR):TS:=TS.mk [(2,one (cI a)),(3,one (cI b))] [(1,[CE.snap [] none 1 c,CE.snap [] none 1 d,CE.snap [] none 2 e,CE.snap [] none 3 f,CE.snap [] none 4 g,cI h])] [(1,OB.mk true 5 i)]
def Cw (a b:Int) (c:Bool) (d e f g h:RR) (i:Int) (j:RR):TS:=TS.mk [(1,TE.bp 1 0),(4,one lF),(5,one (cI a)),(6,one (cI b)),(21,one (cB c))] [(1,[CE.snap [] none 1 d,CE.snap [] none 1 e,CE.snap [] none 2 f,CE.snap [] none 3 g,CE.snap [] none 4 h,cI i])] [(1,OB.mk true 5 j)]
def oY (a:Int) (b c d e f:RR) (g:Int):TS:=TS.mk [(1,TE.bp 1 0),(7,one (cI a))] [(1,[CE.snap [] none 1 b,CE.snap [] none 1 c,CE.snap [] none 2 d,CE.snap [] none 3 e,CE.snap [] none 4 f,cI g])] []
def Cx (a b:Int) (c d e f g:RR) (h:Int) (i:RR):TS:=TS.mk [(2,one (cI a)),(3,one (cI b))] [(1,[CE.snap [] none 1 c,CE.snap [] none 1 d,CE.snap [] none 2 e,CE.snap [] none 3 f,CE.snap [] none 4 g,cI h])] [(1,OB.mk true 5 i)]
def Cy (a:Int) (b c d e f:RR) (g:Int):TS:=TS.mk [(2,one (cI 4)),(3,one (cI a))] [(1,[CE.snap [] none 1 b,CE.snap [] none 1 c,CE.snap [] none 2 d,CE.snap [] none 3 e,CE.snap [] none 4 f,cI g])] []
def Cz (a:Int) (b:Bool) (c d e f g:RR) (h:Int):TS:=TS.mk [(1,TE.bp 1 0),(7,one (cI a)),(37,one (cB b))] [(1,[CE.snap [] none 1 c,CE.snap [] none 1 d,CE.snap [] none 2 e,CE.snap [] none 3 f,CE.snap [] none 4 g,cI h])] []
def iw (a:RR) (b c d:Int) (e:RR):TS:=TS.mk [(0,one (CE.snap [] none 2 a)),(1,one (cI b)),(6,one (cI c)),(7,one lF),(8,one (cI d))] [] [(1,OB.mk true 2 e)]
def GR (a:RR) (b c d:Int) (e:Bool) (f:RR):TS:=TS.mk [(0,one (CE.snap [] none 2 a)),(1,one (cI b)),(6,one (cI c)),(7,one lF),(8,one (cI d)),(27,one (cB e))] [] [(1,OB.mk true 2 f)]
def qf (a:RR) (b c:Int):TS:=TS.mk [(0,one (CE.snap [] none 1 a)),(1,one (cI b)),(5,one (cI c))] [] []
def EI:TS:=TS.mk [(4,one W6)] [] []
def EJ (a:RR) (b c:Int) (d:Bool):TS:=TS.mk [(0,one (CE.snap [] none 1 a)),(1,one (cI b)),(5,one (cI c)),(15,one (cB d))] [] []
def vm (a:RR) (b:Int) (c:RR):TS:=TS.mk [(0,one (CE.snap [] none 1 a)),(3,one lF),(4,one (cI b))] [] [(1,OB.mk true 1 c)]
def GS (a:RR) (b:Int) (c:Bool) (d:RR):TS:=TS.mk [(0,one (CE.snap [] none 1 a)),(3,one lF),(4,one (cI b)),(11,one (cB c))] [] [(1,OB.mk true 1 d)]
def sv (a:RR) (b c:Int):TS:=TS.mk [(0,one (CE.snap [] none 1 a)),(1,one (cI b)),(5,one (cI c))] [] []
def Ow:TS:=TS.mk [(4,one W6)] [] []
def CA (a:RR) (b c:Int) (d:Bool):TS:=TS.mk [(0,one (CE.snap [] none 1 a)),(1,one (cI b)),(5,one (cI c)),(9,one (cB d))] [] []
def mG (a:Int) (b c:RR):TS:=TS.mk [(1,TE.bp 1 0),(3,one (cI a))] [(1,[CE.snap [] none 1 b,CE.snap [] none 1 c])] []
def q8 (a b:RR):TS:=TS.mk [(2,TE.kb false)] [(1,[CE.snap [] none 1 a,CE.snap [] none 1 b])] []
def GU (a:Int) (b:Bool) (c d:RR):TS:=TS.mk [(1,TE.bp 1 0),(3,one (cI a)),(29,one (cB b))] [(1,[CE.snap [] none 1 c,CE.snap [] none 1 d])] []
def kR (a b:Int) (c d e f g:RR) (h:Int) (i:RR):TS:=TS.mk [(1,TE.bp 1 0),(3,one lF),(4,one (cI a)),(5,one (cI b))] [(1,[CE.snap [] none 1 c,CE.snap [] none 1 d,CE.snap [] none 2 e,CE.snap [] none 3 f,CE.snap [] none 4 g,cI h])] [(1,OB.mk true 5 i)]
def qg (a b c d e:RR) (f:Int) (g:RR):TS:=TS.mk [(2,TE.kb false)] [(1,[CE.snap [] none 1 a,CE.snap [] none 1 b,CE.snap [] none 2 c,CE.snap [] none 3 d,CE.snap [] none 4 e,cI f])] [(1,OB.mk true 5 g)]
def kT (a b c:Int) (d e f g h:RR) (i:Int) (j:RR):TS:=TS.mk [(1,TE.bp 1 0),(3,one lF),(4,one (cI (aA a 1))),(5,one (cI b)),(8,one (cI c))] [(1,[CE.snap [] none 1 d,CE.snap [] none 1 e,CE.snap [] none 2 f,CE.snap [] none 3 g,CE.snap [] none 4 h,cI i])] [(1,OB.mk true 5 j)]
def EK (a b:Int) (c:Bool) (d e f g h:RR) (i:Int) (j:RR):TS:=TS.mk [(1,TE.bp 1 0),(3,one lF),(4,one (cI a)),(5,one (cI b)),(15,one (cB c))] [(1,[CE.snap [] none 1 d,CE.snap [] none 1 e,CE.snap [] none 2 f,CE.snap [] none 3 g,CE.snap [] none 4 h,cI i])] [(1,OB.mk true 5 j)]
def EL (a b c d e:RR) (f:Int) (g:RR):TS:=TS.mk [(2,TE.kb false)] [(1,[CE.snap [] none 1 a,CE.snap [] none 1 b,CE.snap [] none 2 c,CE.snap [] none 3 d,CE.snap [] none 4 e,cI f])] [(1,OB.mk true 5 g)]
def EM (c a b:Int) (d e f g h:RR) (i:Int) (j:RR):TS:=TS.mk [(1,TE.bp 1 0),(3,one lF),(4,one (cI (aA c 1))),(5,one (cI a)),(8,one (cI b)),(55,one (cB (bK b a)))] [(1,[CE.snap [] none 1 d,CE.snap [] none 1 e,CE.snap [] none 2 f,CE.snap [] none 3 g,CE.snap [] none 4 h,cI i])] [(1,OB.mk true 5 j)]
def jt (a:RR) (b:Int):TS:=TS.mk [(0,one (CE.snap [] none 2 a)),(5,one (CE.snap [] none 2 a)),(6,one (cI (Int.ofNat (List.length a)))),(7,one (cI b))] [] []
def q9 (a b:Int):TS:=TS.mk [(2,TE.kb false)] [(4,[cI a,cI b])] []
def GV (a:RR) (b c:Int) (d:Bool):TS:=TS.mk [(0,one (CE.snap [] none 2 a)),(5,one (CE.snap [] none 2 a)),(6,one (cI b)),(7,one (cI c)),(8,one (cB d))] [] []
def sw (a b:RR):TS:=TS.mk [(2,TE.bp 2 0),(3,TE.bp 3 0),(11,one (CE.snap [] none 1 a)),(12,one (cI (Int.ofNat (List.length a)))),(13,one (cI 0))] [(2,[CE.nil 1,CE.nil 1]),(3,[CE.ref 1 none,CE.nil 1])] [(1,OB.mk true 1 b)]
def oZ (a:RR) (b:Int) (c d:RR):TS:=TS.mk [(2,TE.bp 2 0),(3,TE.bp 3 0),(11,one (CE.snap [] none 1 a)),(12,one (cI (Int.ofNat (List.length a)))),(13,one (cI b))] [(2,[CE.nil 1,CE.nil 1]),(3,[CE.ref 1 none,CE.ref 2 none])] [(1,OB.mk true 1 c),(2,OB.mk true 1 d)]
def CB (a:RR) (b:Int) (c:Bool) (d:RR):TS:=TS.mk [(2,TE.bp 2 0),(3,TE.bp 3 0),(11,one (CE.snap [] none 1 a)),(12,one (cI b)),(13,one (cI 0)),(14,one (cB c))] [(2,[CE.nil 1,CE.nil 1]),(3,[CE.ref 1 none,CE.nil 1])] [(1,OB.mk true 1 d)]
def CC (a:RR) (b c:Int) (d:Bool) (e f:RR):TS:=TS.mk [(2,TE.bp 2 0),(3,TE.bp 3 0),(11,one (CE.snap [] none 1 a)),(12,one (cI b)),(13,one (cI c)),(14,one (cB d))] [(2,[CE.nil 1,CE.nil 1]),(3,[CE.ref 1 none,CE.ref 2 none])] [(1,OB.mk true 1 e),(2,OB.mk true 1 f)]
def rj (a:RR) (b c d:Int):TS:=TS.mk [(0,one (CE.snap [] none 2 a)),(1,one (cI b)),(2,one (cI c)),(8,one (cI d))] [] []
def GW (a:RR) (b c d:Int) (e:Bool):TS:=TS.mk [(0,one (CE.snap [] none 2 a)),(1,one (cI b)),(2,one (cI c)),(8,one (cI d)),(22,one (cB e))] [] []
def GX (a:RR) (b c d:Int):TS:=TS.mk [(0,one (CE.snap [] none 2 a)),(1,one (cI b)),(2,one (cI c)),(8,one (cI d)),(22,TE.kb false)] [] []
def ni (a b c d:Int) (e f:RR):TS:=TS.mk [(1,one (cI a)),(2,one (cI b)),(3,TE.bp 3 0),(7,one (cI c)),(8,one (cI d))] [(3,[CE.snap [] none 1 e,CE.snap [] none 1 f])] []
def EN (a b c d:Int) (e:Bool) (f g:RR):TS:=TS.mk [(1,one (cI a)),(2,one (cI b)),(3,TE.bp 3 0),(7,one (cI c)),(8,one (cI d)),(13,one (cB e))] [(3,[CE.snap [] none 1 f,CE.snap [] none 1 g])] []
def iy (a:RR) (b:Bool) (c d e f g h:Int) (i:RR):TS:=TS.mk [(0,one (CE.snap [] none 5 a)),(3,TE.bp 3 0),(5,one lF),(6,one (cB b)),(7,one (cI c))] [(3,[cI d,cI e,cI f,cI g,cI h])] [(1,OB.mk true 5 i)]
def GY (a:RR) (b:Bool) (c:Int) (d:Bool) (e f g h i:Int) (j:RR):TS:=TS.mk [(0,one (CE.snap [] none 5 a)),(3,TE.bp 3 0),(5,one lF),(6,one (cB b)),(7,one (cI c)),(12,one (cB d))] [(3,[cI e,cI f,cI g,cI h,cI i])] [(1,OB.mk true 5 j)]
def zf (a:Int) (b c:RR):TS:=TS.mk [(1,TE.bp 1 0),(2,TE.bp 2 0),(3,one (cI a))] [(1,[CE.snap [] none 1 b,CE.snap [] none 1 c]),(2,[CE.nil 1,CE.nil 1])] []
def rm (a:Int) (b c:RR):TS:=TS.mk [(1,TE.bp 1 0),(2,TE.bp 2 0),(3,one (cI a))] [(1,[CE.ref 1 none,CE.ref 2 none]),(2,[CE.nil 1,CE.nil 1])] [(1,OB.mk true 1 b),(2,OB.mk false 1 c)]
def GZ (a:Int) (b:Bool) (c d:RR):TS:=TS.mk [(1,TE.bp 1 0),(2,TE.bp 2 0),(3,one (cI a)),(9,one (cB b))] [(1,[CE.snap [] none 1 c,CE.snap [] none 1 d]),(2,[CE.nil 1,CE.nil 1])] []
def G0 (a:Int) (b:Bool) (c d:RR):TS:=TS.mk [(1,TE.bp 1 0),(2,TE.bp 2 0),(3,one (cI a)),(9,one (cB b))] [(1,[CE.ref 1 none,CE.ref 2 none]),(2,[CE.nil 1,CE.nil 1])] [(1,OB.mk true 1 c),(2,OB.mk false 1 d)]
def nV (a b:Int) (c d e f g:RR) (h:Int) (i:RR):TS:=TS.mk [(1,one (cI a)),(2,TE.bp 2 0),(5,one lF),(6,one (cI b))] [(2,[CE.snap [] none 1 c,CE.snap [] none 1 d,CE.snap [] none 2 e,CE.snap [] none 3 f,CE.snap [] none 4 g,cI h])] [(1,OB.mk true 5 i)]
def G1 (a b c d e:RR) (f:Int) (g:RR):TS:=TS.mk [(4,TE.kb false)] [(2,[CE.snap [] none 1 a,CE.snap [] none 1 b,CE.snap [] none 2 c,CE.snap [] none 3 d,CE.snap [] none 4 e,cI f])] [(1,OB.mk true 5 g)]
def G2 (a b:Int) (c:Bool) (d e f g h:RR) (i:Int) (j:RR):TS:=TS.mk [(1,one (cI a)),(2,TE.bp 2 0),(5,one lF),(6,one (cI b)),(13,one (cB c))] [(2,[CE.snap [] none 1 d,CE.snap [] none 1 e,CE.snap [] none 2 f,CE.snap [] none 3 g,CE.snap [] none 4 h,cI i])] [(1,OB.mk true 5 j)]
def nW (a:RR) (b c:Int) (d:RR) (e:Int) (f:RR):TS:=TS.mk [(0,one (CE.snap [] none 2 a)),(1,one (cI b)),(6,one (cI c)),(7,one lF),(23,one (cI (Int.ofNat (List.length d)))),(24,one (cI e))] [] [(1,OB.mk true 2 f)]
def G3 (a:RR) (b c d e:Int) (f:Bool) (g:RR):TS:=TS.mk [(0,one (CE.snap [] none 2 a)),(1,one (cI b)),(6,one (cI c)),(7,one lF),(23,one (cI d)),(24,one (cI e)),(25,one (cB f))] [] [(1,OB.mk true 2 g)]
def mq (a:Int) (b:RR) (c d:Int) (e f:RR):TS:=TS.mk [(1,one (cI a)),(2,TE.bp 2 0),(15,one (CE.snap [] none 1 b)),(16,one (cI c)),(17,one (cI d))] [(2,[CE.snap [] none 1 e,CE.snap [] none 1 f])] []
def j9 (b:Int) (c:RR) (d e:Int) (a:RR) (f:Int) (g h:RR):TS:=TS.mk [(1,one (cI b)),(2,TE.bp 2 0),(15,one (CE.snap [] none 1 c)),(16,one (cI d)),(17,one (cI e)),(21,one (CE.snap [] none 5 a)),(22,one (cI (Int.ofNat (List.length a)))),(23,one (cI f))] [(2,[CE.snap [] none 1 g,CE.snap [] none 1 h])] []
def CD (a:Int) (b:RR) (c d:Int) (e:Bool) (f g:RR):TS:=TS.mk [(1,one (cI a)),(2,TE.bp 2 0),(15,one (CE.snap [] none 1 b)),(16,one (cI c)),(17,one (cI d)),(18,one (cB e))] [(2,[CE.snap [] none 1 f,CE.snap [] none 1 g])] []
def sx (a b:RR) (c d e f g:Int):TS:=TS.mk [(4,TE.kb false)] [(2,[CE.snap [] none 1 a,CE.snap [] none 1 b]),(8,[cI c,cI d,cI e,cI f,cI g])] []
def CF (a:Int) (b:RR) (c d:Int) (e:RR) (f g:Int) (h:Bool) (i j:RR):TS:=TS.mk [(1,one (cI a)),(2,TE.bp 2 0),(15,one (CE.snap [] none 1 b)),(16,one (cI c)),(17,one (cI d)),(21,one (CE.snap [] none 5 e)),(22,one (cI f)),(23,one (cI g)),(24,one (cB h))] [(2,[CE.snap [] none 1 i,CE.snap [] none 1 j])] []
def CG (a b:RR) (c d e f g:Int):TS:=TS.mk [(4,TE.kb false)] [(2,[CE.snap [] none 1 a,CE.snap [] none 1 b]),(8,[cI c,cI d,cI e,cI f,cI g])] []
def rP (a:RR) (b:Int) (c:RR):TS:=TS.mk [(3,one lF),(7,one (CE.snap [] none 5 a)),(8,one (cI (Int.ofNat (List.length a)))),(9,one (cI b))] [] [(1,OB.mk true 5 c)]
def LL (a:RR) (b c:Int) (d:Bool) (e:RR):TS:=TS.mk [(3,one lF),(7,one (CE.snap [] none 5 a)),(8,one (cI b)),(9,one (cI c)),(10,one (cB d))] [] [(1,OB.mk true 5 e)]
def ru (a b c:Int) (d:RR):TS:=TS.mk [(1,one (cI a)),(2,one (cI b)),(3,TE.bp 3 0),(6,TE.bp 6 0),(8,one (cI c))] [(3,[CE.snap [] none 1 d]),(6,[cI 0,cI 0,cI 0,cI 0,cI 0])] []
def vn (a:Bool) (b:RR) (c d e f g h i j k l:Int):TS:=TS.mk [(6,TE.bp 6 0),(7,TE.kb a)] [(3,[CE.snap [] none 1 b]),(6,[cI c,cI d,cI e,cI f,cI g]),(9,[cI h,cI i,cI j,cI k,cI l])] []
def G4 (a b c:Int) (d:Bool) (e:RR):TS:=TS.mk [(1,one (cI a)),(2,one (cI b)),(3,TE.bp 3 0),(6,TE.bp 6 0),(8,one (cI c)),(16,one (cB d))] [(3,[CE.snap [] none 1 e]),(6,[cI 0,cI 0,cI 0,cI 0,cI 0])] []
def vo (a:RR) (b c:Int) (d:RR):TS:=TS.mk [(0,one (CE.snap [] none 2 a)),(1,one (cI b)),(5,one lF),(10,one (cI (aA (Int.ofNat (List.length a)) 1))),(11,one (cI c))] [] [(1,OB.mk true 1 d)]
def G5 (a:RR) (b c d e:Int) (f:Bool) (g:RR):TS:=TS.mk [(0,one (CE.snap [] none 2 a)),(1,one (cI b)),(5,one lF),(6,one (cI c)),(10,one (cI d)),(11,one (cI e)),(17,one (cB f))] [] [(1,OB.mk true 1 g)]
def G6 (a:RR) (b c d:Int) (e:Bool) (f:RR):TS:=TS.mk [(0,one (CE.snap [] none 2 a)),(1,one (cI b)),(5,one lF),(10,one (cI c)),(11,one (cI d)),(12,one (cB e))] [] [(1,OB.mk true 1 f)]
def jA (a:RR) (b:Int) (c d e f:RR) (g h i j k l:Int):TS:=TS.mk [(2,TE.bp 2 0),(3,TE.bp 3 0),(8,one (CE.snap [] none 4 a)),(9,one (cI (Int.ofNat (List.length a)))),(10,one (cI b))] [(2,[CE.snap [] none 1 c,CE.snap [] none 1 d,CE.snap [] none 2 e,CE.snap [] none 3 f,CE.snap [] none 4 a,cI g]),(3,[cI h,cI i,cI j,cI k,cI l])] []
def AX (a b c d e:RR) (f g h i j k:Int) (l:ByteArray) (m n:Int) (o:Bool):TS:=TS.mk [(4,TE.kb true)] [(2,[CE.snap [] none 1 a,CE.snap [] none 1 b,CE.snap [] none 2 c,CE.snap [] none 3 d,CE.snap [] none 4 e,cI f]),(3,[cI g,cI h,cI i,cI j,cI k]),(6,[cS l,cI m,cI n,cB o])] []
def AY (a:RR) (b c:Int) (d:Bool) (e f g h:RR) (i j k l m n:Int):TS:=TS.mk [(2,TE.bp 2 0),(3,TE.bp 3 0),(8,one (CE.snap [] none 4 a)),(9,one (cI b)),(10,one (cI c)),(11,one (cB d))] [(2,[CE.snap [] none 1 e,CE.snap [] none 1 f,CE.snap [] none 2 g,CE.snap [] none 3 h,CE.snap [] none 4 a,cI i]),(3,[cI j,cI k,cI l,cI m,cI n])] []
def tY (a:RR) (b:Int) (c:RR):TS:=TS.mk [(0,one (CE.snap [] none 1 a)),(3,one lF),(4,one (cI b))] [] [(1,OB.mk true 1 c)]
def EO (a:RR) (b:Int) (c:Bool) (d:RR):TS:=TS.mk [(0,one (CE.snap [] none 1 a)),(3,one lF),(4,one (cI b)),(11,one (cB c))] [] [(1,OB.mk true 1 d)]
def nX (b:Int) (a:RR) (c:Int) (d:RR):TS:=TS.mk [(1,one (cI b)),(5,one lF),(10,one S3),(11,one (cI (Int.ofNat (List.length a)))),(12,one (cI c))] [] [(1,OB.mk true 5 d),(2,OB.mk true 5 a)]
def G7 (a b c:Int) (d:Bool) (e f:RR):TS:=TS.mk [(1,one (cI a)),(5,one lF),(10,one S3),(11,one (cI b)),(12,one (cI c)),(13,one (cB d))] [] [(1,OB.mk true 5 e),(2,OB.mk true 5 f)]
def tZ (a:RR) (b:Int):TS:=TS.mk [(0,one (CE.snap [] none 5 a)),(3,one (cI b))] [] []
def EP:TS:=TS.mk [(2,TE.kb false)] [] []
def ER (a:RR) (b:Int) (c:Bool):TS:=TS.mk [(0,one (CE.snap [] none 5 a)),(3,one (cI b)),(7,one (cB c))] [] []
def tE (a:RR) (b c:Int):TS:=TS.mk [(0,one (CE.snap [] none 5 a)),(1,one (cI b)),(5,one (cI c))] [] []
def Kh:TS:=TS.mk [(4,one W6)] [] []
def Ki (a:RR) (b c:Int) (d:Bool):TS:=TS.mk [(0,one (CE.snap [] none 5 a)),(1,one (cI b)),(5,one (cI c)),(15,one (cB d))] [] []
def xk (a b:RR) (c:Int):TS:=TS.mk [(0,one (CE.snap [] none 5 a)),(1,one (CE.snap [] none 5 b)),(5,one (cI c))] [] []
def W7:TS:=TS.mk [(4,TE.kb false)] [] []
def Kj (a b:RR) (c:Int) (d:Bool):TS:=TS.mk [(0,one (CE.snap [] none 5 a)),(1,one (CE.snap [] none 5 b)),(5,one (cI c)),(14,one (cB d))] [] []
def vp (a:RR) (b:Int) (c:RR):TS:=TS.mk [(0,one (CE.snap [] none 2 a)),(3,one lF),(4,one (cI b))] [] [(1,OB.mk true 2 c)]
def G8 (a:RR) (b:Int) (c:Bool) (d:RR):TS:=TS.mk [(0,one (CE.snap [] none 2 a)),(3,one lF),(4,one (cI b)),(11,one (cB c))] [] [(1,OB.mk true 2 d)]
def nY (a b:Int) (c:RR):TS:=TS.mk [(1,one (cI a)),(4,TE.bp 4 0),(5,one lF),(6,one (cI b))] [(4,[cI 0,cI 0,cI 0,cI 0,cI 0])] [(1,OB.mk true 5 c)]
def G9 (a b c d e:Int) (f:RR):TS:=TS.mk [(4,TE.bp 4 0)] [(4,[cI a,cI b,cI c,cI d,cI e])] [(1,OB.mk true 5 f)]
def He (a b:Int) (c:Bool) (d:RR):TS:=TS.mk [(1,one (cI a)),(4,TE.bp 4 0),(5,one lF),(6,one (cI b)),(13,one (cB c))] [(4,[cI 0,cI 0,cI 0,cI 0,cI 0])] [(1,OB.mk true 5 d)]
def ry (a:RR) (b:Int):TS:=TS.mk [(5,one (CE.snap [] none 3 a)),(6,one (cI (Int.ofNat (List.length a)))),(7,one (cI b))] [] []
def Hf (a b:Int) (c:Bool) (d:Int):TS:=TS.mk [(2,one (cI a))] [(4,[cI b,cB c,cI d])] []
def Hg (a:RR) (b c:Int) (d:Bool):TS:=TS.mk [(5,one (CE.snap [] none 3 a)),(6,one (cI b)),(7,one (cI c)),(8,one (cB d))] [] []
def o5 (a:Int) (b c d:RR):TS:=TS.mk [(1,TE.bp 1 0),(3,one lF),(4,one (cI a))] [(1,[CE.snap [] none 1 b,CE.snap [] none 1 c])] [(1,OB.mk true 5 d)]
def CH (a:Int) (b:Bool) (c d e:RR):TS:=TS.mk [(1,TE.bp 1 0),(3,one lF),(4,one (cI a)),(10,one (cB b))] [(1,[CE.snap [] none 1 c,CE.snap [] none 1 d])] [(1,OB.mk true 5 e)]
def o6 (a:Int) (b c d e f:RR) (g:Int) (h:RR):TS:=TS.mk [(1,TE.bp 1 0),(4,one lF),(17,one S3),(18,one (cI 3)),(19,one (cI a))] [(1,[CE.snap [] none 1 b,CE.snap [] none 1 c,CE.snap [] none 2 d,CE.snap [] none 3 e,CE.snap [] none 4 f,cI g])] [(1,OB.mk true 5 h),(2,OB.mk true 1 [[iI 1],[iI 2],[iI 3]])]
def o7 (b c:Int) (a:RR) (d:Int) (e f g h i:RR) (j:Int):TS:=TS.mk [(1,TE.bp 1 0),(4,one lF),(6,one (cI b)),(17,one S3),(18,one (cI 3)),(19,one (cI c)),(23,one lF),(24,one (cI (Int.ofNat (List.length a)))),(25,one (cI d))] [(1,[CE.snap [] none 1 e,CE.snap [] none 1 f,CE.snap [] none 2 g,CE.snap [] none 3 h,CE.snap [] none 4 i,cI j])] [(1,OB.mk true 5 a),(2,OB.mk true 1 [[iI 1],[iI 2],[iI 3]])]
def CI (a:Int) (b c d e f:RR) (g:Int) (h:RR):TS:=TS.mk [(1,TE.bp 1 0),(4,one lF),(17,one S3),(18,one (cI 3)),(19,one (cI a)),(20,one (cB (bK a 3)))] [(1,[CE.snap [] none 1 b,CE.snap [] none 1 c,CE.snap [] none 2 d,CE.snap [] none 3 e,CE.snap [] none 4 f,cI g])] [(1,OB.mk true 5 h),(2,OB.mk true 1 [[iI 1],[iI 2],[iI 3]])]
def CJ (a b:Int) (c d e f g:RR) (h i j k l m:Int) (n:RR):TS:=TS.mk [(2,one (cI a)),(3,one (cI b))] [(1,[CE.snap [] none 1 c,CE.snap [] none 1 d,CE.snap [] none 2 e,CE.snap [] none 3 f,CE.snap [] none 4 g,cI h]),(8,[cI i,cI j,cI k,cI l,cI m])] [(1,OB.mk true 5 n),(2,OB.mk true 1 [[iI 1],[iI 2],[iI 3]])]
def CK (a b c d:Int) (e:Bool) (f g h i j:RR) (k:Int) (l:RR):TS:=TS.mk [(1,TE.bp 1 0),(4,one lF),(6,one (cI a)),(17,one S3),(18,one (cI 3)),(19,one (cI b)),(23,one lF),(24,one (cI c)),(25,one (cI d)),(26,one (cB e))] [(1,[CE.snap [] none 1 f,CE.snap [] none 1 g,CE.snap [] none 2 h,CE.snap [] none 3 i,CE.snap [] none 4 j,cI k])] [(1,OB.mk true 5 l),(2,OB.mk true 1 [[iI 1],[iI 2],[iI 3]])]
def iY (a:RR) (b:Int) (c d e f:RR) (g:Int) (h:RR):TS:=TS.mk [(1,TE.bp 1 0),(4,one lF),(39,one (CE.snap [] none 2 a)),(40,one (cI (Int.ofNat (List.length a)))),(41,one (cI b))] [(1,[CE.snap [] none 1 c,CE.snap [] none 1 d,CE.snap [] none 2 a,CE.snap [] none 3 e,CE.snap [] none 4 f,cI g])] [(1,OB.mk true 5 h)]
def CL (a b:Int) (c d e f g:RR) (h i j k l m:Int) (n:RR):TS:=TS.mk [(2,one (cI a)),(3,one (cI b))] [(1,[CE.snap [] none 1 c,CE.snap [] none 1 d,CE.snap [] none 2 e,CE.snap [] none 3 f,CE.snap [] none 4 g,cI h]),(8,[cI i,cI j,cI k,cI l,cI m])] [(1,OB.mk true 5 n),(2,OB.mk true 1 [[iI 1],[iI 2],[iI 3]])]
def xm (a:Int) (b c d e f:RR) (g h i:Int) (j k:RR):TS:=TS.mk [(2,one (cI 4)),(3,one (cI a))] [(1,[CE.snap [] none 1 b,CE.snap [] none 1 c,CE.snap [] none 2 d,CE.snap [] none 3 e,CE.snap [] none 4 f,cI g]),(10,[cI h,cI i])] [(1,OB.mk true 5 j),(23000,OB.mk true 1 k)]
def CM (a:RR) (b c:Int) (d:Bool) (e f g h:RR) (i:Int) (j:RR):TS:=TS.mk [(1,TE.bp 1 0),(4,one lF),(39,one (CE.snap [] none 2 a)),(40,one (cI b)),(41,one (cI c)),(42,one (cB d))] [(1,[CE.snap [] none 1 e,CE.snap [] none 1 f,CE.snap [] none 2 a,CE.snap [] none 3 g,CE.snap [] none 4 h,cI i])] [(1,OB.mk true 5 j)]
def ua (a:RR) (b:Int) (c:RR):TS:=TS.mk [(0,one (CE.snap [] none 1 a)),(3,one lF),(4,one (cI b))] [] [(1,OB.mk true 1 c)]
def ES (a:RR) (b:Int) (c:Bool) (d:RR):TS:=TS.mk [(0,one (CE.snap [] none 1 a)),(3,one lF),(4,one (cI b)),(11,one (cB c))] [] [(1,OB.mk true 1 d)]
def vq (a b:RR) (c:Int):TS:=TS.mk [(0,one (CE.snap [] none 1 a)),(1,one (CE.snap [] none 1 b)),(5,one (cI c))] [] []
def S6:TS:=TS.mk [(4,TE.kb false)] [] []
def Hh (a b:RR) (c:Int) (d:Bool):TS:=TS.mk [(0,one (CE.snap [] none 1 a)),(1,one (CE.snap [] none 1 b)),(5,one (cI c)),(14,one (cB d))] [] []
def qI (a:RR) (b c:Int):TS:=TS.mk [(0,one (CE.snap [] none 1 a)),(1,one (cI b)),(5,one (cI c))] [] []
def MS:TS:=TS.mk [(4,one W6)] [] []
def AZ (a:RR) (b c:Int) (d:Bool):TS:=TS.mk [(0,one (CE.snap [] none 1 a)),(1,one (cI b)),(5,one (cI c)),(9,one (cB d))] [] []
def ju (a:RR) (b:Int):TS:=TS.mk [(0,one (CE.snap [] none 2 a)),(3,one (cI b))] [] []
def rz:TS:=TS.mk [(2,TE.kb false)] [] []
def Hi (a:RR) (b:Int) (c:Bool):TS:=TS.mk [(0,one (CE.snap [] none 2 a)),(3,one (cI b)),(7,one (cB c))] [] []
def kU (a:RR) (b:Int):TS:=TS.mk [(0,one (CE.snap [] none 3 a)),(5,one (CE.snap [] none 3 a)),(6,one (cI (Int.ofNat (List.length a)))),(7,one (cI b))] [] []
def uc (a:Int) (b:Bool) (c:Int):TS:=TS.mk [(2,TE.kb false)] [(4,[cI a,cB b,cI c])] []
def ET (a:RR) (b c:Int) (d:Bool):TS:=TS.mk [(0,one (CE.snap [] none 3 a)),(5,one (CE.snap [] none 3 a)),(6,one (cI b)),(7,one (cI c)),(8,one (cB d))] [] []
def jB (b:Bool) (a:RR) (c:Int) (d:ByteArray) (e f:Int) (g:Bool) (h:RR):TS:=TS.mk [(3,TE.bp 3 0),(5,one lF),(6,one (cB b)),(10,one (CE.snap [] none 4 a)),(11,one (cI (Int.ofNat (List.length a)))),(12,one (cI c))] [(3,[cS d,cI e,cI f,cB g])] [(1,OB.mk true 4 h)]
def A4 (a:Bool) (b:RR) (c d:Int) (e:Bool) (f:ByteArray) (g h:Int) (i:Bool) (j:RR):TS:=TS.mk [(3,TE.bp 3 0),(5,one lF),(6,one (cB a)),(10,one (CE.snap [] none 4 b)),(11,one (cI c)),(12,one (cI d)),(13,one (cB e))] [(3,[cS f,cI g,cI h,cB i])] [(1,OB.mk true 4 j)]
def o8 (a:Int) (b c:RR):TS:=TS.mk [(1,TE.bp 1 0),(3,one lF),(4,one (cI a))] [(1,[CE.snap [] none 1 b])] [(1,OB.mk true 5 c)]
def CN (a:Int) (b:Bool) (c d:RR):TS:=TS.mk [(1,TE.bp 1 0),(3,one lF),(4,one (cI a)),(10,one (cB b))] [(1,[CE.snap [] none 1 c])] [(1,OB.mk true 5 d)]
def o9 (a:RR) (b:Int) (c:RR):TS:=TS.mk [(3,one lF),(8,one (CE.snap [] none 1 a)),(9,one (cI (Int.ofNat (List.length a)))),(10,one (cI b))] [] [(1,OB.mk true 5 c)]
def CO (a:RR) (b c:Int) (d:Bool) (e:RR):TS:=TS.mk [(3,one lF),(8,one (CE.snap [] none 1 a)),(9,one (cI b)),(10,one (cI c)),(11,one (cB d))] [] [(1,OB.mk true 5 e)]
def mH (a:Int) (b c:RR):TS:=TS.mk [(1,TE.bp 1 0),(2,TE.bp 2 0),(3,one (cI a))] [(1,[CE.ref 1 none,CE.ref 2 none]),(2,[CE.nil 1,CE.nil 1])] [(1,OB.mk true 1 b),(2,OB.mk true 1 c)]
def Hj (a:Int) (b:Bool) (c d:RR):TS:=TS.mk [(1,TE.bp 1 0),(2,TE.bp 2 0),(3,one (cI a)),(10,one (cB b))] [(1,[CE.ref 1 none,CE.ref 2 none]),(2,[CE.nil 1,CE.nil 1])] [(1,OB.mk true 1 c),(2,OB.mk true 1 d)]
def mI (a:RR) (b c:Int) (d:RR):TS:=TS.mk [(0,one (CE.snap [] none 2 a)),(1,one (cI b)),(5,one lF),(6,one (cI c))] [] [(1,OB.mk true 1 d)]
def Hl (a:RR) (b c:Int) (d:Bool) (e:RR):TS:=TS.mk [(0,one (CE.snap [] none 2 a)),(1,one (cI b)),(5,one lF),(6,one (cI c)),(11,one (cB d))] [] [(1,OB.mk true 1 e)]
def qJ (a b:Int) (c:RR):TS:=TS.mk [(0,one lF),(1,one (cI a)),(5,one (cI b))] [] [(1,OB.mk true 1 c)]
def A5 (a b:Int) (c:Bool) (d:RR):TS:=TS.mk [(0,one lF),(1,one (cI a)),(5,one (cI b)),(9,one (cB c))] [] [(1,OB.mk true 1 d)]
def kV (a:RR) (b c:Int):TS:=TS.mk [(0,one (CE.snap [] none 3 a)),(3,one (cI b)),(4,one (cI c))] [] []
def A6 (a:RR) (b c:Int) (d:Bool):TS:=TS.mk [(0,one (CE.snap [] none 3 a)),(3,one (cI b)),(4,one (cI c)),(8,one (cB d))] [] []
def kW (b:Int) (a:RR) (c:Int):TS:=TS.mk [(3,one (cI b)),(6,one (CE.snap [] none 3 a)),(7,one (cI (Int.ofNat (List.length a)))),(8,one (cI c))] [] []
def A7 (a:Int) (b:RR) (c d:Int) (e:Bool):TS:=TS.mk [(3,one (cI a)),(6,one (CE.snap [] none 3 b)),(7,one (cI c)),(8,one (cI d)),(9,one (cB e))] [] []
def qh (a:RR) (b c d:Int):TS:=TS.mk [(0,one (CE.snap [] none 5 a)),(1,one (cI b)),(2,one (cI c)),(6,TE.bp 6 0),(8,one (cI d))] [(6,[cI 0,cI 0,cI 0,cI 0,cI 0])] []
def Kk (a b c d e:Int):TS:=TS.mk [(6,TE.bp 6 0),(7,TE.kb true)] [(6,[cI a,cI b,cI c,cI d,cI e])] []
def Kl (a:RR) (b c d:Int) (e:Bool):TS:=TS.mk [(0,one (CE.snap [] none 5 a)),(1,one (cI b)),(2,one (cI c)),(6,TE.bp 6 0),(8,one (cI d)),(12,one (cB e))] [(6,[cI 0,cI 0,cI 0,cI 0,cI 0])] []
def nJ (a:RR) (b:Int) (c:RR):TS:=TS.mk [(1,one (CE.snap [] none 5 a)),(5,one lF),(6,one (cI b))] [] [(1,OB.mk true 5 c)]
def A8 (a:RR) (b:Int) (c:Bool) (d:RR):TS:=TS.mk [(1,one (CE.snap [] none 5 a)),(5,one lF),(6,one (cI b)),(13,one (cB c))] [] [(1,OB.mk true 5 d)]
def qi (b c:Int) (a:RR) (d:Int):TS:=TS.mk [(1,one (cI b)),(2,one (cI c)),(6,TE.bp 6 0),(10,one (CE.snap [] none 5 a)),(11,one (cI (Int.ofNat (List.length a)))),(12,one (cI d))] [(6,[cI 0,cI 0,cI 0,cI 0,cI 0])] []
def Km (a b c d e:Int):TS:=TS.mk [(6,TE.bp 6 0),(7,TE.kb true)] [(6,[cI a,cI b,cI c,cI d,cI e]),(9,[cI a,cI b,cI c,cI d,cI e])] []
def Kn (a b:Int) (c:RR) (d e:Int) (f:Bool):TS:=TS.mk [(1,one (cI a)),(2,one (cI b)),(6,TE.bp 6 0),(10,one (CE.snap [] none 5 c)),(11,one (cI d)),(12,one (cI e)),(13,one (cB f))] [(6,[cI 0,cI 0,cI 0,cI 0,cI 0])] []
def vr (a b c:Int) (d:RR):TS:=TS.mk [(1,one (cI a)),(2,one (cI b)),(3,TE.bp 3 0),(6,TE.bp 6 0),(8,one (cI c))] [(3,[CE.snap [] none 1 d]),(6,[cI 0,cI 0,cI 0,cI 0,cI 0])] []
def Ho (a:Bool) (b:RR) (c d e f g:Int):TS:=TS.mk [(6,TE.bp 6 0),(9,TE.bp 9 0),(34,one (cB a))] [(3,[CE.snap [] none 1 b]),(6,[cI 0,cI 0,cI 0,cI 0,cI 0]),(9,[cI c,cI d,cI e,cI f,cI g])] []
def Hp (f:RR) (a b c d e:Int):TS:=TS.mk [(6,TE.bp 6 0),(7,TE.kb true)] [(3,[CE.snap [] none 1 f]),(6,[cI a,cI b,cI c,cI d,cI e]),(9,[cI a,cI b,cI c,cI d,cI e])] []
def Hq (a b c:Int) (d:Bool) (e:RR):TS:=TS.mk [(1,one (cI a)),(2,one (cI b)),(3,TE.bp 3 0),(6,TE.bp 6 0),(8,one (cI c)),(16,one (cB d))] [(3,[CE.snap [] none 1 e]),(6,[cI 0,cI 0,cI 0,cI 0,cI 0])] []
def kD (b:RR) (c:Bool) (a:RR) (d e f g h i:Int):TS:=TS.mk [(2,one (CE.snap [] none 1 b)),(6,TE.bp 6 0),(8,TE.bp 8 0),(9,one (cB c)),(15,one lF),(16,one (cI (Int.ofNat (List.length a)))),(17,one (cI d))] [(6,[cI 0,cI 0,cI 0,cI 0,cI 0]),(8,[cI e,cI f,cI g,cI h,cI i])] [(1,OB.mk true 5 a)]
def Hr (a:RR) (b:Bool) (c d:Int) (e:Bool) (f g h i j:Int) (k:RR):TS:=TS.mk [(2,one (CE.snap [] none 1 a)),(6,TE.bp 6 0),(8,TE.bp 8 0),(9,one (cB b)),(15,one lF),(16,one (cI c)),(17,one (cI d)),(18,one (cB e))] [(6,[cI 0,cI 0,cI 0,cI 0,cI 0]),(8,[cI f,cI g,cI h,cI i,cI j])] [(1,OB.mk true 5 k)]
def ud (a b:RR) (c:Int):TS:=TS.mk [(0,one (CE.snap [] none 1 a)),(1,one (CE.snap [] none 1 b)),(5,one (cI c))] [] []
def QL:TS:=TS.mk [(4,TE.kb false)] [] []
def EU (a b:RR) (c:Int) (d:Bool):TS:=TS.mk [(0,one (CE.snap [] none 1 a)),(1,one (CE.snap [] none 1 b)),(5,one (cI c)),(14,one (cB d))] [] []
def nK (a:RR) (b:Int):TS:=TS.mk [(0,one (CE.snap [] none 5 a)),(5,one (CE.snap [] none 5 a)),(6,one (cI (Int.ofNat (List.length a)))),(7,one (cI b))] [] []
def A9 (a b c d e:Int):TS:=TS.mk [(2,TE.kb false)] [(4,[cI a,cI b,cI c,cI d,cI e])] []
def Ko (a:RR) (b c:Int) (d:Bool):TS:=TS.mk [(0,one (CE.snap [] none 5 a)),(5,one (CE.snap [] none 5 a)),(6,one (cI b)),(7,one (cI c)),(8,one (cB d))] [] []
def vt (a:RR) (b:Int) (c:RR):TS:=TS.mk [(0,one (CE.snap [] none 5 a)),(3,one lF),(4,one (cI b))] [] [(1,OB.mk true 5 c)]
def Hs (a:RR) (b:Int) (c:Bool) (d:RR):TS:=TS.mk [(0,one (CE.snap [] none 5 a)),(3,one lF),(4,one (cI b)),(11,one (cB c))] [] [(1,OB.mk true 5 d)]
def lQ (a:RR) (b c:Int):TS:=TS.mk [(0,one (CE.snap [] none 1 a)),(1,one (cI b)),(7,one (cI (Int.ofNat (List.length a)))),(8,one (cI c))] [] []
def yJ (a:Int):TS:=TS.mk [(4,one (cI a))] [] []
def yK (a:RR) (b c d:Int) (e:Bool):TS:=TS.mk [(0,one (CE.snap [] none 1 a)),(1,one (cI b)),(7,one (cI c)),(8,one (cI d)),(9,one (cB e))] [] []
def ey (a:RR) (b c:Int):TS:=TS.mk [(0,one (CE.snap [] none 2 a)),(1,TE.fn 241 [201001]),(7,one (cI (Int.ofNat (List.length a)))),(8,one (cI b))] [(201001,[cI c])] []
def mu (a b:Int):TS:=TS.mk [(4,one (cI a))] [(201001,[cI b])] []
def mw (a:RR) (b c:Int) (d:Bool) (e:Int):TS:=TS.mk [(0,one (CE.snap [] none 2 a)),(1,TE.fn 241 [201001]),(7,one (cI b)),(8,one (cI c)),(9,one (cB d))] [(201001,[cI e])] []
def eF (a:RR) (b c:Int):TS:=TS.mk [(0,one (CE.snap [] none 4 a)),(1,TE.fn 231 [201001]),(7,one (cI (Int.ofNat (List.length a)))),(8,one (cI b))] [(201001,[cI c])] []
def mO (a b:Int):TS:=TS.mk [(4,one (cI a))] [(201001,[cI b])] []
def mP (a:RR) (b c:Int) (d:Bool) (e:Int):TS:=TS.mk [(0,one (CE.snap [] none 4 a)),(1,TE.fn 231 [201001]),(7,one (cI b)),(8,one (cI c)),(9,one (cB d))] [(201001,[cI e])] []
def xo (a b c d e:RR) (f:Int) (g:RR):TS:=TS.mk [(1,one (CE.snap [] none 5 a)),(4,TE.bp 4 0),(5,TE.bp 5 0),(6,one (cI 0))] [(4,[CE.nil 1,CE.nil 1,CE.nil 2,CE.nil 3,CE.nil 4,cI 0]),(5,[CE.snap [] none 1 b,CE.snap [] none 1 c,CE.snap [] none 2 d,CE.snap [] none 3 e,CE.ref 1 none,cI f])] [(1,OB.mk true 4 g)]
def sy (a:RR) (b:Int) (c d e f g:RR) (h:Int):TS:=TS.mk [(1,one (CE.snap [] none 5 a)),(4,TE.bp 4 0),(5,TE.bp 5 0),(6,one (cI b))] [(4,[CE.nil 1,CE.nil 1,CE.nil 2,CE.nil 3,CE.nil 4,cI 0]),(5,[CE.snap [] none 1 c,CE.snap [] none 1 d,CE.snap [] none 2 e,CE.snap [] none 3 f,CE.snap [] none 4 g,cI h])] []
def Ox (a b c d e:RR) (f:Int) (g:RR):TS:=TS.mk [(1,one (CE.snap [] none 5 a)),(4,TE.bp 4 0),(5,TE.bp 5 0),(6,one (cI 0)),(16,one (cB (bK 0 200)))] [(4,[CE.nil 1,CE.nil 1,CE.nil 2,CE.nil 3,CE.nil 4,cI 0]),(5,[CE.snap [] none 1 b,CE.snap [] none 1 c,CE.snap [] none 2 d,CE.snap [] none 3 e,CE.ref 1 none,cI f])] [(1,OB.mk true 4 g)]
def CP (a b c d e:RR) (f:Int) (g:RR):TS:=TS.mk [(1,one (CE.snap [] none 5 a)),(4,TE.bp 4 0),(5,TE.bp 5 0),(6,one (cI 0)),(16,TE.kb false)] [(4,[CE.nil 1,CE.nil 1,CE.nil 2,CE.nil 3,CE.nil 4,cI 0]),(5,[CE.snap [] none 1 b,CE.snap [] none 1 c,CE.snap [] none 2 d,CE.snap [] none 3 e,CE.ref 1 none,cI f])] [(1,OB.mk true 4 g)]
def CQ (b:RR) (a:Int) (c d e f g:RR) (h:Int):TS:=TS.mk [(1,one (CE.snap [] none 5 b)),(4,TE.bp 4 0),(5,TE.bp 5 0),(6,one (cI a)),(16,one (cB (bK a 200)))] [(4,[CE.nil 1,CE.nil 1,CE.nil 2,CE.nil 3,CE.nil 4,cI 0]),(5,[CE.snap [] none 1 c,CE.snap [] none 1 d,CE.snap [] none 2 e,CE.snap [] none 3 f,CE.snap [] none 4 g,cI h])] []
def CR (a:RR) (b:Int) (c d e f g:RR) (h:Int):TS:=TS.mk [(1,one (CE.snap [] none 5 a)),(4,TE.bp 4 0),(5,TE.bp 5 0),(6,one (cI b)),(16,TE.kb false)] [(4,[CE.nil 1,CE.nil 1,CE.nil 2,CE.nil 3,CE.nil 4,cI 0]),(5,[CE.snap [] none 1 c,CE.snap [] none 1 d,CE.snap [] none 2 e,CE.snap [] none 3 f,CE.snap [] none 4 g,cI h])] []
def ue (a b:Int) (c:RR):TS:=TS.mk [(0,one lF),(1,one (cI a)),(5,one (cI b))] [] [(1,OB.mk true 5 c)]
def EV (a b:Int) (c:Bool) (d:RR):TS:=TS.mk [(0,one lF),(1,one (cI a)),(5,one (cI b)),(9,one (cB c))] [] [(1,OB.mk true 5 d)]
def rA (a:RR) (b c:Int):TS:=TS.mk [(0,one (CE.snap [] none 4 a)),(1,one (cI b)),(5,one (cI c))] [] []
def Ht:TS:=TS.mk [(4,one W6)] [] []
def Hu (a:RR) (b c:Int) (d:Bool):TS:=TS.mk [(0,one (CE.snap [] none 4 a)),(1,one (cI b)),(5,one (cI c)),(15,one (cB d))] [] []
def uf (a:RR) (b:Int) (c:RR):TS:=TS.mk [(0,one (CE.snap [] none 3 a)),(3,one lF),(4,one (cI b))] [] [(1,OB.mk true 3 c)]
def EW (a:RR) (b:Int) (c:Bool) (d:RR):TS:=TS.mk [(0,one (CE.snap [] none 3 a)),(3,one lF),(4,one (cI b)),(11,one (cB c))] [] [(1,OB.mk true 3 d)]
def vu (a b:RR) (c:Int):TS:=TS.mk [(0,one (CE.snap [] none 2 a)),(1,one (CE.snap [] none 2 b)),(5,one (cI c))] [] []
def S7:TS:=TS.mk [(4,TE.kb false)] [] []
def Hv (a b:RR) (c:Int) (d:Bool):TS:=TS.mk [(0,one (CE.snap [] none 2 a)),(1,one (CE.snap [] none 2 b)),(5,one (cI c)),(14,one (cB d))] [] []
def sA (a b:Int) (c:RR):TS:=TS.mk [(0,one lF),(1,one (cI a)),(5,one (cI b))] [] [(1,OB.mk true 2 c)]
def CS (a b:Int) (c:Bool) (d:RR):TS:=TS.mk [(0,one lF),(1,one (cI a)),(5,one (cI b)),(9,one (cB c))] [] [(1,OB.mk true 2 d)]
def sC (a:RR) (b c:Int):TS:=TS.mk [(0,one (CE.snap [] none 2 a)),(1,one (cI b)),(5,one (cI c))] [] []
def CT:TS:=TS.mk [(4,one W6)] [] []
def CU (a:RR) (b c:Int) (d:Bool):TS:=TS.mk [(0,one (CE.snap [] none 2 a)),(1,one (cI b)),(5,one (cI c)),(9,one (cB d))] [] []
def nZ (a:Int) (b c d e f:RR) (g:Int):TS:=TS.mk [(1,TE.bp 1 0),(3,one (cI a))] [(1,[CE.snap [] none 1 b,CE.snap [] none 1 c,CE.snap [] none 2 d,CE.snap [] none 3 e,CE.snap [] none 4 f,cI g])] []
def Hw (a b c d e:RR) (f:Int):TS:=TS.mk [(2,TE.kb false)] [(1,[CE.snap [] none 1 a,CE.snap [] none 1 b,CE.snap [] none 2 c,CE.snap [] none 3 d,CE.snap [] none 4 e,cI f])] []
def Hy (a:Int) (b:Bool) (c d e f g:RR) (h:Int):TS:=TS.mk [(1,TE.bp 1 0),(3,one (cI a)),(8,one (cB b))] [(1,[CE.snap [] none 1 c,CE.snap [] none 1 d,CE.snap [] none 2 e,CE.snap [] none 3 f,CE.snap [] none 4 g,cI h])] []
def pz (a:RR) (b c:Int) (d:RR):TS:=TS.mk [(0,one (CE.snap [] none 3 a)),(1,one (cI b)),(7,one lF),(8,one (cI c))] [] [(1,OB.mk true 3 d)]
def CV (a:Int) (b:RR):TS:=TS.mk [(4,one lF),(5,one (cI a)),(6,TE.kb true)] [] [(1,OB.mk true 3 b)]
def CW (a:RR) (b c:Int) (d:Bool) (e:RR):TS:=TS.mk [(0,one (CE.snap [] none 3 a)),(1,one (cI b)),(7,one lF),(8,one (cI c)),(22,one (cB d))] [] [(1,OB.mk true 3 e)]
def xp (a:RR) (b c:Int) (d:RR):TS:=TS.mk [(0,one (CE.snap [] none 3 a)),(1,one (cI b)),(7,one lF),(8,one (cI c)),(22,TE.kb false)] [] [(1,OB.mk true 3 d)]
def vv (a b:RR):TS:=TS.mk [(1,TE.bp 1 0),(2,TE.bp 2 0),(3,TE.bp 3 0),(4,one (cI 0))] [(1,[CE.snap [] none 1 a,CE.snap [] none 1 b]),(2,[CE.nil 1,CE.nil 1]),(3,[CE.ref 1 none,CE.nil 1])] [(1,OB.mk true 1 a)]
def rB (b:Int) (a c d:RR):TS:=TS.mk [(1,TE.bp 1 0),(2,TE.bp 2 0),(3,TE.bp 3 0),(4,one (cI b))] [(1,[CE.snap [] none 1 a,CE.snap [] none 1 c]),(2,[CE.nil 1,CE.nil 1]),(3,[CE.ref 1 none,CE.ref 2 none])] [(1,OB.mk true 1 a),(2,OB.mk true 1 d)]
def Hz (b:Bool) (a c:RR):TS:=TS.mk [(1,TE.bp 1 0),(2,TE.bp 2 0),(3,TE.bp 3 0),(4,one (cI 0)),(14,one (cB b))] [(1,[CE.snap [] none 1 a,CE.snap [] none 1 c]),(2,[CE.nil 1,CE.nil 1]),(3,[CE.ref 1 none,CE.nil 1])] [(1,OB.mk true 1 a)]
def HA (b:Int) (c:Bool) (a d e:RR):TS:=TS.mk [(1,TE.bp 1 0),(2,TE.bp 2 0),(3,TE.bp 3 0),(4,one (cI b)),(14,one (cB c))] [(1,[CE.snap [] none 1 a,CE.snap [] none 1 d]),(2,[CE.nil 1,CE.nil 1]),(3,[CE.ref 1 none,CE.ref 2 none])] [(1,OB.mk true 1 a),(2,OB.mk true 1 e)]
def ug (a b:RR) (c:Int):TS:=TS.mk [(0,one (CE.snap [] none 1 a)),(1,one (CE.snap [] none 1 b)),(5,one (cI c))] [] []
def QM:TS:=TS.mk [(4,TE.kb false)] [] []
def EX (a b:RR) (c:Int) (d:Bool):TS:=TS.mk [(0,one (CE.snap [] none 1 a)),(1,one (CE.snap [] none 1 b)),(5,one (cI c)),(14,one (cB d))] [] []
def sD (a b:Int) (c:RR):TS:=TS.mk [(0,one lF),(1,one (cI a)),(5,one (cI b))] [] [(1,OB.mk true 1 c)]
def CX (a b:Int) (c:Bool) (d:RR):TS:=TS.mk [(0,one lF),(1,one (cI a)),(5,one (cI b)),(9,one (cB c))] [] [(1,OB.mk true 1 d)]
def mJ (a:ByteArray) (b:Int):TS:=TS.mk [(0,one (cS a)),(3,one (cI b))] [] []
def HB:TS:=TS.mk [(2,TE.kb false)] [] []
def HC (a:ByteArray) (b:Int) (c:Bool):TS:=TS.mk [(0,one (cS a)),(3,one (cI b)),(7,one (cB c))] [] []
def kX (a:RR) (b:Int):TS:=TS.mk [(0,one (CE.snap [] none 3 a)),(3,one (cI b))] [] []
def uh:TS:=TS.mk [(2,TE.kb false)] [] []
def EY (a:RR) (b:Int) (c:Bool):TS:=TS.mk [(0,one (CE.snap [] none 3 a)),(3,one (cI b)),(7,one (cB c))] [] []
def mK (a:RR) (b c:Int) (d:Bool) (e:Int) (f:RR):TS:=TS.mk [(0,one (CE.snap [] none 2 a)),(1,one (cI b)),(2,one (cI c)),(8,one lF),(9,one (cB d)),(10,one (cI e))] [] [(1,OB.mk true 2 f)]
def HD (a:RR) (b c:Int) (d:Bool) (e:Int) (f:Bool) (g:RR):TS:=TS.mk [(0,one (CE.snap [] none 2 a)),(1,one (cI b)),(2,one (cI c)),(8,one lF),(9,one (cB d)),(10,one (cI e)),(19,one (cB f))] [] [(1,OB.mk true 2 g)]
def mL (a:ByteArray) (b:Int):TS:=TS.mk [(0,one (cS a)),(3,one (cI b))] [] []
def HE:TS:=TS.mk [(2,TE.kb false)] [] []
def HF (a:ByteArray) (b:Int) (c:Bool):TS:=TS.mk [(0,one (cS a)),(3,one (cI b)),(7,one (cB c))] [] []
def mM (a:RR) (b:Int) (c d e f:RR) (g:Int):TS:=TS.mk [(1,TE.bp 1 0),(6,one (CE.snap [] none 4 a)),(7,one (cI (Int.ofNat (List.length a)))),(8,one (cI b))] [(1,[CE.snap [] none 1 c,CE.snap [] none 1 d,CE.snap [] none 2 e,CE.snap [] none 3 f,CE.snap [] none 4 a,cI g])] []
def kE (a b c d e:RR) (f:Int) (g:ByteArray) (h i:Int) (j:Bool):TS:=TS.mk [(2,TE.kb false)] [(1,[CE.snap [] none 1 a,CE.snap [] none 1 b,CE.snap [] none 2 c,CE.snap [] none 3 d,CE.snap [] none 4 e,cI f]),(4,[cS g,cI h,cI i,cB j])] []
def oc (a b c d e:RR) (f:Int) (g:ByteArray) (h i:Int) (j:Bool) (k:RR):TS:=TS.mk [(2,TE.kb false)] [(1,[CE.snap [] none 1 a,CE.snap [] none 1 b,CE.snap [] none 2 c,CE.snap [] none 3 d,CE.snap [] none 4 e,cI f]),(4,[cS g,cI h,cI i,cB j])] [(21000,OB.mk true 1 k)]
def HG (a:RR) (b c:Int) (d:Bool) (e f g h:RR) (i:Int):TS:=TS.mk [(1,TE.bp 1 0),(6,one (CE.snap [] none 4 a)),(7,one (cI b)),(8,one (cI c)),(9,one (cB d))] [(1,[CE.snap [] none 1 e,CE.snap [] none 1 f,CE.snap [] none 2 g,CE.snap [] none 3 h,CE.snap [] none 4 a,cI i])] []
def uV (a b:Int) (c d e f g:RR) (h:Int):TS:=TS.mk [(1,one (cI a)),(2,TE.bp 2 0),(5,one (cI b))] [(2,[CE.snap [] none 1 c,CE.snap [] none 1 d,CE.snap [] none 2 e,CE.snap [] none 3 f,CE.snap [] none 4 g,cI h])] []
def LM (a b c d e:RR) (f:Int):TS:=TS.mk [(4,TE.kb false)] [(2,[CE.snap [] none 1 a,CE.snap [] none 1 b,CE.snap [] none 2 c,CE.snap [] none 3 d,CE.snap [] none 4 e,cI f])] []
def LN (a b:Int) (c:Bool) (d e f g h:RR) (i:Int):TS:=TS.mk [(1,one (cI a)),(2,TE.bp 2 0),(5,one (cI b)),(10,one (cB c))] [(2,[CE.snap [] none 1 d,CE.snap [] none 1 e,CE.snap [] none 2 f,CE.snap [] none 3 g,CE.snap [] none 4 h,cI i])] []
def oe (b:Int) (a:RR) (c:Int) (d:RR):TS:=TS.mk [(1,one (cI b)),(5,one lF),(12,one (CE.snap [] none 2 a)),(13,one (cI (Int.ofNat (List.length a)))),(14,one (cI c))] [] [(1,OB.mk true 1 d)]
def HH (a:Int) (b:RR) (c d:Int) (e:Bool) (f:RR):TS:=TS.mk [(1,one (cI a)),(5,one lF),(12,one (CE.snap [] none 2 b)),(13,one (cI c)),(14,one (cI d)),(15,one (cB e))] [] [(1,OB.mk true 1 f)]
def vw (a:RR):TS:=TS.mk [(1,TE.bp 1 0),(2,TE.bp 2 0),(3,TE.bp 3 0),(4,one (cI 0))] [(1,[CE.snap [] none 1 a]),(2,[CE.nil 1]),(3,[CE.nil 1])] []
def rC (a:Int) (b c:RR):TS:=TS.mk [(1,TE.bp 1 0),(2,TE.bp 2 0),(3,TE.bp 3 0),(4,one (cI a))] [(1,[CE.snap [] none 1 b]),(2,[CE.nil 1]),(3,[CE.ref 1 none])] [(1,OB.mk true 1 c)]
def HI (a:Bool) (b:RR):TS:=TS.mk [(1,TE.bp 1 0),(2,TE.bp 2 0),(3,TE.bp 3 0),(4,one (cI 0)),(10,one (cB a))] [(1,[CE.snap [] none 1 b]),(2,[CE.nil 1]),(3,[CE.nil 1])] []
def HJ (a:Int) (b:Bool) (c d:RR):TS:=TS.mk [(1,TE.bp 1 0),(2,TE.bp 2 0),(3,TE.bp 3 0),(4,one (cI a)),(10,one (cB b))] [(1,[CE.snap [] none 1 c]),(2,[CE.nil 1]),(3,[CE.ref 1 none])] [(1,OB.mk true 1 d)]
def qK (a:RR) (b c:Int):TS:=TS.mk [(0,one (CE.snap [] none 1 a)),(1,one (cI b)),(5,one (cI c))] [] []
def MT:TS:=TS.mk [(4,one W6)] [] []
def Ba (a:RR) (b c:Int) (d:Bool):TS:=TS.mk [(0,one (CE.snap [] none 1 a)),(1,one (cI b)),(5,one (cI c)),(9,one (cB d))] [] []
def og (a:Int) (b:RR):TS:=TS.mk [(1,TE.bp 1 0),(3,one (cI a))] [(1,[CE.snap [] none 1 b])] []
def zg (a:RR):TS:=TS.mk [(2,TE.kb false)] [(1,[CE.snap [] none 1 a])] []
def HK (a:Int) (b:Bool) (c:RR):TS:=TS.mk [(1,TE.bp 1 0),(3,one (cI a)),(8,one (cB b))] [(1,[CE.snap [] none 1 c])] []
def vz (a:Int) (b c:RR):TS:=TS.mk [(1,TE.bp 1 0),(3,one (cI a))] [(1,[CE.snap [] none 1 b,CE.snap [] none 1 c])] []
def HL (a:Int) (b c d e:RR):TS:=TS.mk [(2,one (cI a))] [(1,[CE.snap [] none 1 b,CE.snap [] none 1 c])] [(7800,OB.mk true 5 d),(11000,OB.mk true 5 e)]
def HM (a:Int) (b:Bool) (c d:RR):TS:=TS.mk [(1,TE.bp 1 0),(3,one (cI a)),(9,one (cB b))] [(1,[CE.snap [] none 1 c,CE.snap [] none 1 d])] []
def iz (b:Bool) (a:RR) (c d e f g h:Int) (i:RR):TS:=TS.mk [(3,TE.bp 3 0),(5,one lF),(6,one (cB b)),(10,one (CE.snap [] none 5 a)),(11,one (cI (Int.ofNat (List.length a)))),(12,one (cI c))] [(3,[cI d,cI e,cI f,cI g,cI h])] [(1,OB.mk true 5 i)]
def HN (a:Bool) (b:RR) (c d:Int) (e:Bool) (f g h i j:Int) (k:RR):TS:=TS.mk [(3,TE.bp 3 0),(5,one lF),(6,one (cB a)),(10,one (CE.snap [] none 5 b)),(11,one (cI c)),(12,one (cI d)),(13,one (cB e))] [(3,[cI f,cI g,cI h,cI i,cI j])] [(1,OB.mk true 5 k)]
def vA (a:RR) (b:Int) (c:RR):TS:=TS.mk [(0,one (CE.snap [] none 2 a)),(5,one lF),(6,one (cI b))] [] [(1,OB.mk true 1 c)]
def HO (a:RR) (b:Int) (c:Bool) (d:RR):TS:=TS.mk [(0,one (CE.snap [] none 2 a)),(5,one lF),(6,one (cI b)),(19,one (cB c))] [] [(1,OB.mk true 1 d)]
def HP (a:RR) (b:Int) (c:RR):TS:=TS.mk [(0,one (CE.snap [] none 2 a)),(5,one lF),(6,one (cI b)),(19,TE.kb false)] [] [(1,OB.mk true 1 c)]
def jC (a:Int) (b c d e f:RR) (g h i j k l:Int):TS:=TS.mk [(2,TE.bp 2 0),(3,TE.bp 3 0),(5,one (cI a))] [(2,[CE.snap [] none 1 b,CE.snap [] none 1 c,CE.snap [] none 2 d,CE.snap [] none 3 e,CE.snap [] none 4 f,cI g]),(3,[cI h,cI i,cI j,cI k,cI l])] []
def Bb (a b c d e:RR) (f g h i j k:Int):TS:=TS.mk [(4,TE.kb true)] [(2,[CE.snap [] none 1 a,CE.snap [] none 1 b,CE.snap [] none 2 c,CE.snap [] none 3 d,CE.snap [] none 4 e,cI f]),(3,[cI g,cI h,cI i,cI j,cI k])] []
def Bc (a:Int) (b:Bool) (c d e f g:RR) (h i j k l m:Int):TS:=TS.mk [(2,TE.bp 2 0),(3,TE.bp 3 0),(5,one (cI a)),(10,one (cB b))] [(2,[CE.snap [] none 1 c,CE.snap [] none 1 d,CE.snap [] none 2 e,CE.snap [] none 3 f,CE.snap [] none 4 g,cI h]),(3,[cI i,cI j,cI k,cI l,cI m])] []
def sE (a b:Int) (c:RR):TS:=TS.mk [(0,one lF),(1,one (cI a)),(5,one (cI b))] [] [(1,OB.mk true 5 c)]
def CY (a b:Int) (c:Bool) (d:RR):TS:=TS.mk [(0,one lF),(1,one (cI a)),(5,one (cI b)),(9,one (cB c))] [] [(1,OB.mk true 5 d)]
def qj (a:RR) (b:Int):TS:=TS.mk [(0,one (CE.snap [] none 5 a)),(3,one (cI b))] [] []
def Kq:TS:=TS.mk [(2,TE.kb false)] [] []
def Kr (a:RR) (b:Int) (c:Bool):TS:=TS.mk [(0,one (CE.snap [] none 5 a)),(3,one (cI b)),(7,one (cB c))] [] []
def oh (a b:Int) (c d:RR):TS:=TS.mk [(1,one (cI a)),(5,one lF),(6,one S3),(7,one (cI b))] [] [(1,OB.mk true 5 c),(2,OB.mk true 5 d)]
def HQ (a b:Int) (c:Bool) (d e:RR):TS:=TS.mk [(1,one (cI a)),(5,one lF),(6,one S3),(7,one (cI b)),(14,one (cB c))] [] [(1,OB.mk true 5 d),(2,OB.mk true 5 e)]
def vC (a b:RR) (c:Int):TS:=TS.mk [(0,one (CE.snap [] none 5 a)),(1,one (CE.snap [] none 5 b)),(5,one (cI c))] [] []
def S8:TS:=TS.mk [(4,TE.kb false)] [] []
def HR (a b:RR) (c:Int) (d:Bool):TS:=TS.mk [(0,one (CE.snap [] none 5 a)),(1,one (CE.snap [] none 5 b)),(5,one (cI c)),(14,one (cB d))] [] []
def ek (a:RR) (b:Int) (c:ByteArray) (d e:Int) (f:Bool):TS:=TS.mk [(0,one (CE.snap [] none 4 a)),(1,TE.fn 201 [201001]),(7,one (cI (Int.ofNat (List.length a)))),(8,one (cI b))] [(201001,[cS c,cI d,cI e,cB f])] []
def lR (a:Int) (b:ByteArray) (c d:Int) (e:Bool):TS:=TS.mk [(4,one (cI a))] [(201001,[cS b,cI c,cI d,cB e])] []
def lS (a:RR) (b c:Int) (d:Bool) (e:ByteArray) (f g:Int) (h:Bool):TS:=TS.mk [(0,one (CE.snap [] none 4 a)),(1,TE.fn 201 [201001]),(7,one (cI b)),(8,one (cI c)),(9,one (cB d))] [(201001,[cS e,cI f,cI g,cB h])] []
theorem Gd (a b c d e f g) (Q:QV) (h:z.I JL [cq a b c d e f,vI 1048576] fun M=>aq (bK M 0) (Q (vB true) []) (z.I mB [fO g,vI M] fun T=>aq (bK T 0) (Q (vB true) []) (z.P wq [cq a b c d e f] fun U V W X Y Z=>z.G mC [fO g] fun A0=>z.P fq [cq U V W X Y Z,fO A0] fun j k l m n o=>z.P wq [cq a b c d e f] fun p q r s t u=>z.G mC [fO g] fun v=>z.P je [cq p q r s t u,fO v] fun w x y A D i=>z.B wu [cq w x y A D i,cq j k l m n o] fun A1=>aq (!A1) (Q (vB false) []) (z.P wq [cq a b c d e f] fun A2 A3 H0 H1 H2 H3=>z.B wu [cq p q r s t u,cq A2 A3 H0 H1 H2 H3] fun H4=>aq (!H4) (Q (vB false) []) (z.G mC [fO g] fun H5=>z.B qC [fO v,fO H5] fun I4=>aq (!I4) (Q (vB false) []) (∃N L1 L2 M1 M2 Q0 R3,an C yd [cq p q r s t u,vI 1] (vI N) [cq L1 L2 M1 M2 Q0 R3]∧ ∃O S1,an C mU [fO v,vI N] (vI O) [fO S1]∧aq (bK O 0) (Q (vB false) []) (z.B wu [cq w x y A D i,cq j k l m n o] fun S2=>aq (!S2) (Q (vB false) []) (∃E F H J K L T0,an C yd [cq w x y A D i,vI 1] (vI E) [cq F H J K L T0]∧z.I ye [cq F H J K L i,vI 1] fun R=>aq (bK R 0) (Q (vB false) []) (aq (!cn R E) (Q (vB false) []) (z.P wq [cq a b c d e f] fun T1 T5 V1 W1 X0 X1=>z.G mC [fO g] fun X2=>z.P je [cq T1 T5 V1 W1 X0 X1,fO X2] fun Z1 Z2 a0 a1 a2 a3=>z.B wu [cq Z1 Z2 a0 a1 a2 a3,cq j k l m n o] fun a4=>aq (!a4) (Q (vB false) []) (z.I ye [cq F H J K L i,vI 1] fun S=>aq (bK S 0) (Q (vB false) []) (aq (!cn S E) (Q (vB false) []) (Q (vB true) []))))))))))))):aV C tf [cq a b c d e f,fO g] Q:=aX (hc hD [] (hb hz (hc hD [] (hb hz (hc MN [] (hc I2 [] (hc MN [] (hc MN [] (hc I2 [] (hc MN [] (hc iL [] (hb hz (hc MN [] (hc iL [] (hb hz (hc I2 [] (hc iL [] (hb hz (hc hD [MN] (hc hD [I2] (hb hz (hc iL [] (hb hz (hc hD [MN] (hc hD [] (hb hz (hb hz (hc MN [] (hc I2 [] (hc MN [] (hc iL [] (hb hz (hc hD [] MR))))))))))))))))))))))))))))))))) h
theorem S9 (a b c d e f g) (Q:QV) (h: ∃i j k,an C DJ [dI a b,vI g] (vI i) [dI j k]∧ ∃l m,an C k9 [lE c,vI i] (vI l) [lE m]∧ ∃n o,an C jX [qV d,vI l] (vI n) [qV o]∧ ∃p q,an C lg [I1 e,vI n] (vI p) [I1 q]∧Q (vI p) [cq j k m o q f]):aV C yd [cq a b c d e f,vI g] Q:=aX (hc hD [Ou] (hc hD [MP] (hc hD [W5] (hc hD [aiE] hz)))) h
theorem aeV (a b c d e) (Q:QV) (h:Q (Ss a b c d e) []):aV C P5 [Ss a b c d e] Q:=aX hz h
theorem acD (a) (Q:QV) (h:aq (true&&cn (Int.ofNat (List.length a)) (Int.ofNat (List.length a))&&m6 0 (Int.ofNat (List.length a))&&fits (sL (Int.ofNat (List.length a))) 56) (aa C mC ai 4 0 (xh a 0 (List.replicate (sL (Int.ofNat (List.length a))) [iI 0,iS (wO),iS (wO),iI 0,iI 0])) (fun x st=>ax C mC ai x st Q)) (False)):aV C mC [fO a] Q:=aX qN h
theorem Ks (b a c) (Q:QX) (h:aq (bK a (Int.ofNat (List.length b))) (∃d e f g i,rowAt b a=some [iI d,iS e,iS f,iI g,iI i]∧z.O P5 [Ss d e f g i] fun j k l m n=> ∃o p q r s,rowAt c a=some [iI o,iS p,iS q,iI r,iI s]∧ ∃t u v w x,rowAt c a=some [iI t,iS u,iS v,iI w,iI x]∧aa C mC ai 4 0 (xh b (aA a 1) (setRow c a 0 [iI j,iS k,iS l,iI m,iI n])) Q) (Q cH (J9 b a (bK a (Int.ofNat (List.length b))) c))):aa C mC ai 4 0 (xh b a c) Q:=bE (hb (hr [sI,sS,sS,sI,sI] (hc (Ej.ag [sI,sS,sS,sI,sI]) [] (hr [sI,sS,sS,sI,sI] (hr [sI,sS,sS,sI,sI] hz)))) hz) h
theorem W8 (b c d a) (Q:QV) (h:Q (fO a) []):ax C mC ai cH (J9 b c d a) Q:=aO hz h
theorem Ta (b d j a k l e) (Q:QV) (h:z.P bq [cq b d j a k l] fun m n f o g i=>z.B cA [cq b d j a k l] fun y=>aq (!y) (Q (xF m n f o g i false) []) (z.B dO [vI e,vI 0,vI (cN (Int.ofNat (List.length a)) 1)] fun A=>aq (!A) (Q (xF m n f o g i false) []) (z.c a e fun A0 D A1=>aq (!D) (Q (xF m n f o g i false) []) (∃r s t F G,an C iU [cq b d j a k l,vI e] (jk r s t F G) []∧z.c a e fun A2 A3 H=> ∃q p u,an C eT [qV a,vI H] (TV.tu [(0,[QH q]),(0,[iI p]),(0,[iB u])]) []∧aq (!u) (Q (xF m n f o g i false) []) (aq (bK e p) (Q (xF m n f o g i false) []) (z.c q p fun I H0 H1=>z.N oJ [dI b d,jk r s t p I] fun v w J=>z.E yf [qV q,vI e] fun x=>aq (!J) (z.P bq [cq b d j a k l] fun K L M O R S=>Q (xF K L M O R S false) []) (z.B cA [cq v w f x g i] fun T=>aq (!T) (z.P bq [cq b d j a k l] fun U V W X Y Z=>Q (xF U V W X Y Z false) []) (Q (xF v w f x g i true) [])))))))):aV C DI [cq b d j a k l,vI e] Q:=aX (hc MN [] (hc iL [] (hb hz (hc iL [] (hb hz (hr [sI,sB,sI] (hb hz (hc (Ej.ag [sI,sI,sI,sI,sI]) [] (hr [sI,sB,sI] (hc ana [] (hb hz (hb hz (hr [sI,sB,sI] (hc Y0 [] (hc W5 [] S0))))))))))))))) h
theorem acE (d e f a b g n o p) (Q:QV) (h:z.P bq [cq d e f a b g] fun i j k u l m=>z.I uR [cq d e f a b g,vS n,vI o] fun q=>aq (cn q 0) (z.B jK [vI p] fun H0=>aq (!H0) (aq (!cn 4 0) (Q (nQ i j k u l m 4) []) (∃r w A,an C eT [qV a,vI p] (TV.tu [(0,[QH r]),(0,[iI w]),(0,[iB A])]) []∧aq A (z.c r w fun H1 d0 d1=>z.I dZ [cq d e f a b g,vS n] fun H2=>z.v b H2 fun d2 H3 d3 d4=> ∃D E F G H K L,an C oK [rX i j k r l m,jk o H3 1 w H1] (vB D) [rX E F G H K L]∧z.J gz [cq d e f a b g,cq E F G H K L,vB D] fun H4 H5 I4 L1 L2 M1 M2=>Q (nQ H4 H5 I4 L1 L2 M1 M2) []) (z.J gz [cq d e f a b g,cq i j k r l m,vB false] fun Q0 R3 S1 S2 T0 T1 T5=>Q (nQ Q0 R3 S1 S2 T0 T1 T5) []))) (aq (!cn q 0) (Q (nQ i j k u l m q) []) (∃s x M,an C eT [qV a,vI p] (TV.tu [(0,[QH s]),(0,[iI x]),(0,[iB M])]) []∧aq M (z.c s x fun V1 d5 d6=>z.I dZ [cq d e f a b g,vS n] fun W1=>z.v b W1 fun d7 X0 d8 d9=> ∃N O R S T U V,an C oK [rX i j k s l m,jk o X0 1 x V1] (vB N) [rX O R S T U V]∧z.J gz [cq d e f a b g,cq O R S T U V,vB N] fun X1 X2 Z1 Z2 a0 a1 a2=>Q (nQ X1 X2 Z1 Z2 a0 a1 a2) []) (z.J gz [cq d e f a b g,cq i j k s l m,vB false] fun a3 a4 a5 a6 a7 a8 a9=>Q (nQ a3 a4 a5 a6 a7 a8 a9) [])))) (aq (!cn q 0) (Q (nQ i j k u l m q) []) (∃t y W,an C eT [qV a,vI p] (TV.tu [(0,[QH t]),(0,[iI y]),(0,[iB W])]) []∧aq W (z.c t y fun b0 e0 e1=>z.I dZ [cq d e f a b g,vS n] fun b1=>z.v b b1 fun e2 b2 e3 e4=> ∃X Y Z A0 A1 A2 A3,an C oK [rX i j k t l m,jk o b2 1 y b0] (vB X) [rX Y Z A0 A1 A2 A3]∧z.J gz [cq d e f a b g,cq Y Z A0 A1 A2 A3,vB X] fun b3 b4 b5 b6 b7 b8 b9=>Q (nQ b3 b4 b5 b6 b7 b8 b9) []) (z.J gz [cq d e f a b g,cq i j k t l m,vB false] fun c0 c1 c2 c3 c4 c5 c9=>Q (nQ c0 c1 c2 c3 c4 c5 c9) [])))):aV C Mq [cq d e f a b g,vS n,vI o,vI p] Q:=aX (hc MN [] (hc hD [] (hb (hc iL [] (hb apm apm)) apm))) h
theorem Y3 (b c d e a f n o) (Q:QV) (h:z.P bq [cq b c d e a f] fun g i j k l m=>z.I uR [cq b c d e a f,vS n,vI 0] fun p=>aq (cn p 0) (z.B dO [vI o,vI 1,vI 12] fun t=>aq (!t) (aq (!cn 4 0) (Q (nQ g i j k l m 4) []) (z.I dZ [cq b c d e a f,vS n] fun q=>z.v a q fun A D u E=>aa C gy iX 4 0 (mD o q true (cN u 1) b c d e a f g i j k m l) (fun x st=>ax C gy iX x st Q))) (aq (!cn p 0) (Q (nQ g i j k l m p) []) (z.I dZ [cq b c d e a f,vS n] fun r=>z.v a r fun F G w H=>aa C gy iX 4 0 (mD o r true (cN w 1) b c d e a f g i j k m l) (fun x st=>ax C gy iX x st Q)))) (aq (!cn p 0) (Q (nQ g i j k l m p) []) (z.I dZ [cq b c d e a f,vS n] fun s=>z.v a s fun J K y L=>aa C gy iX 4 0 (mD o s true (cN y 1) b c d e a f g i j k m l) (fun x st=>ax C gy iX x st Q)))):aV C gy [cq b c d e a f,vS n,vI o] Q:=aX (hc MN [] (hc hD [] (hb (hc iL [] (hb (hb hz (hc hD [] agz)) (hb hz (hc hD [] agz)))) (hb hz (hc hD [] agz))))) h
theorem vD (b c d a e f g i j k l m n o p q) (Q:QX) (h:aq (m6 b a) (aq d (∃r s t u v w x,an C u9 [rX l m n o q p,vI c,vI a] (vB r) [rX s t u v w x]∧aa C gy iX 4 0 (mD b c r (cN a 1) e f g i j k s t u v x w) Q) (Q cH (GC b c d a e f g i j k l m n o p q))) (Q cH (GD b c d a e f g i j k l m n o p q))):aa C gy iX 4 0 (mD b c d a e f g i j k l m n o p q) Q:=bE (hb (hb acC hz) hz) h
theorem Tb (c a d q e f g i j k l m n o p b) (Q:QV) (h:z.v b a fun A B D E=>z.v b a fun F G H I=>z.J gz [cq e f g i j k,TV.ag [bS l,bS m,Gc n,QH o,zS4 (setRow b a 2 [iI c]),iI p],vB d] fun r s t u w x y=>Q (nQ r s t u w x y) []):ax C gy iX cH (GC c a d q e f g i j k l m n o p b) Q:=aO apr h
theorem HS (c a d q e f g i j k l m n o p b) (Q:QV) (h:z.v b a fun A B D E=>z.v b a fun F G H I=>z.J gz [cq e f g i j k,TV.ag [bS l,bS m,Gc n,QH o,zS4 (setRow b a 2 [iI c]),iI p],vB d] fun r s t u w x y=>Q (nQ r s t u w x y) []):ax C gy iX cH (GD c a d q e f g i j k l m n o p b) Q:=aO apr h
theorem Y4 (a b c) (Q:QV) (h:z.I JS [iK a,vI c] fun d=>aq (bK d 0) (Q (vI (-1)) []) (z.I jn [iK b,vI d] fun e=>aq (bK e 0) (Q (vI (-1)) []) (Q (vI e) []))):aV C JM [dI a b,vI c] Q:=aX ani h
theorem W9 (e f a c b d) (Q:QV) (h:zB Q (fun Q=>z.T dB [dI e f] fun g i=>zB Q (fun Q=>zB Q (fun Q=>aq (bR a&&fits (Nat.add 0 (List.length a)) 16) (zD Q (fun Q=>z.E lO [qV c] fun l=>aq (bR b&&fits (Nat.add 0 (List.length b)) 40) (Q (cq g i a l b d) []) (False))) (False)) (fun Q=>aq (bR a&&fits (Nat.add 0 (List.length a)) 16) (z.E lO [qV c] fun m=>aq (bR b&&fits (Nat.add 0 (List.length b)) 40) (Q (cq g i a m b d) []) (False)) (False))) (fun Q=>aq (bR a&&fits (Nat.add 0 (List.length a)) 16) (z.E lO [qV c] fun n=>aq (bR b&&fits (Nat.add 0 (List.length b)) 40) (Q (cq g i a n b d) []) (False)) (False))) (fun Q=>zB Q (fun Q=>zB Q (fun Q=>z.T dB [dI e f] fun j k=>zB Q (fun Q=>aq (bR a&&fits (Nat.add 0 (List.length a)) 16) (zD Q (fun Q=>z.E lO [qV c] fun o=>aq (bR b&&fits (Nat.add 0 (List.length b)) 40) (Q (cq j k a o b d) []) (False))) (False)) (fun Q=>aq (bR a&&fits (Nat.add 0 (List.length a)) 16) (z.E lO [qV c] fun p=>aq (bR b&&fits (Nat.add 0 (List.length b)) 40) (Q (cq j k a p b d) []) (False)) (False))) (fun Q=>z.T dB [dI e f] fun q r=>aq (bR a&&fits (Nat.add 0 (List.length a)) 16) (z.E lO [qV c] fun s=>aq (bR b&&fits (Nat.add 0 (List.length b)) 40) (Q (cq q r a s b d) []) (False)) (False))) (fun Q=>zD Q (fun Q=>z.T dB [dI e f] fun t u=>aq (bR a&&fits (Nat.add 0 (List.length a)) 16) (z.E lO [qV c] fun v=>aq (bR b&&fits (Nat.add 0 (List.length b)) 40) (Q (cq t u a v b d) []) (False)) (False))))):aV C bq [cq e f a c b d] Q:=aX (Hint.both (hc Ou [] (Hint.both (Hint.both (hb (zH Y2) hz) (hb Y2 hz)) (hb Y2 hz))) (Hint.both (Hint.both (hc Ou [] (Hint.both (hb (zH Y2) hz) (hb Y2 hz))) (hc Ou [] (hb Y2 hz))) (zH (hc Ou [] (hb Y2 hz))))) h
theorem Y5 (a) (Q:QV) (h:aq (true&&cn (Int.ofNat (List.length a)) (Int.ofNat (List.length a))&&m6 0 (Int.ofNat (List.length a))&&fits (sL (Int.ofNat (List.length a))) 40) (aa C oG ai 4 0 (vh a 0 (List.replicate (sL (Int.ofNat (List.length a))) [iS (wO),iI 0,iI 0,iB false])) (fun x st=>ax C oG ai x st Q)) (False)):aV C oG [I1 a] Q:=aX qN h
theorem HT (b a c) (Q:QX) (h:aq (bK a (Int.ofNat (List.length b))) (z.v b a fun i j k l=> ∃d e f g,an C Mu [TV.ag [iS i,iI j,iI k,iB l]] (TV.ag [iS d,iI e,iI f,iB g]) []∧z.v c a fun m n o p=>z.v c a fun q r s t=>aa C oG ai 4 0 (vh b (aA a 1) (setRow c a 0 [iS d,iI e,iI f,iB g])) Q) (Q cH (GF b a (bK a (Int.ofNat (List.length b))) c))):aa C oG ai 4 0 (vh b a c) Q:=bE (hb (hr [sS,sI,sI,sB] (hc (Ej.ag [sS,sI,sI,sB]) [] ale)) hz) h
theorem Tc (b c d a) (Q:QV) (h:Q (I1 a) []):ax C oG ai cH (GF b c d a) Q:=aO hz h
theorem Xc (a b) (Q:QV) (h:aq (!cn (Int.ofNat (List.length a)) (Int.ofNat (List.length b))) (Q (vB false) []) (aa C mW ai 4 0 (tV a b 0) (fun x st=>ax C mW ai x st Q))):aV C mW [qV a,qV b] Q:=aX qN h
theorem EZ (b d a) (Q:QX) (h:aq (bK a (Int.ofNat (List.length b))) (z.c b a fun e f g=>z.c d a fun i j k=>z.B JU [TV.ag [iI e,iB f,iI g],TV.ag [iI i,iB j,iI k]] fun l=>aq (!l) (Q TX.ret (QJ)) (aa C mW ai 4 0 (tV b d (aA a 1)) Q)) (Q cH (Ew b d a (bK a (Int.ofNat (List.length b)))))):aa C mW ai 4 0 (tV b d a) Q:=bE (hb (hr [sI,sB,sI] (hr [sI,sB,sI] vV)) hz) h
theorem QN (a b c d) (Q:QV) (h:Q (vB true) []):ax C mW ai cH (Ew a b c d) Q:=aO hz h
theorem QO (a b) (Q:QV) (h:aa C jX aj 4 0 (qF b 0 a) (fun x st=>ax C jX aj x st Q)):aV C jX [qV a,vI b] Q:=aX hz h
theorem Bd (b a d) (Q:QX) (h:aq (bK a (Int.ofNat (List.length d))) (z.c d a fun e f g=>z.c d a fun i j k=>aq (cn 3 0) (False) (z.c (setRow d a 0 [iI b]) a fun l m n=>z.c (setRow d a 0 [iI b]) a fun o p q=>z.c (setRow (setRow d a 0 [iI b]) a 1 [iB (cn (Dw (aA b 1) 3) 0)]) a fun r s t=>z.c (setRow (setRow d a 0 [iI b]) a 1 [iB (cn (Dw (aA b 1) 3) 0)]) a fun u v w=>aa C jX aj 4 0 (qF (aA (aA (aA b 1) 1) 1) (aA a 1) (setRow (setRow (setRow d a 0 [iI b]) a 1 [iB (cn (Dw (aA b 1) 3) 0)]) a 2 [iI (aA (aA b 1) 1)])) Q)) (Q cH (AR b a (bK a (Int.ofNat (List.length d))) d))):aa C jX aj 4 0 (qF b a d) Q:=bE (hb (hr [sI,sB,sI] (hr [sI,sB,sI] (hb hz (hr [sI,sB,sI] (hr [sI,sB,sI] aiD))))) hz) h
theorem MU (a c d b) (Q:QV) (h:Q (vI a) [qV b]):ax C jX aj cH (AR a c d b) Q:=aO hz h
theorem QS (a b) (Q:QV) (h:aa C jY aj 4 0 (qG a b 0) (fun x st=>ax C jY aj x st Q)):aV C jY [qV a,vI b] Q:=aX hz h
theorem Be (a d b) (Q:QX) (h:aq (bK b (Int.ofNat (List.length a))) (z.c a b fun e i j=>aq (!cn e d) (Q TX.ret (vW)) (z.c a b fun k f l=>aq (cn 3 0) (False) (aq (!eqB f (cn (Dw (aA d 1) 3) 0)) (Q TX.ret (vW)) (z.c a b fun m n g=>aq (!cn g (aA (aA d 1) 1)) (Q TX.ret (vW)) (aa C jY aj 4 0 (qG a (aA (aA (aA d 1) 1) 1) (aA b 1)) Q))))) (Q cH (AS a d b (bK b (Int.ofNat (List.length a)))))):aa C jY aj 4 0 (qG a d b) Q:=bE (hb (hr [sI,sB,sI] (hb hz (hr [sI,sB,sI] (hb hz (hb hz alg))))) hz) h
theorem MV (b a c d) (Q:QV) (h:Q (vI a) []):ax C jY aj cH (AS b a c d) Q:=aO hz h
theorem Y6 (d e b f c a g i) (Q:QV) (h:z.I w4 [cq d e b f c a,vS g] fun j=>aq (!cn j 0) (z.P bq [cq d e b f c a] fun m n o p q r=>Q (nQ m n o p q r j) []) (z.I dZ [cq d e b f c a,vS g] fun s=>aq (m6 0 s) (z.P bq [cq d e b f c a] fun t u v w x y=>Q (nQ t u v w x y 3) []) (z.B dO [vI i,vI 1,vI 12] fun A=>aq (!A) (z.P bq [cq d e b f c a] fun D E G H K L=>Q (nQ D E G H K L 4) []) (z.P bq [cq d e b f c a] fun M N Z O A0 A1=> ∃k l,an C ij [lE b,vI a,vI 0] (TV.tu [(0,[Gc k]),(0,[iB l])]) []∧z.F eE [I1 c,TV.ag [iS g,iI a,iI i,iB false]] fun R=>z.J gz [cq d e b f c a,TV.ag [bS M,bS N,Gc k,QH O,zS4 R,iI (aA a 1)],vB l] fun S T U V W X Y=>Q (nQ S T U V W X Y) [])))):aV C JQ [cq d e b f c a,vS g,vI i] Q:=aX (hc hD [] (hb pQ (hc hD [] (hb pQ (hc iL [] (hb pQ (hc MN [] (hc acA [] (hc aiE [] Ot))))))))) h
theorem aeW (a c b f d) (Q:QV) (h:z.B cL [vI a,vI 1,vI 9] fun j=>aq (!j) (Q (vB false) []) (z.B th [vI f] fun k=>aq (!k) (Q (vB false) []) (z.B th [vI d] fun l=>aq (!l) (Q (vB false) []) (aq (m6 a 6) (z.B dF [vS c] fun e=>aq (cn a 2) (z.B dF [vS b] fun g=>aq (cn a 2) (aq (cn f 0) (aq e (aq g (Q (vB (m6 d 1)) []) (Q (vB false) [])) (Q (vB false) [])) (aq e (aq g (Q (vB false) []) (Q (vB false) [])) (Q (vB false) []))) (aq (cn a 3) (aq (cn a 3) (aq (cn f 0) (aq e (aq g (Q (vB (cn d 0)) []) (Q (vB false) [])) (Q (vB false) [])) (aq e (aq g (Q (vB false) []) (Q (vB false) [])) (Q (vB false) []))) (aq (cn a 4) (aq e (aq g (Q (vB true) []) (Q (vB false) [])) (Q (vB false) [])) (aq e (aq g (Q (vB (cn d 0)) []) (Q (vB false) [])) (Q (vB false) [])))) (aq (cn a 7) (aq (cn f 0) (aq e (aq g (Q (vB (cn d 0)) []) (Q (vB false) [])) (Q (vB false) [])) (aq e (aq g (Q (vB false) []) (Q (vB false) [])) (Q (vB false) []))) (aq (cn a 4) (aq e (aq g (Q (vB true) []) (Q (vB false) [])) (Q (vB false) [])) (aq e (aq g (Q (vB (cn d 0)) []) (Q (vB false) [])) (Q (vB false) [])))))) (aq (cn a 2) (aq (cn f 0) (aq e (aq (uw b (wO)) (Q (vB (m6 d 1)) []) (Q (vB false) [])) (Q (vB false) [])) (aq e (aq (uw b (wO)) (Q (vB false) []) (Q (vB false) [])) (Q (vB false) []))) (aq (cn a 3) (aq (cn a 3) (aq (cn f 0) (aq e (aq (uw b (wO)) (Q (vB (cn d 0)) []) (Q (vB false) [])) (Q (vB false) [])) (aq e (aq (uw b (wO)) (Q (vB false) []) (Q (vB false) [])) (Q (vB false) []))) (aq (cn a 4) (aq e (aq (uw b (wO)) (Q (vB true) []) (Q (vB false) [])) (Q (vB false) [])) (aq e (aq (uw b (wO)) (Q (vB (cn d 0)) []) (Q (vB false) [])) (Q (vB false) [])))) (aq (cn a 7) (aq (cn f 0) (aq e (aq (uw b (wO)) (Q (vB (cn d 0)) []) (Q (vB false) [])) (Q (vB false) [])) (aq e (aq (uw b (wO)) (Q (vB false) []) (Q (vB false) [])) (Q (vB false) []))) (aq (cn a 4) (aq e (aq (uw b (wO)) (Q (vB true) []) (Q (vB false) [])) (Q (vB false) [])) (aq e (aq (uw b (wO)) (Q (vB (cn d 0)) []) (Q (vB false) [])) (Q (vB false) []))))))) (aq (cn a 2) (z.B dF [vS b] fun i=>aq (cn a 2) (aq (cn f 0) (aq (uw c (wO)) (aq i (Q (vB (m6 d 1)) []) (Q (vB false) [])) (Q (vB false) [])) (aq (uw c (wO)) (aq i (Q (vB false) []) (Q (vB false) [])) (Q (vB false) []))) (aq (cn a 3) (aq (cn a 3) (aq (cn f 0) (aq (uw c (wO)) (aq i (Q (vB (cn d 0)) []) (Q (vB false) [])) (Q (vB false) [])) (aq (uw c (wO)) (aq i (Q (vB false) []) (Q (vB false) [])) (Q (vB false) []))) (aq (cn a 4) (aq (uw c (wO)) (aq i (Q (vB true) []) (Q (vB false) [])) (Q (vB false) [])) (aq (uw c (wO)) (aq i (Q (vB (cn d 0)) []) (Q (vB false) [])) (Q (vB false) [])))) (aq (cn a 7) (aq (cn f 0) (aq (uw c (wO)) (aq i (Q (vB (cn d 0)) []) (Q (vB false) [])) (Q (vB false) [])) (aq (uw c (wO)) (aq i (Q (vB false) []) (Q (vB false) [])) (Q (vB false) []))) (aq (cn a 4) (aq (uw c (wO)) (aq i (Q (vB true) []) (Q (vB false) [])) (Q (vB false) [])) (aq (uw c (wO)) (aq i (Q (vB (cn d 0)) []) (Q (vB false) [])) (Q (vB false) [])))))) (aq (cn a 2) (aq (cn f 0) (aq (uw c (wO)) (aq (uw b (wO)) (Q (vB (m6 d 1)) []) (Q (vB false) [])) (Q (vB false) [])) (aq (uw c (wO)) (aq (uw b (wO)) (Q (vB false) []) (Q (vB false) [])) (Q (vB false) []))) (aq (cn a 3) (aq (cn a 3) (aq (cn f 0) (aq (uw c (wO)) (aq (uw b (wO)) (Q (vB (cn d 0)) []) (Q (vB false) [])) (Q (vB false) [])) (aq (uw c (wO)) (aq (uw b (wO)) (Q (vB false) []) (Q (vB false) [])) (Q (vB false) []))) (aq (cn a 4) (aq (uw c (wO)) (aq (uw b (wO)) (Q (vB true) []) (Q (vB false) [])) (Q (vB false) [])) (aq (uw c (wO)) (aq (uw b (wO)) (Q (vB (cn d 0)) []) (Q (vB false) [])) (Q (vB false) [])))) (aq (cn a 7) (aq (cn f 0) (aq (uw c (wO)) (aq (uw b (wO)) (Q (vB (cn d 0)) []) (Q (vB false) [])) (Q (vB false) [])) (aq (uw c (wO)) (aq (uw b (wO)) (Q (vB false) []) (Q (vB false) [])) (Q (vB false) []))) (aq (cn a 4) (aq (uw c (wO)) (aq (uw b (wO)) (Q (vB true) []) (Q (vB false) [])) (Q (vB false) [])) (aq (uw c (wO)) (aq (uw b (wO)) (Q (vB (cn d 0)) []) (Q (vB false) [])) (Q (vB false) []))))))))))):aV C P9 [Ss a c b f d] Q:=aX (hc iL [] (hb hz (hc iL [] (hb hz (hc iL [] (hb hz (hb (hc iL [] (hb (hc iL [] anh) anh)) (hb (hc iL [] anh) anh)))))))) h
theorem aeX (d e b f c a j i m) (Q:QV) (h:z.I vR [cq d e b f c a,vS j] fun g=>z.B dY [cq d e b f c a] fun x=>aq (!x) (z.P aN [cq d e b f c a] fun y A D E G H=>Q (nQ y A D E G H 1) []) (z.B dF [vS j] fun K=>aq (!K) (z.P aN [cq d e b f c a] fun L M N O R S=>Q (nQ L M N O R S 1) []) (z.B dF [vS i] fun T=>aq (!T) (z.P aN [cq d e b f c a] fun U V W X Y Z=>Q (nQ U V W X Y Z 1) []) (aq (bK g 0) (z.P aN [cq d e b f c a] fun A0 A1 A2 A3 H0 H1=>Q (nQ A0 A1 A2 A3 H0 H1 2) []) (z.I vR [cq d e b f c a,vS i] fun H2=>aq (m6 0 H2) (z.P aN [cq d e b f c a] fun H3 H4 H5 I4 L1 L2=>Q (nQ H3 H4 H5 I4 L1 L2 3) []) (z.P aN [cq d e b f c a] fun n o Z2 p k q=>z.v c g fun a0 r M1 a1=> ∃s t,an C iW [lE b,vI a,vI r] (TV.tu [(0,[Gc s]),(0,[iB t])]) []∧ ∃l u,an C iW [lE s,vI (aA a 1),vI r] (TV.tu [(0,[Gc l]),(0,[iB u])]) []∧z.v k g fun a2 a3 a4 a5=>z.v k g fun a6 a7 a8 a9=>z.F fM [I1 (setRow k g 1 [iI a]),TV.ag [iS i,iI (aA a 1),iI M1,iB m]] fun w=>aq t (z.J jm [cq d e b f c a,TV.ag [bS n,bS o,Gc l,QH p,zS4 w,iI (aA q 2)],vB u] fun M2 Q0 R3 S1 S2 T0 T1=>Q (nQ M2 Q0 R3 S1 S2 T0 T1) []) (z.J jm [cq d e b f c a,TV.ag [bS n,bS o,Gc l,QH p,zS4 w,iI (aA q 2)],vB false] fun T5 V1 W1 X0 X1 X2 Z1=>Q (nQ T5 V1 W1 X0 X1 X2 Z1) []))))))):aV C Qa [cq d e b f c a,vS j,vS i,vB m] Q:=aX (hc hD [] (hc iL [] (hb pQ (hc iL [] (hb pQ (hc iL [] (hb pQ (hb pQ (hc hD [] (hb pQ (hc MN [] (hr [sS,sI,sI,sB] (hc acA [] (hc acA [] (hr [sS,sI,sI,sB] (hr [sS,sI,sI,sB] (hc aiE [] (hb Ot Ot)))))))))))))))))) h
theorem Td (a) (Q:QV) (h:aq (m6 a 0) (Q (vS (ByteArray.mk #[109,48])) []) (aa C gv kN 4 0 (si a (wO)) (fun x st=>ax C gv kN x st Q))):aV C gv [vI a] Q:=aX qN h
theorem xq (a b) (Q:QX) (h:aq (bK 0 a) (aq (cn 10 0) (False) (∃(ns3:List Int),wI [[TC.sc (Value.int IntKind.u8 (zn IntKind.u8 (aA 48 (Dw a 10))))]]=some ns3∧aq (fits (Nat.add (List.length (ByteArray.data (Ja ns3)).1) (List.length (ByteArray.data b).1)) 1) (aq (cn 10 0) (False) (aa C gv kN 4 0 (si (jb .i64 a 10) (Ym (Ja ns3) b)) Q)) (False))) (Q cH (Cl a b (bK 0 a)))):aa C gv kN 4 0 (si a b) Q:=bE (hb (hb hz (Hint.n AP)) hz) h
theorem CZ (b a c) (Q:QV) (h:aq (fits (Nat.add 1 (List.length (ByteArray.data a).1)) 1) (Q (vS (Ym (ByteArray.mk #[109]) a)) []) (False)):ax C gv kN cH (Cl b a c) Q:=aO qN h
theorem Xd (n o p q r s t) (Q:QV) (h:z.T dB [dI n o] fun b c=>z.B bh [dI n o] fun g0=>aq (!g0) (Q (qW b c false) []) (z.B AE [jk p q r s t] fun g1=>aq (!g1) (Q (qW b c false) []) (z.I gH [dI n o,vI p,vI q] fun d=>z.a o d fun g2=>zD Q (fun Q=> ∃m u,an C F0 [TV.ag [bS g2],jk p q r s t] (TV.tu [(1,[bS m]),(0,[iB u])]) []∧z.i n d fun v=>zB Q (fun Q=>zB Q (fun Q=>zD Q (fun Q=>z.T dP [dI b c,vI d,iK [[iI v]],iK [[bS m]]] fun R S=>aq (!u) (z.a o d fun g3=>z.G bu [TV.ag [bS g3]] fun g4=>z.G cw [fO g4,jk p q r s t] fun g5=>z.G eY [fO g5] fun e=>aq (cn 2 0) (False) (z.i n d fun w=>z.k e (jb .i64 (aA (Int.ofNat (List.length e)) 1) 2) fun x3 x4 x5 x6 x7=>z.k e (jb .i64 (aA (Int.ofNat (List.length e)) 1) 2) fun h0 h1 h2 h3 h4=>aq (gf 0 (jb .i64 (aA (Int.ofNat (List.length e)) 1) 2) (Int.ofNat (List.length e))) (aq (gf (jb .i64 (aA (Int.ofNat (List.length e)) 1) 2) (Int.ofNat (List.length e)) (Int.ofNat (List.length e))) (z.I qu [jk h0 h1 h2 h3 h4] fun x=>zB Q (fun Q=> ∃U,an C aW [fO (aC e 0 (jb .i64 (aA (Int.ofNat (List.length e)) 1) 2))] (TV.ag [bS U]) []∧ ∃V,an C aW [fO (aC e (jb .i64 (aA (Int.ofNat (List.length e)) 1) 2) (Int.ofNat (List.length e)))] (TV.ag [bS V]) []∧z.T dP [dI b c,vI d,iK [[iI w],[iI x]],iK [[bS U],[bS V]]] fun h5 h6=>z.T bC [dI h5 h6] fun W X=>z.B bh [dI W X] fun h7=>aq (!h7) (Q (qW b c false) []) (Q (qW W X true) [])) (fun Q=> ∃y,an C aW [fO (aC e 0 (jb .i64 (aA (Int.ofNat (List.length e)) 1) 2))] (TV.ag [bS y]) []∧zB Q (fun Q=> ∃Y,an C aW [fO (aC e (jb .i64 (aA (Int.ofNat (List.length e)) 1) 2) (Int.ofNat (List.length e)))] (TV.ag [bS Y]) []∧z.T dP [dI b c,vI d,iK [[iI w],[iI x]],iK [[bS y],[bS Y]]] fun h8 h9=>z.T bC [dI h8 h9] fun Z A0=>z.B bh [dI Z A0] fun i0=>aq (!i0) (Q (qW b c false) []) (Q (qW Z A0 true) [])) (fun Q=> ∃A1,an C aW [fO (aC e (jb .i64 (aA (Int.ofNat (List.length e)) 1) 2) (Int.ofNat (List.length e)))] (TV.ag [bS A1]) []∧zD Q (fun Q=>z.T dP [dI b c,vI d,iK [[iI w],[iI x]],iK [[bS y],[bS A1]]] fun i1 i2=>z.T bC [dI i1 i2] fun A2 A3=>z.B bh [dI A2 A3] fun i3=>aq (!i3) (Q (qW b c false) []) (Q (qW A2 A3 true) []))))) (False)) (False))) (aq (bK 0 d) (z.G bu [TV.ag [bS m]] fun i4=>aq (cn (Int.ofNat (List.length i4)) 0) (z.T dP [dI b c,vI d,iK [],iK []] fun i5 i6=>z.T bC [dI i5 i6] fun H0 H1=>z.B bh [dI H0 H1] fun i7=>aq (!i7) (Q (qW b c false) []) (Q (qW H0 H1 true) [])) (z.T bC [dI R S] fun H2 H3=>z.B bh [dI H2 H3] fun i8=>aq (!i8) (Q (qW b c false) []) (Q (qW H2 H3 true) []))) (z.T bC [dI R S] fun H4 H5=>z.B bh [dI H4 H5] fun i9=>aq (!i9) (Q (qW b c false) []) (Q (qW H4 H5 true) []))))) (fun Q=>z.T dP [dI b c,vI d,iK [[iI v]],iK [[bS m]]] fun I4 L1=>aq (!u) (z.a o d fun j0=>z.G bu [TV.ag [bS j0]] fun j1=>z.G cw [fO j1,jk p q r s t] fun j2=>z.G eY [fO j2] fun f=>aq (cn 2 0) (False) (z.i n d fun A=>z.k f (jb .i64 (aA (Int.ofNat (List.length f)) 1) 2) fun y0 y1 y2 y3 y4=>z.k f (jb .i64 (aA (Int.ofNat (List.length f)) 1) 2) fun j3 j4 k0 k1 k2=>aq (gf 0 (jb .i64 (aA (Int.ofNat (List.length f)) 1) 2) (Int.ofNat (List.length f))) (aq (gf (jb .i64 (aA (Int.ofNat (List.length f)) 1) 2) (Int.ofNat (List.length f)) (Int.ofNat (List.length f))) (z.I qu [jk j3 j4 k0 k1 k2] fun D=>zB Q (fun Q=> ∃L2,an C aW [fO (aC f 0 (jb .i64 (aA (Int.ofNat (List.length f)) 1) 2))] (TV.ag [bS L2]) []∧ ∃M1,an C aW [fO (aC f (jb .i64 (aA (Int.ofNat (List.length f)) 1) 2) (Int.ofNat (List.length f)))] (TV.ag [bS M1]) []∧z.T dP [dI b c,vI d,iK [[iI A],[iI D]],iK [[bS L2],[bS M1]]] fun k3 k4=>z.T bC [dI k3 k4] fun M2 Q0=>z.B bh [dI M2 Q0] fun k5=>aq (!k5) (Q (qW b c false) []) (Q (qW M2 Q0 true) [])) (fun Q=> ∃E,an C aW [fO (aC f 0 (jb .i64 (aA (Int.ofNat (List.length f)) 1) 2))] (TV.ag [bS E]) []∧zB Q (fun Q=> ∃R3,an C aW [fO (aC f (jb .i64 (aA (Int.ofNat (List.length f)) 1) 2) (Int.ofNat (List.length f)))] (TV.ag [bS R3]) []∧z.T dP [dI b c,vI d,iK [[iI A],[iI D]],iK [[bS E],[bS R3]]] fun k6 k7=>z.T bC [dI k6 k7] fun S1 S2=>z.B bh [dI S1 S2] fun k8=>aq (!k8) (Q (qW b c false) []) (Q (qW S1 S2 true) [])) (fun Q=> ∃T0,an C aW [fO (aC f (jb .i64 (aA (Int.ofNat (List.length f)) 1) 2) (Int.ofNat (List.length f)))] (TV.ag [bS T0]) []∧zD Q (fun Q=>z.T dP [dI b c,vI d,iK [[iI A],[iI D]],iK [[bS E],[bS T0]]] fun l2 l3=>z.T bC [dI l2 l3] fun T1 T5=>z.B bh [dI T1 T5] fun l4=>aq (!l4) (Q (qW b c false) []) (Q (qW T1 T5 true) []))))) (False)) (False))) (aq (bK 0 d) (z.G bu [TV.ag [bS m]] fun l5=>aq (cn (Int.ofNat (List.length l5)) 0) (z.T dP [dI b c,vI d,iK [],iK []] fun l6 l9=>z.T bC [dI l6 l9] fun V1 W1=>z.B bh [dI V1 W1] fun m1=>aq (!m1) (Q (qW b c false) []) (Q (qW V1 W1 true) [])) (z.T bC [dI I4 L1] fun X0 X1=>z.B bh [dI X0 X1] fun m2=>aq (!m2) (Q (qW b c false) []) (Q (qW X0 X1 true) []))) (z.T bC [dI I4 L1] fun X2 Z1=>z.B bh [dI X2 Z1] fun m3=>aq (!m3) (Q (qW b c false) []) (Q (qW X2 Z1 true) []))))) (fun Q=>zB Q (fun Q=>zB Q (fun Q=>zD Q (fun Q=>z.T dP [dI b c,vI d,iK [[iI v]],iK [[bS m]]] fun Z2 a0=>aq (!u) (z.a o d fun n0=>z.G bu [TV.ag [bS n0]] fun n1=>z.G cw [fO n1,jk p q r s t] fun n7=>z.G eY [fO n7] fun g=>aq (cn 2 0) (False) (z.i n d fun F=>z.k g (jb .i64 (aA (Int.ofNat (List.length g)) 1) 2) fun z0 z1 z2 z3 z4=>z.k g (jb .i64 (aA (Int.ofNat (List.length g)) 1) 2) fun n8 n9 o0 o1 o2=>aq (gf 0 (jb .i64 (aA (Int.ofNat (List.length g)) 1) 2) (Int.ofNat (List.length g))) (aq (gf (jb .i64 (aA (Int.ofNat (List.length g)) 1) 2) (Int.ofNat (List.length g)) (Int.ofNat (List.length g))) (z.I qu [jk n8 n9 o0 o1 o2] fun H=>zB Q (fun Q=> ∃a1,an C aW [fO (aC g 0 (jb .i64 (aA (Int.ofNat (List.length g)) 1) 2))] (TV.ag [bS a1]) []∧ ∃a2,an C aW [fO (aC g (jb .i64 (aA (Int.ofNat (List.length g)) 1) 2) (Int.ofNat (List.length g)))] (TV.ag [bS a2]) []∧z.T dP [dI b c,vI d,iK [[iI F],[iI H]],iK [[bS a1],[bS a2]]] fun o3 o4=>z.T bC [dI o3 o4] fun a3 a4=>z.B bh [dI a3 a4] fun p0=>aq (!p0) (Q (qW b c false) []) (Q (qW a3 a4 true) [])) (fun Q=> ∃J,an C aW [fO (aC g 0 (jb .i64 (aA (Int.ofNat (List.length g)) 1) 2))] (TV.ag [bS J]) []∧zB Q (fun Q=> ∃a5,an C aW [fO (aC g (jb .i64 (aA (Int.ofNat (List.length g)) 1) 2) (Int.ofNat (List.length g)))] (TV.ag [bS a5]) []∧z.T dP [dI b c,vI d,iK [[iI F],[iI H]],iK [[bS J],[bS a5]]] fun p1 p2=>z.T bC [dI p1 p2] fun a6 a7=>z.B bh [dI a6 a7] fun p3=>aq (!p3) (Q (qW b c false) []) (Q (qW a6 a7 true) [])) (fun Q=> ∃a8,an C aW [fO (aC g (jb .i64 (aA (Int.ofNat (List.length g)) 1) 2) (Int.ofNat (List.length g)))] (TV.ag [bS a8]) []∧zD Q (fun Q=>z.T dP [dI b c,vI d,iK [[iI F],[iI H]],iK [[bS J],[bS a8]]] fun p4 p7=>z.T bC [dI p4 p7] fun a9 b0=>z.B bh [dI a9 b0] fun q0=>aq (!q0) (Q (qW b c false) []) (Q (qW a9 b0 true) []))))) (False)) (False))) (aq (bK 0 d) (z.G bu [TV.ag [bS m]] fun q1=>aq (cn (Int.ofNat (List.length q1)) 0) (z.T dP [dI b c,vI d,iK [],iK []] fun q2 q3=>z.T bC [dI q2 q3] fun b1 b2=>z.B bh [dI b1 b2] fun q4=>aq (!q4) (Q (qW b c false) []) (Q (qW b1 b2 true) [])) (z.T bC [dI Z2 a0] fun b3 b4=>z.B bh [dI b3 b4] fun q5=>aq (!q5) (Q (qW b c false) []) (Q (qW b3 b4 true) []))) (z.T bC [dI Z2 a0] fun b5 b6=>z.B bh [dI b5 b6] fun q6=>aq (!q6) (Q (qW b c false) []) (Q (qW b5 b6 true) []))))) (fun Q=>z.T dP [dI b c,vI d,iK [[iI v]],iK [[bS m]]] fun b7 b8=>aq (!u) (z.a o d fun r0=>z.G bu [TV.ag [bS r0]] fun r1=>z.G cw [fO r1,jk p q r s t] fun r2=>z.G eY [fO r2] fun j=>aq (cn 2 0) (False) (z.i n d fun K=>z.k j (jb .i64 (aA (Int.ofNat (List.length j)) 1) 2) fun z9 n299 n300 n301 n302=>z.k j (jb .i64 (aA (Int.ofNat (List.length j)) 1) 2) fun r3 r4 s0 s1 s2=>aq (gf 0 (jb .i64 (aA (Int.ofNat (List.length j)) 1) 2) (Int.ofNat (List.length j))) (aq (gf (jb .i64 (aA (Int.ofNat (List.length j)) 1) 2) (Int.ofNat (List.length j)) (Int.ofNat (List.length j))) (z.I qu [jk r3 r4 s0 s1 s2] fun L=>zB Q (fun Q=> ∃c0,an C aW [fO (aC j 0 (jb .i64 (aA (Int.ofNat (List.length j)) 1) 2))] (TV.ag [bS c0]) []∧ ∃c1,an C aW [fO (aC j (jb .i64 (aA (Int.ofNat (List.length j)) 1) 2) (Int.ofNat (List.length j)))] (TV.ag [bS c1]) []∧z.T dP [dI b c,vI d,iK [[iI K],[iI L]],iK [[bS c0],[bS c1]]] fun s3 s4=>z.T bC [dI s3 s4] fun c2 c3=>z.B bh [dI c2 c3] fun s5=>aq (!s5) (Q (qW b c false) []) (Q (qW c2 c3 true) [])) (fun Q=> ∃M,an C aW [fO (aC j 0 (jb .i64 (aA (Int.ofNat (List.length j)) 1) 2))] (TV.ag [bS M]) []∧zB Q (fun Q=> ∃c4,an C aW [fO (aC j (jb .i64 (aA (Int.ofNat (List.length j)) 1) 2) (Int.ofNat (List.length j)))] (TV.ag [bS c4]) []∧z.T dP [dI b c,vI d,iK [[iI K],[iI L]],iK [[bS M],[bS c4]]] fun s6 s7=>z.T bC [dI s6 s7] fun c5 c9=>z.B bh [dI c5 c9] fun s8=>aq (!s8) (Q (qW b c false) []) (Q (qW c5 c9 true) [])) (fun Q=> ∃d0,an C aW [fO (aC j (jb .i64 (aA (Int.ofNat (List.length j)) 1) 2) (Int.ofNat (List.length j)))] (TV.ag [bS d0]) []∧zD Q (fun Q=>z.T dP [dI b c,vI d,iK [[iI K],[iI L]],iK [[bS M],[bS d0]]] fun s9 t0=>z.T bC [dI s9 t0] fun d1 d2=>z.B bh [dI d1 d2] fun t1=>aq (!t1) (Q (qW b c false) []) (Q (qW d1 d2 true) []))))) (False)) (False))) (aq (bK 0 d) (z.G bu [TV.ag [bS m]] fun t2=>aq (cn (Int.ofNat (List.length t2)) 0) (z.T dP [dI b c,vI d,iK [],iK []] fun t3 t4=>z.T bC [dI t3 t4] fun d3 d4=>z.B bh [dI d3 d4] fun t5=>aq (!t5) (Q (qW b c false) []) (Q (qW d3 d4 true) [])) (z.T bC [dI b7 b8] fun d5 d6=>z.B bh [dI d5 d6] fun t6=>aq (!t6) (Q (qW b c false) []) (Q (qW d5 d6 true) []))) (z.T bC [dI b7 b8] fun d7 d8=>z.B bh [dI d7 d8] fun t7=>aq (!t7) (Q (qW b c false) []) (Q (qW d7 d8 true) []))))) (fun Q=>zD Q (fun Q=>z.T dP [dI b c,vI d,iK [[iI v]],iK [[bS m]]] fun d9 e0=>aq (!u) (z.a o d fun t8=>z.G bu [TV.ag [bS t8]] fun t9=>z.G cw [fO t9,jk p q r s t] fun u0=>z.G eY [fO u0] fun l=>aq (cn 2 0) (False) (z.i n d fun N=>z.k l (jb .i64 (aA (Int.ofNat (List.length l)) 1) 2) fun n353 n354 n355 n356 n357=>z.k l (jb .i64 (aA (Int.ofNat (List.length l)) 1) 2) fun u1 u2 u3 u4 u8=>aq (gf 0 (jb .i64 (aA (Int.ofNat (List.length l)) 1) 2) (Int.ofNat (List.length l))) (aq (gf (jb .i64 (aA (Int.ofNat (List.length l)) 1) 2) (Int.ofNat (List.length l)) (Int.ofNat (List.length l))) (z.I qu [jk u1 u2 u3 u4 u8] fun O=>zB Q (fun Q=> ∃e1,an C aW [fO (aC l 0 (jb .i64 (aA (Int.ofNat (List.length l)) 1) 2))] (TV.ag [bS e1]) []∧ ∃e2,an C aW [fO (aC l (jb .i64 (aA (Int.ofNat (List.length l)) 1) 2) (Int.ofNat (List.length l)))] (TV.ag [bS e2]) []∧z.T dP [dI b c,vI d,iK [[iI N],[iI O]],iK [[bS e1],[bS e2]]] fun v0 v1=>z.T bC [dI v0 v1] fun e3 e4=>z.B bh [dI e3 e4] fun v2=>aq (!v2) (Q (qW b c false) []) (Q (qW e3 e4 true) [])) (fun Q=> ∃P,an C aW [fO (aC l 0 (jb .i64 (aA (Int.ofNat (List.length l)) 1) 2))] (TV.ag [bS P]) []∧zB Q (fun Q=> ∃e5,an C aW [fO (aC l (jb .i64 (aA (Int.ofNat (List.length l)) 1) 2) (Int.ofNat (List.length l)))] (TV.ag [bS e5]) []∧z.T dP [dI b c,vI d,iK [[iI N],[iI O]],iK [[bS P],[bS e5]]] fun v3 v4=>z.T bC [dI v3 v4] fun e6 f0=>z.B bh [dI e6 f0] fun v5=>aq (!v5) (Q (qW b c false) []) (Q (qW e6 f0 true) [])) (fun Q=> ∃f1,an C aW [fO (aC l (jb .i64 (aA (Int.ofNat (List.length l)) 1) 2) (Int.ofNat (List.length l)))] (TV.ag [bS f1]) []∧zD Q (fun Q=>z.T dP [dI b c,vI d,iK [[iI N],[iI O]],iK [[bS P],[bS f1]]] fun v6 v9=>z.T bC [dI v6 v9] fun f2 f3=>z.B bh [dI f2 f3] fun w0=>aq (!w0) (Q (qW b c false) []) (Q (qW f2 f3 true) []))))) (False)) (False))) (aq (bK 0 d) (z.G bu [TV.ag [bS m]] fun w1=>aq (cn (Int.ofNat (List.length w1)) 0) (z.T dP [dI b c,vI d,iK [],iK []] fun w2 w3=>z.T bC [dI w2 w3] fun f4 f5=>z.B bh [dI f4 f5] fun x0=>aq (!x0) (Q (qW b c false) []) (Q (qW f4 f5 true) [])) (z.T bC [dI d9 e0] fun f6 f7=>z.B bh [dI f6 f7] fun x1=>aq (!x1) (Q (qW b c false) []) (Q (qW f6 f7 true) []))) (z.T bC [dI d9 e0] fun f8 f9=>z.B bh [dI f8 f9] fun x2=>aq (!x2) (Q (qW b c false) []) (Q (qW f8 f9 true) [])))))))))):aV C oJ [dI n o,jk p q r s t] Q:=aX (hc Ou [] (hc iL [] (hb hz (hc iL [] (hb hz (hc hD [] (hr [Sh.sub 1] (zH (hc (Ej.tu [(1,[Sh.sub 1]),(0,[sB])]) [] (hr [sI] (Hint.both (Hint.both (zH alf) alf) (Hint.both (Hint.both (zH alf) alf) (zH alf))))))))))))) h
theorem Te (d e) (Q:QV) (h:z.E nF [qV d] fun b=>z.I iV [qV d] fun a=>aq (bK a 0) (Q (TV.tu [(0,[QH b]),(0,[iI 0]),(0,[iB false])]) []) (z.B th [vI e] fun f=>aq (!f) (Q (TV.tu [(0,[QH b]),(0,[iI 0]),(0,[iB false])]) []) (z.B eM [qV d] fun g=>aq (!g) (Q (TV.tu [(0,[QH b]),(0,[iI 0]),(0,[iB false])]) []) (z.c b a fun i j k=>z.c b a fun l m n=>z.c (setRow b a 1 [iB true]) a fun o p q=>z.c (setRow b a 1 [iB true]) a fun r s t=>Q (TV.tu [(0,[QH (setRow (setRow b a 1 [iB true]) a 2 [iI e])]),(0,[iI a]),(0,[iB true])]) [])))):aV C rJ [qV d,vI e] Q:=aX (hc W5 [] (hc hD [] (hb hz (hc iL [] (hb hz (hc iL [] (hb hz (hr [sI,sB,sI] (hr [sI,sB,sI] aiD))))))))) h
end Go.T.R
