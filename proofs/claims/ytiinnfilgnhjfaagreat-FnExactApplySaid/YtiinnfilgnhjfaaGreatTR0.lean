import Derived.Test.YtiinnfilgnhjfaaGreatTC
import Derived.Test.YtiinnfilgnhjfaaGreatT6
set_option linter.all false
set_option maxRecDepth 100000
namespace Go.T.R
open Go Go.T
abbrev zPl (a b c d e:RR) (n:Int):List TC:=[TC.sub 1 a,TC.sub 1 b,TC.sub 2 c,TC.sub 3 d,TC.sub 4 e,iI n]
abbrev zTr (a b:RR):List TC:=[TC.sub 1 a,TC.sub 1 b]
abbrev zU (a b c d e:Int):List TC:=[iI a,iI b,iI c,iI d,iI e]
abbrev zB (Q:QV) (A B:QV→Prop):Prop:= ∃r:TV×List TV,A (fun a b=>(a,b)=r)∧B (fun a b=>(a,b)=r)∧Q r.1 r.2
abbrev zD (Q:QV) (A:QV→Prop):Prop:= ∃r:TV×List TV,A (fun a b=>(a,b)=r)∧A (fun a b=>(a,b)=r)∧Q r.1 r.2
abbrev zX (Q:QV) (A:RR→RR→RR→RR→RR→Int→Prop) (B:Int→ByteArray→ByteArray→Int→Int→Prop) (K:QV→RR→RR→RR→RR→RR→Int→Int→ByteArray→ByteArray→Int→Int→Prop):Prop:= ∃r:TV×List TV,(∃a b c d e n,A a b c d e n∧ ∃k s t x y,B k s t x y∧K (fun a b=>(a,b)=r) a b c d e n k s t x y)∧(∃k s t x y,B k s t x y∧ ∃a b c d e n,A a b c d e n∧K (fun a b=>(a,b)=r) a b c d e n k s t x y)∧Q r.1 r.2
theorem aZ {f:FuncId} {vs:List TV} {Q:QV} {Φ:Prop} (h:Hint) (hΦ:Φ) (e:(body C f vs).pre (au C) (RQ C (fxs C f) 4) (fun p=>Q p.1 p.2) h=Φ:=by kernel_rfl) (hx:C.ext f=none:=by rfl):aX C f vs Q:=api h e hΦ hx
theorem aQ {f:FuncId} {p:List fU} {x:TX} {st:TS} {Q:QV} {Φ:Prop} (h:Hint) (hΦ:Φ) (e:(ai9 C f p x st).pre (au C) (RQ C (fxs C f) 4) (fun p=>Q p.1 p.2) h=Φ:=by kernel_rfl):ax C f p x st Q:=anu h e hΦ
theorem y6 {f:FuncId} {p q:List fU} {n i:Nat} {x:TX} {st:TS} {Q:QX} {Φ:Prop} (h:Hint) (hΦ:Φ) (e:(aja C f p i q x st).pre (au C) (RQ C (fxs C f) (n-1)) (ajb C f p n i Q) h=Φ:=by kernel_rfl):qF C f p n i q x st Q:=ald h e hΦ
theorem bM {f:FuncId} {p:List fU} {n i:Nat} {st:TS} {Q:QX} {Φ:Prop} (h:Hint) (hΦ:Φ) (e:(run C (fxs C f) f i (abb C f p) st U2).pre (au C) (RQ C (fxs C f) n) (ajb C f p (n+1) i Q) h=Φ:=by kernel_rfl):ah C f p (n+1) i st Q:=anv h e hΦ
abbrev iW (l:RR):TV:= .c (.sub 1 l)
abbrev lQ (l:RR):TV:= .c (.sub 2 l)
abbrev q7 (l:RR):TV:= .c (.sub 3 l)
abbrev IG (l:RR):TV:= .c (.sub 4 l)
abbrev gZ (l:RR):TV:= .c (.sub 5 l)
abbrev bg (a b c d e:RR) (n:Int):TV:= .ag (zPl a b c d e n)
abbrev r7 (a b c d e:RR) (n:Int):TV:= .bx (zPl a b c d e n)
abbrev dM (a b:RR):TV:= .ag (zTr a b)
abbrev jv (a b c d e:Int):TV:= .ag (zU a b c d e)
abbrev nW (a b c d e:RR) (n m:Int):TV:= .tu [(1,zPl a b c d e n),(0,[iI m])]
abbrev xC (a b c d e:RR) (n:Int) (m:Bool):TV:= .tu [(1,zPl a b c d e n),(0,[iB m])]
abbrev X8 (a b c d e:Int) (m:Bool):TV:= .tu [(1,zU a b c d e),(0,[iB m])]
abbrev q8 (a b:RR) (m:Bool):TV:= .tu [(1,zTr a b),(0,[iB m])]
abbrev sL (a:Int) (b c:ByteArray) (d e:Int):TV:= .ag [iI a,iS b,iS c,iI d,iI e]
structure ZW where
 P:FuncId→List TV→(RR→RR→RR→RR→RR→Int→Prop)→Prop
 J:FuncId→List TV→(RR→RR→RR→RR→RR→Int→Int→Prop)→Prop
 L:FuncId→List TV→(RR→RR→RR→RR→RR→Int→Bool→Prop)→Prop
 M:FuncId→List TV→(Int→Int→Int→Int→Int→Bool→Prop)→Prop
 N:FuncId→List TV→(RR→RR→Bool→Prop)→Prop
 T:FuncId→List TV→(RR→RR→Prop)→Prop
 O:FuncId→List TV→(Int→ByteArray→ByteArray→Int→Int→Prop)→Prop
 I:FuncId→List TV→(Int→Prop)→Prop
 B:FuncId→List TV→(Bool→Prop)→Prop
 S:FuncId→List TV→(ByteArray→Prop)→Prop
 A:FuncId→List TV→(RR→Prop)→Prop
 D:FuncId→List TV→(RR→Prop)→Prop
 E:FuncId→List TV→(RR→Prop)→Prop
 F:FuncId→List TV→(RR→Prop)→Prop
 G:FuncId→List TV→(RR→Prop)→Prop
 k:RR→Int→(Int→Int→Int→Int→Int→Prop)→Prop
 i:RR→Int→(Int→Prop)→Prop
 a:RR→Int→(RR→Prop)→Prop
 e:RR→Int→(RR→Prop)→Prop
 v:RR→Int→(ByteArray→Int→Int→Bool→Prop)→Prop
 c:RR→Int→(Int→Bool→Int→Prop)→Prop
 p:RR→Int→(Int→Int→Prop)→Prop
abbrev z:ZW:={P:=fun f v k=> ∃a b c d e n,au C f v (bg a b c d e n) []∧k a b c d e n,J:=fun f v k=> ∃a b c d e n m,au C f v (nW a b c d e n m) []∧k a b c d e n m,L:=fun f v k=> ∃a b c d e n m,au C f v (xC a b c d e n m) []∧k a b c d e n m,M:=fun f v k=> ∃a b c d e n,au C f v (X8 a b c d e n) []∧k a b c d e n,N:=fun f v k=> ∃a b n,au C f v (q8 a b n) []∧k a b n,T:=fun f v k=> ∃a b,au C f v (dM a b) []∧k a b,O:=fun f v k=> ∃a b c d e,au C f v (sL a b c d e) []∧k a b c d e,I:=fun f v k=> ∃x,au C f v (vI x) []∧k x,B:=fun f v k=> ∃x,au C f v (vB x) []∧k x,S:=fun f v k=> ∃x,au C f v (vS x) []∧k x,A:=fun f v k=> ∃x,au C f v (iW x) []∧k x,D:=fun f v k=> ∃x,au C f v (lQ x) []∧k x,E:=fun f v k=> ∃x,au C f v (q7 x) []∧k x,F:=fun f v k=> ∃x,au C f v (IG x) []∧k x,G:=fun f v k=> ∃x,au C f v (gZ x) []∧k x,k:=fun l i k=> ∃a b c d e,rowAt l i=some (zU a b c d e)∧k a b c d e,i:=fun l i k=> ∃a,rowAt l i=some [iI a]∧k a,a:=fun l i k=> ∃a,rowAt l i=some [TC.sub 1 a]∧k a,e:=fun l i k=> ∃a,rowAt l i=some [TC.sub 5 a]∧k a,v:=fun l i k=> ∃a b c d,rowAt l i=some [iS a,iI b,iI c,iB d]∧k a b c d,c:=fun l i k=> ∃a b c,rowAt l i=some [iI a,iB b,iI c]∧k a b c,p:=fun l i k=> ∃a b,rowAt l i=some [iI a,iI b]∧k a b}
abbrev zH (h:Hint):Hint:= .both h h
abbrev bU:=TC.sub 1
abbrev FV:=TC.sub 2
abbrev P2:=TC.sub 3
abbrev zS4:=TC.sub 4
abbrev Mk:=TC.sub 5
abbrev NU:=Fq.ag [Sh.sub 1,Sh.sub 1,Sh.sub 2,Sh.sub 3,Sh.sub 4,sI]
abbrev zz1:=Fq.tu [(1,[Sh.sub 1,Sh.sub 1,Sh.sub 2,Sh.sub 3,Sh.sub 4,sI]),(0,[sI])]
abbrev iU:=Fq.c (sB)
abbrev NV:=Fq.ag [Sh.sub 1,Sh.sub 1]
abbrev sr:=hb hz hz
abbrev c6:=TX.ex 0
abbrev Lf:=Fq.c (Sh.sub 5)
abbrev P3:=Fq.ag [Sh.sub 1]
abbrev sM:=Fq.c (sI)
abbrev mj:=CE.ref 1 none
abbrev X9:=Fq.bx [Sh.sub 1,Sh.sub 1,Sh.sub 2,Sh.sub 3,Sh.sub 4,sI]
abbrev JM:=Fq.tu [(1,[sI,sI,sI,sI,sI]),(0,[sB])]
abbrev adN:=Fq.ag [sI,sS,sS,sI,sI]
abbrev KN:=hb hz sr
abbrev aqZ:=hc iU [] (hb hz (hc sM [NU] (hb hz (hc iU [] (hb hz (hb hz (hc sM [NU] (hc sM [] (hb hz (hb hz (Hint.both (hc NU [] (Hint.both (hc adN [] (zH (hc zz1 [] (hc iU [] (hb hz (hb hz (hc sM [] KN))))))) (hc adN [] (hc zz1 [] (hc iU [] (hb hz (hb hz (hc sM [] KN)))))))) (hc NU [] (hc adN [] (hc zz1 [] (hc iU [] (hb hz (hb hz (hc sM [] KN))))))))))))))))))
abbrev wF:=hc iU [] sr
abbrev aq0:=hr [Sh.sub 1] (hc Lf [] (hc Lf [] (hc Lf [] (hb hz (hr [sI] (hr [sI,sI,sI,sI,sI] (hr [sI,sI,sI,sI,sI] (hb (hb (hc sM [] (Hint.both (hc P3 [] (hc P3 [] (hc NV [] (hc NV [] wF)))) (hc P3 [] (Hint.both (hc P3 [] (hc NV [] (hc NV [] wF))) (hc P3 [] (zH (hc NV [] (hc NV [] wF)))))))) hz) hz))))))))
abbrev qh:=hc NU [] hz
abbrev akd:=hc iU [] (hb hz (hc Lf [] (hc Lf [] (hc Lf [] (hb (hc P3 [] hz) (hc P3 [] (hc iU [] (hb (hc P3 [] hz) (hc P3 [] hz)))))))))
abbrev AK:=hb sr hz
abbrev afv:=Fq.tu [(1,[Sh.sub 1,Sh.sub 1,Sh.sub 2,Sh.sub 3,Sh.sub 4,sI]),(0,[sB])]
abbrev yE:=hc zz1 [] hz
abbrev Ya:=Fq.tu [(1,[Sh.sub 1,Sh.sub 1]),(0,[sB])]
abbrev aq1:=hb (hc Lf [] (hb (hc NV [] (hc NV [] wF)) (hc NV [] wF))) (hc NV [] wF)
abbrev Sk:=hb qh (hc iU [] (hb qh hz))
abbrev al6:=Fq.tu [(0,[Sh.sub 3]),(0,[sI]),(0,[sB])]
abbrev Wj:=Fq.c (Sh.sub 3)
abbrev Ec:=Fq.c (Sh.sub 1)
abbrev abB:=Fq.tu [(0,[Sh.sub 2]),(0,[sB])]
abbrev apA:=hc zz1 [] (hc iU [] (hb hz (hb hz (hc NU [] aqZ))))
abbrev DF:=hc Lf [] hz
abbrev ake:=hb AK AK
abbrev Ml:=Fq.c (Sh.sub 2)
abbrev al7:=hc iU [] (hb hz (hc Lf [] (hc P3 [] (hb (hc P3 [] hz) (hc iU [] (hb (hc P3 [] hz) hz))))))
abbrev afw:=hr [sS,sI,sI,sB] hz
abbrev Yb:=hc iU [] hz
abbrev akf:=hc iU [] (hb Yb hz)
abbrev afx:=hr [sI,sI,sI,sI,sI] sr
abbrev NW:=hc sM [] sr
abbrev adO:=hc NV [] hz
abbrev ahG:=hc NV [] (hc iU [] (hb adO hz))
abbrev akg:=hr [sI,sI,sI,sI,sI] (hr [sI,sI,sI,sI,sI] hz)
abbrev Mm:=hc sM [] hz
abbrev ahH:=hr [sI,sB,sI] (hr [sI,sB,sI] hz)
abbrev Sl:=CE.ref 2 none
abbrev abC:=hc iU [X9] hz
abbrev adP:=hr [sS,sI,sI,sB] wF
abbrev al8:=hb (hr [sI,sI,sI,sI,sI] (hr [sI,sI,sI,sI,sI] wF)) hz
abbrev aoi:=hb qh (hc NU [] (hc al6 [] (hb qh (hr [sS,sI,sI,sB] (hr [sI,sB,sI] (hr [sI,sB,sI] (hc iU [X9] yE)))))))
abbrev al9:=hc iU [] (hb (hb (hb (hc iU [] (hb akf hz)) hz) hz) hz)
abbrev Yc:=hc Wj [] sr
abbrev aoj:=hb hz (hc al6 [] (hb (hr [sI,sB,sI] (hc sM [] (hr [sS,sI,sI,sB] (hc iU [X9] yE)))) yE))
abbrev abD:=hr [sI,sI] sr
abbrev akh:=Fq.tu [(0,[sI]),(0,[sI])]
abbrev ama:=hb ake (hb (hb ake ake) (hb ake ake))
abbrev aok:=hr [Sh.sub 5] (hr [Sh.sub 5] (hc Lf [] (hr [Sh.sub 5] (hr [Sh.sub 5] akd))))
abbrev aol:=hc zz1 [] (hc NU [] (Hint.both (hc adN [] (zH apA)) (hc adN [] apA)))
abbrev adQ:=hc JM [] hz
abbrev amb:=hb (hr [Sh.sub 1] (hc P3 [] sr)) hz
abbrev aki:=hr [sS,sI,sI,sB] afw
abbrev akj:=hc NV [] (hb aq0 aq1)
abbrev aom:=hb (hr [Sh.sub 1] (hc P3 [] (hr [Sh.sub 1] (hr [Sh.sub 1] hz)))) hz
abbrev adR:=hr [sI] sr
abbrev amc:=hb (hr [sS,sI,sI,sB] sr) hz
abbrev Sm:=TX.ex 2
abbrev ahI:=Fq.c (Sh.sub 4)
abbrev akk:=hr [sI,sB,sI] sr
abbrev ahJ:=hc iU [] AK
abbrev ahK:=hc Lf [] sr
abbrev Yd:=cI (-1)
abbrev aon:=hr [sI,sI,sI,sI,sI] (hc iU [] (hb afx hz))
abbrev aoo:=hr [sS,sI,sI,sB] (hr [sS,sI,sI,sB] yE)
abbrev amd:=hc sM [] (hb hz NW)
abbrev ame:=hr [sI] (hr [sI] hz)
abbrev y7:List fU:=[fU.r,fU.l,fU.b,fU.r,fU.b]
abbrev AL:List fU:=[fU.r,fU.l,fU.b,fU.r,fU.r,fU.r,fU.b]
abbrev wE:List fU:=[fU.r,fU.l,fU.b,fU.r,fU.r,fU.r,fU.r,fU.r,fU.r,fU.b]
abbrev aj:List fU:=[fU.r,fU.l,fU.r,fU.b]
abbrev pM:List fU:=[fU.r,fU.l,fU.r,fU.b,fU.b,fU.r,fU.l,fU.b,fU.r,fU.r,fU.r,fU.b]
abbrev pN:List fU:=[fU.r,fU.l,fU.r,fU.b,fU.b,fU.r,fU.r,fU.l,fU.b,fU.r,fU.r,fU.b]
abbrev NX:List fU:=[fU.r,fU.r,fU.l,fU.b]
abbrev q9:List fU:=[fU.r,fU.r,fU.l,fU.b,fU.r,fU.r,fU.b]
abbrev ak:List fU:=[fU.r,fU.r,fU.l,fU.r,fU.b]
abbrev kZ:List fU:=[fU.r,fU.r,fU.r,fU.l,fU.b]
abbrev ay:List fU:=[fU.r,fU.r,fU.r,fU.l,fU.r,fU.b]
abbrev iH:List fU:=[fU.r,fU.r,fU.r,fU.l,fU.r,fU.b,fU.b,fU.r,fU.l,fU.b,fU.r,fU.b]
abbrev jJ:List fU:=[fU.r,fU.r,fU.r,fU.l,fU.r,fU.b,fU.b,fU.r,fU.l,fU.b,fU.r,fU.r,fU.r,fU.r,fU.r,fU.r,fU.b]
abbrev rj:List fU:=[fU.r,fU.r,fU.r,fU.l,fU.r,fU.b,fU.b,fU.r,fU.r,fU.l,fU.b,fU.r,fU.r,fU.b]
abbrev bN:List fU:=[fU.r,fU.r,fU.r,fU.r,fU.l,fU.r,fU.b]
abbrev fQ:List fU:=[fU.r,fU.r,fU.r,fU.r,fU.r,fU.l,fU.r,fU.b]
abbrev ji:List fU:=[fU.r,fU.r,fU.r,fU.r,fU.r,fU.r,fU.r,fU.l,fU.r,fU.b]
def mJ (a b:Int) (c:Bool) (d:Int) (e f g h i:RR) (j:Int) (k l m n:RR) (o:Int) (p:RR):TS:=TS.mk [(2,one (cI a)),(3,TE.bp 3 0),(6,TE.bp 6 0),(8,TE.bp 8 0),(10,one (cI b)),(11,one (cB c)),(12,one (cI d))] [(3,[CE.snap [] none 1 e,CE.snap [] none 1 f,CE.snap [] none 2 g,CE.snap [] none 3 h,CE.snap [] none 4 i,cI j]),(6,[CE.nil 1,CE.nil 1,CE.nil 2,CE.nil 3,CE.nil 4,cI 0]),(8,[CE.snap [] none 1 k,CE.snap [] none 1 l,CE.snap [] none 2 m,CE.snap [] none 3 n,CE.ref 1 none,cI o])] [(1,OB.mk true 4 p)]
def Gj (b c:Int) (a:Bool) (d:Int) (e f g h i:RR) (j:Int) (k l m n:RR) (o:Int) (p:RR):TS:=TS.mk [(2,one (cI b)),(3,TE.bp 3 0),(6,TE.bp 6 0),(8,TE.bp 8 0),(10,one (cI c)),(11,one (cB a)),(12,one (cI d)),(44,one (cB a))] [(3,[CE.snap [] none 1 e,CE.snap [] none 1 f,CE.snap [] none 2 g,CE.snap [] none 3 h,CE.snap [] none 4 i,cI j]),(6,[CE.nil 1,CE.nil 1,CE.nil 2,CE.nil 3,CE.nil 4,cI 0]),(8,[CE.snap [] none 1 k,CE.snap [] none 1 l,CE.snap [] none 2 m,CE.snap [] none 3 n,CE.ref 1 none,cI o])] [(1,OB.mk true 4 p)]
def Gk (a b:Int) (c:Bool) (d:Int) (e f g h i:RR) (j:Int) (k l m n:RR) (o:Int) (p:RR):TS:=TS.mk [(2,one (cI a)),(3,TE.bp 3 0),(6,TE.bp 6 0),(8,TE.bp 8 0),(10,one (cI b)),(11,one (cB c)),(12,one (cI d)),(44,TE.kb false)] [(3,[CE.snap [] none 1 e,CE.snap [] none 1 f,CE.snap [] none 2 g,CE.snap [] none 3 h,CE.snap [] none 4 i,cI j]),(6,[CE.nil 1,CE.nil 1,CE.nil 2,CE.nil 3,CE.nil 4,cI 0]),(8,[CE.snap [] none 1 k,CE.snap [] none 1 l,CE.snap [] none 2 m,CE.snap [] none 3 n,CE.ref 1 none,cI o])] [(1,OB.mk true 4 p)]
def vk (a:RR) (b:Int) (c:RR):TS:=TS.mk [(0,one (CE.snap [] none 4 a)),(3,one mj),(4,one (cI b))] [] [(1,OB.mk true 4 c)]
def Gl (a:RR) (b:Int) (c:Bool) (d:RR):TS:=TS.mk [(0,one (CE.snap [] none 4 a)),(3,one mj),(4,one (cI b)),(11,one (cB c))] [] [(1,OB.mk true 4 d)]
def tY (a b:RR) (c:Int):TS:=TS.mk [(0,one (CE.snap [] none 3 a)),(1,one (CE.snap [] none 3 b)),(5,one (cI c))] [] []
def P4:TS:=TS.mk [(4,TE.kb false)] [] []
def Ed (a b:RR) (c:Int) (d:Bool):TS:=TS.mk [(0,one (CE.snap [] none 3 a)),(1,one (CE.snap [] none 3 b)),(5,one (cI c)),(14,one (cB d))] [] []
def qK (a b:Int) (c:RR):TS:=TS.mk [(0,one mj),(1,one (cI a)),(5,one (cI b))] [] [(1,OB.mk true 3 c)]
def AM (a b:Int) (c:Bool) (d:RR):TS:=TS.mk [(0,one mj),(1,one (cI a)),(5,one (cI b)),(9,one (cB c))] [] [(1,OB.mk true 3 d)]
def qL (a:RR) (b c:Int):TS:=TS.mk [(0,one (CE.snap [] none 3 a)),(1,one (cI b)),(5,one (cI c))] [] []
def vZ:TS:=TS.mk [(4,one Yd)] [] []
def AN (a:RR) (b c:Int) (d:Bool):TS:=TS.mk [(0,one (CE.snap [] none 3 a)),(1,one (cI b)),(5,one (cI c)),(9,one (cB d))] [] []
def su (a:Int) (b:ByteArray):TS:=TS.mk [(0,one (cI a)),(3,one (cS b))] [] []
def Cd (a:Int) (b:ByteArray) (c:Bool):TS:=TS.mk [(0,one (cI a)),(3,one (cS b)),(7,one (cB c))] [] []
def qM (a b:Int) (c:RR):TS:=TS.mk [(0,one mj),(1,one (cI a)),(5,one (cI b))] [] [(1,OB.mk true 1 c)]
def AO (a b:Int) (c:Bool) (d:RR):TS:=TS.mk [(0,one mj),(1,one (cI a)),(5,one (cI b)),(9,one (cB c))] [] [(1,OB.mk true 1 d)]
def nq (a:Int) (b c d e f:RR) (g:Int):TS:=TS.mk [(1,TE.bp 1 0),(3,one (cI a))] [(1,[CE.snap [] none 1 b,CE.snap [] none 1 c,CE.snap [] none 2 d,CE.snap [] none 3 e,CE.snap [] none 4 f,cI g])] []
def nr (a b c d e:RR) (f:Int) (g:ByteArray) (h i:Int) (j:Bool):TS:=TS.mk [(2,TE.kb false)] [(1,[CE.snap [] none 1 a,CE.snap [] none 1 b,CE.snap [] none 2 c,CE.snap [] none 3 d,CE.snap [] none 4 e,cI f]),(4,[cS g,cI h,cI i,cB j])] []
def tZ (a b c d e:RR) (f:Int) (g:ByteArray) (h i:Int) (j:Bool) (k:RR):TS:=TS.mk [(2,TE.kb false)] [(1,[CE.snap [] none 1 a,CE.snap [] none 1 b,CE.snap [] none 2 c,CE.snap [] none 3 d,CE.snap [] none 4 e,cI f]),(4,[cS g,cI h,cI i,cB j])] [(17400,OB.mk true 1 k)]
def k9 (a b:Int) (c d e f g:RR) (h:Int) (i:ByteArray) (j k:Int) (l:Bool):TS:=TS.mk [(1,TE.bp 1 0),(3,one (cI a)),(4,TE.bp 4 0),(5,one (cI b))] [(1,[CE.snap [] none 1 c,CE.snap [] none 1 d,CE.snap [] none 2 e,CE.snap [] none 3 f,CE.snap [] none 4 g,cI h]),(4,[cS i,cI j,cI k,cB l])] []
def Ee (a:Int) (b:Bool) (c d e f g:RR) (h:Int):TS:=TS.mk [(1,TE.bp 1 0),(3,one (cI a)),(10,one (cB b))] [(1,[CE.snap [] none 1 c,CE.snap [] none 1 d,CE.snap [] none 2 e,CE.snap [] none 3 f,CE.snap [] none 4 g,cI h])] []
def Ef (a b c d e:RR) (f:Int) (g:ByteArray) (h i:Int) (j:Bool):TS:=TS.mk [(2,TE.kb false)] [(1,[CE.snap [] none 1 a,CE.snap [] none 1 b,CE.snap [] none 2 c,CE.snap [] none 3 d,CE.snap [] none 4 e,cI f]),(4,[cS g,cI h,cI i,cB j])] []
def Eg (a b:Int) (c d e f g:RR) (h:Int) (i:ByteArray) (j k:Int) (l:Bool):TS:=TS.mk [(1,TE.bp 1 0),(3,one (cI a)),(4,TE.bp 4 0),(5,one (cI b)),(63,one (cB (bG b a)))] [(1,[CE.snap [] none 1 c,CE.snap [] none 1 d,CE.snap [] none 2 e,CE.snap [] none 3 f,CE.snap [] none 4 g,cI h]),(4,[cS i,cI j,cI k,cB l])] []
def lg (a:Int) (b:ByteArray) (c d:Int) (e:Bool) (f:RR):TS:=TS.mk [(3,TE.bp 3 0),(5,one mj),(6,one (cI a))] [(3,[cS b,cI c,cI d,cB e])] [(1,OB.mk true 4 f)]
def AP (a:Int) (b:Bool) (c:ByteArray) (d e:Int) (f:Bool) (g:RR):TS:=TS.mk [(3,TE.bp 3 0),(5,one mj),(6,one (cI a)),(28,one (cB b))] [(3,[cS c,cI d,cI e,cB f])] [(1,OB.mk true 4 g)]
def AQ (a:Int) (b:ByteArray) (c d:Int) (e:Bool) (f:RR):TS:=TS.mk [(3,TE.bp 3 0),(5,one mj),(6,one (cI a)),(28,TE.kb false)] [(3,[cS b,cI c,cI d,cB e])] [(1,OB.mk true 4 f)]
def jB (b:Int) (a:RR) (c:Int) (d:RR):TS:=TS.mk [(1,TE.bp 1 0),(3,one (cI b)),(29,one (CE.snap [] none 1 a)),(30,one (cI (Int.ofNat (List.length a)))),(31,one (cI c))] [(1,[CE.snap [] none 1 d,CE.snap [] none 1 a])] []
def mK (a b c:RR):TS:=TS.mk [(2,TE.kb false)] [(1,[CE.snap [] none 1 a,CE.snap [] none 1 b]),(5,[CE.snap [] none 1 c])] []
def vl (a b c d:RR):TS:=TS.mk [(2,TE.kb false)] [(1,[CE.snap [] none 1 a,CE.snap [] none 1 b]),(5,[CE.snap [] none 1 c])] [(26600,OB.mk true 5 d)]
def Gm (b:Int) (a:RR) (c d:Int) (e:Bool) (f:RR):TS:=TS.mk [(1,TE.bp 1 0),(3,one (cI b)),(29,one (CE.snap [] none 1 a)),(30,one (cI c)),(31,one (cI d)),(32,one (cB e))] [(1,[CE.snap [] none 1 f,CE.snap [] none 1 a])] []
def lq (b:Int) (a:RR) (c:Int) (d e f g h:RR) (i:Int) (j:RR):TS:=TS.mk [(1,TE.bp 1 0),(3,one mj),(4,one (cI b)),(12,one Sl),(13,one (cI (Int.ofNat (List.length a)))),(14,one (cI c))] [(1,[CE.snap [] none 1 d,CE.snap [] none 1 e,CE.snap [] none 2 f,CE.snap [] none 3 g,CE.snap [] none 4 h,cI i])] [(1,OB.mk true 1 j),(2,OB.mk true 5 a)]
def qi (a b c d e:RR) (f g h i j k:Int) (l m:RR):TS:=TS.mk [(2,TE.kb false)] [(1,[CE.snap [] none 1 a,CE.snap [] none 1 b,CE.snap [] none 2 c,CE.snap [] none 3 d,CE.snap [] none 4 e,cI f]),(6,[cI g,cI h,cI i,cI j,cI k])] [(1,OB.mk true 1 l),(2,OB.mk true 5 m)]
def Eh (a b c:Int) (d:Bool) (e f g h i:RR) (j:Int) (k l:RR):TS:=TS.mk [(1,TE.bp 1 0),(3,one mj),(4,one (cI a)),(12,one Sl),(13,one (cI b)),(14,one (cI c)),(15,one (cB d))] [(1,[CE.snap [] none 1 e,CE.snap [] none 1 f,CE.snap [] none 2 g,CE.snap [] none 3 h,CE.snap [] none 4 i,cI j])] [(1,OB.mk true 1 k),(2,OB.mk true 5 l)]
def rT (a:RR) (b:Int) (c:RR):TS:=TS.mk [(0,one (CE.snap [] none 5 a)),(3,one mj),(4,one (cI b))] [] [(1,OB.mk true 5 c)]
def Lg (a:RR) (b:Int) (c:Bool) (d:RR):TS:=TS.mk [(0,one (CE.snap [] none 5 a)),(3,one mj),(4,one (cI b)),(9,one (cB c))] [] [(1,OB.mk true 5 d)]
def ua (a b c:Int) (d e:RR):TS:=TS.mk [(1,one (cI a)),(2,one (cI b)),(3,TE.bp 3 0),(7,one (cI c))] [(3,[CE.snap [] none 1 d,CE.snap [] none 1 e])] []
def Ei (a:Int) (b c:RR):TS:=TS.mk [(6,one (cI a))] [(3,[CE.snap [] none 1 b,CE.snap [] none 1 c])] []
def Ej (a b c:Int) (d:Bool) (e f:RR):TS:=TS.mk [(1,one (cI a)),(2,one (cI b)),(3,TE.bp 3 0),(7,one (cI c)),(13,one (cB d))] [(3,[CE.snap [] none 1 e,CE.snap [] none 1 f])] []
def tG (a:RR) (b c:Int):TS:=TS.mk [(0,one (CE.snap [] none 2 a)),(1,one (cI b)),(5,one (cI c))] [] []
def JN (a:Int):TS:=TS.mk [(4,one (cI a))] [] []
def JO (a:RR) (b c:Int) (d:Bool):TS:=TS.mk [(0,one (CE.snap [] none 2 a)),(1,one (cI b)),(5,one (cI c)),(9,one (cB d))] [] []
def nt (b:Int) (a:RR) (c:Int):TS:=TS.mk [(1,one (cI b)),(7,one (CE.snap [] none 5 a)),(8,one (cI (Int.ofNat (List.length a)))),(9,one (cI c))] [] []
def Ek (a b c d e:Int):TS:=TS.mk [(4,TE.kb true)] [(6,[cI a,cI b,cI c,cI d,cI e])] []
def El (a:Int) (b:RR) (c d:Int) (e:Bool):TS:=TS.mk [(1,one (cI a)),(7,one (CE.snap [] none 5 b)),(8,one (cI c)),(9,one (cI d)),(10,one (cB e))] [] []
def kO (a b:Int) (c d e:RR):TS:=TS.mk [(1,one (cI a)),(2,TE.bp 2 0),(5,TE.bp 5 0),(6,one (cI b))] [(2,[CE.snap [] none 1 c,CE.snap [] none 1 d]),(5,[CE.snap [] none 1 e])] []
def mL (a b c:Int) (d e f:RR):TS:=TS.mk [(1,one (cI a)),(2,TE.bp 2 0),(5,TE.bp 5 0),(6,one (cI b)),(7,one (cI c))] [(2,[CE.snap [] none 1 d,CE.snap [] none 1 e]),(5,[CE.snap [] none 1 f])] []
def Gn (a b:Int) (c:Bool) (d e f:RR):TS:=TS.mk [(1,one (cI a)),(2,TE.bp 2 0),(5,TE.bp 5 0),(6,one (cI b)),(31,one (cB c))] [(2,[CE.snap [] none 1 d,CE.snap [] none 1 e]),(5,[CE.snap [] none 1 f])] []
def vm (a b c:RR):TS:=TS.mk [(4,TE.kb false)] [(2,[CE.snap [] none 1 a,CE.snap [] none 1 b]),(5,[CE.snap [] none 1 c])] []
def Gp (a b c:Int) (d:Bool) (e f g:RR):TS:=TS.mk [(1,one (cI a)),(2,TE.bp 2 0),(5,TE.bp 5 0),(6,one (cI b)),(7,one (cI c)),(41,one (cB d))] [(2,[CE.snap [] none 1 e,CE.snap [] none 1 f]),(5,[CE.snap [] none 1 g])] []
def Gq (a b c:RR):TS:=TS.mk [(4,TE.kb false)] [(2,[CE.snap [] none 1 a,CE.snap [] none 1 b]),(5,[CE.snap [] none 1 c])] []
def rm (b:Int) (a:RR) (c:Int):TS:=TS.mk [(1,TE.bp 1 0),(3,one (cI b)),(7,one (CE.snap [] none 1 a)),(8,one (cI (Int.ofNat (List.length a)))),(9,one (cI c))] [(1,[CE.snap [] none 1 a])] []
def vn (a:RR):TS:=TS.mk [(2,TE.kb false)] [(1,[CE.snap [] none 1 a])] []
def Gr (b:Int) (a:RR) (c d:Int) (e:Bool):TS:=TS.mk [(1,TE.bp 1 0),(3,one (cI b)),(7,one (CE.snap [] none 1 a)),(8,one (cI c)),(9,one (cI d)),(10,one (cB e))] [(1,[CE.snap [] none 1 a])] []
def sv (a:RR):TS:=TS.mk [(2,TE.bp 2 0),(3,TE.bp 3 0),(8,one (CE.snap [] none 1 a)),(9,one (cI (Int.ofNat (List.length a)))),(10,one (cI 0))] [(2,[CE.nil 1]),(3,[CE.nil 1])] []
def oX (a:RR) (b:Int) (c:RR):TS:=TS.mk [(2,TE.bp 2 0),(3,TE.bp 3 0),(8,one (CE.snap [] none 1 a)),(9,one (cI (Int.ofNat (List.length a)))),(10,one (cI b))] [(2,[CE.nil 1]),(3,[CE.ref 1 none])] [(1,OB.mk true 1 c)]
def Ce (a:RR) (b:Int) (c:Bool):TS:=TS.mk [(2,TE.bp 2 0),(3,TE.bp 3 0),(8,one (CE.snap [] none 1 a)),(9,one (cI b)),(10,one (cI 0)),(11,one (cB c))] [(2,[CE.nil 1]),(3,[CE.nil 1])] []
def Cg (a:RR) (b c:Int) (d:Bool) (e:RR):TS:=TS.mk [(2,TE.bp 2 0),(3,TE.bp 3 0),(8,one (CE.snap [] none 1 a)),(9,one (cI b)),(10,one (cI c)),(11,one (cB d))] [(2,[CE.nil 1]),(3,[CE.ref 1 none])] [(1,OB.mk true 1 e)]
def nO (a:RR) (b:Int) (c:RR):TS:=TS.mk [(5,one mj),(10,one (CE.snap [] none 5 a)),(11,one (cI (Int.ofNat (List.length a)))),(12,one (cI b))] [] [(1,OB.mk true 5 c)]
def AR (a:RR) (b c:Int) (d:Bool) (e:RR):TS:=TS.mk [(5,one mj),(10,one (CE.snap [] none 5 a)),(11,one (cI b)),(12,one (cI c)),(13,one (cB d))] [] [(1,OB.mk true 5 e)]
def kP (a:RR) (b:Bool) (c d e f g h:Int) (i:RR):TS:=TS.mk [(2,one (CE.snap [] none 1 a)),(6,TE.bp 6 0),(8,TE.bp 8 0),(9,one (cB b)),(10,one mj),(11,one (cI c))] [(6,[cI 0,cI 0,cI 0,cI 0,cI 0]),(8,[cI d,cI e,cI f,cI g,cI h])] [(1,OB.mk true 5 i)]
def Gs (a:RR) (b:Bool) (c:Int) (d:Bool) (e f g h i:Int) (j:RR):TS:=TS.mk [(2,one (CE.snap [] none 1 a)),(6,TE.bp 6 0),(8,TE.bp 8 0),(9,one (cB b)),(10,one mj),(11,one (cI c)),(19,one (cB d))] [(6,[cI 0,cI 0,cI 0,cI 0,cI 0]),(8,[cI e,cI f,cI g,cI h,cI i])] [(1,OB.mk true 5 j)]
def qj (a:RR) (b c:Int):TS:=TS.mk [(0,one (CE.snap [] none 1 a)),(1,one (cI b)),(5,one (cI c))] [] []
def Em:TS:=TS.mk [(4,one Yd)] [] []
def En (a:RR) (b c:Int) (d:Bool):TS:=TS.mk [(0,one (CE.snap [] none 1 a)),(1,one (cI b)),(5,one (cI c)),(15,one (cB d))] [] []
def sw (a:RR) (b c:Int):TS:=TS.mk [(0,one (CE.snap [] none 5 a)),(1,one (cI b)),(5,one (cI c))] [] []
def oY:TS:=TS.mk [(4,one Yd)] [] []
def Ch (a:RR) (b c:Int) (d:Bool):TS:=TS.mk [(0,one (CE.snap [] none 5 a)),(1,one (cI b)),(5,one (cI c)),(9,one (cB d))] [] []
def qk (a b:Int) (c:RR):TS:=TS.mk [(1,TE.bp 1 0),(3,one (cI a)),(4,one (cI b))] [(1,[CE.snap [] none 1 c])] []
def Eo (a b:Int) (c:Bool) (d:RR):TS:=TS.mk [(1,TE.bp 1 0),(3,one (cI a)),(4,one (cI b)),(9,one (cB c))] [(1,[CE.snap [] none 1 d])] []
def tH (a:RR) (b c:Int):TS:=TS.mk [(0,one (CE.snap [] none 1 a)),(1,one (cI b)),(5,one (cI c))] [] []
def JP:TS:=TS.mk [(4,TE.kb true)] [] []
def JQ (a:RR) (b c:Int) (d:Bool):TS:=TS.mk [(0,one (CE.snap [] none 1 a)),(1,one (cI b)),(5,one (cI c)),(9,one (cB d))] [] []
def eF (a:RR) (b:Int) (c:ByteArray):TS:=TS.mk [(0,one (CE.snap [] none 4 a)),(1,TE.fn 207 [201001]),(7,one (cI (Int.ofNat (List.length a)))),(8,one (cI b))] [(201001,[cS c])] []
def mC (a:Int) (b:ByteArray):TS:=TS.mk [(4,one (cI a))] [(201001,[cS b])] []
def mD (a:RR) (b c:Int) (d:Bool) (e:ByteArray):TS:=TS.mk [(0,one (CE.snap [] none 4 a)),(1,TE.fn 207 [201001]),(7,one (cI b)),(8,one (cI c)),(9,one (cB d))] [(201001,[cS e])] []
def ku (b c:Int) (a:RR) (d:Int) (e f g h i:RR) (j k:Int) (l m n o p q:RR):TS:=TS.mk [(1,one (cI b)),(2,TE.bp 2 0),(4,TE.bp 4 0),(7,TE.bp 7 0),(8,one mj),(9,one (cI c)),(63,one Sl),(64,one (cI (Int.ofNat (List.length a)))),(65,one (cI d))] [(2,[CE.snap [] none 1 e,CE.snap [] none 1 f,CE.snap [] none 2 g,CE.snap [] none 3 h,CE.snap [] none 4 i,cI j]),(4,[CE.nil 1,CE.nil 1,CE.nil 2,CE.nil 3,CE.nil 4,cI 0]),(7,[CE.ref 3 none,CE.ref 4 none,CE.ref 5 none,CE.ref 6 none,CE.ref 7 none,cI k])] [(1,OB.mk true 3 l),(2,OB.mk true 5 a),(3,OB.mk true 1 m),(4,OB.mk true 1 n),(5,OB.mk true 2 o),(6,OB.mk true 3 p),(7,OB.mk true 4 q)]
def Ci (a b c d e:RR) (f g h i j k l m:Int) (n o p q r s t u v w x y z A:RR):TS:=TS.mk [(4,TE.bp 4 0),(5,TE.kb false)] [(2,[CE.snap [] none 1 a,CE.snap [] none 1 b,CE.snap [] none 2 c,CE.snap [] none 3 d,CE.snap [] none 4 e,cI f]),(4,[CE.ref 39400 none,CE.ref 39401 none,CE.ref 39402 none,CE.ref 39403 none,CE.ref 39404 none,cI g]),(7,[CE.ref 3 none,CE.ref 4 none,CE.ref 5 none,CE.ref 6 none,CE.ref 7 none,cI h]),(12,[cI i,cI j,cI k,cI l,cI m]),(13,[CE.ref 37000 none,CE.ref 37001 none])] [(1,OB.mk true 3 n),(2,OB.mk true 5 o),(3,OB.mk true 1 p),(4,OB.mk true 1 q),(5,OB.mk true 2 r),(6,OB.mk true 3 s),(7,OB.mk true 4 t),(37000,OB.mk true 1 u),(37001,OB.mk true 1 v),(39400,OB.mk true 1 w),(39401,OB.mk true 1 x),(39402,OB.mk true 2 y),(39403,OB.mk true 3 z),(39404,OB.mk true 4 A)]
def xk (a b c d:Int) (e:Bool) (f g h i j:RR) (k l:Int) (m n o p q r s:RR):TS:=TS.mk [(1,one (cI a)),(2,TE.bp 2 0),(4,TE.bp 4 0),(7,TE.bp 7 0),(8,one mj),(9,one (cI b)),(63,one Sl),(64,one (cI c)),(65,one (cI d)),(66,one (cB e))] [(2,[CE.snap [] none 1 f,CE.snap [] none 1 g,CE.snap [] none 2 h,CE.snap [] none 3 i,CE.snap [] none 4 j,cI k]),(4,[CE.nil 1,CE.nil 1,CE.nil 2,CE.nil 3,CE.nil 4,cI 0]),(7,[CE.ref 3 none,CE.ref 4 none,CE.ref 5 none,CE.ref 6 none,CE.ref 7 none,cI l])] [(1,OB.mk true 3 m),(2,OB.mk true 5 n),(3,OB.mk true 1 o),(4,OB.mk true 1 p),(5,OB.mk true 2 q),(6,OB.mk true 3 r),(7,OB.mk true 4 s)]
def nZ (a b c:Int) (d e f g h:RR) (i j:Int) (k l m n o:RR):TS:=TS.mk [(2,one (cI a)),(3,TE.bp 3 0),(6,TE.bp 6 0),(8,one (cI b)),(10,TE.bp 10 0),(11,one (cI c))] [(3,[CE.snap [] none 1 d,CE.snap [] none 1 e,CE.snap [] none 2 f,CE.snap [] none 3 g,CE.snap [] none 4 h,cI i]),(6,[CE.nil 1,CE.nil 1,CE.nil 2,CE.nil 3,CE.nil 4,cI 0]),(10,[CE.ref 1 none,CE.ref 2 none,CE.ref 3 none,CE.ref 4 none,CE.ref 5 none,cI j])] [(1,OB.mk true 1 k),(2,OB.mk true 1 l),(3,OB.mk true 2 m),(4,OB.mk true 3 n),(5,OB.mk true 4 o)]
def Gt (a b c d e:RR) (f g h:Int) (i j k l m n o p q r:RR):TS:=TS.mk [(6,TE.bp 6 0),(7,one (cI 6))] [(3,[CE.snap [] none 1 a,CE.snap [] none 1 b,CE.snap [] none 2 c,CE.snap [] none 3 d,CE.snap [] none 4 e,cI f]),(6,[CE.ref 20600 none,CE.ref 20601 none,CE.ref 20602 none,CE.ref 20603 none,CE.ref 20604 none,cI g]),(10,[CE.ref 1000001000 none,CE.ref 1000001001 none,CE.ref 1000001002 none,CE.ref 1000001003 none,CE.ref 1000001004 none,cI h])] [(20600,OB.mk true 1 i),(20601,OB.mk true 1 j),(20602,OB.mk true 2 k),(20603,OB.mk true 3 l),(20604,OB.mk true 4 m),(1000001000,OB.mk true 1 n),(1000001001,OB.mk true 1 o),(1000001002,OB.mk true 2 p),(1000001003,OB.mk true 3 q),(1000001004,OB.mk true 4 r)]
def Gu (a b c:Int) (d:Bool) (e f g h i:RR) (j k:Int) (l m n o p:RR):TS:=TS.mk [(2,one (cI a)),(3,TE.bp 3 0),(6,TE.bp 6 0),(8,one (cI b)),(10,TE.bp 10 0),(11,one (cI c)),(41,one (cB d))] [(3,[CE.snap [] none 1 e,CE.snap [] none 1 f,CE.snap [] none 2 g,CE.snap [] none 3 h,CE.snap [] none 4 i,cI j]),(6,[CE.nil 1,CE.nil 1,CE.nil 2,CE.nil 3,CE.nil 4,cI 0]),(10,[CE.ref 1 none,CE.ref 2 none,CE.ref 3 none,CE.ref 4 none,CE.ref 5 none,cI k])] [(1,OB.mk true 1 l),(2,OB.mk true 1 m),(3,OB.mk true 2 n),(4,OB.mk true 3 o),(5,OB.mk true 4 p)]
def vo (a b:RR) (c:Int):TS:=TS.mk [(0,one (CE.snap [] none 4 a)),(1,one (CE.snap [] none 4 b)),(5,one (cI c))] [] []
def Sn:TS:=TS.mk [(4,TE.kb false)] [] []
def Gv (a b:RR) (c:Int) (d:Bool):TS:=TS.mk [(0,one (CE.snap [] none 4 a)),(1,one (CE.snap [] none 4 b)),(5,one (cI c)),(14,one (cB d))] [] []
def sx (a b:Int) (c:RR):TS:=TS.mk [(0,one mj),(1,one (cI a)),(5,one (cI b))] [] [(1,OB.mk true 4 c)]
def Cj (a b:Int) (c:Bool) (d:RR):TS:=TS.mk [(0,one mj),(1,one (cI a)),(5,one (cI b)),(9,one (cB c))] [] [(1,OB.mk true 4 d)]
def sy (a:RR) (b c:Int):TS:=TS.mk [(0,one (CE.snap [] none 4 a)),(1,one (cI b)),(5,one (cI c))] [] []
def sA:TS:=TS.mk [(4,one Yd)] [] []
def Ck (a:RR) (b c:Int) (d:Bool):TS:=TS.mk [(0,one (CE.snap [] none 4 a)),(1,one (cI b)),(5,one (cI c)),(9,one (cB d))] [] []
def ru (a:RR) (b:Int) (c d e f:RR) (g:Int):TS:=TS.mk [(1,TE.bp 1 0),(28,one (CE.snap [] none 2 a)),(29,one (cI (Int.ofNat (List.length a)))),(30,one (cI b))] [(1,[CE.snap [] none 1 c,CE.snap [] none 1 d,CE.snap [] none 2 a,CE.snap [] none 3 e,CE.snap [] none 4 f,cI g])] []
def Gw (a b c d e:RR) (f g h:Int):TS:=TS.mk [(2,TE.kb false)] [(1,[CE.snap [] none 1 a,CE.snap [] none 1 b,CE.snap [] none 2 c,CE.snap [] none 3 d,CE.snap [] none 4 e,cI f]),(4,[cI g,cI h])] []
def Gx (a:RR) (b c:Int) (d:Bool) (e f g h:RR) (i:Int):TS:=TS.mk [(1,TE.bp 1 0),(28,one (CE.snap [] none 2 a)),(29,one (cI b)),(30,one (cI c)),(31,one (cB d))] [(1,[CE.snap [] none 1 e,CE.snap [] none 1 f,CE.snap [] none 2 a,CE.snap [] none 3 g,CE.snap [] none 4 h,cI i])] []
def oZ (a:RR) (b:Int) (c:RR):TS:=TS.mk [(3,one mj),(8,one (CE.snap [] none 1 a)),(9,one (cI (Int.ofNat (List.length a)))),(10,one (cI b))] [] [(1,OB.mk true 5 c)]
def Cl (a:RR) (b c:Int) (d:Bool) (e:RR):TS:=TS.mk [(3,one mj),(8,one (CE.snap [] none 1 a)),(9,one (cI b)),(10,one (cI c)),(11,one (cB d))] [] [(1,OB.mk true 5 e)]
def tI (a:ByteArray) (b:Int) (c d e f g:RR) (h:Int):TS:=TS.mk [(1,one (cS a)),(2,TE.bp 2 0),(5,one (cI b))] [(2,[CE.snap [] none 1 c,CE.snap [] none 1 d,CE.snap [] none 2 e,CE.snap [] none 3 f,CE.snap [] none 4 g,cI h])] []
def JR (a:Int) (b c d e f:RR) (g:Int):TS:=TS.mk [(4,one (cI a))] [(2,[CE.snap [] none 1 b,CE.snap [] none 1 c,CE.snap [] none 2 d,CE.snap [] none 3 e,CE.snap [] none 4 f,cI g])] []
def JS (a:ByteArray) (b:Int) (c:Bool) (d e f g h:RR) (i:Int):TS:=TS.mk [(1,one (cS a)),(2,TE.bp 2 0),(5,one (cI b)),(10,one (cB c))] [(2,[CE.snap [] none 1 d,CE.snap [] none 1 e,CE.snap [] none 2 f,CE.snap [] none 3 g,CE.snap [] none 4 h,cI i])] []
def o5 (a:Int) (b c d e f:RR) (g:Int) (h:RR):TS:=TS.mk [(1,TE.bp 1 0),(4,one mj),(5,one (cI a))] [(1,[CE.snap [] none 1 b,CE.snap [] none 1 c,CE.snap [] none 2 d,CE.snap [] none 3 e,CE.snap [] none 4 f,cI g])] [(1,OB.mk true 5 h)]
def o6 (a b:Int) (c d e f g:RR) (h:Int) (i:RR):TS:=TS.mk [(1,TE.bp 1 0),(4,one mj),(5,one (cI a)),(6,one (cI b))] [(1,[CE.snap [] none 1 c,CE.snap [] none 1 d,CE.snap [] none 2 e,CE.snap [] none 3 f,CE.snap [] none 4 g,cI h])] [(1,OB.mk true 5 i)]
def Cm (a:Int) (b c d e f:RR) (g:Int) (h:RR):TS:=TS.mk [(1,TE.bp 1 0),(4,one mj),(5,one (cI a)),(15,one (cB (nv a 3)))] [(1,[CE.snap [] none 1 b,CE.snap [] none 1 c,CE.snap [] none 2 d,CE.snap [] none 3 e,CE.snap [] none 4 f,cI g])] [(1,OB.mk true 5 h)]
def Cn (a b:Int) (c d e f g:RR) (h:Int) (i:RR):TS:=TS.mk [(2,one (cI a)),(3,one (cI b))] [(1,[CE.snap [] none 1 c,CE.snap [] none 1 d,CE.snap [] none 2 e,CE.snap [] none 3 f,CE.snap [] none 4 g,cI h])] [(1,OB.mk true 5 i)]
def Co (a b:Int) (c:Bool) (d e f g h:RR) (i:Int) (j:RR):TS:=TS.mk [(1,TE.bp 1 0),(4,one mj),(5,one (cI a)),(6,one (cI b)),(21,one (cB c))] [(1,[CE.snap [] none 1 d,CE.snap [] none 1 e,CE.snap [] none 2 f,CE.snap [] none 3 g,CE.snap [] none 4 h,cI i])] [(1,OB.mk true 5 j)]
def o7 (a:Int) (b c d e f:RR) (g:Int):TS:=TS.mk [(1,TE.bp 1 0),(7,one (cI a))] [(1,[CE.snap [] none 1 b,CE.snap [] none 1 c,CE.snap [] none 2 d,CE.snap [] none 3 e,CE.snap [] none 4 f,cI g])] []
def Cp (a b:Int) (c d e f g:RR) (h:Int) (i:RR):TS:=TS.mk [(2,one (cI a)),(3,one (cI b))] [(1,[CE.snap [] none 1 c,CE.snap [] none 1 d,CE.snap [] none 2 e,CE.snap [] none 3 f,CE.snap [] none 4 g,cI h])] [(1,OB.mk true 5 i)]
def Cq (a:Int) (b c d e f:RR) (g:Int):TS:=TS.mk [(2,one (cI 4)),(3,one (cI a))] [(1,[CE.snap [] none 1 b,CE.snap [] none 1 c,CE.snap [] none 2 d,CE.snap [] none 3 e,CE.snap [] none 4 f,cI g])] []
def Cr (a:Int) (b:Bool) (c d e f g:RR) (h:Int):TS:=TS.mk [(1,TE.bp 1 0),(7,one (cI a)),(37,one (cB b))] [(1,[CE.snap [] none 1 c,CE.snap [] none 1 d,CE.snap [] none 2 e,CE.snap [] none 3 f,CE.snap [] none 4 g,cI h])] []
def iJ (a:RR) (b c d:Int) (e:RR):TS:=TS.mk [(0,one (CE.snap [] none 2 a)),(1,one (cI b)),(6,one (cI c)),(7,one mj),(8,one (cI d))] [] [(1,OB.mk true 2 e)]
def Gy (a:RR) (b c d:Int) (e:Bool) (f:RR):TS:=TS.mk [(0,one (CE.snap [] none 2 a)),(1,one (cI b)),(6,one (cI c)),(7,one mj),(8,one (cI d)),(27,one (cB e))] [] [(1,OB.mk true 2 f)]
def ql (a:RR) (b c:Int):TS:=TS.mk [(0,one (CE.snap [] none 1 a)),(1,one (cI b)),(5,one (cI c))] [] []
def Ep:TS:=TS.mk [(4,one Yd)] [] []
def Er (a:RR) (b c:Int) (d:Bool):TS:=TS.mk [(0,one (CE.snap [] none 1 a)),(1,one (cI b)),(5,one (cI c)),(15,one (cB d))] [] []
def vp (a:RR) (b:Int) (c:RR):TS:=TS.mk [(0,one (CE.snap [] none 1 a)),(3,one mj),(4,one (cI b))] [] [(1,OB.mk true 1 c)]
def Gz (a:RR) (b:Int) (c:Bool) (d:RR):TS:=TS.mk [(0,one (CE.snap [] none 1 a)),(3,one mj),(4,one (cI b)),(11,one (cB c))] [] [(1,OB.mk true 1 d)]
def sC (a:RR) (b c:Int):TS:=TS.mk [(0,one (CE.snap [] none 1 a)),(1,one (cI b)),(5,one (cI c))] [] []
def NY:TS:=TS.mk [(4,one Yd)] [] []
def Cs (a:RR) (b c:Int) (d:Bool):TS:=TS.mk [(0,one (CE.snap [] none 1 a)),(1,one (cI b)),(5,one (cI c)),(9,one (cB d))] [] []
def mM (a:Int) (b c:RR):TS:=TS.mk [(1,TE.bp 1 0),(3,one (cI a))] [(1,[CE.snap [] none 1 b,CE.snap [] none 1 c])] []
def ry (a b:RR):TS:=TS.mk [(2,TE.kb false)] [(1,[CE.snap [] none 1 a,CE.snap [] none 1 b])] []
def GA (a:Int) (b:Bool) (c d:RR):TS:=TS.mk [(1,TE.bp 1 0),(3,one (cI a)),(29,one (cB b))] [(1,[CE.snap [] none 1 c,CE.snap [] none 1 d])] []
def lu (a b:Int) (c d e f g:RR) (h:Int) (i:RR):TS:=TS.mk [(1,TE.bp 1 0),(3,one mj),(4,one (cI a)),(5,one (cI b))] [(1,[CE.snap [] none 1 c,CE.snap [] none 1 d,CE.snap [] none 2 e,CE.snap [] none 3 f,CE.snap [] none 4 g,cI h])] [(1,OB.mk true 5 i)]
def qm (a b c d e:RR) (f:Int) (g:RR):TS:=TS.mk [(2,TE.kb false)] [(1,[CE.snap [] none 1 a,CE.snap [] none 1 b,CE.snap [] none 2 c,CE.snap [] none 3 d,CE.snap [] none 4 e,cI f])] [(1,OB.mk true 5 g)]
def lz (a b c:Int) (d e f g h:RR) (i:Int) (j:RR):TS:=TS.mk [(1,TE.bp 1 0),(3,one mj),(4,one (cI (aA a 1))),(5,one (cI b)),(8,one (cI c))] [(1,[CE.snap [] none 1 d,CE.snap [] none 1 e,CE.snap [] none 2 f,CE.snap [] none 3 g,CE.snap [] none 4 h,cI i])] [(1,OB.mk true 5 j)]
def Es (a b:Int) (c:Bool) (d e f g h:RR) (i:Int) (j:RR):TS:=TS.mk [(1,TE.bp 1 0),(3,one mj),(4,one (cI a)),(5,one (cI b)),(15,one (cB c))] [(1,[CE.snap [] none 1 d,CE.snap [] none 1 e,CE.snap [] none 2 f,CE.snap [] none 3 g,CE.snap [] none 4 h,cI i])] [(1,OB.mk true 5 j)]
def Et (a b c d e:RR) (f:Int) (g:RR):TS:=TS.mk [(2,TE.kb false)] [(1,[CE.snap [] none 1 a,CE.snap [] none 1 b,CE.snap [] none 2 c,CE.snap [] none 3 d,CE.snap [] none 4 e,cI f])] [(1,OB.mk true 5 g)]
def Eu (c a b:Int) (d e f g h:RR) (i:Int) (j:RR):TS:=TS.mk [(1,TE.bp 1 0),(3,one mj),(4,one (cI (aA c 1))),(5,one (cI a)),(8,one (cI b)),(55,one (cB (bG b a)))] [(1,[CE.snap [] none 1 d,CE.snap [] none 1 e,CE.snap [] none 2 f,CE.snap [] none 3 g,CE.snap [] none 4 h,cI i])] [(1,OB.mk true 5 j)]
def jC (a:RR) (b:Int):TS:=TS.mk [(0,one (CE.snap [] none 2 a)),(5,one (CE.snap [] none 2 a)),(6,one (cI (Int.ofNat (List.length a)))),(7,one (cI b))] [] []
def rz (a b:Int):TS:=TS.mk [(2,TE.kb false)] [(4,[cI a,cI b])] []
def GB (a:RR) (b c:Int) (d:Bool):TS:=TS.mk [(0,one (CE.snap [] none 2 a)),(5,one (CE.snap [] none 2 a)),(6,one (cI b)),(7,one (cI c)),(8,one (cB d))] [] []
def sD (a b:RR):TS:=TS.mk [(2,TE.bp 2 0),(3,TE.bp 3 0),(11,one (CE.snap [] none 1 a)),(12,one (cI (Int.ofNat (List.length a)))),(13,one (cI 0))] [(2,[CE.nil 1,CE.nil 1]),(3,[CE.ref 1 none,CE.nil 1])] [(1,OB.mk true 1 b)]
def o8 (a:RR) (b:Int) (c d:RR):TS:=TS.mk [(2,TE.bp 2 0),(3,TE.bp 3 0),(11,one (CE.snap [] none 1 a)),(12,one (cI (Int.ofNat (List.length a)))),(13,one (cI b))] [(2,[CE.nil 1,CE.nil 1]),(3,[CE.ref 1 none,CE.ref 2 none])] [(1,OB.mk true 1 c),(2,OB.mk true 1 d)]
def Ct (a:RR) (b:Int) (c:Bool) (d:RR):TS:=TS.mk [(2,TE.bp 2 0),(3,TE.bp 3 0),(11,one (CE.snap [] none 1 a)),(12,one (cI b)),(13,one (cI 0)),(14,one (cB c))] [(2,[CE.nil 1,CE.nil 1]),(3,[CE.ref 1 none,CE.nil 1])] [(1,OB.mk true 1 d)]
def Cu (a:RR) (b c:Int) (d:Bool) (e f:RR):TS:=TS.mk [(2,TE.bp 2 0),(3,TE.bp 3 0),(11,one (CE.snap [] none 1 a)),(12,one (cI b)),(13,one (cI c)),(14,one (cB d))] [(2,[CE.nil 1,CE.nil 1]),(3,[CE.ref 1 none,CE.ref 2 none])] [(1,OB.mk true 1 e),(2,OB.mk true 1 f)]
def rA (a:RR) (b c d:Int):TS:=TS.mk [(0,one (CE.snap [] none 2 a)),(1,one (cI b)),(2,one (cI c)),(8,one (cI d))] [] []
def GC (a:RR) (b c d:Int) (e:Bool):TS:=TS.mk [(0,one (CE.snap [] none 2 a)),(1,one (cI b)),(2,one (cI c)),(8,one (cI d)),(22,one (cB e))] [] []
def GD (a:RR) (b c d:Int):TS:=TS.mk [(0,one (CE.snap [] none 2 a)),(1,one (cI b)),(2,one (cI c)),(8,one (cI d)),(22,TE.kb false)] [] []
def nu (a b c d:Int) (e f:RR):TS:=TS.mk [(1,one (cI a)),(2,one (cI b)),(3,TE.bp 3 0),(7,one (cI c)),(8,one (cI d))] [(3,[CE.snap [] none 1 e,CE.snap [] none 1 f])] []
def Ew (a b c d:Int) (e:Bool) (f g:RR):TS:=TS.mk [(1,one (cI a)),(2,one (cI b)),(3,TE.bp 3 0),(7,one (cI c)),(8,one (cI d)),(13,one (cB e))] [(3,[CE.snap [] none 1 f,CE.snap [] none 1 g])] []
def iK (a:RR) (b:Bool) (c d e f g h:Int) (i:RR):TS:=TS.mk [(0,one (CE.snap [] none 5 a)),(3,TE.bp 3 0),(5,one mj),(6,one (cB b)),(7,one (cI c))] [(3,[cI d,cI e,cI f,cI g,cI h])] [(1,OB.mk true 5 i)]
def GF (a:RR) (b:Bool) (c:Int) (d:Bool) (e f g h i:Int) (j:RR):TS:=TS.mk [(0,one (CE.snap [] none 5 a)),(3,TE.bp 3 0),(5,one mj),(6,one (cB b)),(7,one (cI c)),(12,one (cB d))] [(3,[cI e,cI f,cI g,cI h,cI i])] [(1,OB.mk true 5 j)]
def y8 (a:Int) (b c:RR):TS:=TS.mk [(1,TE.bp 1 0),(2,TE.bp 2 0),(3,one (cI a))] [(1,[CE.snap [] none 1 b,CE.snap [] none 1 c]),(2,[CE.nil 1,CE.nil 1])] []
def rB (a:Int) (b c:RR):TS:=TS.mk [(1,TE.bp 1 0),(2,TE.bp 2 0),(3,one (cI a))] [(1,[CE.ref 1 none,CE.ref 2 none]),(2,[CE.nil 1,CE.nil 1])] [(1,OB.mk true 1 b),(2,OB.mk false 1 c)]
def GG (a:Int) (b:Bool) (c d:RR):TS:=TS.mk [(1,TE.bp 1 0),(2,TE.bp 2 0),(3,one (cI a)),(9,one (cB b))] [(1,[CE.snap [] none 1 c,CE.snap [] none 1 d]),(2,[CE.nil 1,CE.nil 1])] []
def GH (a:Int) (b:Bool) (c d:RR):TS:=TS.mk [(1,TE.bp 1 0),(2,TE.bp 2 0),(3,one (cI a)),(9,one (cB b))] [(1,[CE.ref 1 none,CE.ref 2 none]),(2,[CE.nil 1,CE.nil 1])] [(1,OB.mk true 1 c),(2,OB.mk false 1 d)]
def oc (a b:Int) (c d e f g:RR) (h:Int) (i:RR):TS:=TS.mk [(1,one (cI a)),(2,TE.bp 2 0),(5,one mj),(6,one (cI b))] [(2,[CE.snap [] none 1 c,CE.snap [] none 1 d,CE.snap [] none 2 e,CE.snap [] none 3 f,CE.snap [] none 4 g,cI h])] [(1,OB.mk true 5 i)]
def GI (a b c d e:RR) (f:Int) (g:RR):TS:=TS.mk [(4,TE.kb false)] [(2,[CE.snap [] none 1 a,CE.snap [] none 1 b,CE.snap [] none 2 c,CE.snap [] none 3 d,CE.snap [] none 4 e,cI f])] [(1,OB.mk true 5 g)]
def GJ (a b:Int) (c:Bool) (d e f g h:RR) (i:Int) (j:RR):TS:=TS.mk [(1,one (cI a)),(2,TE.bp 2 0),(5,one mj),(6,one (cI b)),(13,one (cB c))] [(2,[CE.snap [] none 1 d,CE.snap [] none 1 e,CE.snap [] none 2 f,CE.snap [] none 3 g,CE.snap [] none 4 h,cI i])] [(1,OB.mk true 5 j)]
def oe (a:RR) (b c:Int) (d:RR) (e:Int) (f:RR):TS:=TS.mk [(0,one (CE.snap [] none 2 a)),(1,one (cI b)),(6,one (cI c)),(7,one mj),(23,one (cI (Int.ofNat (List.length d)))),(24,one (cI e))] [] [(1,OB.mk true 2 f)]
def GK (a:RR) (b c d e:Int) (f:Bool) (g:RR):TS:=TS.mk [(0,one (CE.snap [] none 2 a)),(1,one (cI b)),(6,one (cI c)),(7,one mj),(23,one (cI d)),(24,one (cI e)),(25,one (cB f))] [] [(1,OB.mk true 2 g)]
def mE (a:Int) (b:RR) (c d:Int) (e f:RR):TS:=TS.mk [(1,one (cI a)),(2,TE.bp 2 0),(15,one (CE.snap [] none 1 b)),(16,one (cI c)),(17,one (cI d))] [(2,[CE.snap [] none 1 e,CE.snap [] none 1 f])] []
def kz (b:Int) (c:RR) (d e:Int) (a:RR) (f:Int) (g h:RR):TS:=TS.mk [(1,one (cI b)),(2,TE.bp 2 0),(15,one (CE.snap [] none 1 c)),(16,one (cI d)),(17,one (cI e)),(21,one (CE.snap [] none 5 a)),(22,one (cI (Int.ofNat (List.length a)))),(23,one (cI f))] [(2,[CE.snap [] none 1 g,CE.snap [] none 1 h])] []
def Cv (a:Int) (b:RR) (c d:Int) (e:Bool) (f g:RR):TS:=TS.mk [(1,one (cI a)),(2,TE.bp 2 0),(15,one (CE.snap [] none 1 b)),(16,one (cI c)),(17,one (cI d)),(18,one (cB e))] [(2,[CE.snap [] none 1 f,CE.snap [] none 1 g])] []
def sE (a b:RR) (c d e f g:Int):TS:=TS.mk [(4,TE.kb false)] [(2,[CE.snap [] none 1 a,CE.snap [] none 1 b]),(8,[cI c,cI d,cI e,cI f,cI g])] []
def Cw (a:Int) (b:RR) (c d:Int) (e:RR) (f g:Int) (h:Bool) (i j:RR):TS:=TS.mk [(1,one (cI a)),(2,TE.bp 2 0),(15,one (CE.snap [] none 1 b)),(16,one (cI c)),(17,one (cI d)),(21,one (CE.snap [] none 5 e)),(22,one (cI f)),(23,one (cI g)),(24,one (cB h))] [(2,[CE.snap [] none 1 i,CE.snap [] none 1 j])] []
def Cx (a b:RR) (c d e f g:Int):TS:=TS.mk [(4,TE.kb false)] [(2,[CE.snap [] none 1 a,CE.snap [] none 1 b]),(8,[cI c,cI d,cI e,cI f,cI g])] []
def rU (a:RR) (b:Int) (c:RR):TS:=TS.mk [(3,one mj),(7,one (CE.snap [] none 5 a)),(8,one (cI (Int.ofNat (List.length a)))),(9,one (cI b))] [] [(1,OB.mk true 5 c)]
def Lh (a:RR) (b c:Int) (d:Bool) (e:RR):TS:=TS.mk [(3,one mj),(7,one (CE.snap [] none 5 a)),(8,one (cI b)),(9,one (cI c)),(10,one (cB d))] [] [(1,OB.mk true 5 e)]
def rC (a b c:Int) (d:RR):TS:=TS.mk [(1,one (cI a)),(2,one (cI b)),(3,TE.bp 3 0),(6,TE.bp 6 0),(8,one (cI c))] [(3,[CE.snap [] none 1 d]),(6,[cI 0,cI 0,cI 0,cI 0,cI 0])] []
def vq (a:Bool) (b:RR) (c d e f g h i j k l:Int):TS:=TS.mk [(6,TE.bp 6 0),(7,TE.kb a)] [(3,[CE.snap [] none 1 b]),(6,[cI c,cI d,cI e,cI f,cI g]),(9,[cI h,cI i,cI j,cI k,cI l])] []
def GL (a b c:Int) (d:Bool) (e:RR):TS:=TS.mk [(1,one (cI a)),(2,one (cI b)),(3,TE.bp 3 0),(6,TE.bp 6 0),(8,one (cI c)),(16,one (cB d))] [(3,[CE.snap [] none 1 e]),(6,[cI 0,cI 0,cI 0,cI 0,cI 0])] []
def vr (a:RR) (b c:Int) (d:RR):TS:=TS.mk [(0,one (CE.snap [] none 2 a)),(1,one (cI b)),(5,one mj),(10,one (cI (aA (Int.ofNat (List.length a)) 1))),(11,one (cI c))] [] [(1,OB.mk true 1 d)]
def GM (a:RR) (b c d e:Int) (f:Bool) (g:RR):TS:=TS.mk [(0,one (CE.snap [] none 2 a)),(1,one (cI b)),(5,one mj),(6,one (cI c)),(10,one (cI d)),(11,one (cI e)),(17,one (cB f))] [] [(1,OB.mk true 1 g)]
def GN (a:RR) (b c d:Int) (e:Bool) (f:RR):TS:=TS.mk [(0,one (CE.snap [] none 2 a)),(1,one (cI b)),(5,one mj),(10,one (cI c)),(11,one (cI d)),(12,one (cB e))] [] [(1,OB.mk true 1 f)]
def jK (a:RR) (b:Int) (c d e f:RR) (g h i j k l:Int):TS:=TS.mk [(2,TE.bp 2 0),(3,TE.bp 3 0),(8,one (CE.snap [] none 4 a)),(9,one (cI (Int.ofNat (List.length a)))),(10,one (cI b))] [(2,[CE.snap [] none 1 c,CE.snap [] none 1 d,CE.snap [] none 2 e,CE.snap [] none 3 f,CE.snap [] none 4 a,cI g]),(3,[cI h,cI i,cI j,cI k,cI l])] []
def AS (a b c d e:RR) (f g h i j k:Int) (l:ByteArray) (m n:Int) (o:Bool):TS:=TS.mk [(4,TE.kb true)] [(2,[CE.snap [] none 1 a,CE.snap [] none 1 b,CE.snap [] none 2 c,CE.snap [] none 3 d,CE.snap [] none 4 e,cI f]),(3,[cI g,cI h,cI i,cI j,cI k]),(6,[cS l,cI m,cI n,cB o])] []
def AT (a:RR) (b c:Int) (d:Bool) (e f g h:RR) (i j k l m n:Int):TS:=TS.mk [(2,TE.bp 2 0),(3,TE.bp 3 0),(8,one (CE.snap [] none 4 a)),(9,one (cI b)),(10,one (cI c)),(11,one (cB d))] [(2,[CE.snap [] none 1 e,CE.snap [] none 1 f,CE.snap [] none 2 g,CE.snap [] none 3 h,CE.snap [] none 4 a,cI i]),(3,[cI j,cI k,cI l,cI m,cI n])] []
def uc (a:RR) (b:Int) (c:RR):TS:=TS.mk [(0,one (CE.snap [] none 1 a)),(3,one mj),(4,one (cI b))] [] [(1,OB.mk true 1 c)]
def Ex (a:RR) (b:Int) (c:Bool) (d:RR):TS:=TS.mk [(0,one (CE.snap [] none 1 a)),(3,one mj),(4,one (cI b)),(11,one (cB c))] [] [(1,OB.mk true 1 d)]
def og (b:Int) (a:RR) (c:Int) (d:RR):TS:=TS.mk [(1,one (cI b)),(5,one mj),(10,one Sl),(11,one (cI (Int.ofNat (List.length a)))),(12,one (cI c))] [] [(1,OB.mk true 5 d),(2,OB.mk true 5 a)]
def GO (a b c:Int) (d:Bool) (e f:RR):TS:=TS.mk [(1,one (cI a)),(5,one mj),(10,one Sl),(11,one (cI b)),(12,one (cI c)),(13,one (cB d))] [] [(1,OB.mk true 5 e),(2,OB.mk true 5 f)]
def ud (a:RR) (b:Int):TS:=TS.mk [(0,one (CE.snap [] none 5 a)),(3,one (cI b))] [] []
def Ey:TS:=TS.mk [(2,TE.kb false)] [] []
def Ez (a:RR) (b:Int) (c:Bool):TS:=TS.mk [(0,one (CE.snap [] none 5 a)),(3,one (cI b)),(7,one (cB c))] [] []
def vt (a:RR) (b:Int) (c:RR):TS:=TS.mk [(0,one (CE.snap [] none 2 a)),(3,one mj),(4,one (cI b))] [] [(1,OB.mk true 2 c)]
def GP (a:RR) (b:Int) (c:Bool) (d:RR):TS:=TS.mk [(0,one (CE.snap [] none 2 a)),(3,one mj),(4,one (cI b)),(11,one (cB c))] [] [(1,OB.mk true 2 d)]
def oh (a b:Int) (c:RR):TS:=TS.mk [(1,one (cI a)),(4,TE.bp 4 0),(5,one mj),(6,one (cI b))] [(4,[cI 0,cI 0,cI 0,cI 0,cI 0])] [(1,OB.mk true 5 c)]
def GQ (a b c d e:Int) (f:RR):TS:=TS.mk [(4,TE.bp 4 0)] [(4,[cI a,cI b,cI c,cI d,cI e])] [(1,OB.mk true 5 f)]
def GR (a b:Int) (c:Bool) (d:RR):TS:=TS.mk [(1,one (cI a)),(4,TE.bp 4 0),(5,one mj),(6,one (cI b)),(13,one (cB c))] [(4,[cI 0,cI 0,cI 0,cI 0,cI 0])] [(1,OB.mk true 5 d)]
def rD (a:RR) (b:Int):TS:=TS.mk [(5,one (CE.snap [] none 3 a)),(6,one (cI (Int.ofNat (List.length a)))),(7,one (cI b))] [] []
def GS (a b:Int) (c:Bool) (d:Int):TS:=TS.mk [(2,one (cI a))] [(4,[cI b,cB c,cI d])] []
def GU (a:RR) (b c:Int) (d:Bool):TS:=TS.mk [(5,one (CE.snap [] none 3 a)),(6,one (cI b)),(7,one (cI c)),(8,one (cB d))] [] []
def o9 (a:Int) (b c d:RR):TS:=TS.mk [(1,TE.bp 1 0),(3,one mj),(4,one (cI a))] [(1,[CE.snap [] none 1 b,CE.snap [] none 1 c])] [(1,OB.mk true 5 d)]
def Cy (a:Int) (b:Bool) (c d e:RR):TS:=TS.mk [(1,TE.bp 1 0),(3,one mj),(4,one (cI a)),(10,one (cB b))] [(1,[CE.snap [] none 1 c,CE.snap [] none 1 d])] [(1,OB.mk true 5 e)]
def pz (a:Int) (b c d e f:RR) (g:Int) (h:RR):TS:=TS.mk [(1,TE.bp 1 0),(4,one mj),(17,one Sl),(18,one (cI 3)),(19,one (cI a))] [(1,[CE.snap [] none 1 b,CE.snap [] none 1 c,CE.snap [] none 2 d,CE.snap [] none 3 e,CE.snap [] none 4 f,cI g])] [(1,OB.mk true 5 h),(2,OB.mk true 1 [[iI 1],[iI 2],[iI 3]])]
def pE (b c:Int) (a:RR) (d:Int) (e f g h i:RR) (j:Int):TS:=TS.mk [(1,TE.bp 1 0),(4,one mj),(6,one (cI b)),(17,one Sl),(18,one (cI 3)),(19,one (cI c)),(23,one mj),(24,one (cI (Int.ofNat (List.length a)))),(25,one (cI d))] [(1,[CE.snap [] none 1 e,CE.snap [] none 1 f,CE.snap [] none 2 g,CE.snap [] none 3 h,CE.snap [] none 4 i,cI j])] [(1,OB.mk true 5 a),(2,OB.mk true 1 [[iI 1],[iI 2],[iI 3]])]
def Cz (a:Int) (b c d e f:RR) (g:Int) (h:RR):TS:=TS.mk [(1,TE.bp 1 0),(4,one mj),(17,one Sl),(18,one (cI 3)),(19,one (cI a)),(20,one (cB (bG a 3)))] [(1,[CE.snap [] none 1 b,CE.snap [] none 1 c,CE.snap [] none 2 d,CE.snap [] none 3 e,CE.snap [] none 4 f,cI g])] [(1,OB.mk true 5 h),(2,OB.mk true 1 [[iI 1],[iI 2],[iI 3]])]
def CA (a b:Int) (c d e f g:RR) (h i j k l m:Int) (n:RR):TS:=TS.mk [(2,one (cI a)),(3,one (cI b))] [(1,[CE.snap [] none 1 c,CE.snap [] none 1 d,CE.snap [] none 2 e,CE.snap [] none 3 f,CE.snap [] none 4 g,cI h]),(8,[cI i,cI j,cI k,cI l,cI m])] [(1,OB.mk true 5 n),(2,OB.mk true 1 [[iI 1],[iI 2],[iI 3]])]
def CB (a b c d:Int) (e:Bool) (f g h i j:RR) (k:Int) (l:RR):TS:=TS.mk [(1,TE.bp 1 0),(4,one mj),(6,one (cI a)),(17,one Sl),(18,one (cI 3)),(19,one (cI b)),(23,one mj),(24,one (cI c)),(25,one (cI d)),(26,one (cB e))] [(1,[CE.snap [] none 1 f,CE.snap [] none 1 g,CE.snap [] none 2 h,CE.snap [] none 3 i,CE.snap [] none 4 j,cI k])] [(1,OB.mk true 5 l),(2,OB.mk true 1 [[iI 1],[iI 2],[iI 3]])]
def jj (a:RR) (b:Int) (c d e f:RR) (g:Int) (h:RR):TS:=TS.mk [(1,TE.bp 1 0),(4,one mj),(39,one (CE.snap [] none 2 a)),(40,one (cI (Int.ofNat (List.length a)))),(41,one (cI b))] [(1,[CE.snap [] none 1 c,CE.snap [] none 1 d,CE.snap [] none 2 a,CE.snap [] none 3 e,CE.snap [] none 4 f,cI g])] [(1,OB.mk true 5 h)]
def CC (a b:Int) (c d e f g:RR) (h i j k l m:Int) (n:RR):TS:=TS.mk [(2,one (cI a)),(3,one (cI b))] [(1,[CE.snap [] none 1 c,CE.snap [] none 1 d,CE.snap [] none 2 e,CE.snap [] none 3 f,CE.snap [] none 4 g,cI h]),(8,[cI i,cI j,cI k,cI l,cI m])] [(1,OB.mk true 5 n),(2,OB.mk true 1 [[iI 1],[iI 2],[iI 3]])]
def xm (a:Int) (b c d e f:RR) (g h i:Int) (j k:RR):TS:=TS.mk [(2,one (cI 4)),(3,one (cI a))] [(1,[CE.snap [] none 1 b,CE.snap [] none 1 c,CE.snap [] none 2 d,CE.snap [] none 3 e,CE.snap [] none 4 f,cI g]),(10,[cI h,cI i])] [(1,OB.mk true 5 j),(23000,OB.mk true 1 k)]
def CD (a:RR) (b c:Int) (d:Bool) (e f g h:RR) (i:Int) (j:RR):TS:=TS.mk [(1,TE.bp 1 0),(4,one mj),(39,one (CE.snap [] none 2 a)),(40,one (cI b)),(41,one (cI c)),(42,one (cB d))] [(1,[CE.snap [] none 1 e,CE.snap [] none 1 f,CE.snap [] none 2 a,CE.snap [] none 3 g,CE.snap [] none 4 h,cI i])] [(1,OB.mk true 5 j)]
def ue (a:RR) (b:Int) (c:RR):TS:=TS.mk [(0,one (CE.snap [] none 1 a)),(3,one mj),(4,one (cI b))] [] [(1,OB.mk true 1 c)]
def EA (a:RR) (b:Int) (c:Bool) (d:RR):TS:=TS.mk [(0,one (CE.snap [] none 1 a)),(3,one mj),(4,one (cI b)),(11,one (cB c))] [] [(1,OB.mk true 1 d)]
def vu (a b:RR) (c:Int):TS:=TS.mk [(0,one (CE.snap [] none 1 a)),(1,one (CE.snap [] none 1 b)),(5,one (cI c))] [] []
def So:TS:=TS.mk [(4,TE.kb false)] [] []
def GV (a b:RR) (c:Int) (d:Bool):TS:=TS.mk [(0,one (CE.snap [] none 1 a)),(1,one (CE.snap [] none 1 b)),(5,one (cI c)),(14,one (cB d))] [] []
def qN (a:RR) (b c:Int):TS:=TS.mk [(0,one (CE.snap [] none 1 a)),(1,one (cI b)),(5,one (cI c))] [] []
def Mn:TS:=TS.mk [(4,one Yd)] [] []
def AU (a:RR) (b c:Int) (d:Bool):TS:=TS.mk [(0,one (CE.snap [] none 1 a)),(1,one (cI b)),(5,one (cI c)),(9,one (cB d))] [] []
def jD (a:RR) (b:Int):TS:=TS.mk [(0,one (CE.snap [] none 2 a)),(3,one (cI b))] [] []
def rE:TS:=TS.mk [(2,TE.kb false)] [] []
def GW (a:RR) (b:Int) (c:Bool):TS:=TS.mk [(0,one (CE.snap [] none 2 a)),(3,one (cI b)),(7,one (cB c))] [] []
def lA (a:RR) (b:Int):TS:=TS.mk [(0,one (CE.snap [] none 3 a)),(5,one (CE.snap [] none 3 a)),(6,one (cI (Int.ofNat (List.length a)))),(7,one (cI b))] [] []
def uf (a:Int) (b:Bool) (c:Int):TS:=TS.mk [(2,TE.kb false)] [(4,[cI a,cB b,cI c])] []
def EB (a:RR) (b c:Int) (d:Bool):TS:=TS.mk [(0,one (CE.snap [] none 3 a)),(5,one (CE.snap [] none 3 a)),(6,one (cI b)),(7,one (cI c)),(8,one (cB d))] [] []
def jL (b:Bool) (a:RR) (c:Int) (d:ByteArray) (e f:Int) (g:Bool) (h:RR):TS:=TS.mk [(3,TE.bp 3 0),(5,one mj),(6,one (cB b)),(10,one (CE.snap [] none 4 a)),(11,one (cI (Int.ofNat (List.length a)))),(12,one (cI c))] [(3,[cS d,cI e,cI f,cB g])] [(1,OB.mk true 4 h)]
def AV (a:Bool) (b:RR) (c d:Int) (e:Bool) (f:ByteArray) (g h:Int) (i:Bool) (j:RR):TS:=TS.mk [(3,TE.bp 3 0),(5,one mj),(6,one (cB a)),(10,one (CE.snap [] none 4 b)),(11,one (cI c)),(12,one (cI d)),(13,one (cB e))] [(3,[cS f,cI g,cI h,cB i])] [(1,OB.mk true 4 j)]
def pF (a:Int) (b c:RR):TS:=TS.mk [(1,TE.bp 1 0),(3,one mj),(4,one (cI a))] [(1,[CE.snap [] none 1 b])] [(1,OB.mk true 5 c)]
def CF (a:Int) (b:Bool) (c d:RR):TS:=TS.mk [(1,TE.bp 1 0),(3,one mj),(4,one (cI a)),(10,one (cB b))] [(1,[CE.snap [] none 1 c])] [(1,OB.mk true 5 d)]
def pG (a:RR) (b:Int) (c:RR):TS:=TS.mk [(3,one mj),(8,one (CE.snap [] none 1 a)),(9,one (cI (Int.ofNat (List.length a)))),(10,one (cI b))] [] [(1,OB.mk true 5 c)]
def CG (a:RR) (b c:Int) (d:Bool) (e:RR):TS:=TS.mk [(3,one mj),(8,one (CE.snap [] none 1 a)),(9,one (cI b)),(10,one (cI c)),(11,one (cB d))] [] [(1,OB.mk true 5 e)]
def mN (a:Int) (b c:RR):TS:=TS.mk [(1,TE.bp 1 0),(2,TE.bp 2 0),(3,one (cI a))] [(1,[CE.ref 1 none,CE.ref 2 none]),(2,[CE.nil 1,CE.nil 1])] [(1,OB.mk true 1 b),(2,OB.mk true 1 c)]
def GX (a:Int) (b:Bool) (c d:RR):TS:=TS.mk [(1,TE.bp 1 0),(2,TE.bp 2 0),(3,one (cI a)),(10,one (cB b))] [(1,[CE.ref 1 none,CE.ref 2 none]),(2,[CE.nil 1,CE.nil 1])] [(1,OB.mk true 1 c),(2,OB.mk true 1 d)]
def mO (a:RR) (b c:Int) (d:RR):TS:=TS.mk [(0,one (CE.snap [] none 2 a)),(1,one (cI b)),(5,one mj),(6,one (cI c))] [] [(1,OB.mk true 1 d)]
def GY (a:RR) (b c:Int) (d:Bool) (e:RR):TS:=TS.mk [(0,one (CE.snap [] none 2 a)),(1,one (cI b)),(5,one mj),(6,one (cI c)),(11,one (cB d))] [] [(1,OB.mk true 1 e)]
def qO (a b:Int) (c:RR):TS:=TS.mk [(0,one mj),(1,one (cI a)),(5,one (cI b))] [] [(1,OB.mk true 1 c)]
def AW (a b:Int) (c:Bool) (d:RR):TS:=TS.mk [(0,one mj),(1,one (cI a)),(5,one (cI b)),(9,one (cB c))] [] [(1,OB.mk true 1 d)]
def lB (a:RR) (b c:Int):TS:=TS.mk [(0,one (CE.snap [] none 3 a)),(3,one (cI b)),(4,one (cI c))] [] []
def AX (a:RR) (b c:Int) (d:Bool):TS:=TS.mk [(0,one (CE.snap [] none 3 a)),(3,one (cI b)),(4,one (cI c)),(8,one (cB d))] [] []
def lC (b:Int) (a:RR) (c:Int):TS:=TS.mk [(3,one (cI b)),(6,one (CE.snap [] none 3 a)),(7,one (cI (Int.ofNat (List.length a)))),(8,one (cI c))] [] []
def AY (a:Int) (b:RR) (c d:Int) (e:Bool):TS:=TS.mk [(3,one (cI a)),(6,one (CE.snap [] none 3 b)),(7,one (cI c)),(8,one (cI d)),(9,one (cB e))] [] []
def qn (a:RR) (b c d:Int):TS:=TS.mk [(0,one (CE.snap [] none 5 a)),(1,one (cI b)),(2,one (cI c)),(6,TE.bp 6 0),(8,one (cI d))] [(6,[cI 0,cI 0,cI 0,cI 0,cI 0])] []
def JT (a b c d e:Int):TS:=TS.mk [(6,TE.bp 6 0),(7,TE.kb true)] [(6,[cI a,cI b,cI c,cI d,cI e])] []
def JU (a:RR) (b c d:Int) (e:Bool):TS:=TS.mk [(0,one (CE.snap [] none 5 a)),(1,one (cI b)),(2,one (cI c)),(6,TE.bp 6 0),(8,one (cI d)),(12,one (cB e))] [(6,[cI 0,cI 0,cI 0,cI 0,cI 0])] []
def nP (a:RR) (b:Int) (c:RR):TS:=TS.mk [(1,one (CE.snap [] none 5 a)),(5,one mj),(6,one (cI b))] [] [(1,OB.mk true 5 c)]
def AZ (a:RR) (b:Int) (c:Bool) (d:RR):TS:=TS.mk [(1,one (CE.snap [] none 5 a)),(5,one mj),(6,one (cI b)),(13,one (cB c))] [] [(1,OB.mk true 5 d)]
def qo (b c:Int) (a:RR) (d:Int):TS:=TS.mk [(1,one (cI b)),(2,one (cI c)),(6,TE.bp 6 0),(10,one (CE.snap [] none 5 a)),(11,one (cI (Int.ofNat (List.length a)))),(12,one (cI d))] [(6,[cI 0,cI 0,cI 0,cI 0,cI 0])] []
def JV (a b c d e:Int):TS:=TS.mk [(6,TE.bp 6 0),(7,TE.kb true)] [(6,[cI a,cI b,cI c,cI d,cI e]),(9,[cI a,cI b,cI c,cI d,cI e])] []
def JW (a b:Int) (c:RR) (d e:Int) (f:Bool):TS:=TS.mk [(1,one (cI a)),(2,one (cI b)),(6,TE.bp 6 0),(10,one (CE.snap [] none 5 c)),(11,one (cI d)),(12,one (cI e)),(13,one (cB f))] [(6,[cI 0,cI 0,cI 0,cI 0,cI 0])] []
def vv (a b c:Int) (d:RR):TS:=TS.mk [(1,one (cI a)),(2,one (cI b)),(3,TE.bp 3 0),(6,TE.bp 6 0),(8,one (cI c))] [(3,[CE.snap [] none 1 d]),(6,[cI 0,cI 0,cI 0,cI 0,cI 0])] []
def GZ (a:Bool) (b:RR) (c d e f g:Int):TS:=TS.mk [(6,TE.bp 6 0),(9,TE.bp 9 0),(34,one (cB a))] [(3,[CE.snap [] none 1 b]),(6,[cI 0,cI 0,cI 0,cI 0,cI 0]),(9,[cI c,cI d,cI e,cI f,cI g])] []
def G0 (f:RR) (a b c d e:Int):TS:=TS.mk [(6,TE.bp 6 0),(7,TE.kb true)] [(3,[CE.snap [] none 1 f]),(6,[cI a,cI b,cI c,cI d,cI e]),(9,[cI a,cI b,cI c,cI d,cI e])] []
def G1 (a b c:Int) (d:Bool) (e:RR):TS:=TS.mk [(1,one (cI a)),(2,one (cI b)),(3,TE.bp 3 0),(6,TE.bp 6 0),(8,one (cI c)),(16,one (cB d))] [(3,[CE.snap [] none 1 e]),(6,[cI 0,cI 0,cI 0,cI 0,cI 0])] []
def kQ (b:RR) (c:Bool) (a:RR) (d e f g h i:Int):TS:=TS.mk [(2,one (CE.snap [] none 1 b)),(6,TE.bp 6 0),(8,TE.bp 8 0),(9,one (cB c)),(15,one mj),(16,one (cI (Int.ofNat (List.length a)))),(17,one (cI d))] [(6,[cI 0,cI 0,cI 0,cI 0,cI 0]),(8,[cI e,cI f,cI g,cI h,cI i])] [(1,OB.mk true 5 a)]
def G2 (a:RR) (b:Bool) (c d:Int) (e:Bool) (f g h i j:Int) (k:RR):TS:=TS.mk [(2,one (CE.snap [] none 1 a)),(6,TE.bp 6 0),(8,TE.bp 8 0),(9,one (cB b)),(15,one mj),(16,one (cI c)),(17,one (cI d)),(18,one (cB e))] [(6,[cI 0,cI 0,cI 0,cI 0,cI 0]),(8,[cI f,cI g,cI h,cI i,cI j])] [(1,OB.mk true 5 k)]
def ug (a b:RR) (c:Int):TS:=TS.mk [(0,one (CE.snap [] none 1 a)),(1,one (CE.snap [] none 1 b)),(5,one (cI c))] [] []
def P5:TS:=TS.mk [(4,TE.kb false)] [] []
def EC (a b:RR) (c:Int) (d:Bool):TS:=TS.mk [(0,one (CE.snap [] none 1 a)),(1,one (CE.snap [] none 1 b)),(5,one (cI c)),(14,one (cB d))] [] []
def nQ (a:RR) (b:Int):TS:=TS.mk [(0,one (CE.snap [] none 5 a)),(5,one (CE.snap [] none 5 a)),(6,one (cI (Int.ofNat (List.length a)))),(7,one (cI b))] [] []
def A4 (a b c d e:Int):TS:=TS.mk [(2,TE.kb false)] [(4,[cI a,cI b,cI c,cI d,cI e])] []
def JX (a:RR) (b c:Int) (d:Bool):TS:=TS.mk [(0,one (CE.snap [] none 5 a)),(5,one (CE.snap [] none 5 a)),(6,one (cI b)),(7,one (cI c)),(8,one (cB d))] [] []
def vw (a:RR) (b:Int) (c:RR):TS:=TS.mk [(0,one (CE.snap [] none 5 a)),(3,one mj),(4,one (cI b))] [] [(1,OB.mk true 5 c)]
def G3 (a:RR) (b:Int) (c:Bool) (d:RR):TS:=TS.mk [(0,one (CE.snap [] none 5 a)),(3,one mj),(4,one (cI b)),(11,one (cB c))] [] [(1,OB.mk true 5 d)]
def lY (a:RR) (b c:Int):TS:=TS.mk [(0,one (CE.snap [] none 1 a)),(1,one (cI b)),(7,one (cI (Int.ofNat (List.length a)))),(8,one (cI c))] [] []
def yF (a:Int):TS:=TS.mk [(4,one (cI a))] [] []
def yG (a:RR) (b c d:Int) (e:Bool):TS:=TS.mk [(0,one (CE.snap [] none 1 a)),(1,one (cI b)),(7,one (cI c)),(8,one (cI d)),(9,one (cB e))] [] []
def eH (a:RR) (b c:Int):TS:=TS.mk [(0,one (CE.snap [] none 2 a)),(1,TE.fn 241 [201001]),(7,one (cI (Int.ofNat (List.length a)))),(8,one (cI b))] [(201001,[cI c])] []
def mF (a b:Int):TS:=TS.mk [(4,one (cI a))] [(201001,[cI b])] []
def mG (a:RR) (b c:Int) (d:Bool) (e:Int):TS:=TS.mk [(0,one (CE.snap [] none 2 a)),(1,TE.fn 241 [201001]),(7,one (cI b)),(8,one (cI c)),(9,one (cB d))] [(201001,[cI e])] []
def eT (a:RR) (b c:Int):TS:=TS.mk [(0,one (CE.snap [] none 4 a)),(1,TE.fn 231 [201001]),(7,one (cI (Int.ofNat (List.length a)))),(8,one (cI b))] [(201001,[cI c])] []
def mV (a b:Int):TS:=TS.mk [(4,one (cI a))] [(201001,[cI b])] []
def mW (a:RR) (b c:Int) (d:Bool) (e:Int):TS:=TS.mk [(0,one (CE.snap [] none 4 a)),(1,TE.fn 231 [201001]),(7,one (cI b)),(8,one (cI c)),(9,one (cB d))] [(201001,[cI e])] []
def rF (a:RR) (b c:Int):TS:=TS.mk [(0,one (CE.snap [] none 4 a)),(1,one (cI b)),(5,one (cI c))] [] []
def G4:TS:=TS.mk [(4,one Yd)] [] []
def G5 (a:RR) (b c:Int) (d:Bool):TS:=TS.mk [(0,one (CE.snap [] none 4 a)),(1,one (cI b)),(5,one (cI c)),(15,one (cB d))] [] []
def uh (a:RR) (b:Int) (c:RR):TS:=TS.mk [(0,one (CE.snap [] none 3 a)),(3,one mj),(4,one (cI b))] [] [(1,OB.mk true 3 c)]
def ED (a:RR) (b:Int) (c:Bool) (d:RR):TS:=TS.mk [(0,one (CE.snap [] none 3 a)),(3,one mj),(4,one (cI b)),(11,one (cB c))] [] [(1,OB.mk true 3 d)]
def vz (a b:RR) (c:Int):TS:=TS.mk [(0,one (CE.snap [] none 2 a)),(1,one (CE.snap [] none 2 b)),(5,one (cI c))] [] []
def Sp:TS:=TS.mk [(4,TE.kb false)] [] []
def G6 (a b:RR) (c:Int) (d:Bool):TS:=TS.mk [(0,one (CE.snap [] none 2 a)),(1,one (CE.snap [] none 2 b)),(5,one (cI c)),(14,one (cB d))] [] []
def sF (a b:Int) (c:RR):TS:=TS.mk [(0,one mj),(1,one (cI a)),(5,one (cI b))] [] [(1,OB.mk true 2 c)]
def CH (a b:Int) (c:Bool) (d:RR):TS:=TS.mk [(0,one mj),(1,one (cI a)),(5,one (cI b)),(9,one (cB c))] [] [(1,OB.mk true 2 d)]
def sG (a:RR) (b c:Int):TS:=TS.mk [(0,one (CE.snap [] none 2 a)),(1,one (cI b)),(5,one (cI c))] [] []
def CI:TS:=TS.mk [(4,one Yd)] [] []
def CJ (a:RR) (b c:Int) (d:Bool):TS:=TS.mk [(0,one (CE.snap [] none 2 a)),(1,one (cI b)),(5,one (cI c)),(9,one (cB d))] [] []
def om (a:Int) (b c d e f:RR) (g:Int):TS:=TS.mk [(1,TE.bp 1 0),(3,one (cI a))] [(1,[CE.snap [] none 1 b,CE.snap [] none 1 c,CE.snap [] none 2 d,CE.snap [] none 3 e,CE.snap [] none 4 f,cI g])] []
def G7 (a b c d e:RR) (f:Int):TS:=TS.mk [(2,TE.kb false)] [(1,[CE.snap [] none 1 a,CE.snap [] none 1 b,CE.snap [] none 2 c,CE.snap [] none 3 d,CE.snap [] none 4 e,cI f])] []
def G8 (a:Int) (b:Bool) (c d e f g:RR) (h:Int):TS:=TS.mk [(1,TE.bp 1 0),(3,one (cI a)),(8,one (cB b))] [(1,[CE.snap [] none 1 c,CE.snap [] none 1 d,CE.snap [] none 2 e,CE.snap [] none 3 f,CE.snap [] none 4 g,cI h])] []
def pH (a:RR) (b c:Int) (d:RR):TS:=TS.mk [(0,one (CE.snap [] none 3 a)),(1,one (cI b)),(7,one mj),(8,one (cI c))] [] [(1,OB.mk true 3 d)]
def CK (a:Int) (b:RR):TS:=TS.mk [(4,one mj),(5,one (cI a)),(6,TE.kb true)] [] [(1,OB.mk true 3 b)]
def CL (a:RR) (b c:Int) (d:Bool) (e:RR):TS:=TS.mk [(0,one (CE.snap [] none 3 a)),(1,one (cI b)),(7,one mj),(8,one (cI c)),(22,one (cB d))] [] [(1,OB.mk true 3 e)]
def xo (a:RR) (b c:Int) (d:RR):TS:=TS.mk [(0,one (CE.snap [] none 3 a)),(1,one (cI b)),(7,one mj),(8,one (cI c)),(22,TE.kb false)] [] [(1,OB.mk true 3 d)]
def vA (a b:RR):TS:=TS.mk [(1,TE.bp 1 0),(2,TE.bp 2 0),(3,TE.bp 3 0),(4,one (cI 0))] [(1,[CE.snap [] none 1 a,CE.snap [] none 1 b]),(2,[CE.nil 1,CE.nil 1]),(3,[CE.ref 1 none,CE.nil 1])] [(1,OB.mk true 1 a)]
def rG (b:Int) (a c d:RR):TS:=TS.mk [(1,TE.bp 1 0),(2,TE.bp 2 0),(3,TE.bp 3 0),(4,one (cI b))] [(1,[CE.snap [] none 1 a,CE.snap [] none 1 c]),(2,[CE.nil 1,CE.nil 1]),(3,[CE.ref 1 none,CE.ref 2 none])] [(1,OB.mk true 1 a),(2,OB.mk true 1 d)]
def G9 (b:Bool) (a c:RR):TS:=TS.mk [(1,TE.bp 1 0),(2,TE.bp 2 0),(3,TE.bp 3 0),(4,one (cI 0)),(14,one (cB b))] [(1,[CE.snap [] none 1 a,CE.snap [] none 1 c]),(2,[CE.nil 1,CE.nil 1]),(3,[CE.ref 1 none,CE.nil 1])] [(1,OB.mk true 1 a)]
def He (b:Int) (c:Bool) (a d e:RR):TS:=TS.mk [(1,TE.bp 1 0),(2,TE.bp 2 0),(3,TE.bp 3 0),(4,one (cI b)),(14,one (cB c))] [(1,[CE.snap [] none 1 a,CE.snap [] none 1 d]),(2,[CE.nil 1,CE.nil 1]),(3,[CE.ref 1 none,CE.ref 2 none])] [(1,OB.mk true 1 a),(2,OB.mk true 1 e)]
def uj (a b:RR) (c:Int):TS:=TS.mk [(0,one (CE.snap [] none 1 a)),(1,one (CE.snap [] none 1 b)),(5,one (cI c))] [] []
def P6:TS:=TS.mk [(4,TE.kb false)] [] []
def EE (a b:RR) (c:Int) (d:Bool):TS:=TS.mk [(0,one (CE.snap [] none 1 a)),(1,one (CE.snap [] none 1 b)),(5,one (cI c)),(14,one (cB d))] [] []
def sH (a b:Int) (c:RR):TS:=TS.mk [(0,one mj),(1,one (cI a)),(5,one (cI b))] [] [(1,OB.mk true 1 c)]
def CM (a b:Int) (c:Bool) (d:RR):TS:=TS.mk [(0,one mj),(1,one (cI a)),(5,one (cI b)),(9,one (cB c))] [] [(1,OB.mk true 1 d)]
def mP (a:ByteArray) (b:Int):TS:=TS.mk [(0,one (cS a)),(3,one (cI b))] [] []
def Hf:TS:=TS.mk [(2,TE.kb false)] [] []
def Hg (a:ByteArray) (b:Int) (c:Bool):TS:=TS.mk [(0,one (cS a)),(3,one (cI b)),(7,one (cB c))] [] []
def lD (a:RR) (b:Int):TS:=TS.mk [(0,one (CE.snap [] none 3 a)),(3,one (cI b))] [] []
def uk:TS:=TS.mk [(2,TE.kb false)] [] []
def EF (a:RR) (b:Int) (c:Bool):TS:=TS.mk [(0,one (CE.snap [] none 3 a)),(3,one (cI b)),(7,one (cB c))] [] []
def mQ (a:RR) (b c:Int) (d:Bool) (e:Int) (f:RR):TS:=TS.mk [(0,one (CE.snap [] none 2 a)),(1,one (cI b)),(2,one (cI c)),(8,one mj),(9,one (cB d)),(10,one (cI e))] [] [(1,OB.mk true 2 f)]
def Hh (a:RR) (b c:Int) (d:Bool) (e:Int) (f:Bool) (g:RR):TS:=TS.mk [(0,one (CE.snap [] none 2 a)),(1,one (cI b)),(2,one (cI c)),(8,one mj),(9,one (cB d)),(10,one (cI e)),(19,one (cB f))] [] [(1,OB.mk true 2 g)]
def mR (a:ByteArray) (b:Int):TS:=TS.mk [(0,one (cS a)),(3,one (cI b))] [] []
def Hi:TS:=TS.mk [(2,TE.kb false)] [] []
def Hj (a:ByteArray) (b:Int) (c:Bool):TS:=TS.mk [(0,one (cS a)),(3,one (cI b)),(7,one (cB c))] [] []
def mS (a:RR) (b:Int) (c d e f:RR) (g:Int):TS:=TS.mk [(1,TE.bp 1 0),(6,one (CE.snap [] none 4 a)),(7,one (cI (Int.ofNat (List.length a)))),(8,one (cI b))] [(1,[CE.snap [] none 1 c,CE.snap [] none 1 d,CE.snap [] none 2 e,CE.snap [] none 3 f,CE.snap [] none 4 a,cI g])] []
def kR (a b c d e:RR) (f:Int) (g:ByteArray) (h i:Int) (j:Bool):TS:=TS.mk [(2,TE.kb false)] [(1,[CE.snap [] none 1 a,CE.snap [] none 1 b,CE.snap [] none 2 c,CE.snap [] none 3 d,CE.snap [] none 4 e,cI f]),(4,[cS g,cI h,cI i,cB j])] []
def oq (a b c d e:RR) (f:Int) (g:ByteArray) (h i:Int) (j:Bool) (k:RR):TS:=TS.mk [(2,TE.kb false)] [(1,[CE.snap [] none 1 a,CE.snap [] none 1 b,CE.snap [] none 2 c,CE.snap [] none 3 d,CE.snap [] none 4 e,cI f]),(4,[cS g,cI h,cI i,cB j])] [(21000,OB.mk true 1 k)]
def Hl (a:RR) (b c:Int) (d:Bool) (e f g h:RR) (i:Int):TS:=TS.mk [(1,TE.bp 1 0),(6,one (CE.snap [] none 4 a)),(7,one (cI b)),(8,one (cI c)),(9,one (cB d))] [(1,[CE.snap [] none 1 e,CE.snap [] none 1 f,CE.snap [] none 2 g,CE.snap [] none 3 h,CE.snap [] none 4 a,cI i])] []
def uY (a b:Int) (c d e f g:RR) (h:Int):TS:=TS.mk [(1,one (cI a)),(2,TE.bp 2 0),(5,one (cI b))] [(2,[CE.snap [] none 1 c,CE.snap [] none 1 d,CE.snap [] none 2 e,CE.snap [] none 3 f,CE.snap [] none 4 g,cI h])] []
def Li (a b c d e:RR) (f:Int):TS:=TS.mk [(4,TE.kb false)] [(2,[CE.snap [] none 1 a,CE.snap [] none 1 b,CE.snap [] none 2 c,CE.snap [] none 3 d,CE.snap [] none 4 e,cI f])] []
def Lj (a b:Int) (c:Bool) (d e f g h:RR) (i:Int):TS:=TS.mk [(1,one (cI a)),(2,TE.bp 2 0),(5,one (cI b)),(10,one (cB c))] [(2,[CE.snap [] none 1 d,CE.snap [] none 1 e,CE.snap [] none 2 f,CE.snap [] none 3 g,CE.snap [] none 4 h,cI i])] []
def ot (b:Int) (a:RR) (c:Int) (d:RR):TS:=TS.mk [(1,one (cI b)),(5,one mj),(12,one (CE.snap [] none 2 a)),(13,one (cI (Int.ofNat (List.length a)))),(14,one (cI c))] [] [(1,OB.mk true 1 d)]
def Ho (a:Int) (b:RR) (c d:Int) (e:Bool) (f:RR):TS:=TS.mk [(1,one (cI a)),(5,one mj),(12,one (CE.snap [] none 2 b)),(13,one (cI c)),(14,one (cI d)),(15,one (cB e))] [] [(1,OB.mk true 1 f)]
def vC (a:RR):TS:=TS.mk [(1,TE.bp 1 0),(2,TE.bp 2 0),(3,TE.bp 3 0),(4,one (cI 0))] [(1,[CE.snap [] none 1 a]),(2,[CE.nil 1]),(3,[CE.nil 1])] []
def rH (a:Int) (b c:RR):TS:=TS.mk [(1,TE.bp 1 0),(2,TE.bp 2 0),(3,TE.bp 3 0),(4,one (cI a))] [(1,[CE.snap [] none 1 b]),(2,[CE.nil 1]),(3,[CE.ref 1 none])] [(1,OB.mk true 1 c)]
def Hp (a:Bool) (b:RR):TS:=TS.mk [(1,TE.bp 1 0),(2,TE.bp 2 0),(3,TE.bp 3 0),(4,one (cI 0)),(10,one (cB a))] [(1,[CE.snap [] none 1 b]),(2,[CE.nil 1]),(3,[CE.nil 1])] []
def Hq (a:Int) (b:Bool) (c d:RR):TS:=TS.mk [(1,TE.bp 1 0),(2,TE.bp 2 0),(3,TE.bp 3 0),(4,one (cI a)),(10,one (cB b))] [(1,[CE.snap [] none 1 c]),(2,[CE.nil 1]),(3,[CE.ref 1 none])] [(1,OB.mk true 1 d)]
def qP (a:RR) (b c:Int):TS:=TS.mk [(0,one (CE.snap [] none 1 a)),(1,one (cI b)),(5,one (cI c))] [] []
def Mo:TS:=TS.mk [(4,one Yd)] [] []
def A5 (a:RR) (b c:Int) (d:Bool):TS:=TS.mk [(0,one (CE.snap [] none 1 a)),(1,one (cI b)),(5,one (cI c)),(9,one (cB d))] [] []
def ou (a:Int) (b:RR):TS:=TS.mk [(1,TE.bp 1 0),(3,one (cI a))] [(1,[CE.snap [] none 1 b])] []
def y9 (a:RR):TS:=TS.mk [(2,TE.kb false)] [(1,[CE.snap [] none 1 a])] []
def Hr (a:Int) (b:Bool) (c:RR):TS:=TS.mk [(1,TE.bp 1 0),(3,one (cI a)),(8,one (cB b))] [(1,[CE.snap [] none 1 c])] []
def vD (a:Int) (b c:RR):TS:=TS.mk [(1,TE.bp 1 0),(3,one (cI a))] [(1,[CE.snap [] none 1 b,CE.snap [] none 1 c])] []
def Hs (a:Int) (b c d e:RR):TS:=TS.mk [(2,one (cI a))] [(1,[CE.snap [] none 1 b,CE.snap [] none 1 c])] [(7800,OB.mk true 5 d),(11000,OB.mk true 5 e)]
def Ht (a:Int) (b:Bool) (c d:RR):TS:=TS.mk [(1,TE.bp 1 0),(3,one (cI a)),(9,one (cB b))] [(1,[CE.snap [] none 1 c,CE.snap [] none 1 d])] []
def iL (b:Bool) (a:RR) (c d e f g h:Int) (i:RR):TS:=TS.mk [(3,TE.bp 3 0),(5,one mj),(6,one (cB b)),(10,one (CE.snap [] none 5 a)),(11,one (cI (Int.ofNat (List.length a)))),(12,one (cI c))] [(3,[cI d,cI e,cI f,cI g,cI h])] [(1,OB.mk true 5 i)]
def Hu (a:Bool) (b:RR) (c d:Int) (e:Bool) (f g h i j:Int) (k:RR):TS:=TS.mk [(3,TE.bp 3 0),(5,one mj),(6,one (cB a)),(10,one (CE.snap [] none 5 b)),(11,one (cI c)),(12,one (cI d)),(13,one (cB e))] [(3,[cI f,cI g,cI h,cI i,cI j])] [(1,OB.mk true 5 k)]
def vE (a:RR) (b:Int) (c:RR):TS:=TS.mk [(0,one (CE.snap [] none 2 a)),(5,one mj),(6,one (cI b))] [] [(1,OB.mk true 1 c)]
def Hv (a:RR) (b:Int) (c:Bool) (d:RR):TS:=TS.mk [(0,one (CE.snap [] none 2 a)),(5,one mj),(6,one (cI b)),(19,one (cB c))] [] [(1,OB.mk true 1 d)]
def Hw (a:RR) (b:Int) (c:RR):TS:=TS.mk [(0,one (CE.snap [] none 2 a)),(5,one mj),(6,one (cI b)),(19,TE.kb false)] [] [(1,OB.mk true 1 c)]
def jM (a:Int) (b c d e f:RR) (g h i j k l:Int):TS:=TS.mk [(2,TE.bp 2 0),(3,TE.bp 3 0),(5,one (cI a))] [(2,[CE.snap [] none 1 b,CE.snap [] none 1 c,CE.snap [] none 2 d,CE.snap [] none 3 e,CE.snap [] none 4 f,cI g]),(3,[cI h,cI i,cI j,cI k,cI l])] []
def A6 (a b c d e:RR) (f g h i j k:Int):TS:=TS.mk [(4,TE.kb true)] [(2,[CE.snap [] none 1 a,CE.snap [] none 1 b,CE.snap [] none 2 c,CE.snap [] none 3 d,CE.snap [] none 4 e,cI f]),(3,[cI g,cI h,cI i,cI j,cI k])] []
def A7 (a:Int) (b:Bool) (c d e f g:RR) (h i j k l m:Int):TS:=TS.mk [(2,TE.bp 2 0),(3,TE.bp 3 0),(5,one (cI a)),(10,one (cB b))] [(2,[CE.snap [] none 1 c,CE.snap [] none 1 d,CE.snap [] none 2 e,CE.snap [] none 3 f,CE.snap [] none 4 g,cI h]),(3,[cI i,cI j,cI k,cI l,cI m])] []
def sJ (a b:Int) (c:RR):TS:=TS.mk [(0,one mj),(1,one (cI a)),(5,one (cI b))] [] [(1,OB.mk true 5 c)]
def CN (a b:Int) (c:Bool) (d:RR):TS:=TS.mk [(0,one mj),(1,one (cI a)),(5,one (cI b)),(9,one (cB c))] [] [(1,OB.mk true 5 d)]
def qp (a:RR) (b:Int):TS:=TS.mk [(0,one (CE.snap [] none 5 a)),(3,one (cI b))] [] []
def JY:TS:=TS.mk [(2,TE.kb false)] [] []
def JZ (a:RR) (b:Int) (c:Bool):TS:=TS.mk [(0,one (CE.snap [] none 5 a)),(3,one (cI b)),(7,one (cB c))] [] []
def ov (a b:Int) (c d:RR):TS:=TS.mk [(1,one (cI a)),(5,one mj),(6,one Sl),(7,one (cI b))] [] [(1,OB.mk true 5 c),(2,OB.mk true 5 d)]
def Hy (a b:Int) (c:Bool) (d e:RR):TS:=TS.mk [(1,one (cI a)),(5,one mj),(6,one Sl),(7,one (cI b)),(14,one (cB c))] [] [(1,OB.mk true 5 d),(2,OB.mk true 5 e)]
def vF (a b:RR) (c:Int):TS:=TS.mk [(0,one (CE.snap [] none 5 a)),(1,one (CE.snap [] none 5 b)),(5,one (cI c))] [] []
def Sq:TS:=TS.mk [(4,TE.kb false)] [] []
def Hz (a b:RR) (c:Int) (d:Bool):TS:=TS.mk [(0,one (CE.snap [] none 5 a)),(1,one (CE.snap [] none 5 b)),(5,one (cI c)),(14,one (cB d))] [] []
def eC (a:RR) (b:Int) (c:ByteArray) (d e:Int) (f:Bool):TS:=TS.mk [(0,one (CE.snap [] none 4 a)),(1,TE.fn 201 [201001]),(7,one (cI (Int.ofNat (List.length a)))),(8,one (cI b))] [(201001,[cS c,cI d,cI e,cB f])] []
def me (a:Int) (b:ByteArray) (c d:Int) (e:Bool):TS:=TS.mk [(4,one (cI a))] [(201001,[cS b,cI c,cI d,cB e])] []
def mg (a:RR) (b c:Int) (d:Bool) (e:ByteArray) (f g:Int) (h:Bool):TS:=TS.mk [(0,one (CE.snap [] none 4 a)),(1,TE.fn 201 [201001]),(7,one (cI b)),(8,one (cI c)),(9,one (cB d))] [(201001,[cS e,cI f,cI g,cB h])] []
theorem Ss (a b c d e f g) (Q:QV) (h: ∃i j k,au C Du [dM a b,vI g] (vI i) [dM j k]∧ ∃l m,au C lG [lQ c,vI i] (vI l) [lQ m]∧ ∃n o,au C kg [q7 d,vI l] (vI n) [q7 o]∧ ∃p q,au C lH [IG e,vI n] (vI p) [IG q]∧Q (vI p) [bg j k m o q f]):aX C gK [bg a b c d e f,vI g] Q:=aZ (hc sM [NV] (hc sM [Ml] (hc sM [Wj] (hc sM [ahI] hz)))) h
theorem adT (a b c d e) (Q:QV) (h:Q (sL a b c d e) []):aX C eE [sL a b c d e] Q:=aZ hz h
theorem St (b d j a k l e) (Q:QV) (h:z.P bA [bg b d j a k l] fun m n f o g i=>z.B cH [bg b d j a k l] fun y=>aq (!y) (Q (xC m n f o g i false) []) (z.B dU [vI e,vI 0,vI (cV (Int.ofNat (List.length a)) 1)] fun A=>aq (!A) (Q (xC m n f o g i false) []) (z.c a e fun A0 D A1=>aq (!D) (Q (xC m n f o g i false) []) (∃r s t F G,au C jf [bg b d j a k l,vI e] (jv r s t F G) []∧z.c a e fun A2 A3 H=> ∃q p u,au C ff [q7 a,vI H] (TV.tu [(0,[P2 q]),(0,[iI p]),(0,[iB u])]) []∧aq (!u) (Q (xC m n f o g i false) []) (aq (bG e p) (Q (xC m n f o g i false) []) (z.c q p fun I H0 H1=>z.N oN [dM b d,jv r s t p I] fun v w J=>z.E ya [q7 q,vI e] fun x=>aq (!J) (z.P bA [bg b d j a k l] fun K L M O R S=>Q (xC K L M O R S false) []) (z.B cH [bg v w f x g i] fun T=>aq (!T) (z.P bA [bg b d j a k l] fun U V W X Y Z=>Q (xC U V W X Y Z false) []) (Q (xC v w f x g i true) [])))))))):aX C Dt [bg b d j a k l,vI e] Q:=aZ (hc NU [] (hc iU [] (hb hz (hc iU [] (hb hz (hr [sI,sB,sI] (hb hz (hc (Fq.ag [sI,sI,sI,sI,sI]) [] (hr [sI,sB,sI] (hc al6 [] (hb hz (hb hz (hr [sI,sB,sI] (hc Ya [] (hc Wj [] Sk))))))))))))))) h
theorem abE (d e f a b g n o p) (Q:QV) (h:z.P bA [bg d e f a b g] fun i j k u l m=>z.I uU [bg d e f a b g,vS n,vI o] fun q=>aq (bO q 0) (z.B jT [vI p] fun H0=>aq (!H0) (aq (!bO 4 0) (Q (nW i j k u l m 4) []) (∃r w A,au C ff [q7 a,vI p] (TV.tu [(0,[P2 r]),(0,[iI w]),(0,[iB A])]) []∧aq A (z.c r w fun H1 d0 d1=>z.I ey [bg d e f a b g,vS n] fun H2=>z.v b H2 fun d2 H3 d3 d4=> ∃D E F G H K L,au C oO [r7 i j k r l m,jv o H3 1 w H1] (vB D) [r7 E F G H K L]∧z.J gP [bg d e f a b g,bg E F G H K L,vB D] fun H4 H5 I4 L1 L2 M1 M2=>Q (nW H4 H5 I4 L1 L2 M1 M2) []) (z.J gP [bg d e f a b g,bg i j k r l m,vB false] fun Q0 R3 S1 S2 T0 T1 T5=>Q (nW Q0 R3 S1 S2 T0 T1 T5) []))) (aq (!bO q 0) (Q (nW i j k u l m q) []) (∃s x M,au C ff [q7 a,vI p] (TV.tu [(0,[P2 s]),(0,[iI x]),(0,[iB M])]) []∧aq M (z.c s x fun V1 d5 d6=>z.I ey [bg d e f a b g,vS n] fun W1=>z.v b W1 fun d7 X0 d8 d9=> ∃N O R S T U V,au C oO [r7 i j k s l m,jv o X0 1 x V1] (vB N) [r7 O R S T U V]∧z.J gP [bg d e f a b g,bg O R S T U V,vB N] fun X1 X2 Z1 Z2 a0 a1 a2=>Q (nW X1 X2 Z1 Z2 a0 a1 a2) []) (z.J gP [bg d e f a b g,bg i j k s l m,vB false] fun a3 a4 a5 a6 a7 a8 a9=>Q (nW a3 a4 a5 a6 a7 a8 a9) [])))) (aq (!bO q 0) (Q (nW i j k u l m q) []) (∃t y W,au C ff [q7 a,vI p] (TV.tu [(0,[P2 t]),(0,[iI y]),(0,[iB W])]) []∧aq W (z.c t y fun b0 e0 e1=>z.I ey [bg d e f a b g,vS n] fun b1=>z.v b b1 fun e2 b2 e3 e4=> ∃X Y Z A0 A1 A2 A3,au C oO [r7 i j k t l m,jv o b2 1 y b0] (vB X) [r7 Y Z A0 A1 A2 A3]∧z.J gP [bg d e f a b g,bg Y Z A0 A1 A2 A3,vB X] fun b3 b4 b5 b6 b7 b8 b9=>Q (nW b3 b4 b5 b6 b7 b8 b9) []) (z.J gP [bg d e f a b g,bg i j k t l m,vB false] fun c0 c1 c2 c3 c4 c5 c9=>Q (nW c0 c1 c2 c3 c4 c5 c9) [])))):aX C LV [bg d e f a b g,vS n,vI o,vI p] Q:=aZ (hc NU [] (hc sM [] (hb (hc iU [] (hb aoj aoj)) aoj))) h
theorem Ye (b c d e a f n o) (Q:QV) (h:z.P bA [bg b c d e a f] fun g i j k l m=>z.I uU [bg b c d e a f,vS n,vI 0] fun p=>aq (bO p 0) (z.B dU [vI o,vI 1,vI 12] fun t=>aq (!t) (aq (!bO 4 0) (Q (nW g i j k l m 4) []) (z.I ey [bg b c d e a f,vS n] fun q=>z.v a q fun A D u E=>ah C gM ji 4 0 (mJ o q true (cV u 1) b c d e a f g i j k m l) (fun x st=>ax C gM ji x st Q))) (aq (!bO p 0) (Q (nW g i j k l m p) []) (z.I ey [bg b c d e a f,vS n] fun r=>z.v a r fun F G w H=>ah C gM ji 4 0 (mJ o r true (cV w 1) b c d e a f g i j k m l) (fun x st=>ax C gM ji x st Q)))) (aq (!bO p 0) (Q (nW g i j k l m p) []) (z.I ey [bg b c d e a f,vS n] fun s=>z.v a s fun J K y L=>ah C gM ji 4 0 (mJ o s true (cV y 1) b c d e a f g i j k m l) (fun x st=>ax C gM ji x st Q)))):aX C gM [bg b c d e a f,vS n,vI o] Q:=aZ (hc NU [] (hc sM [] (hb (hc iU [] (hb (hb hz (hc sM [] afw)) (hb hz (hc sM [] afw)))) (hb hz (hc sM [] afw))))) h
theorem vG (b c d a e f g i j k l m n o p q) (Q:QX) (h:aq (nv b a) (aq d (∃r s t u v w x,au C vf [r7 l m n o q p,vI c,vI a] (vB r) [r7 s t u v w x]∧ah C gM ji 4 0 (mJ b c r (cV a 1) e f g i j k s t u v x w) Q) (Q c6 (Gj b c d a e f g i j k l m n o p q))) (Q c6 (Gk b c d a e f g i j k l m n o p q))):ah C gM ji 4 0 (mJ b c d a e f g i j k l m n o p q) Q:=bM (hb (hb abC hz) hz) h
theorem Su (c a d q e f g i j k l m n o p b) (Q:QV) (h:z.v b a fun A B D E=>z.v b a fun F G H I=>z.J gP [bg e f g i j k,TV.ag [bU l,bU m,FV n,P2 o,zS4 (setRow b a 2 [iI c]),iI p],vB d] fun r s t u w x y=>Q (nW r s t u w x y) []):ax C gM ji c6 (Gj c a d q e f g i j k l m n o p b) Q:=aQ aoo h
theorem HA (c a d q e f g i j k l m n o p b) (Q:QV) (h:z.v b a fun A B D E=>z.v b a fun F G H I=>z.J gP [bg e f g i j k,TV.ag [bU l,bU m,FV n,P2 o,zS4 (setRow b a 2 [iI c]),iI p],vB d] fun r s t u w x y=>Q (nW r s t u w x y) []):ax C gM ji c6 (Gk c a d q e f g i j k l m n o p b) Q:=aQ aoo h
theorem Yf (a b c) (Q:QV) (h:z.I Jz [iW a,vI c] fun d=>aq (bG d 0) (Q (vI (-1)) []) (z.I jy [iW b,vI d] fun e=>aq (bG e 0) (Q (vI (-1)) []) (Q (vI e) []))):aX C Jt [dM a b,vI c] Q:=aZ amd h
theorem Wk (e f a c b d) (Q:QV) (h:zB Q (fun Q=>z.T dH [dM e f] fun g i=>zB Q (fun Q=>zB Q (fun Q=>aq (bT a&&fits (Nat.add 0 (List.length a)) 16) (zD Q (fun Q=>z.E lW [q7 c] fun l=>aq (bT b&&fits (Nat.add 0 (List.length b)) 40) (Q (bg g i a l b d) []) (False))) (False)) (fun Q=>aq (bT a&&fits (Nat.add 0 (List.length a)) 16) (z.E lW [q7 c] fun m=>aq (bT b&&fits (Nat.add 0 (List.length b)) 40) (Q (bg g i a m b d) []) (False)) (False))) (fun Q=>aq (bT a&&fits (Nat.add 0 (List.length a)) 16) (z.E lW [q7 c] fun n=>aq (bT b&&fits (Nat.add 0 (List.length b)) 40) (Q (bg g i a n b d) []) (False)) (False))) (fun Q=>zB Q (fun Q=>zB Q (fun Q=>z.T dH [dM e f] fun j k=>zB Q (fun Q=>aq (bT a&&fits (Nat.add 0 (List.length a)) 16) (zD Q (fun Q=>z.E lW [q7 c] fun o=>aq (bT b&&fits (Nat.add 0 (List.length b)) 40) (Q (bg j k a o b d) []) (False))) (False)) (fun Q=>aq (bT a&&fits (Nat.add 0 (List.length a)) 16) (z.E lW [q7 c] fun p=>aq (bT b&&fits (Nat.add 0 (List.length b)) 40) (Q (bg j k a p b d) []) (False)) (False))) (fun Q=>z.T dH [dM e f] fun q r=>aq (bT a&&fits (Nat.add 0 (List.length a)) 16) (z.E lW [q7 c] fun s=>aq (bT b&&fits (Nat.add 0 (List.length b)) 40) (Q (bg q r a s b d) []) (False)) (False))) (fun Q=>zD Q (fun Q=>z.T dH [dM e f] fun t u=>aq (bT a&&fits (Nat.add 0 (List.length a)) 16) (z.E lW [q7 c] fun v=>aq (bT b&&fits (Nat.add 0 (List.length b)) 40) (Q (bg t u a v b d) []) (False)) (False))))):aX C bA [bg e f a c b d] Q:=aZ (Hint.both (hc NV [] (Hint.both (Hint.both (hb (zH Yc) hz) (hb Yc hz)) (hb Yc hz))) (Hint.both (Hint.both (hc NV [] (Hint.both (hb (zH Yc) hz) (hb Yc hz))) (hc NV [] (hb Yc hz))) (zH (hc NV [] (hb Yc hz))))) h
theorem Yg (a) (Q:QV) (h:aq (true&&bO (Int.ofNat (List.length a)) (Int.ofNat (List.length a))&&nv 0 (Int.ofNat (List.length a))&&fits (uE (Int.ofNat (List.length a))) 40) (ah C oK ak 4 0 (vk a 0 (List.replicate (uE (Int.ofNat (List.length a))) [iS (xQ),iI 0,iI 0,iB false])) (fun x st=>ax C oK ak x st Q)) (False)):aX C oK [IG a] Q:=aZ sr h
theorem HB (b a c) (Q:QX) (h:aq (bG a (Int.ofNat (List.length b))) (z.v b a fun i j k l=> ∃d e f g,au C LZ [TV.ag [iS i,iI j,iI k,iB l]] (TV.ag [iS d,iI e,iI f,iB g]) []∧z.v c a fun m n o p=>z.v c a fun q r s t=>ah C oK ak 4 0 (vk b (aA a 1) (setRow c a 0 [iS d,iI e,iI f,iB g])) Q) (Q c6 (Gl b a (bG a (Int.ofNat (List.length b))) c))):ah C oK ak 4 0 (vk b a c) Q:=bM (hb (hr [sS,sI,sI,sB] (hc (Fq.ag [sS,sI,sI,sB]) [] aki)) hz) h
theorem Sv (b c d a) (Q:QV) (h:Q (IG a) []):ax C oK ak c6 (Gl b c d a) Q:=aQ hz h
theorem Wl (a b) (Q:QV) (h:aq (!bO (Int.ofNat (List.length a)) (Int.ofNat (List.length b))) (Q (vB false) []) (ah C m5 ak 4 0 (tY a b 0) (fun x st=>ax C m5 ak x st Q))):aX C m5 [q7 a,q7 b] Q:=aZ sr h
theorem EG (b d a) (Q:QX) (h:aq (bG a (Int.ofNat (List.length b))) (z.c b a fun e f g=>z.c d a fun i j k=>z.B JB [TV.ag [iI e,iB f,iI g],TV.ag [iI i,iB j,iI k]] fun l=>aq (!l) (Q TX.ret (P4)) (ah C m5 ak 4 0 (tY b d (aA a 1)) Q)) (Q c6 (Ed b d a (bG a (Int.ofNat (List.length b)))))):ah C m5 ak 4 0 (tY b d a) Q:=bM (hb (hr [sI,sB,sI] (hr [sI,sB,sI] wF)) hz) h
theorem P7 (a b c d) (Q:QV) (h:Q (vB true) []):ax C m5 ak c6 (Ed a b c d) Q:=aQ hz h
theorem P8 (a b) (Q:QV) (h:ah C kg aj 4 0 (qK b 0 a) (fun x st=>ax C kg aj x st Q)):aX C kg [q7 a,vI b] Q:=aZ hz h
theorem A8 (b a d) (Q:QX) (h:aq (bG a (Int.ofNat (List.length d))) (z.c d a fun e f g=>z.c d a fun i j k=>aq (bO 3 0) (False) (z.c (setRow d a 0 [iI b]) a fun l m n=>z.c (setRow d a 0 [iI b]) a fun o p q=>z.c (setRow (setRow d a 0 [iI b]) a 1 [iB (bO (Dh (aA b 1) 3) 0)]) a fun r s t=>z.c (setRow (setRow d a 0 [iI b]) a 1 [iB (bO (Dh (aA b 1) 3) 0)]) a fun u v w=>ah C kg aj 4 0 (qK (aA (aA (aA b 1) 1) 1) (aA a 1) (setRow (setRow (setRow d a 0 [iI b]) a 1 [iB (bO (Dh (aA b 1) 3) 0)]) a 2 [iI (aA (aA b 1) 1)])) Q)) (Q c6 (AM b a (bG a (Int.ofNat (List.length d))) d))):ah C kg aj 4 0 (qK b a d) Q:=bM (hb (hr [sI,sB,sI] (hr [sI,sB,sI] (hb hz (hr [sI,sB,sI] (hr [sI,sB,sI] ahH))))) hz) h
theorem Mq (a c d b) (Q:QV) (h:Q (vI a) [q7 b]):ax C kg aj c6 (AM a c d b) Q:=aQ hz h
theorem P9 (a b) (Q:QV) (h:ah C ki aj 4 0 (qL a b 0) (fun x st=>ax C ki aj x st Q)):aX C ki [q7 a,vI b] Q:=aZ hz h
theorem A9 (a d b) (Q:QX) (h:aq (bG b (Int.ofNat (List.length a))) (z.c a b fun e i j=>aq (!bO e d) (Q TX.ret (vZ)) (z.c a b fun k f l=>aq (bO 3 0) (False) (aq (!eqB f (bO (Dh (aA d 1) 3) 0)) (Q TX.ret (vZ)) (z.c a b fun m n g=>aq (!bO g (aA (aA d 1) 1)) (Q TX.ret (vZ)) (ah C ki aj 4 0 (qL a (aA (aA (aA d 1) 1) 1) (aA b 1)) Q))))) (Q c6 (AN a d b (bG b (Int.ofNat (List.length a)))))):ah C ki aj 4 0 (qL a d b) Q:=bM (hb (hr [sI,sB,sI] (hb hz (hr [sI,sB,sI] (hb hz (hb hz akk))))) hz) h
theorem Mr (b a c d) (Q:QV) (h:Q (vI a) []):ax C ki aj c6 (AN b a c d) Q:=aQ hz h
theorem Yh (d e b f c a g i) (Q:QV) (h:z.I w5 [bg d e b f c a,vS g] fun j=>aq (!bO j 0) (z.P bA [bg d e b f c a] fun m n o p q r=>Q (nW m n o p q r j) []) (z.I ey [bg d e b f c a,vS g] fun s=>aq (nv 0 s) (z.P bA [bg d e b f c a] fun t u v w x y=>Q (nW t u v w x y 3) []) (z.B dU [vI i,vI 1,vI 12] fun A=>aq (!A) (z.P bA [bg d e b f c a] fun D E G H K L=>Q (nW D E G H K L 4) []) (z.P bA [bg d e b f c a] fun M N Z O A0 A1=> ∃k l,au C iD [lQ b,vI a,vI 0] (TV.tu [(0,[FV k]),(0,[iB l])]) []∧z.F eR [IG c,TV.ag [iS g,iI a,iI i,iB false]] fun R=>z.J gP [bg d e b f c a,TV.ag [bU M,bU N,FV k,P2 O,zS4 R,iI (aA a 1)],vB l] fun S T U V W X Y=>Q (nW S T U V W X Y) [])))):aX C Jx [bg d e b f c a,vS g,vI i] Q:=aZ (hc sM [] (hb qh (hc sM [] (hb qh (hc iU [] (hb qh (hc NU [] (hc abB [] (hc ahI [] yE))))))))) h
theorem adU (a c b f d) (Q:QV) (h:z.B cQ [vI a,vI 1,vI 9] fun j=>aq (!j) (Q (vB false) []) (z.B tD [vI f] fun k=>aq (!k) (Q (vB false) []) (z.B tD [vI d] fun l=>aq (!l) (Q (vB false) []) (aq (nv a 6) (z.B dJ [vS c] fun e=>aq (bO a 2) (z.B dJ [vS b] fun g=>aq (bO a 2) (aq (bO f 0) (aq e (aq g (Q (vB (nv d 1)) []) (Q (vB false) [])) (Q (vB false) [])) (aq e (aq g (Q (vB false) []) (Q (vB false) [])) (Q (vB false) []))) (aq (bO a 3) (aq (bO a 3) (aq (bO f 0) (aq e (aq g (Q (vB (bO d 0)) []) (Q (vB false) [])) (Q (vB false) [])) (aq e (aq g (Q (vB false) []) (Q (vB false) [])) (Q (vB false) []))) (aq (bO a 4) (aq e (aq g (Q (vB true) []) (Q (vB false) [])) (Q (vB false) [])) (aq e (aq g (Q (vB (bO d 0)) []) (Q (vB false) [])) (Q (vB false) [])))) (aq (bO a 7) (aq (bO f 0) (aq e (aq g (Q (vB (bO d 0)) []) (Q (vB false) [])) (Q (vB false) [])) (aq e (aq g (Q (vB false) []) (Q (vB false) [])) (Q (vB false) []))) (aq (bO a 4) (aq e (aq g (Q (vB true) []) (Q (vB false) [])) (Q (vB false) [])) (aq e (aq g (Q (vB (bO d 0)) []) (Q (vB false) [])) (Q (vB false) [])))))) (aq (bO a 2) (aq (bO f 0) (aq e (aq (uL b (xQ)) (Q (vB (nv d 1)) []) (Q (vB false) [])) (Q (vB false) [])) (aq e (aq (uL b (xQ)) (Q (vB false) []) (Q (vB false) [])) (Q (vB false) []))) (aq (bO a 3) (aq (bO a 3) (aq (bO f 0) (aq e (aq (uL b (xQ)) (Q (vB (bO d 0)) []) (Q (vB false) [])) (Q (vB false) [])) (aq e (aq (uL b (xQ)) (Q (vB false) []) (Q (vB false) [])) (Q (vB false) []))) (aq (bO a 4) (aq e (aq (uL b (xQ)) (Q (vB true) []) (Q (vB false) [])) (Q (vB false) [])) (aq e (aq (uL b (xQ)) (Q (vB (bO d 0)) []) (Q (vB false) [])) (Q (vB false) [])))) (aq (bO a 7) (aq (bO f 0) (aq e (aq (uL b (xQ)) (Q (vB (bO d 0)) []) (Q (vB false) [])) (Q (vB false) [])) (aq e (aq (uL b (xQ)) (Q (vB false) []) (Q (vB false) [])) (Q (vB false) []))) (aq (bO a 4) (aq e (aq (uL b (xQ)) (Q (vB true) []) (Q (vB false) [])) (Q (vB false) [])) (aq e (aq (uL b (xQ)) (Q (vB (bO d 0)) []) (Q (vB false) [])) (Q (vB false) []))))))) (aq (bO a 2) (z.B dJ [vS b] fun i=>aq (bO a 2) (aq (bO f 0) (aq (uL c (xQ)) (aq i (Q (vB (nv d 1)) []) (Q (vB false) [])) (Q (vB false) [])) (aq (uL c (xQ)) (aq i (Q (vB false) []) (Q (vB false) [])) (Q (vB false) []))) (aq (bO a 3) (aq (bO a 3) (aq (bO f 0) (aq (uL c (xQ)) (aq i (Q (vB (bO d 0)) []) (Q (vB false) [])) (Q (vB false) [])) (aq (uL c (xQ)) (aq i (Q (vB false) []) (Q (vB false) [])) (Q (vB false) []))) (aq (bO a 4) (aq (uL c (xQ)) (aq i (Q (vB true) []) (Q (vB false) [])) (Q (vB false) [])) (aq (uL c (xQ)) (aq i (Q (vB (bO d 0)) []) (Q (vB false) [])) (Q (vB false) [])))) (aq (bO a 7) (aq (bO f 0) (aq (uL c (xQ)) (aq i (Q (vB (bO d 0)) []) (Q (vB false) [])) (Q (vB false) [])) (aq (uL c (xQ)) (aq i (Q (vB false) []) (Q (vB false) [])) (Q (vB false) []))) (aq (bO a 4) (aq (uL c (xQ)) (aq i (Q (vB true) []) (Q (vB false) [])) (Q (vB false) [])) (aq (uL c (xQ)) (aq i (Q (vB (bO d 0)) []) (Q (vB false) [])) (Q (vB false) [])))))) (aq (bO a 2) (aq (bO f 0) (aq (uL c (xQ)) (aq (uL b (xQ)) (Q (vB (nv d 1)) []) (Q (vB false) [])) (Q (vB false) [])) (aq (uL c (xQ)) (aq (uL b (xQ)) (Q (vB false) []) (Q (vB false) [])) (Q (vB false) []))) (aq (bO a 3) (aq (bO a 3) (aq (bO f 0) (aq (uL c (xQ)) (aq (uL b (xQ)) (Q (vB (bO d 0)) []) (Q (vB false) [])) (Q (vB false) [])) (aq (uL c (xQ)) (aq (uL b (xQ)) (Q (vB false) []) (Q (vB false) [])) (Q (vB false) []))) (aq (bO a 4) (aq (uL c (xQ)) (aq (uL b (xQ)) (Q (vB true) []) (Q (vB false) [])) (Q (vB false) [])) (aq (uL c (xQ)) (aq (uL b (xQ)) (Q (vB (bO d 0)) []) (Q (vB false) [])) (Q (vB false) [])))) (aq (bO a 7) (aq (bO f 0) (aq (uL c (xQ)) (aq (uL b (xQ)) (Q (vB (bO d 0)) []) (Q (vB false) [])) (Q (vB false) [])) (aq (uL c (xQ)) (aq (uL b (xQ)) (Q (vB false) []) (Q (vB false) [])) (Q (vB false) []))) (aq (bO a 4) (aq (uL c (xQ)) (aq (uL b (xQ)) (Q (vB true) []) (Q (vB false) [])) (Q (vB false) [])) (aq (uL c (xQ)) (aq (uL b (xQ)) (Q (vB (bO d 0)) []) (Q (vB false) [])) (Q (vB false) []))))))))))):aX C Pv [sL a c b f d] Q:=aZ (hc iU [] (hb hz (hc iU [] (hb hz (hc iU [] (hb hz (hb (hc iU [] (hb (hc iU [] ama) ama)) (hb (hc iU [] ama) ama)))))))) h
theorem adV (d e b f c a j i m) (Q:QV) (h:z.I vV [bg d e b f c a,vS j] fun g=>z.B ew [bg d e b f c a] fun x=>aq (!x) (z.P aP [bg d e b f c a] fun y A D E G H=>Q (nW y A D E G H 1) []) (z.B dJ [vS j] fun K=>aq (!K) (z.P aP [bg d e b f c a] fun L M N O R S=>Q (nW L M N O R S 1) []) (z.B dJ [vS i] fun T=>aq (!T) (z.P aP [bg d e b f c a] fun U V W X Y Z=>Q (nW U V W X Y Z 1) []) (aq (bG g 0) (z.P aP [bg d e b f c a] fun A0 A1 A2 A3 H0 H1=>Q (nW A0 A1 A2 A3 H0 H1 2) []) (z.I vV [bg d e b f c a,vS i] fun H2=>aq (nv 0 H2) (z.P aP [bg d e b f c a] fun H3 H4 H5 I4 L1 L2=>Q (nW H3 H4 H5 I4 L1 L2 3) []) (z.P aP [bg d e b f c a] fun n o Z2 p k q=>z.v c g fun a0 r M1 a1=> ∃s t,au C jh [lQ b,vI a,vI r] (TV.tu [(0,[FV s]),(0,[iB t])]) []∧ ∃l u,au C jh [lQ s,vI (aA a 1),vI r] (TV.tu [(0,[FV l]),(0,[iB u])]) []∧z.v k g fun a2 a3 a4 a5=>z.v k g fun a6 a7 a8 a9=>z.F fY [IG (setRow k g 1 [iI a]),TV.ag [iS i,iI (aA a 1),iI M1,iB m]] fun w=>aq t (z.J jx [bg d e b f c a,TV.ag [bU n,bU o,FV l,P2 p,zS4 w,iI (aA q 2)],vB u] fun M2 Q0 R3 S1 S2 T0 T1=>Q (nW M2 Q0 R3 S1 S2 T0 T1) []) (z.J jx [bg d e b f c a,TV.ag [bU n,bU o,FV l,P2 p,zS4 w,iI (aA q 2)],vB false] fun T5 V1 W1 X0 X1 X2 Z1=>Q (nW T5 V1 W1 X0 X1 X2 Z1) []))))))):aX C Pw [bg d e b f c a,vS j,vS i,vB m] Q:=aZ (hc sM [] (hc iU [] (hb qh (hc iU [] (hb qh (hc iU [] (hb qh (hb qh (hc sM [] (hb qh (hc NU [] (hr [sS,sI,sI,sB] (hc abB [] (hc abB [] (hr [sS,sI,sI,sB] (hr [sS,sI,sI,sB] (hc ahI [] (hb yE yE)))))))))))))))))) h
theorem Sw (a) (Q:QV) (h:aq (nv a 0) (Q (vS (ByteArray.mk #[109,48])) []) (ah C iF kZ 4 0 (su a (xQ)) (fun x st=>ax C iF kZ x st Q))):aX C iF [vI a] Q:=aZ sr h
theorem xp (a b) (Q:QX) (h:aq (bG 0 a) (aq (bO 10 0) (False) (∃(ns3:List Int),wK [[TC.sc (Value.int IntKind.u8 (zh IntKind.u8 (aA 48 (Dh a 10))))]]=some ns3∧aq (fits (Nat.add (List.length (ByteArray.data (IP ns3)).1) (List.length (ByteArray.data b).1)) 1) (aq (bO 10 0) (False) (ah C iF kZ 4 0 (su (jm .i64 a 10) (Xt (IP ns3) b)) Q)) (False))) (Q c6 (Cd a b (bG 0 a)))):ah C iF kZ 4 0 (su a b) Q:=bM (hb (hb hz (Hint.n AK)) hz) h
theorem CO (b a c) (Q:QV) (h:aq (fits (Nat.add 1 (List.length (ByteArray.data a).1)) 1) (Q (vS (Xt (ByteArray.mk #[109]) a)) []) (False)):ax C iF kZ c6 (Cd b a c) Q:=aQ sr h
theorem Wm (n o p q r s t) (Q:QV) (h:z.T dH [dM n o] fun b c=>z.B bu [dM n o] fun g0=>aq (!g0) (Q (q8 b c false) []) (z.B Az [jv p q r s t] fun g1=>aq (!g1) (Q (q8 b c false) []) (z.I gV [dM n o,vI p,vI q] fun d=>z.a o d fun g2=>zD Q (fun Q=> ∃m u,au C FJ [TV.ag [bU g2],jv p q r s t] (TV.tu [(1,[bU m]),(0,[iB u])]) []∧z.i n d fun v=>zB Q (fun Q=>zB Q (fun Q=>zD Q (fun Q=>z.T dV [dM b c,vI d,iW [[iI v]],iW [[bU m]]] fun R S=>aq (!u) (z.a o d fun g3=>z.G bw [TV.ag [bU g3]] fun g4=>z.G cD [gZ g4,jv p q r s t] fun g5=>z.G fm [gZ g5] fun e=>aq (bO 2 0) (False) (z.i n d fun w=>z.k e (jm .i64 (aA (Int.ofNat (List.length e)) 1) 2) fun x3 x4 x5 x6 x7=>z.k e (jm .i64 (aA (Int.ofNat (List.length e)) 1) 2) fun h0 h1 h2 h3 h4=>aq (gH 0 (jm .i64 (aA (Int.ofNat (List.length e)) 1) 2) (Int.ofNat (List.length e))) (aq (gH (jm .i64 (aA (Int.ofNat (List.length e)) 1) 2) (Int.ofNat (List.length e)) (Int.ofNat (List.length e))) (z.I qB [jv h0 h1 h2 h3 h4] fun x=>zB Q (fun Q=> ∃U,au C aW [gZ (aE e 0 (jm .i64 (aA (Int.ofNat (List.length e)) 1) 2))] (TV.ag [bU U]) []∧ ∃V,au C aW [gZ (aE e (jm .i64 (aA (Int.ofNat (List.length e)) 1) 2) (Int.ofNat (List.length e)))] (TV.ag [bU V]) []∧z.T dV [dM b c,vI d,iW [[iI w],[iI x]],iW [[bU U],[bU V]]] fun h5 h6=>z.T bE [dM h5 h6] fun W X=>z.B bu [dM W X] fun h7=>aq (!h7) (Q (q8 b c false) []) (Q (q8 W X true) [])) (fun Q=> ∃y,au C aW [gZ (aE e 0 (jm .i64 (aA (Int.ofNat (List.length e)) 1) 2))] (TV.ag [bU y]) []∧zB Q (fun Q=> ∃Y,au C aW [gZ (aE e (jm .i64 (aA (Int.ofNat (List.length e)) 1) 2) (Int.ofNat (List.length e)))] (TV.ag [bU Y]) []∧z.T dV [dM b c,vI d,iW [[iI w],[iI x]],iW [[bU y],[bU Y]]] fun h8 h9=>z.T bE [dM h8 h9] fun Z A0=>z.B bu [dM Z A0] fun i0=>aq (!i0) (Q (q8 b c false) []) (Q (q8 Z A0 true) [])) (fun Q=> ∃A1,au C aW [gZ (aE e (jm .i64 (aA (Int.ofNat (List.length e)) 1) 2) (Int.ofNat (List.length e)))] (TV.ag [bU A1]) []∧zD Q (fun Q=>z.T dV [dM b c,vI d,iW [[iI w],[iI x]],iW [[bU y],[bU A1]]] fun i1 i2=>z.T bE [dM i1 i2] fun A2 A3=>z.B bu [dM A2 A3] fun i3=>aq (!i3) (Q (q8 b c false) []) (Q (q8 A2 A3 true) []))))) (False)) (False))) (aq (bG 0 d) (z.G bw [TV.ag [bU m]] fun i4=>aq (bO (Int.ofNat (List.length i4)) 0) (z.T dV [dM b c,vI d,iW [],iW []] fun i5 i6=>z.T bE [dM i5 i6] fun H0 H1=>z.B bu [dM H0 H1] fun i7=>aq (!i7) (Q (q8 b c false) []) (Q (q8 H0 H1 true) [])) (z.T bE [dM R S] fun H2 H3=>z.B bu [dM H2 H3] fun i8=>aq (!i8) (Q (q8 b c false) []) (Q (q8 H2 H3 true) []))) (z.T bE [dM R S] fun H4 H5=>z.B bu [dM H4 H5] fun i9=>aq (!i9) (Q (q8 b c false) []) (Q (q8 H4 H5 true) []))))) (fun Q=>z.T dV [dM b c,vI d,iW [[iI v]],iW [[bU m]]] fun I4 L1=>aq (!u) (z.a o d fun j0=>z.G bw [TV.ag [bU j0]] fun j1=>z.G cD [gZ j1,jv p q r s t] fun j2=>z.G fm [gZ j2] fun f=>aq (bO 2 0) (False) (z.i n d fun A=>z.k f (jm .i64 (aA (Int.ofNat (List.length f)) 1) 2) fun y0 y1 y2 y3 y4=>z.k f (jm .i64 (aA (Int.ofNat (List.length f)) 1) 2) fun j3 j4 k0 k1 k2=>aq (gH 0 (jm .i64 (aA (Int.ofNat (List.length f)) 1) 2) (Int.ofNat (List.length f))) (aq (gH (jm .i64 (aA (Int.ofNat (List.length f)) 1) 2) (Int.ofNat (List.length f)) (Int.ofNat (List.length f))) (z.I qB [jv j3 j4 k0 k1 k2] fun D=>zB Q (fun Q=> ∃L2,au C aW [gZ (aE f 0 (jm .i64 (aA (Int.ofNat (List.length f)) 1) 2))] (TV.ag [bU L2]) []∧ ∃M1,au C aW [gZ (aE f (jm .i64 (aA (Int.ofNat (List.length f)) 1) 2) (Int.ofNat (List.length f)))] (TV.ag [bU M1]) []∧z.T dV [dM b c,vI d,iW [[iI A],[iI D]],iW [[bU L2],[bU M1]]] fun k3 k4=>z.T bE [dM k3 k4] fun M2 Q0=>z.B bu [dM M2 Q0] fun k5=>aq (!k5) (Q (q8 b c false) []) (Q (q8 M2 Q0 true) [])) (fun Q=> ∃E,au C aW [gZ (aE f 0 (jm .i64 (aA (Int.ofNat (List.length f)) 1) 2))] (TV.ag [bU E]) []∧zB Q (fun Q=> ∃R3,au C aW [gZ (aE f (jm .i64 (aA (Int.ofNat (List.length f)) 1) 2) (Int.ofNat (List.length f)))] (TV.ag [bU R3]) []∧z.T dV [dM b c,vI d,iW [[iI A],[iI D]],iW [[bU E],[bU R3]]] fun k6 k7=>z.T bE [dM k6 k7] fun S1 S2=>z.B bu [dM S1 S2] fun k8=>aq (!k8) (Q (q8 b c false) []) (Q (q8 S1 S2 true) [])) (fun Q=> ∃T0,au C aW [gZ (aE f (jm .i64 (aA (Int.ofNat (List.length f)) 1) 2) (Int.ofNat (List.length f)))] (TV.ag [bU T0]) []∧zD Q (fun Q=>z.T dV [dM b c,vI d,iW [[iI A],[iI D]],iW [[bU E],[bU T0]]] fun l2 l3=>z.T bE [dM l2 l3] fun T1 T5=>z.B bu [dM T1 T5] fun l4=>aq (!l4) (Q (q8 b c false) []) (Q (q8 T1 T5 true) []))))) (False)) (False))) (aq (bG 0 d) (z.G bw [TV.ag [bU m]] fun l5=>aq (bO (Int.ofNat (List.length l5)) 0) (z.T dV [dM b c,vI d,iW [],iW []] fun l6 l9=>z.T bE [dM l6 l9] fun V1 W1=>z.B bu [dM V1 W1] fun m1=>aq (!m1) (Q (q8 b c false) []) (Q (q8 V1 W1 true) [])) (z.T bE [dM I4 L1] fun X0 X1=>z.B bu [dM X0 X1] fun m2=>aq (!m2) (Q (q8 b c false) []) (Q (q8 X0 X1 true) []))) (z.T bE [dM I4 L1] fun X2 Z1=>z.B bu [dM X2 Z1] fun m3=>aq (!m3) (Q (q8 b c false) []) (Q (q8 X2 Z1 true) []))))) (fun Q=>zB Q (fun Q=>zB Q (fun Q=>zD Q (fun Q=>z.T dV [dM b c,vI d,iW [[iI v]],iW [[bU m]]] fun Z2 a0=>aq (!u) (z.a o d fun n0=>z.G bw [TV.ag [bU n0]] fun n1=>z.G cD [gZ n1,jv p q r s t] fun n7=>z.G fm [gZ n7] fun g=>aq (bO 2 0) (False) (z.i n d fun F=>z.k g (jm .i64 (aA (Int.ofNat (List.length g)) 1) 2) fun z0 z1 z2 z3 z4=>z.k g (jm .i64 (aA (Int.ofNat (List.length g)) 1) 2) fun n8 n9 o0 o1 o2=>aq (gH 0 (jm .i64 (aA (Int.ofNat (List.length g)) 1) 2) (Int.ofNat (List.length g))) (aq (gH (jm .i64 (aA (Int.ofNat (List.length g)) 1) 2) (Int.ofNat (List.length g)) (Int.ofNat (List.length g))) (z.I qB [jv n8 n9 o0 o1 o2] fun H=>zB Q (fun Q=> ∃a1,au C aW [gZ (aE g 0 (jm .i64 (aA (Int.ofNat (List.length g)) 1) 2))] (TV.ag [bU a1]) []∧ ∃a2,au C aW [gZ (aE g (jm .i64 (aA (Int.ofNat (List.length g)) 1) 2) (Int.ofNat (List.length g)))] (TV.ag [bU a2]) []∧z.T dV [dM b c,vI d,iW [[iI F],[iI H]],iW [[bU a1],[bU a2]]] fun o3 o4=>z.T bE [dM o3 o4] fun a3 a4=>z.B bu [dM a3 a4] fun p0=>aq (!p0) (Q (q8 b c false) []) (Q (q8 a3 a4 true) [])) (fun Q=> ∃J,au C aW [gZ (aE g 0 (jm .i64 (aA (Int.ofNat (List.length g)) 1) 2))] (TV.ag [bU J]) []∧zB Q (fun Q=> ∃a5,au C aW [gZ (aE g (jm .i64 (aA (Int.ofNat (List.length g)) 1) 2) (Int.ofNat (List.length g)))] (TV.ag [bU a5]) []∧z.T dV [dM b c,vI d,iW [[iI F],[iI H]],iW [[bU J],[bU a5]]] fun p1 p2=>z.T bE [dM p1 p2] fun a6 a7=>z.B bu [dM a6 a7] fun p3=>aq (!p3) (Q (q8 b c false) []) (Q (q8 a6 a7 true) [])) (fun Q=> ∃a8,au C aW [gZ (aE g (jm .i64 (aA (Int.ofNat (List.length g)) 1) 2) (Int.ofNat (List.length g)))] (TV.ag [bU a8]) []∧zD Q (fun Q=>z.T dV [dM b c,vI d,iW [[iI F],[iI H]],iW [[bU J],[bU a8]]] fun p4 p7=>z.T bE [dM p4 p7] fun a9 b0=>z.B bu [dM a9 b0] fun q0=>aq (!q0) (Q (q8 b c false) []) (Q (q8 a9 b0 true) []))))) (False)) (False))) (aq (bG 0 d) (z.G bw [TV.ag [bU m]] fun q1=>aq (bO (Int.ofNat (List.length q1)) 0) (z.T dV [dM b c,vI d,iW [],iW []] fun q2 q3=>z.T bE [dM q2 q3] fun b1 b2=>z.B bu [dM b1 b2] fun q4=>aq (!q4) (Q (q8 b c false) []) (Q (q8 b1 b2 true) [])) (z.T bE [dM Z2 a0] fun b3 b4=>z.B bu [dM b3 b4] fun q5=>aq (!q5) (Q (q8 b c false) []) (Q (q8 b3 b4 true) []))) (z.T bE [dM Z2 a0] fun b5 b6=>z.B bu [dM b5 b6] fun q6=>aq (!q6) (Q (q8 b c false) []) (Q (q8 b5 b6 true) []))))) (fun Q=>z.T dV [dM b c,vI d,iW [[iI v]],iW [[bU m]]] fun b7 b8=>aq (!u) (z.a o d fun r0=>z.G bw [TV.ag [bU r0]] fun r1=>z.G cD [gZ r1,jv p q r s t] fun r2=>z.G fm [gZ r2] fun j=>aq (bO 2 0) (False) (z.i n d fun K=>z.k j (jm .i64 (aA (Int.ofNat (List.length j)) 1) 2) fun z9 n299 n300 n301 n302=>z.k j (jm .i64 (aA (Int.ofNat (List.length j)) 1) 2) fun r3 r4 s0 s1 s2=>aq (gH 0 (jm .i64 (aA (Int.ofNat (List.length j)) 1) 2) (Int.ofNat (List.length j))) (aq (gH (jm .i64 (aA (Int.ofNat (List.length j)) 1) 2) (Int.ofNat (List.length j)) (Int.ofNat (List.length j))) (z.I qB [jv r3 r4 s0 s1 s2] fun L=>zB Q (fun Q=> ∃c0,au C aW [gZ (aE j 0 (jm .i64 (aA (Int.ofNat (List.length j)) 1) 2))] (TV.ag [bU c0]) []∧ ∃c1,au C aW [gZ (aE j (jm .i64 (aA (Int.ofNat (List.length j)) 1) 2) (Int.ofNat (List.length j)))] (TV.ag [bU c1]) []∧z.T dV [dM b c,vI d,iW [[iI K],[iI L]],iW [[bU c0],[bU c1]]] fun s3 s4=>z.T bE [dM s3 s4] fun c2 c3=>z.B bu [dM c2 c3] fun s5=>aq (!s5) (Q (q8 b c false) []) (Q (q8 c2 c3 true) [])) (fun Q=> ∃M,au C aW [gZ (aE j 0 (jm .i64 (aA (Int.ofNat (List.length j)) 1) 2))] (TV.ag [bU M]) []∧zB Q (fun Q=> ∃c4,au C aW [gZ (aE j (jm .i64 (aA (Int.ofNat (List.length j)) 1) 2) (Int.ofNat (List.length j)))] (TV.ag [bU c4]) []∧z.T dV [dM b c,vI d,iW [[iI K],[iI L]],iW [[bU M],[bU c4]]] fun s6 s7=>z.T bE [dM s6 s7] fun c5 c9=>z.B bu [dM c5 c9] fun s8=>aq (!s8) (Q (q8 b c false) []) (Q (q8 c5 c9 true) [])) (fun Q=> ∃d0,au C aW [gZ (aE j (jm .i64 (aA (Int.ofNat (List.length j)) 1) 2) (Int.ofNat (List.length j)))] (TV.ag [bU d0]) []∧zD Q (fun Q=>z.T dV [dM b c,vI d,iW [[iI K],[iI L]],iW [[bU M],[bU d0]]] fun s9 t0=>z.T bE [dM s9 t0] fun d1 d2=>z.B bu [dM d1 d2] fun t1=>aq (!t1) (Q (q8 b c false) []) (Q (q8 d1 d2 true) []))))) (False)) (False))) (aq (bG 0 d) (z.G bw [TV.ag [bU m]] fun t2=>aq (bO (Int.ofNat (List.length t2)) 0) (z.T dV [dM b c,vI d,iW [],iW []] fun t3 t4=>z.T bE [dM t3 t4] fun d3 d4=>z.B bu [dM d3 d4] fun t5=>aq (!t5) (Q (q8 b c false) []) (Q (q8 d3 d4 true) [])) (z.T bE [dM b7 b8] fun d5 d6=>z.B bu [dM d5 d6] fun t6=>aq (!t6) (Q (q8 b c false) []) (Q (q8 d5 d6 true) []))) (z.T bE [dM b7 b8] fun d7 d8=>z.B bu [dM d7 d8] fun t7=>aq (!t7) (Q (q8 b c false) []) (Q (q8 d7 d8 true) []))))) (fun Q=>zD Q (fun Q=>z.T dV [dM b c,vI d,iW [[iI v]],iW [[bU m]]] fun d9 e0=>aq (!u) (z.a o d fun t8=>z.G bw [TV.ag [bU t8]] fun t9=>z.G cD [gZ t9,jv p q r s t] fun u0=>z.G fm [gZ u0] fun l=>aq (bO 2 0) (False) (z.i n d fun N=>z.k l (jm .i64 (aA (Int.ofNat (List.length l)) 1) 2) fun n353 n354 n355 n356 n357=>z.k l (jm .i64 (aA (Int.ofNat (List.length l)) 1) 2) fun u1 u2 u3 u4 u8=>aq (gH 0 (jm .i64 (aA (Int.ofNat (List.length l)) 1) 2) (Int.ofNat (List.length l))) (aq (gH (jm .i64 (aA (Int.ofNat (List.length l)) 1) 2) (Int.ofNat (List.length l)) (Int.ofNat (List.length l))) (z.I qB [jv u1 u2 u3 u4 u8] fun O=>zB Q (fun Q=> ∃e1,au C aW [gZ (aE l 0 (jm .i64 (aA (Int.ofNat (List.length l)) 1) 2))] (TV.ag [bU e1]) []∧ ∃e2,au C aW [gZ (aE l (jm .i64 (aA (Int.ofNat (List.length l)) 1) 2) (Int.ofNat (List.length l)))] (TV.ag [bU e2]) []∧z.T dV [dM b c,vI d,iW [[iI N],[iI O]],iW [[bU e1],[bU e2]]] fun v0 v1=>z.T bE [dM v0 v1] fun e3 e4=>z.B bu [dM e3 e4] fun v2=>aq (!v2) (Q (q8 b c false) []) (Q (q8 e3 e4 true) [])) (fun Q=> ∃P,au C aW [gZ (aE l 0 (jm .i64 (aA (Int.ofNat (List.length l)) 1) 2))] (TV.ag [bU P]) []∧zB Q (fun Q=> ∃e5,au C aW [gZ (aE l (jm .i64 (aA (Int.ofNat (List.length l)) 1) 2) (Int.ofNat (List.length l)))] (TV.ag [bU e5]) []∧z.T dV [dM b c,vI d,iW [[iI N],[iI O]],iW [[bU P],[bU e5]]] fun v3 v4=>z.T bE [dM v3 v4] fun e6 f0=>z.B bu [dM e6 f0] fun v5=>aq (!v5) (Q (q8 b c false) []) (Q (q8 e6 f0 true) [])) (fun Q=> ∃f1,au C aW [gZ (aE l (jm .i64 (aA (Int.ofNat (List.length l)) 1) 2) (Int.ofNat (List.length l)))] (TV.ag [bU f1]) []∧zD Q (fun Q=>z.T dV [dM b c,vI d,iW [[iI N],[iI O]],iW [[bU P],[bU f1]]] fun v6 v9=>z.T bE [dM v6 v9] fun f2 f3=>z.B bu [dM f2 f3] fun w0=>aq (!w0) (Q (q8 b c false) []) (Q (q8 f2 f3 true) []))))) (False)) (False))) (aq (bG 0 d) (z.G bw [TV.ag [bU m]] fun w1=>aq (bO (Int.ofNat (List.length w1)) 0) (z.T dV [dM b c,vI d,iW [],iW []] fun w2 w3=>z.T bE [dM w2 w3] fun f4 f5=>z.B bu [dM f4 f5] fun x0=>aq (!x0) (Q (q8 b c false) []) (Q (q8 f4 f5 true) [])) (z.T bE [dM d9 e0] fun f6 f7=>z.B bu [dM f6 f7] fun x1=>aq (!x1) (Q (q8 b c false) []) (Q (q8 f6 f7 true) []))) (z.T bE [dM d9 e0] fun f8 f9=>z.B bu [dM f8 f9] fun x2=>aq (!x2) (Q (q8 b c false) []) (Q (q8 f8 f9 true) [])))))))))):aX C oN [dM n o,jv p q r s t] Q:=aZ (hc NV [] (hc iU [] (hb hz (hc iU [] (hb hz (hc sM [] (hr [Sh.sub 1] (zH (hc (Fq.tu [(1,[Sh.sub 1]),(0,[sB])]) [] (hr [sI] (Hint.both (Hint.both (zH akj) akj) (Hint.both (Hint.both (zH akj) akj) (zH akj))))))))))))) h
theorem Sx (d e) (Q:QV) (h:z.E nK [q7 d] fun b=>z.I jg [q7 d] fun a=>aq (bG a 0) (Q (TV.tu [(0,[P2 b]),(0,[iI 0]),(0,[iB false])]) []) (z.B tD [vI e] fun f=>aq (!f) (Q (TV.tu [(0,[P2 b]),(0,[iI 0]),(0,[iB false])]) []) (z.B e8 [q7 d] fun g=>aq (!g) (Q (TV.tu [(0,[P2 b]),(0,[iI 0]),(0,[iB false])]) []) (z.c b a fun i j k=>z.c b a fun l m n=>z.c (setRow b a 1 [iB true]) a fun o p q=>z.c (setRow b a 1 [iB true]) a fun r s t=>Q (TV.tu [(0,[P2 (setRow (setRow b a 1 [iB true]) a 2 [iI e])]),(0,[iI a]),(0,[iB true])]) [])))):aX C rO [q7 d,vI e] Q:=aZ (hc Wj [] (hc sM [] (hb hz (hc iU [] (hb hz (hc iU [] (hb hz (hr [sI,sB,sI] (hr [sI,sB,sI] ahH))))))))) h
theorem Yi (a b c d e f g i j k l) (Q:QV) (h:zD Q (fun Q=>z.M wA [dM a b,vI g,vI i] fun s t u v w x=>zD Q (fun Q=>z.N oN [dM a b,jv g i j k l] fun y A B=>aq (!B) (Q (vB false) [r7 a b c d e f]) (∃m n o p q r,au C FL [r7 y A c d e f,jv s t u v w,vB x] (TV.tu []) [r7 m n o p q r]∧Q (vB true) [r7 m n o p q r])))):aX C oO [r7 a b c d e f,jv g i j k l] Q:=aZ (zH (hc JM [] (zH (hc Ya [] (hb hz (hc (Fq.tu []) [X9] hz)))))) h
theorem Yj (a) (Q:QV) (h:z.B cQ [vI a,vI 0,vI 65535] fun b=>Q (vB b) []):aX C tD [vI a] Q:=aZ Yb h
theorem J0 (a b d f c g j e) (Q:QV) (h:z.v c j fun N O P R=>z.v c j fun S i T U=>zD Q (fun Q=>z.M w7 [dM a b,lQ d,vI e,vI i] fun V W I X Y J=>aq J (aq (bO I 1) (∃k l m n o p q,au C ie [r7 a b d f c g,jv e i 2 0 0] (vB k) [r7 l m n o p q]∧Q (vB k) [r7 l m n o p q]) (z.M wB [dM a b,vI e,vI i] fun Z A0 A1 A2 A3 K=>aq K (∃r s t u w x y,au C ie [r7 a b d f c g,jv e i 0 0 0] (vB r) [r7 s t u w x y]∧Q (vB r) [r7 s t u w x y]) (Q (vB true) [r7 a b d f c g]))) (z.M wB [dM a b,vI e,vI i] fun H0 H1 H2 H3 H4 L=>aq L (∃A B D E F G H,au C ie [r7 a b d f c g,jv e i 0 0 0] (vB A) [r7 B D E F G H]∧Q (vB A) [r7 B D E F G H]) (Q (vB true) [r7 a b d f c g])))):aX C qI [r7 a b d f c g,vI j,vI e] Q:=aZ (hr [sS,sI,sI,sB] (hr [sS,sI,sI,sB] (zH (hc JM [] (hb (hb abC (hc JM [] (hb abC hz))) (hc JM [] (hb abC hz))))))) h
theorem Yk (d e a f g j b) (Q:QV) (h:z.A gQ [lQ a,vI b] fun c=>z.B nj [bg d e a f g j,vI b] fun k=>aq (!k) (Q (vI 0) []) (aq (!bO (Int.ofNat (List.length c)) 1) (Q (vI 0) []) (z.i c 0 fun m=>z.i c 0 fun l=>Q (vI l) []))):aX C yy [bg d e a f g j,vI b] Q:=aZ (hc Ec [] (hc iU [] (hb hz (hb hz ame)))) h
theorem Yl (a b) (Q:QV) (h:aq (bG (cV b (Int.ofNat (List.length a))) 0) (Q (vI (-1)) []) (Q (vI (cV b (Int.ofNat (List.length a)))) [])):aX C Jz [iW a,vI b] Q:=aZ sr h
theorem Ym (a) (Q:QV) (h:aq (bT a&&fits (Nat.add 0 (List.length a)) 24) (Q (q7 a) []) (False)):aX C lW [q7 a] Q:=aZ sr h
theorem Yn (a b c) (Q:QV) (h:Q (TV.ag [iI a,iB b,iI c]) []):aX C JA [TV.ag [iI a,iB b,iI c]] Q:=aZ hz h
theorem abF (a b c d) (Q:QV) (h:aq (!bO a c) (Q (vB false) []) (aq (!bO b d) (Q (vB false) []) (Q (vB true) []))):aX C L0 [TV.ag [iI a,iI b],TV.ag [iI c,iI d]] Q:=aZ KN h
theorem Qa (a b) (Q:QV) (h:ah C jo aj 4 0 (qM b 0 a) (fun x st=>ax C jo aj x st Q)):aX C jo [iW a,vI b] Q:=aZ hz h
theorem Ba (d b c) (Q:QX) (h:aq (bG b (Int.ofNat (List.length c))) (z.a c b fun i=>z.a c b fun g=> ∃e f,au C jr [iW g,vI d] (vI e) [iW f]∧ah C jo aj 4 0 (qM e (aA b 1) (setRow c b 0 [bU f])) Q) (Q c6 (AO d b (bG b (Int.ofNat (List.length c))) c))):ah C jo aj 4 0 (qM d b c) Q:=bM (hb (hr [Sh.sub 1] (hr [Sh.sub 1] (hc sM [Ec] hz))) hz) h
theorem Ms (a c d b) (Q:QV) (h:Q (vI a) [iW b]):ax C jo aj c6 (AO a c d b) Q:=aQ hz h
end Go.T.R
