import Derived.Test.YtlkjkfidmkdchaaGreatTR1
set_option linter.all false
set_option maxRecDepth 100000
namespace Go.T.R
open Go Go.T
theorem qF (a b c d e) (Q:QV) (h:Q (vI (-1)) []):aD C de an fC (kE a b c d e) Q:=bE hz h
theorem qG (a b) (Q:QV) (h:z.I aL [Yg a,TV.fn 54 [[iI b]]] fun c=>Q (vB (pQ 0 c)) []):aZ C eK [Yg a,TV.fn 54 [[iI b]]] Q:=bQ GA h
theorem qS (a b c d e) (Q:QV) (h:ah C aL an 4 0 (dI a 0 b c d e) (fun x st=>aD C aL an x st Q)):aZ C aL [Yg a,TV.fn 108 [[iS b,iI c,iI d,iB e]]] Q:=bQ hz h
theorem kf (a b c d e f) (Q:QX) (h:aC (cN b (Int.ofNat (List.length a))) (z.v a b fun g i j k=>z.B oZ [TV.ag [iS g,iI i,iI j,iB k],TV.bx [iS c,iI d,iI e,iB f]] fun l=>aC l (Q TX.ret (j9 b c d e f)) (ah C aL an 4 0 (dI a (aE b 1) c d e f) Q)) (Q fC (ke a (Int.ofNat (List.length a)) b (cN b (Int.ofNat (List.length a))) c d e f))):ah C aL an 4 0 (dI a b c d e f) Q:=cK (hb aeI hz) h
theorem qi (a b c d e) (Q:QV) (h:Q (vI a) []):aD C aL an TX.ret (j9 a b c d e) Q:=bE hz h
theorem qj (a b c d e f g i) (Q:QV) (h:Q (vI (-1)) []):aD C aL an fC (ke a b c d e f g i) Q:=bE hz h
theorem sv (a b) (Q:QV) (h:ah C aL an 4 0 (dY a 0 b) (fun x st=>aD C aL an x st Q)):aZ C aL [Yg a,TV.fn 54 [[iI b]]] Q:=bQ hz h
theorem lq (a b c) (Q:QX) (h:aC (cN b (Int.ofNat (List.length a))) (z.v a b fun d e f g=>z.B ve [TV.ag [iS d,iI e,iI f,iB g],TV.bx [iI c]] fun i=>aC i (Q TX.ret (ld b c)) (ah C aL an 4 0 (dY a (aE b 1) c) Q)) (Q fC (lg a (Int.ofNat (List.length a)) b (cN b (Int.ofNat (List.length a))) c))):ah C aL an 4 0 (dY a b c) Q:=cK (hb aeI hz) h
theorem qT (a b) (Q:QV) (h:Q (vI a) []):aD C aL an TX.ret (ld a b) Q:=bE hz h
theorem qU (a b c d e) (Q:QV) (h:Q (vI (-1)) []):aD C aL an fC (lg a b c d e) Q:=bE hz h
end Go.T.R
