/- What the row asks for beside. -/
import Derived.Test.YtlkjkfidmkdchaaGreatTP1
set_option linter.all false
set_option maxRecDepth 100000
namespace Go.T
theorem callOk_of {C C' : mG} (hP : C'.P = C.P) {f : FuncId} (hs : C'.sig f = C.sig f) {vs : List TV} {r : TV} {fs : List TV} (h : LX C f vs r fs) : LX C' f vs r fs := by
  refine ⟨?_, ?_⟩
  · rw [hP]; exact h.body
  · rw [hP, hs]; exact h.calls
theorem extP_ok {C C' : mG} (hC : Y4 C) (hP : C'.P = C.P) {f : FuncId} (hs : C'.sig f = C.sig f) {vs : List TV} {r : TV} {fs : List TV} (h : Jg C f vs = some (r, fs)) : LX C' f vs r fs := by
  obtain ⟨k, h⟩ := af7 h
  exact callOk_of hP hs (Y5 hC k f vs r fs h)
end Go.T
namespace Go.T.R
open Go Go.T
theorem tysA : (List.range 217).all (ace CA.P CA.tt) = true := tys
theorem tyOkA : ij CA := ahp (n := 217) (fun t ht => by
  have : agn.length ≤ 217 := by decide
  have h1 : CA.tt t = no := by
    show agn.getD t no = no
    rw [List.getD_eq_getElem?_getD, List.getElem?_eq_none (Nat.le_trans this ht)]; rfl
  rw [h1]; rfl) tysA
theorem prsA : Y7 CA 0 CA.P.funcs.toList = true := by kernel_rfl
theorem extOkA (f : FuncId) (p : List TV → Option (TV × List TV)) (vs : List TV) (r : TV) (fs : List TV) (h : CA.ext f = some p) (hp : p vs = some (r, fs)) : LX CA f vs r fs := by
  have h : ang f = some p := h
  unfold ang at h
  split at h
  · cases h
  · cases h
  · cases h
  · cases h
  · cases h
  · cases h
  · cases h; exact extP_ok (C := C) (C' := CA) apf rfl (by show anf f = sig f; unfold anf; split <;> first | rfl | (exfalso; simp_all)) hp
theorem prOkA : Y4 CA := ahN tyOkA prsA (by kernel_rfl) extOkA
theorem tysD : (List.range 217).all (ace CD.P CD.tt) = true := tys
theorem tyOkD : ij CD := ahp (n := 217) (fun t ht => by
  have : agn.length ≤ 217 := by decide
  have h1 : CD.tt t = no := by
    show agn.getD t no = no
    rw [List.getD_eq_getElem?_getD, List.getElem?_eq_none (Nat.le_trans this ht)]; rfl
  rw [h1]; rfl) tysD
theorem prsD : Y7 CD 0 CD.P.funcs.toList = true := by kernel_rfl
theorem extOkD (f : FuncId) (p : List TV → Option (TV × List TV)) (vs : List TV) (r : TV) (fs : List TV) (h : CD.ext f = some p) (hp : p vs = some (r, fs)) : LX CD f vs r fs := by
  have h : anh f = some p := h
  unfold anh at h
  split at h
  · cases h
  · cases h
  · cases h
  · cases h
  · cases h
  · cases h
  · cases h
  · cases h
  · cases h; exact extP_ok (C := CA) (C' := CD) prOkA rfl rfl hp
  · cases h; exact extP_ok (C := C) (C' := CD) apf rfl rfl hp
theorem prOkD : Y4 CD := ahN tyOkD prsD (by kernel_rfl) extOkD
end Go.T.R
