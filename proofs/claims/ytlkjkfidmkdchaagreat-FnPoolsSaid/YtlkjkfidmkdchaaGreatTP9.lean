/- What the row asks for beside. -/
import Derived.Test.YtlkjkfidmkdchaaGreatTP1
set_option linter.all false
set_option maxRecDepth 100000
namespace Go.T
theorem callOk_of {C C' : mA} (hP : C'.P = C.P) {f : FuncId} (hs : C'.sig f = C.sig f) {vs : List TV} {r : TV} {fs : List TV} (h : UW C f vs r fs) : UW C' f vs r fs := by
  refine ⟨?_, ?_⟩
  · rw [hP]; exact h.body
  · rw [hP, hs]; exact h.calls
theorem extP_ok {C C' : mA} (hC : W4 C) (hP : C'.P = C.P) {f : FuncId} (hs : C'.sig f = C.sig f) {vs : List TV} {r : TV} {fs : List TV} (h : HM C f vs = some (r, fs)) : UW C' f vs r fs := by
  obtain ⟨k, h⟩ := aee h
  exact callOk_of hP hs (W5 hC k f vs r fs h)
end Go.T
namespace Go.T.R
open Go Go.T
theorem tysA : (List.range 217).all (aal CA.P CA.tt) = true := tys
theorem tyOkA : hD CA := aff (n := 217) (fun t ht => by
  have : aep.length ≤ 217 := by decide
  have h1 : CA.tt t = no := by
    show aep.getD t no = no
    rw [List.getD_eq_getElem?_getD, List.getElem?_eq_none (Nat.le_trans this ht)]; rfl
  rw [h1]; rfl) tysA
theorem prsA : W7 CA 0 CA.P.funcs.toList = true := by kernel_rfl
theorem extOkA (f : FuncId) (p : List TV → Option (TV × List TV)) (vs : List TV) (r : TV) (fs : List TV) (h : CA.ext f = some p) (hp : p vs = some (r, fs)) : UW CA f vs r fs := by
  have h : ak5 f = some p := h
  unfold ak5 at h
  split at h
  · cases h
  · cases h
  · cases h
  · cases h
  · cases h
  · cases h
  · cases h; exact extP_ok (C := C) (C' := CA) am0 rfl (by show ak4 f = sig f; unfold ak4; split <;> first | rfl | (exfalso; simp_all)) hp
theorem prOkA : W4 CA := afE tyOkA prsA (by kernel_rfl) extOkA
theorem tysD : (List.range 217).all (aal CD.P CD.tt) = true := tys
theorem tyOkD : hD CD := aff (n := 217) (fun t ht => by
  have : aep.length ≤ 217 := by decide
  have h1 : CD.tt t = no := by
    show aep.getD t no = no
    rw [List.getD_eq_getElem?_getD, List.getElem?_eq_none (Nat.le_trans this ht)]; rfl
  rw [h1]; rfl) tysD
theorem prsD : W7 CD 0 CD.P.funcs.toList = true := by kernel_rfl
theorem extOkD (f : FuncId) (p : List TV → Option (TV × List TV)) (vs : List TV) (r : TV) (fs : List TV) (h : CD.ext f = some p) (hp : p vs = some (r, fs)) : UW CD f vs r fs := by
  have h : ak6 f = some p := h
  unfold ak6 at h
  split at h
  · cases h
  · cases h
  · cases h
  · cases h
  · cases h
  · cases h
  · cases h
  · cases h
  · cases h; exact extP_ok (C := CA) (C' := CD) prOkA rfl rfl hp
  · cases h; exact extP_ok (C := C) (C' := CD) am0 rfl rfl hp
theorem prOkD : W4 CD := afE tyOkD prsD (by kernel_rfl) extOkD
end Go.T.R
