/- SharesMixes: Mix returns a mixture that makes y out of x, where there is one, and CheckMix tells whether a matrix is such a one; or the documented error. -/
import Derived.Test.YtefmafbbnkkpjaaX0
import Derived.Test.YtefmafbbnkkpjaaXG2a
import Derived.Test.YtefmafbbnkkpjaaXf21
import Derived.Test.YtefmafbbnkkpjaaXG1a
import Derived.Test.YtefmafbbnkkpjaaE61
import Derived.Test.YtefmafbbnkkpjaaXf57
import Derived.Test.YtefmafbbnkkpjaaE56
import Derived.Test.YtefmafbbnkkpjaaSXm
import Derived.Test.YtefmafbbnkkpjaaPureSharesParted
namespace Go.Proofs.Ytefmafbbnkkpjaa.Pure
set_option linter.unusedVariables false
set_option linter.unusedSimpArgs false
open Go Go.RowKit Go.Proofs.Ytefmafbbnkkpjaa.X Go.Proofs.YtefmafbbnkkpjaaW.PrintWords Go.Proofs.YtefmafbbnkkpjaaW.PrintLast

theorem FMI.b64 {n : Nat} {D : Int} {m : List (List S62)} {L : Nat → Nat → Int} (h : FM n D m L) (hD : 1 ≤ D) (hD2 : D ≤ 10000000) : ∀ r ∈ m, ∀ f ∈ r, B64 f := fun r hr f hf => by
  obtain ⟨i, hi, rfl⟩ := mem_rd5 hr
  obtain ⟨j, hj, rfl⟩ := List.getElem_of_mem hf
  have hrl := h.sq _ hr
  rw [h.len] at hi
  have e1 := h.el i hi j (by omega)
  have b := h.bd i hi j (by omega)
  have e : (rd_L5 m (i : Int))[j] = Pure.el m i j := by
    unfold Pure.el rd_T62
    rw [List.getD_eq_getElem?_getD, Int.toNat_natCast, List.getElem?_eq_getElem hj]; rfl
  obtain ⟨l, _, l3, l4⟩ := fr_low hD b.1
  rw [e, e1]
  have := l.d1
  have := l.n0
  exact ⟨by omega, by omega, by omega, by omega⟩
end Go.Proofs.Ytefmafbbnkkpjaa.Pure
