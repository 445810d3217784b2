/- Split and CheckSplit of the program. -/
import Derived.Test.YtefmafbbnkkpjaaSW
import Derived.Test.YtefmafbbnkkpjaaXG2a
import Derived.Test.YtefmafbbnkkpjaaX0
import Derived.Test.YtefmafbbnkkpjaaXf98
import Derived.Test.YtefmafbbnkkpjaaE97
import Derived.Test.YtefmafbbnkkpjaaXG1a
import Derived.Lib.Hide
import Derived.Deep.RegionLawGrows
import Derived.Test.YtefmafbbnkkpjaaXf86
namespace Go.Proofs.Ytefmafbbnkkpjaa.Pure
open Go Go.RowKit Go.Proofs.Ytefmafbbnkkpjaa.X Go.Proofs.YtefmafbbnkkpjaaW.PrintWords Go.Proofs.YtefmafbbnkkpjaaW.PrintLast Go.Proofs.YtefmafbbnkkpjaaW.PrintMore
set_option linter.unusedVariables false
set_option linter.unusedSimpArgs false

theorem ei_rowV {D : Int} {m : List (List S62)} {i j : Nat} (hi : i < m.length) (hj : j < (rd_L5 m (i : Int)).length) : ei (m.map (rowV D)) i j = val D (el m i j) := by
  unfold ei el
  have e : rd_L1 (m.map (rowV D)) (i : Int) = rowV D (rd_L5 m (i : Int)) := by
    simp [rd_L1, rd_L5, List.getD_eq_getElem?_getD, List.getElem?_eq_getElem hi]
  rw [e, rd_at, getD_get (by simpa [rowV] using hj), rowV_at hj]
end Go.Proofs.Ytefmafbbnkkpjaa.Pure
