/- SharesParted: Split takes a mixture apart into permutations that stand where it is above 0, and CheckSplit takes the parts; or the documented error. -/
import Derived.Test.YtefmafbbnkkpjaaX0
import Derived.Test.YtefmafbbnkkpjaaXG1a
import Derived.Test.YtefmafbbnkkpjaaXG2a
import Derived.Test.YtefmafbbnkkpjaaXf21
import Derived.Test.YtefmafbbnkkpjaaXf98
import Derived.Test.YtefmafbbnkkpjaaE97
import Derived.Lib.Hide
import Derived.Deep.RegionLawGrows
import Derived.Test.YtefmafbbnkkpjaaXf86
import Derived.Test.YtefmafbbnkkpjaaSX
namespace Go.Proofs.Ytefmafbbnkkpjaa.Pure
set_option linter.unusedVariables false
set_option linter.unusedSimpArgs false
open Go Go.RowKit Go.Proofs.Ytefmafbbnkkpjaa.X Go.Proofs.YtefmafbbnkkpjaaW.PrintWords Go.Proofs.YtefmafbbnkkpjaaW.PrintLast

theorem wf_i64 (x : Int) : (Lit.int .i64 x).wf = true ↔ -9223372036854775808 ≤ x ∧ x ≤ 9223372036854775807 := by
  unfold Lit.wf
  rw [Bool.and_eq_true, decide_eq_true_eq, decide_eq_true_eq]
  exact Iff.rfl
theorem b64_of {l0 : List (List S62)} (h1_ : (∀ x ∈ l0, (x.length ≤ maxLen ∧ ∀ x5_ ∈ x, ((Lit.int .i64 x5_.f0).wf = true ∧ (Lit.int .i64 x5_.f1).wf = true)))) : ∀ r ∈ l0, ∀ f ∈ r, B64 f := fun r hr f hf => by
  have h := (h1_ r hr).2 f hf
  have a := (wf_i64 _).mp h.1
  have b := (wf_i64 _).mp h.2
  exact ⟨a.1, a.2, b.1, b.2⟩
theorem cpM_B64 {m : List (List S62)} (h : ∀ r ∈ m, ∀ f ∈ r, B64 f) : ∀ r ∈ cpM m, ∀ f ∈ r, B64 f := fun r hr f hf => by
  obtain ⟨_, s, hs, rfl⟩ := cpM_at hr
  exact h s hs f (List.mem_of_mem_take hf)
end Go.Proofs.Ytefmafbbnkkpjaa.Pure
