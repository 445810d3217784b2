/- SharesCompares: Uneven returns whether shares are at least as uneven as others, and Gap the sum of their differences, or the documented error. -/
import Derived.Test.YtefmafbbnkkpjaaXf3
import Derived.Test.YtefmafbbnkkpjaaSG
namespace Go.Proofs.Ytefmafbbnkkpjaa.Pure
open Go Go.RowKit Go.Proofs.Ytefmafbbnkkpjaa.X Go.Proofs.YtefmafbbnkkpjaaW.PrintWords Go.Proofs.YtefmafbbnkkpjaaW.PrintLast
set_option linter.unusedVariables false
set_option linter.unusedSimpArgs false

theorem SharesCompares : congoulaw01_SharesCompares.Pure := by
  intro l0 l1 h0_ hm0 _ h1_ hm1 _
  have h0 : l0.length ≤ 9223372036854775807 := by unfold maxLen at h0_; exact h0_
  have h1 : l1.length ≤ 9223372036854775807 := by unfold maxLen at h1_; exact h1_
  refine ⟨l0.length + l1.length + 1000 + 1, ?_⟩
  generalize hK : l0.length + l1.length + 1000 = K
  unfold congoulaw01_SharesCompares.f
  rw [list_f l0 h0, list_f l1 h1]
  simp only [Option.bind_some]
  rw [Uneven_f (take15 _) (take15 _) _ (by omega), Gap_f (take15 _) _ (by omega), rsh_f l0 (by omega) _ (by omega)]
  simp only [Option.bind_some]
  rw [dc_congr two_take, dc_congr sh_take, awake_f _ (by omega)]
  by_cases hs : Sh l0
  · rw [dc_true hs, if_pos rfl, if_pos rfl, sh_same hs, RGap_f hs _ (by omega)]
    simp only [Option.bind_some, if_true, Bool.not_true, congoulaw01_SharesCompares.j0, Bool.false_eq_true, if_false]
    rw [two_f l0 l1 (by omega) (by omega) _ (by omega) (by omega), Option.bind_some]
    by_cases h2 : Two l0 l1
    · rw [dc_true h2, if_pos rfl, if_pos rfl, runeven_f (sm_of_sh h2.1) (sm_of_sh h2.2.1) _ (by omega), Option.bind_some, sh_same h2.2.1]
      simp
    · rw [dc_false h2]
      simp
  · have h2 : ¬ Two l0 l1 := fun t => hs t.1
    rw [dc_false hs, dc_false h2]
    simp
end Go.Proofs.Ytefmafbbnkkpjaa.Pure
