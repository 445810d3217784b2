/- SharesPowers: Power returns the sum over all orders, or the documented error. -/
import Derived.Test.YtefmafbbnkkpjaaXf4
import Derived.Test.YtefmafbbnkkpjaaSR
namespace Go.Proofs.Ytefmafbbnkkpjaa.Pure
open Go Go.RowKit Go.Proofs.Ytefmafbbnkkpjaa.X Go.Proofs.YtefmafbbnkkpjaaW.PrintWords Go.Proofs.YtefmafbbnkkpjaaW.PrintLast
set_option linter.unusedVariables false
set_option linter.unusedSimpArgs false

theorem SharesPowers : congoulaw01_SharesPowers.Pure := by
  intro x a hx_ _ _ ha_ _ _
  have hx : x.length ≤ 9223372036854775807 := by unfold maxLen at hx_; exact hx_
  have ha : a.length ≤ 9223372036854775807 := by unfold maxLen at ha_; exact ha_
  refine ⟨2 * x.length + 2 * a.length + 1000 + 1, ?_⟩
  generalize hK : 2 * x.length + 2 * a.length + 1000 = K
  unfold congoulaw01_SharesPowers.f
  rw [list_f x hx, list_f a ha]
  simp only [Option.bind_some]
  rw [Power_f (take15 _) (take15 _) _ (by omega), Few_f x a hx ha _ (by omega), dc_congr fw_take, awake_f _ (by omega)]
  simp only [Option.bind_some]
  by_cases h : Fw x a
  · rw [dc_true h, sh_same h.sx, fw_same h, rp_f x.length x a (K + 1) rfl h.hl h.l4 h.x06 h.a15 (by have := h.l4; omega)]
    simp
  · rw [dc_false h]
    simp
end Go.Proofs.Ytefmafbbnkkpjaa.Pure
