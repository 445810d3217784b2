/- SharesMuirhead: the sum of powers of shares is at least that of less uneven ones. -/
import Derived.Test.YtefmafbbnkkpjaaXf5
import Derived.Test.YtefmafbbnkkpjaaSQ
namespace Go.Proofs.Ytefmafbbnkkpjaa.Pure
open Go Go.RowKit Go.Proofs.Ytefmafbbnkkpjaa.X Go.Proofs.YtefmafbbnkkpjaaW.PrintWords Go.Proofs.YtefmafbbnkkpjaaW.PrintLast
set_option linter.unusedVariables false
set_option linter.unusedSimpArgs false

theorem SharesMuirhead : congoulaw01_SharesMuirhead.Pure := by
  intro x y a hx_ _ _ hy_ _ _ ha_ _ _
  have hx : x.length ≤ 9223372036854775807 := by unfold maxLen at hx_; exact hx_
  have hy : y.length ≤ 9223372036854775807 := by unfold maxLen at hy_; exact hy_
  have ha : a.length ≤ 9223372036854775807 := by unfold maxLen at ha_; exact ha_
  refine ⟨2 * x.length + 2 * y.length + 2 * a.length + 1000 + 1, ?_⟩
  generalize hK : 2 * x.length + 2 * y.length + 2 * a.length + 1000 = K
  unfold congoulaw01_SharesMuirhead.f
  rw [list_f x hx, list_f y hy, list_f a ha]
  simp only [Option.bind_some]
  rw [Power_f (take15 _) (take15 _) _ (by omega), Power_f (take15 _) (take15 _) _ (by omega), Few_f x a hx ha _ (by omega), Few_f y a hy ha _ (by omega), dc_congr (fw_take (x := x)), dc_congr (fw_take (x := y))]
  simp only [Option.bind_some]
  have aw := awake_f K (by omega)
  by_cases h1 : Fw x a
  · by_cases h2 : Fw y a
    · have hl : x.length = y.length := h1.hl.symm.trans h2.hl
      have t1 : Two x y := ⟨h1.sx, h2.sx, hl⟩
      have t2 : Two y x := ⟨h2.sx, h1.sx, hl.symm⟩
      have a0 : ∀ b ∈ a, 0 ≤ b := fun b hb => by have := h1.a15 b hb; omega
      have lx := h1.l4
      have ly := h2.l4
      rw [dc_true h1, dc_true h2, sh_same h1.sx, sh_same h2.sx, fw_same h1]
      simp only [if_true, Bool.not_true, congoulaw01_SharesMuirhead.j0, Bool.false_eq_true, if_false]
      rw [list_f x hx, list_f y hy, sh_same h1.sx, sh_same h2.sx]
      simp only [Option.bind_some]
      rw [Uneven_f (x := x) (y := y) (by omega) (by omega) K (by omega), Uneven_f (x := y) (y := x) (by omega) (by omega) K (by omega), dc_true t1, dc_true t2, aw]
      simp only [Option.bind_some, if_true]
      have m1 : Maj x y → PS a y ≤ PS a x := fun m => muirhead h1.sx.nn hl a0 m
      have m2 : Maj y x → PS a x ≤ PS a y := fun m => muirhead h2.sx.nn hl.symm a0 m
      by_cases c1 : Maj x y
      · by_cases c2 : Maj y x
        · rw [dc_true c1, dc_true c2]
          have := m1 c1; have := m2 c2
          simp [show PS a x ≥ PS a y by omega, show PS a x ≤ PS a y by omega]
        · rw [dc_true c1, dc_false c2]
          have := m1 c1
          simp [show PS a x ≥ PS a y by omega]
      · by_cases c2 : Maj y x
        · rw [dc_false c1, dc_true c2]
          have := m2 c2
          simp [show PS a x ≤ PS a y by omega]
        · rw [dc_false c1, dc_false c2]
          simp
    · rw [dc_true h1, dc_false h2]
      simp [congoulaw01_SharesMuirhead.j0, aw]
  · rw [dc_false h1]
    simp [congoulaw01_SharesMuirhead.j0, aw]
end Go.Proofs.Ytefmafbbnkkpjaa.Pure
