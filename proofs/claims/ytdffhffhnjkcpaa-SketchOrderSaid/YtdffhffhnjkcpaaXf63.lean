-- Written by a program of this work (wip/xprint.py, over the kit's printer) out of the translation.
import Derived.Test.YtdffhffhnjkcpaaX0
namespace Go.Proofs.Ytdffhffhnjkcpaa.X
open Go.RowKit Go.Proofs.YtdffhffhnjkcpaaW.PrintWords Go.Proofs.YtdffhffhnjkcpaaW.PrintLast Go.Proofs.YtdffhffhnjkcpaaW.PrintMore
attribute [local go_sem] max2_int min2_int max_two min_two max_three min_three max_four min_four   -- for this text's walks alone
set_option linter.unusedVariables false
set_option linter.unusedSimpArgs false

/-! ### congouref03_Index: function 63 -/
def congouref03_Index.f (a0 : Int) (a1 : Int) (a2 : Int) : Option (Int) := if (wrap64 (a0 + 2)) = 0 then (none) else (if a1 = 0 then (none) else (some (Int.tmod (wrap64 ((wrap64 (a2 * (wrap64 (a0 + 1)))) + (wrap64 (Int.tdiv a2 (wrap64 (a0 + 2)))))) a1)))
set_option maxHeartbeats 8000000 in
set_option maxRecDepth 100000 in
theorem congouref03_Index.calls (a0 : Int) (a1 : Int) (a2 : Int) (r : Int) (w : World) (h : congouref03_Index.f a0 a1 a2 = some r) :
    Calls Try.prog 63 #[.int .i64 a0, .int .i64 a1, .int .i64 a2] w fun e w' => e = .returned (.int .i64 r) ∧ Drawn0 w w' := by
  have H : (if (wrap64 (a0 + 2)) = 0 then (none) else (if a1 = 0 then (none) else (some (Int.tmod (wrap64 ((wrap64 (a2 * (wrap64 (a0 + 1)))) + (wrap64 (Int.tdiv a2 (wrap64 (a0 + 2)))))) a1)))) = some r := h
  clear h
  by_cases c4 : (wrap64 (a0 + 2)) = 0
  · rw [if_pos c4] at H
    exact absurd H (by simp)
  · rw [if_neg c4] at H
    have c4b0 : ((wrap64 (a0 + 2)) == 0) = false := beq_eq_false_iff_ne.mpr c4
    have c4b1 : ((wrap64 (a0 + 2)) != 0) = true := bne_iff_ne.mpr c4
    by_cases c5 : a1 = 0
    · rw [if_pos c5] at H
      exact absurd H (by simp)
    · rw [if_neg c5] at H
      have c5b0 : (a1 == 0) = false := beq_eq_false_iff_ne.mpr c5
      have c5b1 : (a1 != 0) = true := bne_iff_ne.mpr c5
      obtain rfl := Option.some.inj H
      go_enter Try.func63, Try.ntmps63
      go_wp2
      go_ret
      exact ⟨by first | rfl | (simp; done) | (simp [*]; done), by repeat (first | exact Drawn0.refl _ | apply Drawn0.step)⟩

end Go.Proofs.Ytdffhffhnjkcpaa.X
