/- The reference's basic curves and values are those over the rational numbers. -/
import Derived.Test.YtpnocmkpeogifaaSP
import Derived.Test.YtpnocmkpeogifaaSEa
import Derived.Test.YtpnocmkpeogifaaX0
import Derived.Test.YtpnocmkpeogifaaXG1a
import Derived.Test.YtpnocmkpeogifaaXG2a
import Derived.Test.YtpnocmkpeogifaaXG3a
import Derived.Test.YtpnocmkpeogifaaXq0
import Derived.Test.YtpnocmkpeogifaaXf18
import Derived.Test.YtpnocmkpeogifaaXG4a
namespace Go.Proofs.Ytpnocmkpeogifaa.Pure
open Go.RowKit Go.Proofs.Ytpnocmkpeogifaa.X Go.Proofs.YtpnocmkpeogifaaW.PrintWords Go.Proofs.YtpnocmkpeogifaaW.PrintLast
set_option linter.unusedVariables false
set_option linter.unusedSimpArgs false

end Go.Proofs.Ytpnocmkpeogifaa.Pure
namespace Go.Proofs.Ytpnocmkpeogifaa.Pure
open Go.RowKit Go.Proofs.Ytpnocmkpeogifaa.X Go.Proofs.YtpnocmkpeogifaaW.PrintWords Go.Proofs.YtpnocmkpeogifaaW.PrintLast
set_option linter.unusedVariables false
set_option linter.unusedSimpArgs false
theorem basic_top {k : Nat} (hk : Rk k) {d : Nat} {K P : List Int} {t : Rat} {p : Nat} (h : Bs d K P t p) : curves_Basic.f k d K P t.num t.den = some (bn K p t d P.length, 0) := by
  have hK := h.v.hK
  have h8 := h.v.h8
  have hd := h.v.hd
  obtain ⟨hk2, hk3⟩ := kf_kg' hk
  unfold curves_Basic.f
  rw [at_bs hk h, Option.bind_some, if_pos rfl, basic_f h d k (Nat.le_refl _) (by omega), Option.bind_some, told_f (by omega) (by omega), Option.bind_some, show K.length - 1 - d = P.length by omega]
theorem fine_f {k : Nat} (hk : Rk k) {a : Int} {K P : List Int} (hP : P.length ≤ 9223372036854775807) (x y : Int) : congoulaw04_fine.f k a K P x y = some (dc (VPI a K P ∧ IPI a K P x y)) := by
  unfold congoulaw04_fine.f
  rw [rvalid_f (Nat.le_of_succ_le (kf_kg hk)) hP, Option.bind_some]
  by_cases hv : VPI a K P
  · rw [dc_true hv, if_pos rfl]
    obtain ⟨d, rfl, V⟩ := hv
    rw [in_f (Nat.le_of_succ_le (kf_kg hk)) V, Option.bind_some]
    refine congrArg some (dc_congr ⟨fun h => ⟨⟨d, rfl, V⟩, d, rfl, h⟩, fun h => ?_⟩)
    obtain ⟨d', e, hi⟩ := h.2
    obtain rfl : d = d' := by omega
    exact hi
  · rw [dc_false hv, if_neg (by decide), dc_false (fun h => hv h.1)]
end Go.Proofs.Ytpnocmkpeogifaa.Pure
