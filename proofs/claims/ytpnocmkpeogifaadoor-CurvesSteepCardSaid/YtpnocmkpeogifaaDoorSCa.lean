/- Basic from its beginning, and fine. -/
import Derived.Test.YtpnocmkpeogifaaDoorSP
import Derived.Test.YtpnocmkpeogifaaDoorXf6
import Derived.Test.YtpnocmkpeogifaaDoorXG4a
namespace Go.Proofs.YtpnocmkpeogifaaDoor.Pure
open Go.RowKit Go.Proofs.YtpnocmkpeogifaaDoor.X Go.Proofs.YtpnocmkpeogifaaDoorW.PrintWords Go.Proofs.YtpnocmkpeogifaaDoorW.PrintLast
set_option linter.unusedVariables false
set_option linter.unusedSimpArgs false
theorem basic_top {k : Nat} (hk : Rk k) {d : Nat} {K P : List Int} {t : Rat} {p : Nat} (h : Bs d K P t p) : curves_Basic.f k d K P t.num t.den = some (bn K p t d P.length, 0) := by
  have hK := h.v.hK
  have h8 := h.v.h8
  have hd := h.v.hd
  obtain ⟨hk2, hk3⟩ := kf_kg' hk
  unfold curves_Basic.f
  rw [at_bs hk h, Option.bind_some, if_pos rfl, basic_f h d k (Nat.le_refl _) (by omega), Option.bind_some, told_f (by omega) (by omega), Option.bind_some, show K.length - 1 - d = P.length by omega]
theorem fine_f {k : Nat} (hk : Rk k) {a : Int} {K P : List Int} (hP : P.length ≤ 9223372036854775807) (x y : Int) : congoulaw04_fine.f k a K P x y = some (dc (VPI a K P ∧ IPI a K P x y)) := by
  unfold congoulaw04_fine.f
  rw [rvalid_f (Nat.le_of_succ_le (kf_kg hk)) hP, Option.bind_some]
  by_cases hv : VPI a K P
  · rw [dc_true hv, if_pos rfl]
    obtain ⟨d, rfl, V⟩ := hv
    rw [in_f (Nat.le_of_succ_le (kf_kg hk)) V, Option.bind_some]
    refine congrArg some (dc_congr ⟨fun h => ⟨⟨d, rfl, V⟩, d, rfl, h⟩, fun h => ?_⟩)
    obtain ⟨d', e, hi⟩ := h.2
    obtain rfl : d = d' := by omega
    exact hi
  · rw [dc_false hv, if_neg (by decide), dc_false (fun h => hv h.1)]
/-- what Basic and Value tell of others -/
theorem basic_bad {k : Nat} (hk : Rk k) {a : Int} {K P : List Int} (hP : P.length ≤ 9223372036854775807) {x y : Int} (h : ¬ (VPI a K P ∧ IPI a K P x y)) : curves_Basic.f k a K P x y = some ([], 2) := by
  unfold curves_Basic.f
  rw [at_f (kf_kg hk) hP, dc_false h, Option.bind_some, if_neg (by simp)]
end Go.Proofs.YtpnocmkpeogifaaDoor.Pure
