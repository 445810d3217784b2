/- Lists of fractions. -/
import Derived.Test.YtpnocmkpeogifaaDoorSPa
import Derived.Test.YtpnocmkpeogifaaDoorXG1a
import Derived.Test.YtpnocmkpeogifaaDoorXG2a
namespace Go.Proofs.YtpnocmkpeogifaaDoor.Pure
open Go.RowKit Go.Proofs.YtpnocmkpeogifaaDoor.X Go.Proofs.YtpnocmkpeogifaaDoorW.PrintWords Go.Proofs.YtpnocmkpeogifaaDoorW.PrintLast
set_option linter.unusedVariables false
set_option linter.unusedSimpArgs false
/-- fractions as the lists of both packages -/
def lm (f : Nat → Rat) (m : Nat) : List S26 := (List.range m).map (fun i => s26 (f i))
theorem lm_len (f : Nat → Rat) (m : Nat) : (lm f m).length = m := by simp [lm]
theorem lm_succ (f : Nat → Rat) (m : Nat) : lm f (m + 1) = lm f m ++ [s26 (f m)] := by simp [lm, List.range_succ]
def lm7 (f : Nat → Rat) (m : Nat) : List S49 := (List.range m).map (fun i => s76 (f i))
theorem lm7_len (f : Nat → Rat) (m : Nat) : (lm7 f m).length = m := by simp [lm7]
theorem lm7_succ (f : Nat → Rat) (m : Nat) : lm7 f (m + 1) = lm7 f m ++ [s76 (f m)] := by simp [lm7, List.range_succ]
theorem lm7_rd {f : Nat → Rat} {m i : Nat} (h : i < m) : rd_T49 (lm7 f m) (i : Int) = s76 (f i) := by
 simp [rd_T49, lm7, List.getD_eq_getElem?_getD, List.getElem?_map, List.getElem?_range h]
theorem told7_l0 {f : Nat → Rat} {m : Nat} (hm : m ≤ 1000) : ∀ n k i, i + n = m → n < k → curves_told.l0 k (lm f i) (lm7 f m) m i = some (lm f m) := by
 intro n
 induction n with
 | zero =>
  intro k i hi hk
  obtain ⟨k, rfl⟩ : ∃ m, k = m + 1 := ⟨k - 1, by omega⟩
  rw [curves_told.l0, if_neg (by omega), show i = m by omega]
 | succ n ih =>
  intro k i hi hk
  obtain ⟨k, rfl⟩ : ∃ m, k = m + 1 := ⟨k - 1, by omega⟩
  have IH := ih k (i + 1) (by omega) (by omega)
  rw [lm_succ] at IH
  rw [curves_told.l0, if_pos (by omega), if_pos (by omega), if_pos (by rw [lm7_len]; omega), if_pos (by rw [lm_len]; omega), lm7_rd (by omega), w64 (by omega) (by omega)]
  exact IH
theorem told7_f {k : Nat} {f : Nat → Rat} {m : Nat} (hm : m ≤ 20) (hk : 20 < k) : curves_told.f k (lm7 f m) = some (lm f m) := by
 rw [curves_told.f, lm7_len]
 exact told7_l0 (by omega) m k 0 (by omega) (by omega)
end Go.Proofs.YtpnocmkpeogifaaDoor.Pure
