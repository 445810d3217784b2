/- The greatest common divisor, and the least common multiple of the denominators of fractions, in both packages. -/
import Derived.Test.YtefmafbbnkkpjaaXG2a
import Derived.Test.YtefmafbbnkkpjaaXf86
import Derived.Test.YtefmafbbnkkpjaaXf88
import Derived.Test.YtefmafbbnkkpjaaSM
namespace Go.Proofs.Ytefmafbbnkkpjaa.Pure
open Go Go.RowKit Go.Proofs.Ytefmafbbnkkpjaa.X Go.Proofs.YtefmafbbnkkpjaaW.PrintWords Go.Proofs.YtefmafbbnkkpjaaW.PrintLast Go.Proofs.YtefmafbbnkkpjaaW.PrintMore
set_option linter.unusedVariables false
set_option linter.unusedSimpArgs false

theorem w6 {i : Int} (h0 : -9223372036854775808 ≤ i) (h : i ≤ 9223372036854775807) : wrap64 i = i := by
  unfold wrap64
  omega
theorem mx_abs (a : Int) : mx a (-a) = (a.natAbs : Int) := by
  unfold mx
  split <;> omega
theorem gcd_step (a b : Int) : Int.gcd b (Int.tmod a b) = Int.gcd a b := by
  rw [Int.gcd, Int.gcd, Int.natAbs_tmod, Nat.gcd_comm a.natAbs b.natAbs, Nat.gcd_rec b.natAbs a.natAbs, Nat.gcd_comm]
theorem gcd_l0 : ∀ (n k : Nat) (a b : Int), b.natAbs ≤ n → n < k → -9223372036854775807 ≤ a → a ≤ 9223372036854775807 → -9223372036854775807 ≤ b → b ≤ 9223372036854775807 →
    shares_gcd.l0 k a b = some (Int.gcd a b : Int) := by
  intro n
  induction n with
  | zero =>
    intro k a b hb hk h1 h2 h3 h4
    obtain ⟨k, rfl⟩ : ∃ m, k = m + 1 := ⟨k - 1, by omega⟩
    obtain rfl : b = 0 := by omega
    rw [shares_gcd.l0, if_pos rfl, w6 (by omega) (by omega), mx_abs]
    simp
  | succ n ih =>
    intro k a b hb hk h1 h2 h3 h4
    obtain ⟨k, rfl⟩ : ∃ m, k = m + 1 := ⟨k - 1, by omega⟩
    by_cases h0 : b = 0
    · subst h0
      rw [shares_gcd.l0, if_pos rfl, w6 (by omega) (by omega), mx_abs]
      simp
    · have hlt : (Int.tmod a b).natAbs < b.natAbs := by rw [Int.natAbs_tmod]; exact Nat.mod_lt _ (by omega)
      rw [shares_gcd.l0, if_neg h0, ih k b _ (by omega) (by omega) h3 h4 (by omega) (by omega), gcd_step]
theorem rgcd_l0 : ∀ (n k : Nat) (a b : Int), b.natAbs ≤ n → n < k → 0 ≤ a → 0 ≤ b → congouref01_gcd.l0 k a b = some (Int.gcd a b : Int) := by
  intro n
  induction n with
  | zero =>
    intro k a b hb hk h1 h2
    obtain ⟨k, rfl⟩ : ∃ m, k = m + 1 := ⟨k - 1, by omega⟩
    obtain rfl : b = 0 := by omega
    rw [congouref01_gcd.l0, if_pos rfl]
    simp
    omega
  | succ n ih =>
    intro k a b hb hk h1 h2
    obtain ⟨k, rfl⟩ : ∃ m, k = m + 1 := ⟨k - 1, by omega⟩
    by_cases h0 : b = 0
    · subst h0
      rw [congouref01_gcd.l0, if_pos rfl]
      simp
      omega
    · have hlt : (Int.tmod a b).natAbs < b.natAbs := by rw [Int.natAbs_tmod]; exact Nat.mod_lt _ (by omega)
      rw [congouref01_gcd.l0, if_neg h0, ih k b _ (by omega) (by omega) h2 (Int.tmod_nonneg _ h1), gcd_step]
/-- rounds enough for each greatest common divisor -/
def KG : Nat := 18446744073709551616
theorem gcd_f {k : Nat} (hk : KG ≤ k) {a b : Int} (h1 : -9223372036854775807 ≤ a) (h2 : a ≤ 9223372036854775807) (h3 : -9223372036854775807 ≤ b) (h4 : b ≤ 9223372036854775807) :
    shares_gcd.f k a b = some (Int.gcd a b : Int) := gcd_l0 b.natAbs k a b (Nat.le_refl _) (by unfold KG at hk; omega) h1 h2 h3 h4
theorem rgcd_f {k : Nat} (hk : KG ≤ k) {a b : Int} (h1 : 0 ≤ a) (h3 : 0 ≤ b) (h4 : b ≤ 9223372036854775807) :
    congouref01_gcd.f k a b = some (Int.gcd a b : Int) := rgcd_l0 b.natAbs k a b (Nat.le_refl _) (by unfold KG at hk; omega) h1 h3
/-- the least common multiple as both packages reckon it -/
theorem lcm_eq {d e : Int} (hd : 1 ≤ d) (he : 1 ≤ e) : Int.tdiv d (Int.gcd d e : Int) * e = (Int.lcm d e : Int) := by
  have hg : (0 : Int) < Int.gcd d e := by
    have := Int.gcd_pos_of_ne_zero_left e (show d ≠ 0 by omega)
    omega
  rw [Int.tdiv_eq_ediv_of_dvd (Int.gcd_dvd_left ..)]
  have h1 : (d / (Int.gcd d e : Int)) * (Int.gcd d e : Int) = d := Int.ediv_mul_cancel (Int.gcd_dvd_left ..)
  have h2 : (Int.gcd d e : Int) * (Int.lcm d e : Int) = d * e := by
    have h := Int.gcd_mul_lcm d e
    have h' : ((Int.gcd d e * Int.lcm d e : Nat) : Int) = ((d * e).natAbs : Int) := by rw [h, Int.natAbs_mul]
    rw [Int.natCast_mul] at h'
    rw [h']
    exact Int.natAbs_of_nonneg (Int.mul_nonneg (by omega) (by omega))
  have h3 : (Int.gcd d e : Int) * (d / (Int.gcd d e : Int) * e) = (Int.gcd d e : Int) * (Int.lcm d e : Int) := by
    rw [h2]
    conv => rhs; rw [← h1]
    rw [Int.mul_left_comm, Int.mul_assoc]
  exact Int.eq_of_mul_eq_mul_left (by omega) h3
theorem tdiv_bd {d : Int} (hd : 1 ≤ d) (e : Int) : 0 ≤ Int.tdiv d (Int.gcd d e : Int) ∧ Int.tdiv d (Int.gcd d e : Int) ≤ d := by
  have hg : (0 : Int) < Int.gcd d e := by
    have := Int.gcd_pos_of_ne_zero_left e (show d ≠ 0 by omega)
    omega
  rw [Int.tdiv_eq_ediv_of_dvd (Int.gcd_dvd_left ..)]
  exact ⟨Int.ediv_nonneg (by omega) (by omega), Int.ediv_le_self _ (by omega)⟩
theorem lcm_pos {d e : Int} (hd : 1 ≤ d) (he : 1 ≤ e) : 1 ≤ (Int.lcm d e : Int) := by
  have h := Int.gcd_mul_lcm d e
  have : 0 < Int.lcm d e := by
    rcases Nat.eq_zero_or_pos (Int.lcm d e) with h0 | h0
    · rw [h0, Nat.mul_zero] at h
      rcases Nat.mul_eq_zero.mp h.symm with h | h <;> omega
    · exact h0
  omega
end Go.Proofs.Ytefmafbbnkkpjaa.Pure
