/- Both packages tell the same points to be in the span. -/
import Derived.Test.YtpnocmkpeogifaaDoorSV
import Derived.Test.YtpnocmkpeogifaaDoorXf13
import Derived.Test.YtpnocmkpeogifaaDoorXf17
namespace Go.Proofs.YtpnocmkpeogifaaDoor.Pure
open Go.RowKit Go.Proofs.YtpnocmkpeogifaaDoor.X Go.Proofs.YtpnocmkpeogifaaDoorW.PrintWords Go.Proofs.YtpnocmkpeogifaaDoorW.PrintLast
set_option linter.unusedVariables false
set_option linter.unusedSimpArgs false

/-- a point of the span: t in lowest terms -/
structure IP (d : Nat) (K P : List Int) (x y : Int) : Prop where
 y1 : 1 ≤ y
 y12 : y ≤ 12
 x0 : 0 ≤ x
 x12 : x ≤ 12 * y
 g : Int.gcd x y = 1
 lo : kn K d * y ≤ x
 hi : x ≤ kn K P.length * y
def IPI (a : Int) (K P : List Int) (x y : Int) : Prop := ∃ d : Nat, a = d ∧ IP d K P x y
theorem IP.rat {d : Nat} {K P : List Int} {x y : Int} (h : IP d K P x y) : cn (Rat.divInt x y) = (x, y) := by
 have h1 := h.y1
 obtain ⟨e1, e2⟩ := divInt_pos x y (by omega)
 rw [Int.gcd_comm, h.g] at e1 e2
 simp at e1 e2
 rw [cn, e1, e2]
theorem frac_red {k : Nat} (hk : KG ≤ k) {x y : Int} (h1 : 1 ≤ y) (h2 : y ≤ 12) (h3 : 0 ≤ x) (h4 : x ≤ 12 * y) :
  ∃ r, congouref04_Frac.f k x y = some r ∧ ((r.1 == x && (r.2 == y)) = true ↔ Int.gcd x y = 1) := by
 refine ⟨_, frac_f hk (by omega) (by omega) (by omega) (by omega), ?_⟩
 obtain ⟨e1, e2⟩ := divInt_pos x y (by omega)
 rw [Int.gcd_comm] at e1 e2
 have hg : 0 < Int.gcd x y := Int.gcd_pos_of_ne_zero_right x (show y ≠ 0 by omega)
 rw [Bool.and_eq_true, beq_iff_eq, beq_iff_eq]
 unfold cn
 dsimp only
 constructor
 ·intro ⟨_, h⟩
  rw [e2] at h
  apply Classical.byContradiction
  intro hn
  have := Int.ediv_lt_self_of_pos_of_ne_one (x := y) (y := (Int.gcd x y : Int)) (by omega) (by omega)
  omega
 ·intro h
  rw [h] at e1 e2
  simp at e1 e2
  exact ⟨e1, e2⟩
theorem kn_le_mul {z y : Int} (h : 0 ≤ z ∧ z ≤ 12) (h1 : 1 ≤ y) (h2 : y ≤ 12) : 0 ≤ z * y ∧ z * y ≤ 144 := by
 refine ⟨Int.mul_nonneg h.1 (by omega), ?_⟩
 calc z * y ≤ 12 * y := Int.mul_le_mul_of_nonneg_right h.2 (by omega)
  _ ≤ 144 := by omega
theorem in_f {k : Nat} (hk : KG ≤ k) {d : Nat} {K P : List Int} (hv : VP d K P) (x y : Int) :
  congouref04_In.f k d K P x y = some (dc (IP d K P x y)) := by
 have hd := hv.hd
 have hK := hv.hK
 unfold congouref04_In.f
 by_cases h1 : y ≥ 1
 rotate_left
 ·rw [if_neg h1, dc_false (fun h => h1 h.y1)]
 rw [if_pos h1]
 by_cases h2 : y ≤ 12
 rotate_left
 ·rw [if_neg h2, dc_false (fun h => h2 h.y12)]
 rw [if_pos h2]
 by_cases h3 : x ≥ 0
 rotate_left
 ·rw [if_neg h3, dc_false (fun h => h3 h.x0)]
 rw [if_pos h3, w64 (by omega) (by omega)]
 by_cases h4 : x ≤ 12 * y
 rotate_left
 ·rw [if_neg h4, dc_false (fun h => h4 h.x12)]
 rw [if_pos h4]
 obtain ⟨r, e, hr⟩ := frac_red hk h1 h2 h3 h4
 rw [e, Option.bind_some]
 by_cases h5 : Int.gcd x y = 1
 rotate_left
 ·rw [if_neg (fun h => h5 (hr.mp h)), dc_false (fun h => h5 h.g)]
 rw [if_pos (hr.mpr h5), if_pos (by omega), if_pos (by omega), rd_kn (show d < K.length by omega)]
 have b1 := kn_le_mul (hv.h0 d) h1 h2
 have b2 := kn_le_mul (hv.h0 P.length) h1 h2
 rw [w64 (by omega) (by omega)]
 by_cases h6 : x ≥ kn K d * y
 rotate_left
 ·rw [if_neg h6, dc_false (fun h => h6 h.lo)]
 rw [if_pos h6, if_pos (by omega), if_pos (by omega), rd_kn (show P.length < K.length by omega), w64 (by omega) (by omega), dec_dc]
 exact congrArg some (dc_congr ⟨fun h => ⟨h1, h2, h3, h4, h5, h6, h⟩, fun h => h.hi⟩)
theorem at_f {k : Nat} (hk : KG + 1 ≤ k) {a : Int} {K P : List Int} (hP : P.length ≤ 9223372036854775807) (x y : Int) :
  curves_Curve_at.f k a K P x y = some (x, y, dc (VPI a K P ∧ IPI a K P x y)) := by
 have hk' : KG ≤ k := by omega
 have bad : ¬ (VPI a K P ∧ IPI a K P x y) → curves_Curve_at.j0 k true a K P x y x y = some (x, y, dc (VPI a K P ∧ IPI a K P x y)) := by
  intro h
  obtain ⟨k, rfl⟩ : ∃ m, k = m + 1 := ⟨k - 1, by omega⟩
  rw [curves_Curve_at.j0, if_pos rfl, dc_false h]
 unfold curves_Curve_at.f
 rw [valid_f hk' hP, Option.bind_some]
 by_cases hv : VPI a K P
 rotate_left
 ·rw [dc_false hv, if_neg (by decide)]
  exact bad (fun h => hv h.1)
 rw [dc_true hv, if_pos rfl]
 obtain ⟨d, rfl, V⟩ := hv
 have hd := V.hd
 have hK := V.hK
 have ip : ∀ {Q : Prop}, (IP d K P x y → Q) → ¬ Q → ¬ (VPI d K P ∧ IPI d K P x y) := by
  intro Q h hn ⟨_, d', e, hi⟩
  obtain rfl : d = d' := by omega
  exact hn (h hi)
 by_cases h1 : y < 1
 ·rw [if_pos h1]
  exact bad (ip (fun h => h.y1) (by omega))
 rw [if_neg h1]
 by_cases h2 : y > 12
 ·rw [if_pos h2]
  exact bad (ip (fun h => h.y12) (by omega))
 rw [if_neg h2]
 by_cases h3 : x < 0
 ·rw [if_pos h3]
  exact bad (ip (fun h => h.x0) (by omega))
 rw [if_neg h3, w64 (by omega) (by omega)]
 by_cases h4 : x > 12 * y
 ·rw [if_pos h4]
  exact bad (ip (fun h => h.x12) (by omega))
 rw [if_neg h4, gcd_f hk' (by omega) (by omega) (by omega) (by omega), Option.bind_some]
 by_cases h5 : Int.gcd x y = 1
 rotate_left
 ·have : ((Int.gcd x y : Int) != 1) = true := by simp; omega
  rw [this]
  exact bad (ip (fun h => h.g) h5)
 rw [h5]
 obtain ⟨k, rfl⟩ : ∃ m, k = m + 1 := ⟨k - 1, by omega⟩
 rw [curves_Curve_at.j0, if_neg (by decide)]
 have b1 := kn_le_mul (V.h0 d) (y := y) (by omega) (by omega)
 have b2 := kn_le_mul (V.h0 P.length) (y := y) (by omega) (by omega)
 unfold curves_Curve_span.f curves_ratio_below.f
 rw [if_pos (by omega), if_pos (by omega), if_pos (by omega), if_pos (by omega), rd_kn (show d < K.length by omega), rd_kn (show P.length < K.length by omega), Option.bind_some]
 dsimp only
 rw [Option.bind_some, w64 (by omega) (by omega)]
 by_cases h6 : x < kn K d * y
 ·rw [decide_eq_true h6, if_pos rfl, dc_false (ip (fun h => h.lo) (by omega))]
 rw [decide_eq_false h6, if_neg (by decide), Option.bind_some, w64 (by omega) (by omega)]
 by_cases h7 : x < kn K P.length * y
 ·rw [decide_eq_true h7, if_pos rfl, dc_true]
  exact ⟨⟨d, rfl, V⟩, d, rfl, ⟨by omega, by omega, by omega, by omega, h5, by omega, by omega⟩⟩
 rw [decide_eq_false h7, if_neg (by decide), of_one (by omega) (by have := V.h0 P.length; omega) (by have := V.h0 P.length; omega), Option.bind_some]
 refine congrArg some (Prod.ext rfl (Prod.ext rfl ?_))
 dsimp only
 rw [Bool.eq_iff_iff, Bool.and_eq_true, beq_iff_eq, beq_iff_eq, dc_iff]
 constructor
 ·intro ⟨e1, e2⟩
  subst e2
  exact ⟨⟨d, rfl, V⟩, d, rfl, ⟨by omega, by omega, by omega, by omega, h5, by omega, by omega⟩⟩
 ·intro ⟨_, d', e, hi⟩
  obtain rfl : d = d' := by omega
  have h8 : x = kn K P.length * y := by have := hi.hi; omega
  have h9 : y ∣ x := ⟨kn K P.length, by rw [h8, Int.mul_comm]⟩
  have h10 : Int.gcd x y = y.natAbs := Int.gcd_eq_natAbs_right h9 
  have : y = 1 := by omega
  subst this
  exact ⟨by omega, rfl⟩
end Go.Proofs.YtpnocmkpeogifaaDoor.Pure
