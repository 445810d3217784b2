/- The slopes that Slope returns. -/
import Derived.Test.YtpnocmkpeogifaaDoorSEa
import Derived.Test.YtpnocmkpeogifaaDoorXf11
namespace Go.Proofs.YtpnocmkpeogifaaDoor.Pure
open Go.RowKit Go.Proofs.YtpnocmkpeogifaaDoor.X Go.Proofs.YtpnocmkpeogifaaDoorW.PrintWords Go.Proofs.YtpnocmkpeogifaaDoorW.PrintLast
set_option linter.unusedVariables false
set_option linter.unusedSimpArgs false

/-- a slope -/
def slq (d : Nat) (K P : List Int) (i : Nat) : Rat := Rat.divInt ((d : Int) * (rd P ((i + 1 : Nat) : Int) - rd P (i : Int))) (kn K (i + d + 1) - kn K (i + 1))
theorem slope_num {d : Nat} {K P : List Int} (V : VP d K P) (i : Nat) (hi : i + 1 < P.length) : (rd P ((i + 1 : Nat) : Int) - rd P (i : Int)).natAbs ≤ 100 ∧ ((d : Int) * (rd P ((i + 1 : Nat) : Int) - rd P (i : Int))).natAbs ≤ 300 := by
 obtain ⟨p1, p2⟩ := V.hP _ (rd_mem hi)
 obtain ⟨q1, q2⟩ := V.hP _ (rd_mem (show i < P.length by omega))
 have hd := V.hd
 have : (rd P ((i + 1 : Nat) : Int) - rd P (i : Int)).natAbs ≤ 100 := by omega
 exact ⟨this, natAbs_mul_le (A := 3) (by omega) this (by omega)⟩
theorem slope_l0 {d : Nat} {K P : List Int} (V : VP d K P) (hd1 : 1 ≤ d) : ∀ n k (i : Nat), i + n + 1 = P.length → n + KG + 200 < k →
  curves_Slope.l0 k (lm (slq d K P) i) d ((P.length - 1 : Nat) : Int) i d K P = some ((d : Int) - 1, (K.take (K.length - 1)).drop 1, lm (slq d K P) (P.length - 1), 0) := by
 have hK := V.hK
 have h8 := V.h8
 have hd := V.hd
 intro n
 induction n with
 | zero =>
  intro k i hi hk
  obtain ⟨k, rfl⟩ : ∃ m, k = m + 1 := ⟨k - 1, by omega⟩
  rw [curves_Slope.l0, if_neg (by omega), w64 (i := (K.length : Int) - 1) (by omega) (by omega), if_pos (by omega), if_pos (by omega), slices_Clone_int_int.f, Option.bind_some, if_pos (by simp; omega), Option.bind_some, w64 (by omega) (by omega), List.nil_append,
   show ((K.length : Int) - 1).toNat = K.length - 1 by omega, show i = P.length - 1 by omega]
 | succ n ih =>
  intro k i hi hk
  obtain ⟨k, rfl⟩ : ∃ m, k = m + 1 := ⟨k - 1, by omega⟩
  have IH := ih k (i + 1) (by omega) (by omega)
  rw [lm_succ] at IH
  have z1 := V.h0 (i + d + 1)
  have z2 := V.h0 (i + 1)
  have m1 := kn_le V.mono (i + 1) (i + d + 1) (by omega)
  obtain ⟨s1, s2⟩ := slope_num V i (by omega)
  rw [curves_Slope.l0, if_pos (by omega), of_one (by omega) (by omega) (by omega), Option.bind_some, w64 (i := (i : Int) + d) (by omega) (by omega), w64 (i := (i : Int) + d + 1) (by omega) (by omega), w64 (i := (i : Int) + 1) (by omega) (by omega), if_pos (by omega), if_pos (by omega), if_pos (by omega), if_pos (by omega),
   show ((i : Int) + d + 1) = ((i + d + 1 : Nat) : Int) by omega, show ((i : Int) + 1) = ((i + 1 : Nat) : Int) by omega, rd_kn (show i + d + 1 < K.length by omega), rd_kn (show i + 1 < K.length by omega), w64 (i := kn K (i + d + 1) - kn K (i + 1)) (by omega) (by omega)]
  by_cases hw : kn K (i + d + 1) - kn K (i + 1) > 0
  ·rw [if_pos hw, if_pos (by omega), if_pos (by omega), if_pos (by omega), w64a s1 (by omega), w64a s2 (by omega), of_f (by omega) (by omega) (by omega) hw (by omega), Option.bind_some, if_pos (by rw [lm_len]; omega)]
   exact IH
  ·rw [if_neg hw, if_pos (by rw [lm_len]; omega)]
   have e : slq d K P i = 0 := by
    unfold slq
    rw [show kn K (i + d + 1) - kn K (i + 1) = 0 by omega, Rat.divInt_zero]
   rw [e] at IH
   exact IH
end Go.Proofs.YtpnocmkpeogifaaDoor.Pure
