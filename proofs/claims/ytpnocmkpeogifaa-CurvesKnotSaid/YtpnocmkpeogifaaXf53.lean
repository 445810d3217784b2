-- Written by a program of this work (wip/xprint.py, over the kit's printer) out of the translation.
import Derived.Test.YtpnocmkpeogifaaX0
namespace Go.Proofs.Ytpnocmkpeogifaa.X
open Go.RowKit Go.Proofs.YtpnocmkpeogifaaW.PrintWords Go.Proofs.YtpnocmkpeogifaaW.PrintLast Go.Proofs.YtpnocmkpeogifaaW.PrintMore
attribute [local go_sem] max2_int min2_int max_two min_two max_three min_three max_four min_four   -- for this text's walks alone
set_option linter.unusedVariables false
set_option linter.unusedSimpArgs false

/-! ### congoulaw04_product: function 53 -/
def congoulaw04_product.f (a0 : Int) (a1 : Int) : Option (Int × Bool) := if a0 < (-4611686018427387904) then (some (0, false)) else (if a0 > 4611686018427387904 then (some (0, false)) else (if a1 < (-4611686018427387904) then (some (0, false)) else (if a1 > 4611686018427387904 then (some (0, false)) else (if a0 = 0 then (some (wrap64 (a0 * a1), true)) else (if (mx a0 (wrap64 (-a0))) = 0 then (none) else (if (mx a1 (wrap64 (-a1))) > (wrap64 ((4611686018427387904 : Int) / (mx a0 (wrap64 (-a0))))) then (some (0, false)) else (some (wrap64 (a0 * a1), true))))))))
set_option maxHeartbeats 8000000 in
set_option maxRecDepth 100000 in
theorem congoulaw04_product.calls (a0 : Int) (a1 : Int) (r1 : Int) (r2 : Bool) (w : World) (h : congoulaw04_product.f a0 a1 = some (r1, r2)) :
  Calls Try.prog 53 #[.int .i64 a0, .int .i64 a1] w fun e w' => e = .returned (.tuple #[.int .i64 r1, .bool r2]) ∧ Below w.heap.size w w' := by
 have HB := ak (Below.refl w.heap.size w)
 have H : (if a0 < (-4611686018427387904) then (some (0, false)) else (if a0 > 4611686018427387904 then (some (0, false)) else (if a1 < (-4611686018427387904) then (some (0, false)) else (if a1 > 4611686018427387904 then (some (0, false)) else (if a0 = 0 then (some (wrap64 (a0 * a1), true)) else (if (mx a0 (wrap64 (-a0))) = 0 then (none) else (if (mx a1 (wrap64 (-a1))) > (wrap64 ((4611686018427387904 : Int) / (mx a0 (wrap64 (-a0))))) then (some (0, false)) else (some (wrap64 (a0 * a1), true))))))))) = some (r1, r2) := h
 clear h
 by_cases c3 : a0 < (-4611686018427387904)
 ·rw [if_pos c3] at H
  have c3b0 : decide (a0 < (-4611686018427387904)) = true := decide_eq_true c3
  clear c3
  simp only [Option.some.injEq, Prod.mk.injEq] at H
  obtain ⟨rfl, rfl⟩ := H
  go_enter Try.func53, Try.ntmps53
  go_wp2
  go_ret2
  exact ⟨by first | rfl | (simp [errW_none, errW_some] <;> rfl) | (simp [*, errW_none, errW_some] <;> rfl), hbC _⟩
 rw [if_neg c3] at H
 have c3b0 : decide (a0 < (-4611686018427387904)) = false := decide_eq_false c3
 clear c3
 by_cases c4 : a0 > 4611686018427387904
 ·rw [if_pos c4] at H
  have c4b0 : decide (4611686018427387904 < a0) = true := decide_eq_true c4
  clear c4
  simp only [Option.some.injEq, Prod.mk.injEq] at H
  obtain ⟨rfl, rfl⟩ := H
  go_enter Try.func53, Try.ntmps53
  go_wp2
  go_ret2
  exact ⟨by first | rfl | (simp [errW_none, errW_some] <;> rfl) | (simp [*, errW_none, errW_some] <;> rfl), hbC _⟩
 rw [if_neg c4] at H
 have c4b0 : decide (4611686018427387904 < a0) = false := decide_eq_false c4
 clear c4
 by_cases c5 : a1 < (-4611686018427387904)
 ·rw [if_pos c5] at H
  have c5b0 : decide (a1 < (-4611686018427387904)) = true := decide_eq_true c5
  clear c5
  simp only [Option.some.injEq, Prod.mk.injEq] at H
  obtain ⟨rfl, rfl⟩ := H
  go_enter Try.func53, Try.ntmps53
  go_wp2
  go_ret2
  exact ⟨by first | rfl | (simp [errW_none, errW_some] <;> rfl) | (simp [*, errW_none, errW_some] <;> rfl), hbC _⟩
 rw [if_neg c5] at H
 have c5b0 : decide (a1 < (-4611686018427387904)) = false := decide_eq_false c5
 clear c5
 by_cases c6 : a1 > 4611686018427387904
 ·rw [if_pos c6] at H
  have c6b0 : decide (4611686018427387904 < a1) = true := decide_eq_true c6
  clear c6
  simp only [Option.some.injEq, Prod.mk.injEq] at H
  obtain ⟨rfl, rfl⟩ := H
  go_enter Try.func53, Try.ntmps53
  go_wp2
  go_ret2
  exact ⟨by first | rfl | (simp [errW_none, errW_some] <;> rfl) | (simp [*, errW_none, errW_some] <;> rfl), hbC _⟩
 rw [if_neg c6] at H
 have c6b0 : decide (4611686018427387904 < a1) = false := decide_eq_false c6
 clear c6
 by_cases c7 : a0 = 0
 ·rw [if_pos c7] at H
  have c7b0 : (a0 == 0) = true := beq_iff_eq.mpr c7
  have c7b1 : (a0 != 0) = false := bne_eq_false_iff_eq.mpr c7
  clear c7
  simp only [Option.some.injEq, Prod.mk.injEq] at H
  obtain ⟨rfl, rfl⟩ := H
  go_enter Try.func53, Try.ntmps53
  go_wp2
  go_ret2
  exact ⟨by first | rfl | (simp [errW_none, errW_some] <;> rfl) | (simp [*, errW_none, errW_some] <;> rfl), hbC _⟩
 rw [if_neg c7] at H
 have c7b0 : (a0 == 0) = false := beq_eq_false_iff_ne.mpr c7
 have c7b1 : (a0 != 0) = true := bne_iff_ne.mpr c7
 obtain ⟨ji8, hji8⟩ : ∃ j_ : Int, (mx a1 (wrap64 (-a1))) = j_ := ⟨_, rfl⟩
 replace H : (if (mx a0 (wrap64 (-a0))) = 0 then (none) else (if (ji8) > (wrap64 ((4611686018427387904 : Int) / (mx a0 (wrap64 (-a0))))) then (some (0, false)) else (some (wrap64 (a0 * a1), true)))) = some (r1, r2) := by first | (rw [hji8] at H; exact H) | (simp only [hji8] at H ⊢; exact H)
 have hji8_ : (if a1 < (wrap64 (-a1)) then (wrap64 (-a1)) else a1) = ji8 := hji8
 obtain ⟨ji9, hji9⟩ : ∃ j_ : Int, (mx a0 (wrap64 (-a0))) = j_ := ⟨_, rfl⟩
 replace H : (if (ji9) = 0 then (none) else (if (ji8) > (wrap64 ((4611686018427387904 : Int) / (ji9))) then (some (0, false)) else (some (wrap64 (a0 * a1), true)))) = some (r1, r2) := by first | (rw [hji9] at H; exact H) | (simp only [hji9] at H ⊢; exact H)
 have hji9_ : (if a0 < (wrap64 (-a0)) then (wrap64 (-a0)) else a0) = ji9 := hji9
 by_cases c10 : (ji9) = 0
 ·rw [if_pos c10] at H
  exact absurd H (by simp)
 rw [if_neg c10] at H
 have c10b0 : ((ji9) == 0) = false := beq_eq_false_iff_ne.mpr c10
 have c10b1 : ((ji9) != 0) = true := bne_iff_ne.mpr c10
 by_cases c11 : (ji8) > (wrap64 ((4611686018427387904 : Int) / (ji9)))
 ·rw [if_pos c11] at H
  have c11b0 : decide ((wrap64 ((4611686018427387904 : Int) / (ji9))) < (ji8)) = true := decide_eq_true c11
  have c11b0t : decide (wrap64 (Int.tdiv 4611686018427387904 ji9) < ji8) = true := by
   rw [Int.tdiv_eq_ediv_of_nonneg (by omega)]
   exact c11b0
  clear c11
  simp only [Option.some.injEq, Prod.mk.injEq] at H
  obtain ⟨rfl, rfl⟩ := H
  go_enter Try.func53, Try.ntmps53
  go_wp2
  go_ret2
  exact ⟨by first | rfl | (simp [errW_none, errW_some] <;> rfl) | (simp only [← hji8, ← hji9]; first | rfl | (simp [errW_none, errW_some] <;> rfl)) | (simp [*, errW_none, errW_some] <;> rfl), hbC _⟩
 rw [if_neg c11] at H
 have c11b0 : decide ((wrap64 ((4611686018427387904 : Int) / (ji9))) < (ji8)) = false := decide_eq_false c11
 have c11b0t : decide (wrap64 (Int.tdiv 4611686018427387904 ji9) < ji8) = false := by
  rw [Int.tdiv_eq_ediv_of_nonneg (by omega)]
  exact c11b0
 clear c11
 simp only [Option.some.injEq, Prod.mk.injEq] at H
 obtain ⟨rfl, rfl⟩ := H
 go_enter Try.func53, Try.ntmps53
 go_wp2
 go_ret2
 exact ⟨by first | rfl | (simp [errW_none, errW_some] <;> rfl) | (simp only [← hji8, ← hji9]; first | rfl | (simp [errW_none, errW_some] <;> rfl)) | (simp [*, errW_none, errW_some] <;> rfl), hbC _⟩

end Go.Proofs.Ytpnocmkpeogifaa.X
