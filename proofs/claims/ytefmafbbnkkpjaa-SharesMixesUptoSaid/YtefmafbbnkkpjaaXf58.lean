-- Written by a program of this work (wip/xprint.py, over the kit's printer) out of the translation.
import Derived.Test.YtefmafbbnkkpjaaX0
import Derived.Test.YtefmafbbnkkpjaaXf50
namespace Go.Proofs.Ytefmafbbnkkpjaa.X
open Go.RowKit Go.Proofs.YtefmafbbnkkpjaaW.PrintWords Go.Proofs.YtefmafbbnkkpjaaW.PrintLast Go.Proofs.YtefmafbbnkkpjaaW.PrintMore
attribute [local go_sem] max2_int min2_int max_two min_two max_three min_three max_four min_four   -- for this text's walks alone
set_option linter.unusedVariables false
set_option linter.unusedSimpArgs false

/-! ### congouref01_Mixes: function 58 -/
mutual
def congouref01_Mixes.l0 : Nat → List Int → List (List (S62)) → Int → List Int → Int → Int → Option (Bool)
 | 0, _, _, _, _, _, _ => none
 | k + 1, x0, x2, x7, x19, x20, x21 => if x21 < x20 then (if 0 ≤ x21 then (if x21 < (x19.length : Int) then (if x21 < (x2.length : Int) then (congouref01_Mixes.l1 k x0 x2 x7 (rd x19 x21) 0 x19 x20 x21 (rd_L5 x2 x21) ((rd_L5 x2 x21).length : Int) 0) else (none)) else (none)) else (none)) else (some true)
def congouref01_Mixes.l1 : Nat → List Int → List (List (S62)) → Int → Int → Int → List Int → Int → Int → List (S62) → Int → Int → Option (Bool)
 | 0, _, _, _, _, _, _, _, _, _, _, _ => none
 | k + 1, x0, x2, x7, x9, x10, x19, x20, x21, x29, x30, x31 => if x31 < x30 then (if 0 ≤ x31 then (if x31 < (x29.length : Int) then (if ((rd_T62 x29 x31).f1) = 0 then (none) else (if x31 < (x0.length : Int) then (congouref01_Mixes.l1 k x0 x2 x7 x9 (wrap64 (x10 + (wrap64 ((wrap64 ((wrap64 (Int.tdiv x7 ((rd_T62 x29 x31).f1))) * ((rd_T62 x29 x31).f0))) * (rd x0 x31))))) x19 x20 x21 x29 x30 (wrap64 (x31 + 1))) else (none))) else (none)) else (none)) else (if x10 = (wrap64 (x9 * x7)) then (congouref01_Mixes.l0 k x0 x2 x7 x19 x20 (wrap64 (x21 + 1))) else (some false))
end
def congouref01_Mixes.f (k : Nat) (l0 : List Int) (l1 : List Int) (l2 : List (List (S62))) : Option (Bool) := (congouref01_Mixture.f k l2 (l0.length : Int) 10000000).bind fun t903 => (if t903 = 0 then (some false) else (congouref01_Mixes.l0 k l0 l2 t903 l1 (l1.length : Int) 0))
theorem congouref01_Mixes.mono_l : ∀ k, (∀ y0 y1 y2 y3 y4 y5, LeO (congouref01_Mixes.l0 k y0 y1 y2 y3 y4 y5) (congouref01_Mixes.l0 (k + 1) y0 y1 y2 y3 y4 y5)) ∧ (∀ y0 y1 y2 y3 y4 y5 y6 y7 y8 y9 y10, LeO (congouref01_Mixes.l1 k y0 y1 y2 y3 y4 y5 y6 y7 y8 y9 y10) (congouref01_Mixes.l1 (k + 1) y0 y1 y2 y3 y4 y5 y6 y7 y8 y9 y10))
 | 0 => ⟨fun _ _ _ _ _ _ r h => by simp [congouref01_Mixes.l0] at h, fun _ _ _ _ _ _ _ _ _ _ _ r h => by simp [congouref01_Mixes.l1] at h⟩
 | k + 1 => by
  obtain ⟨ih0, ih1⟩ := congouref01_Mixes.mono_l k
  refine ⟨?_, ?_⟩
  ·intro y0 y1 y2 y3 y4 y5
   unfold congouref01_Mixes.l0
   repeat' first
   | (with_reducible exact ih0 _ _ _ _ _ _)
   | (with_reducible exact ih1 _ _ _ _ _ _ _ _ _ _ _)
   | (with_reducible exact congouref01_Mixture.mono _ _ _ _)
   | (with_reducible exact LeO.refl _)
   | (with_reducible exact LeO.none _)
   | (with_reducible refine LeO.ite ?_ ?_)
   | (with_reducible refine LeO.bind ?_ (fun _ => ?_))
   | exact ih0 _ _ _ _ _ _
   | exact ih1 _ _ _ _ _ _ _ _ _ _ _
   | exact congouref01_Mixture.mono _ _ _ _
   | exact LeO.none _
   | refine LeO.ite ?_ ?_
   | refine LeO.bind ?_ (fun _ => ?_)
  ·intro y0 y1 y2 y3 y4 y5 y6 y7 y8 y9 y10
   unfold congouref01_Mixes.l1
   repeat' first
   | (with_reducible exact ih0 _ _ _ _ _ _)
   | (with_reducible exact ih1 _ _ _ _ _ _ _ _ _ _ _)
   | (with_reducible exact congouref01_Mixture.mono _ _ _ _)
   | (with_reducible exact LeO.refl _)
   | (with_reducible exact LeO.none _)
   | (with_reducible refine LeO.ite ?_ ?_)
   | (with_reducible refine LeO.bind ?_ (fun _ => ?_))
   | exact ih0 _ _ _ _ _ _
   | exact ih1 _ _ _ _ _ _ _ _ _ _ _
   | exact congouref01_Mixture.mono _ _ _ _
   | exact LeO.none _
   | refine LeO.ite ?_ ?_
   | refine LeO.bind ?_ (fun _ => ?_)
theorem congouref01_Mixes.mono : ∀ a0 a1 a2 k, LeO (congouref01_Mixes.f k a0 a1 a2) (congouref01_Mixes.f (k + 1) a0 a1 a2) := by
 intro a0 a1 a2 k
 obtain ⟨ih0, ih1⟩ := congouref01_Mixes.mono_l k
 unfold congouref01_Mixes.f
 repeat' first
   | (with_reducible exact ih0 _ _ _ _ _ _)
   | (with_reducible exact ih1 _ _ _ _ _ _ _ _ _ _ _)
   | (with_reducible exact congouref01_Mixture.mono _ _ _ _)
   | (with_reducible exact LeO.refl _)
   | (with_reducible exact LeO.none _)
   | (with_reducible refine LeO.ite ?_ ?_)
   | (with_reducible refine LeO.bind ?_ (fun _ => ?_))
   | exact ih0 _ _ _ _ _ _
   | exact ih1 _ _ _ _ _ _ _ _ _ _ _
   | exact congouref01_Mixture.mono _ _ _ _
   | exact LeO.none _
   | refine LeO.ite ?_ ?_
   | refine LeO.bind ?_ (fun _ => ?_)
set_option maxHeartbeats 8000000 in
set_option maxRecDepth 100000 in
theorem congouref01_Mixes.calls (k : Nat) (A0 : Option Addr) (c0 : Nat) (l0 : List Int) (A1 : Option Addr) (c1 : Nat) (l1 : List Int) (A2 : Option Addr) (c2 : Nat) (l2 : List (List (S62))) (r : Bool) (w : World) (hr0 : Kd.C (Kd.int .i64) w A0 l0.length l0) (hc0 : l0.length ≤ c0) (hr1 : Kd.C (Kd.int .i64) w A1 l1.length l1) (hc1 : l1.length ≤ c1) (hr2 : Kd.C (Kd.slice 62 k62) w A2 l2.length l2) (hc2 : l2.length ≤ c2) (h : congouref01_Mixes.f k l0 l1 l2 = some r) :
  Calls Try.prog 58 #[.slice A0 l0.length c0, .slice A1 l1.length c1, .slice A2 l2.length c2] w fun e w' => e = .returned (.bool r) ∧ Below w.heap.size w w' := by
 have hu62 := Try.underlying62
 have HR0 := Aside0.mk hr0
 have HC0 := Aside0.mk hc0
 clear hr0 hc0
 have HR1 := Aside0.mk hr1
 have HC1 := Aside0.mk hc1
 clear hr1 hc1
 have HR2 := Aside0.mk hr2
 have HC2 := Aside0.mk hc2
 clear hr2 hc2
 have HB := ak (Below.refl w.heap.size w)
 have H : ((congouref01_Mixture.f k l2 (l0.length : Int) 10000000).bind fun t903 => (if t903 = 0 then (some false) else (congouref01_Mixes.l0 k l0 l2 t903 l1 (l1.length : Int) 0))) = some r := h
 clear h
 replace H := Option.bind_eq_some_iff.mp H
 obtain ⟨t903, A40, H⟩ := H
 replace H : (if t903 = 0 then (some false) else (congouref01_Mixes.l0 k l0 l2 t903 l1 (l1.length : Int) 0)) = some r := H
 have A4 := Aside0.mk A40
 clear A40
 by_cases c5 : t903 = 0
 ·rw [if_pos c5] at H
  have c5b0 : (t903 == 0) = true := beq_iff_eq.mpr c5
  have c5b1 : (t903 != 0) = false := bne_eq_false_iff_eq.mpr c5
  clear c5
  obtain rfl := Option.some.inj H
  go_enter Try.func58, Try.ntmps58
  go_wp2_with (first | (go_at_call 50; (with_reducible refine (congouref01_Mixture.calls k _ _ l2 (l0.length : Int) 10000000 t903 _ ?side1 ?side2 A4.out).mono ?_); (case side1 => repeat (first | exact HR2.out | (with_reducible refine Kd.C_alloc ?_ _) | (with_reducible refine Kd.C_drewN ?_ _) | (with_reducible refine Kd.C_drew ?_))); (case side2 => exact HC2.out); rintro e w6 ⟨rfl, hb⟩; replace HB := kH _ hb; (try clear hb); (try clear hb2); (try clear hk); (try clear hi)))
  repeat (go_quiet (first | (go_at_call 50; (with_reducible refine (congouref01_Mixture.calls k _ _ l2 (l0.length : Int) 10000000 t903 _ ?side1 ?side2 A4.out).mono ?_); (case side1 => repeat (first | exact HR2.out | (with_reducible refine Kd.C_alloc ?_ _) | (with_reducible refine Kd.C_drewN ?_ _) | (with_reducible refine Kd.C_drew ?_))); (case side2 => exact HC2.out); rintro e w6 ⟨rfl, hb⟩; replace HB := kH _ hb; (try clear hb); (try clear hb2); (try clear hk); (try clear hi))); try go_wp2_with (first | (go_at_call 50; (with_reducible refine (congouref01_Mixture.calls k _ _ l2 (l0.length : Int) 10000000 t903 _ ?side1 ?side2 A4.out).mono ?_); (case side1 => repeat (first | exact HR2.out | (with_reducible refine Kd.C_alloc ?_ _) | (with_reducible refine Kd.C_drewN ?_ _) | (with_reducible refine Kd.C_drew ?_))); (case side2 => exact HC2.out); rintro e w6 ⟨rfl, hb⟩; replace HB := kH _ hb; (try clear hb); (try clear hb2); (try clear hk); (try clear hi))))
  go_ret
  exact ⟨by first | rfl | (simp [errW_none, errW_some] <;> rfl) | (simp [*, errW_none, errW_some] <;> rfl), hbC _⟩
 rw [if_neg c5] at H
 have c5b0 : (t903 == 0) = false := beq_eq_false_iff_ne.mpr c5
 have c5b1 : (t903 != 0) = true := bne_iff_ne.mpr c5
 have H' := Aside0.mk H
 clear H
 go_enter Try.func58, Try.ntmps58
 go_wp2_with (first | (go_at_call 50; (with_reducible refine (congouref01_Mixture.calls k _ _ l2 (l0.length : Int) 10000000 t903 _ ?side1 ?side2 A4.out).mono ?_); (case side1 => repeat (first | exact HR2.out | (with_reducible refine Kd.C_alloc ?_ _) | (with_reducible refine Kd.C_drewN ?_ _) | (with_reducible refine Kd.C_drew ?_))); (case side2 => exact HC2.out); rintro e w7 ⟨rfl, hb⟩; replace HB := kH _ hb; (try clear hb); (try clear hb2); (try clear hk); (try clear hi)))
 repeat (go_quiet (first | (go_at_call 50; (with_reducible refine (congouref01_Mixture.calls k _ _ l2 (l0.length : Int) 10000000 t903 _ ?side1 ?side2 A4.out).mono ?_); (case side1 => repeat (first | exact HR2.out | (with_reducible refine Kd.C_alloc ?_ _) | (with_reducible refine Kd.C_drewN ?_ _) | (with_reducible refine Kd.C_drew ?_))); (case side2 => exact HC2.out); rintro e w7 ⟨rfl, hb⟩; replace HB := kH _ hb; (try clear hb); (try clear hb2); (try clear hk); (try clear hi))); try go_wp2_with (first | (go_at_call 50; (with_reducible refine (congouref01_Mixture.calls k _ _ l2 (l0.length : Int) 10000000 t903 _ ?side1 ?side2 A4.out).mono ?_); (case side1 => repeat (first | exact HR2.out | (with_reducible refine Kd.C_alloc ?_ _) | (with_reducible refine Kd.C_drewN ?_ _) | (with_reducible refine Kd.C_drew ?_))); (case side2 => exact HC2.out); rintro e w7 ⟨rfl, hb⟩; replace HB := kH _ hb; (try clear hb); (try clear hb2); (try clear hk); (try clear hi))))
 go_loopg [21] k (fun kq v21 w' => ∃ (x21_1 : Int), v21 = .int .i64 x21_1 ∧ Aside0 (congouref01_Mixes.l0 kq l0 l2 t903 l1 (l1.length : Int) x21_1 = some r) ∧ Aside0 (kq ≤ k) ∧ Aside0 (Below w.heap.size w w'))
 case atStart => exact ⟨(0), (by first | rfl | (simp; done) | (simp [*]; done)), H', ⟨Nat.le_refl _⟩, ⟨hbC _⟩⟩
 case round =>
  clear H'
  try clear c1
  try clear c2
  try clear p2
  try clear c5
  try clear c5b0
  try clear c5b1
  obtain ⟨x21_1, rfl, HA, HK1, HB⟩ := hrel
  cases gk with
  | zero => exact absurd HA.out (by simp [congouref01_Mixes.l0])
  | succ k1 =>
   have H := HA.out
   clear HA
   simp only [congouref01_Mixes.l0] at H
   by_cases c8 : x21_1 < (l1.length : Int)
   rotate_left
   ·rw [if_neg c8] at H
    have c8b0 : decide (x21_1 < (l1.length : Int)) = false := decide_eq_false c8
    clear c8
    obtain rfl := Option.some.inj H
    go_wp2
    repeat (go_quiet (fail); try go_wp2)
    go_ret
    exact ⟨by first | rfl | (simp [errW_none, errW_some] <;> rfl) | (simp [*, errW_none, errW_some] <;> rfl), hbC _⟩
   rw [if_pos c8] at H
   have c8b0 : decide (x21_1 < (l1.length : Int)) = true := decide_eq_true c8
   clear c8
   by_cases c9 : 0 ≤ x21_1
   rotate_left
   ·rw [if_neg c9] at H
    exact absurd H (by simp)
   rw [if_pos c9] at H
   have c9b0 : decide (0 ≤ x21_1) = true := decide_eq_true c9
   clear c9
   by_cases c10 : x21_1 < (l1.length : Int)
   rotate_left
   ·rw [if_neg c10] at H
    exact absurd H (by simp)
   rw [if_pos c10] at H
   have c10b0 : decide (x21_1 < (l1.length : Int)) = true := decide_eq_true c10
   clear c10
   by_cases c11 : x21_1 < (l2.length : Int)
   rotate_left
   ·rw [if_neg c11] at H
    exact absurd H (by simp)
   rw [if_pos c11] at H
   have c11b0 : decide (x21_1 < (l2.length : Int)) = true := decide_eq_true c11
   clear c11
   have H' := Aside0.mk H
   clear H
   have p904 : 0 ≤ (x21_1 : Int) := dA
   have q904 : x21_1 < (l1.length : Int) := dA
   obtain ⟨ad904, e904, hx904_0⟩ := Kd.at_int HR1.out x21_1 p904 q904
   cases e904
   try replace hx904_0 := (HB.out.cell (World.block_lt_of_cell? w _ hx904_0)).trans hx904_0
   replace p904 := eq_true p904
   replace q904 := eq_true q904
   have p905 : 0 ≤ (x21_1 : Int) := dA
   have q905 : x21_1 < (l2.length : Int) := dA
   obtain ⟨ad905, A905_0, c905_0, e905, hx905_0, hl905_0, hi905_0⟩ := at_L5 HR2.out x21_1 p905 q905
   cases e905
   try replace hx905_0 := (HB.out.cell (World.block_lt_of_cell? w _ hx905_0)).trans hx905_0
   have HR905_0 := Aside0.mk hi905_0
   have HC905_0 := Aside0.mk hl905_0
   clear hi905_0 hl905_0
   replace p905 := eq_true p905
   replace q905 := eq_true q905
   go_wp2
   repeat (go_quiet (fail); try go_wp2)
   go_loopg [10, 31] k1 (fun kq v10 v31 w' => ∃ (x10_2 : Int) (x31_2 : Int), v10 = .int .i64 x10_2 ∧ v31 = .int .i64 x31_2 ∧ Aside0 (congouref01_Mixes.l1 kq l0 l2 t903 (rd l1 x21_1) x10_2 l1 (l1.length : Int) x21_1 (rd_L5 l2 x21_1) ((rd_L5 l2 x21_1).length : Int) x31_2 = some r) ∧ Aside0 (kq ≤ k1) ∧ Aside0 (Below w.heap.size w w'))
   case atStart => exact ⟨(0), (0), (by first | rfl | (simp; done) | (simp [*]; done)), (by first | rfl | (simp; done) | (simp [*]; done)), H', ⟨Nat.le_refl _⟩, ⟨hbC _⟩⟩
   case round =>
    clear H'
    try clear c1
    try clear c2
    try clear p2
    try clear c5
    try clear c5b0
    try clear c5b1
    try clear c8
    try clear c8b0
    try clear c9
    try clear c9b0
    try clear p9
    try clear q9
    try clear hx9
    try clear c10
    try clear c10b0
    try clear c11
    try clear c11b0
    try clear hx904_0
    try clear hx905_0
    try clear p2
    try clear p904
    try clear p905
    try clear q904
    try clear q905
    obtain ⟨x10_2, x31_2, rfl, rfl, HA, HK2, HB⟩ := hrel
    cases gk with
    | zero => exact absurd HA.out (by simp [congouref01_Mixes.l1])
    | succ k2 =>
     have H := HA.out
     clear HA
     simp only [congouref01_Mixes.l1] at H
     by_cases c12 : x31_2 < ((rd_L5 l2 x21_1).length : Int)
     rotate_left
     ·rw [if_neg c12] at H
      have c12b0 : decide (x31_2 < ((rd_L5 l2 x21_1).length : Int)) = false := decide_eq_false c12
      clear c12
      by_cases c19 : x10_2 = (wrap64 ((rd l1 x21_1) * t903))
      rotate_left
      ·rw [if_neg c19] at H
       have c19b0 : (x10_2 == (wrap64 ((rd l1 x21_1) * t903))) = false := beq_eq_false_iff_ne.mpr c19
       have c19b1 : (x10_2 != (wrap64 ((rd l1 x21_1) * t903))) = true := bne_iff_ne.mpr c19
       obtain rfl := Option.some.inj H
       go_wp2
       repeat (go_quiet (fail); try go_wp2)
       go_ret
       exact ⟨by first | rfl | (simp [errW_none, errW_some] <;> rfl) | (simp [*, errW_none, errW_some] <;> rfl), hbC _⟩
      rw [if_pos c19] at H
      have c19b0 : (x10_2 == (wrap64 ((rd l1 x21_1) * t903))) = true := beq_iff_eq.mpr c19
      have c19b1 : (x10_2 != (wrap64 ((rd l1 x21_1) * t903))) = false := bne_eq_false_iff_eq.mpr c19
      clear c19
      have H' := Aside0.mk H
      clear H
      go_wp2
      repeat (go_quiet (fail); try go_wp2)
      go_roundg k2
      case measure => have := HK1.out; have := HK2.out; omega
      case rel => exact ⟨(wrap64 (x21_1 + 1)), (by first | rfl | (simp; done) | (simp [*]; done)), H', ⟨by have := HK1.out; have := HK2.out; omega⟩, ⟨hbC _⟩⟩
     rw [if_pos c12] at H
     have c12b0 : decide (x31_2 < ((rd_L5 l2 x21_1).length : Int)) = true := decide_eq_true c12
     clear c12
     by_cases c13 : 0 ≤ x31_2
     rotate_left
     ·rw [if_neg c13] at H
      exact absurd H (by simp)
     rw [if_pos c13] at H
     have c13b0 : decide (0 ≤ x31_2) = true := decide_eq_true c13
     clear c13
     by_cases c14 : x31_2 < ((rd_L5 l2 x21_1).length : Int)
     rotate_left
     ·rw [if_neg c14] at H
      exact absurd H (by simp)
     rw [if_pos c14] at H
     have c14b0 : decide (x31_2 < ((rd_L5 l2 x21_1).length : Int)) = true := decide_eq_true c14
     clear c14
     by_cases c15 : ((rd_T62 (rd_L5 l2 x21_1) x31_2).f1) = 0
     ·rw [if_pos c15] at H
      exact absurd H (by simp)
     rw [if_neg c15] at H
     have c15b0 : (((rd_T62 (rd_L5 l2 x21_1) x31_2).f1) == 0) = false := beq_eq_false_iff_ne.mpr c15
     have c15b1 : (((rd_T62 (rd_L5 l2 x21_1) x31_2).f1) != 0) = true := bne_iff_ne.mpr c15
     by_cases c16 : x31_2 < (l0.length : Int)
     rotate_left
     ·rw [if_neg c16] at H
      exact absurd H (by simp)
     rw [if_pos c16] at H
     have c16b0 : decide (x31_2 < (l0.length : Int)) = true := decide_eq_true c16
     clear c16
     have H' := Aside0.mk H
     clear H
     have p906 : 0 ≤ (x31_2 : Int) := dA
     have q906 : x31_2 < ((rd_L5 l2 x21_1).length : Int) := dA
     obtain ⟨ad906, e906, hx906_0, hx906_1⟩ := at_T62 HR905_0.out x31_2 p906 q906
     cases e906
     try replace hx906_0 := (HB.out.cell (World.block_lt_of_cell? w _ hx906_0)).trans hx906_0
     try replace hx906_1 := (HB.out.cell (World.block_lt_of_cell? w _ hx906_1)).trans hx906_1
     replace p906 := eq_true p906
     replace q906 := eq_true q906
     go_wp2_with (first | ((with_reducible refine gate_dst (N := 12) rfl ?_); refine bE 12 #[.int .i64 0, .int .i64 0] 62 ?_; intro gb907 hg w17 hbox hb; have BK907 := ak (hbox); have GW907 := kG w hg; have GE907 := kG w hg; replace HB := kH _ hb; clear hb hbox hg; have hcz18_0 : w17.cell? ⟨gb907, 0, none⟩ = some (.int .i64 0) := bc BK907 0; have hcz18_1 : w17.cell? ⟨gb907, 1, none⟩ = some (.int .i64 0) := bc BK907 1; have hfz18_0 := fz BK907 0; have hfz18_1 := fz BK907 1; have p908 : 0 ≤ (x31_2 : Int) := dA; have q908 : x31_2 < (l0.length : Int) := dA; obtain ⟨ad908, e908, hx908_0⟩ := Kd.at_int HR0.out x31_2 p908 q908; cases e908; have hn908_0 : ad908.block ≠ gb907 := Nat.ne_of_lt (Nat.lt_of_lt_of_le (by have := World.block_lt_of_cell? _ _ hx908_0; first | rwa [add_block] at this | exact this) GW907.out); have hn908_1 : ad908.block ≠ gb907 := Nat.ne_of_lt (Nat.lt_of_lt_of_le (by have := World.block_lt_of_cell? _ _ hx908_0; first | rwa [add_block] at this | exact this) GW907.out); replace hx908_0 := (HB.out.cell (World.block_lt_of_cell? w _ hx908_0)).trans hx908_0; replace hx908_0 := (cell_far (p := ⟨gb907, 0, none⟩) (by first | (rw [add_block]; exact hn908_0) | (show (Addr.add _ _).block ≠ _; rw [add_block]; exact hn908_0) | exact hn908_0) (.int .i64 ((rd_T62 (rd_L5 l2 x21_1) x31_2).f0))).trans hx908_0; replace hx908_0 := (cell_far (p := ⟨gb907, 1, none⟩) (by first | (rw [add_block]; exact hn908_1) | (show (Addr.add _ _).block ≠ _; rw [add_block]; exact hn908_1) | exact hn908_1) (.int .i64 ((rd_T62 (rd_L5 l2 x21_1) x31_2).f1))).trans hx908_0; (try have hy908_0 := fun (n_ : Nat) => (show ((((w17.drewN n_).setCell ⟨gb907, 0, none⟩ (.int .i64 ((rd_T62 (rd_L5 l2 x21_1) x31_2).f0))).setCell ⟨gb907, 1, none⟩ (.int .i64 ((rd_T62 (rd_L5 l2 x21_1) x31_2).f1)))).cell? _ = some _ from hx908_0)); clear hn908_0; clear hn908_1; replace p908 := eq_true p908; replace q908 := eq_true q908))
     repeat (go_quiet (first | ((with_reducible refine gate_dst (N := 12) rfl ?_); refine bE 12 #[.int .i64 0, .int .i64 0] 62 ?_; intro gb907 hg w17 hbox hb; have BK907 := ak (hbox); have GW907 := kG w hg; have GE907 := kG w hg; replace HB := kH _ hb; clear hb hbox hg; have hcz18_0 : w17.cell? ⟨gb907, 0, none⟩ = some (.int .i64 0) := bc BK907 0; have hcz18_1 : w17.cell? ⟨gb907, 1, none⟩ = some (.int .i64 0) := bc BK907 1; have hfz18_0 := fz BK907 0; have hfz18_1 := fz BK907 1; have p908 : 0 ≤ (x31_2 : Int) := dA; have q908 : x31_2 < (l0.length : Int) := dA; obtain ⟨ad908, e908, hx908_0⟩ := Kd.at_int HR0.out x31_2 p908 q908; cases e908; have hn908_0 : ad908.block ≠ gb907 := Nat.ne_of_lt (Nat.lt_of_lt_of_le (by have := World.block_lt_of_cell? _ _ hx908_0; first | rwa [add_block] at this | exact this) GW907.out); have hn908_1 : ad908.block ≠ gb907 := Nat.ne_of_lt (Nat.lt_of_lt_of_le (by have := World.block_lt_of_cell? _ _ hx908_0; first | rwa [add_block] at this | exact this) GW907.out); replace hx908_0 := (HB.out.cell (World.block_lt_of_cell? w _ hx908_0)).trans hx908_0; replace hx908_0 := (cell_far (p := ⟨gb907, 0, none⟩) (by first | (rw [add_block]; exact hn908_0) | (show (Addr.add _ _).block ≠ _; rw [add_block]; exact hn908_0) | exact hn908_0) (.int .i64 ((rd_T62 (rd_L5 l2 x21_1) x31_2).f0))).trans hx908_0; replace hx908_0 := (cell_far (p := ⟨gb907, 1, none⟩) (by first | (rw [add_block]; exact hn908_1) | (show (Addr.add _ _).block ≠ _; rw [add_block]; exact hn908_1) | exact hn908_1) (.int .i64 ((rd_T62 (rd_L5 l2 x21_1) x31_2).f1))).trans hx908_0; (try have hy908_0 := fun (n_ : Nat) => (show ((((w17.drewN n_).setCell ⟨gb907, 0, none⟩ (.int .i64 ((rd_T62 (rd_L5 l2 x21_1) x31_2).f0))).setCell ⟨gb907, 1, none⟩ (.int .i64 ((rd_T62 (rd_L5 l2 x21_1) x31_2).f1)))).cell? _ = some _ from hx908_0)); clear hn908_0; clear hn908_1; replace p908 := eq_true p908; replace q908 := eq_true q908)); try go_wp2_with (first | ((with_reducible refine gate_dst (N := 12) rfl ?_); refine bE 12 #[.int .i64 0, .int .i64 0] 62 ?_; intro gb907 hg w17 hbox hb; have BK907 := ak (hbox); have GW907 := kG w hg; have GE907 := kG w hg; replace HB := kH _ hb; clear hb hbox hg; have hcz18_0 : w17.cell? ⟨gb907, 0, none⟩ = some (.int .i64 0) := bc BK907 0; have hcz18_1 : w17.cell? ⟨gb907, 1, none⟩ = some (.int .i64 0) := bc BK907 1; have hfz18_0 := fz BK907 0; have hfz18_1 := fz BK907 1; have p908 : 0 ≤ (x31_2 : Int) := dA; have q908 : x31_2 < (l0.length : Int) := dA; obtain ⟨ad908, e908, hx908_0⟩ := Kd.at_int HR0.out x31_2 p908 q908; cases e908; have hn908_0 : ad908.block ≠ gb907 := Nat.ne_of_lt (Nat.lt_of_lt_of_le (by have := World.block_lt_of_cell? _ _ hx908_0; first | rwa [add_block] at this | exact this) GW907.out); have hn908_1 : ad908.block ≠ gb907 := Nat.ne_of_lt (Nat.lt_of_lt_of_le (by have := World.block_lt_of_cell? _ _ hx908_0; first | rwa [add_block] at this | exact this) GW907.out); replace hx908_0 := (HB.out.cell (World.block_lt_of_cell? w _ hx908_0)).trans hx908_0; replace hx908_0 := (cell_far (p := ⟨gb907, 0, none⟩) (by first | (rw [add_block]; exact hn908_0) | (show (Addr.add _ _).block ≠ _; rw [add_block]; exact hn908_0) | exact hn908_0) (.int .i64 ((rd_T62 (rd_L5 l2 x21_1) x31_2).f0))).trans hx908_0; replace hx908_0 := (cell_far (p := ⟨gb907, 1, none⟩) (by first | (rw [add_block]; exact hn908_1) | (show (Addr.add _ _).block ≠ _; rw [add_block]; exact hn908_1) | exact hn908_1) (.int .i64 ((rd_T62 (rd_L5 l2 x21_1) x31_2).f1))).trans hx908_0; (try have hy908_0 := fun (n_ : Nat) => (show ((((w17.drewN n_).setCell ⟨gb907, 0, none⟩ (.int .i64 ((rd_T62 (rd_L5 l2 x21_1) x31_2).f0))).setCell ⟨gb907, 1, none⟩ (.int .i64 ((rd_T62 (rd_L5 l2 x21_1) x31_2).f1)))).cell? _ = some _ from hx908_0)); clear hn908_0; clear hn908_1; replace p908 := eq_true p908; replace q908 := eq_true q908)))
     go_roundg k2
     case measure => have := HK1.out; have := HK2.out; omega
     case rel => exact ⟨(wrap64 (x10_2 + (wrap64 ((wrap64 ((wrap64 (Int.tdiv t903 ((rd_T62 (rd_L5 l2 x21_1) x31_2).f1))) * ((rd_T62 (rd_L5 l2 x21_1) x31_2).f0))) * (rd l0 x31_2))))), (wrap64 (x31_2 + 1)), (by first | rfl | (simp; done) | (simp [*]; done)), (by first | rfl | (simp; done) | (simp [*]; done)), H', ⟨by have := HK1.out; have := HK2.out; omega⟩, ⟨hbC _⟩⟩

end Go.Proofs.Ytefmafbbnkkpjaa.X
