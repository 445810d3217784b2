-- Written by a program of this work (wip/xprint.py, over the kit's printer) out of the translation.
import Derived.Test.YtefmafbbnkkpjaaX0
namespace Go.Proofs.Ytefmafbbnkkpjaa.X
open Go.RowKit Go.Proofs.YtefmafbbnkkpjaaW.PrintWords Go.Proofs.YtefmafbbnkkpjaaW.PrintLast Go.Proofs.YtefmafbbnkkpjaaW.PrintMore
attribute [local go_sem] max2_int min2_int max_two min_two max_three min_three max_four min_four   -- for this text's walks alone
set_option linter.unusedVariables false
set_option linter.unusedSimpArgs false

/-! ### congouref01_Power: function 27 -/
mutual
def congouref01_Power.l0 : Nat → List Int → List Int → Int → List Int → Int → Int → Option (Int)
 | 0, _, _, _, _, _, _ => none
 | k + 1, x0, x1, x5, x13, x14, x15 => if x15 < x14 then (if 0 ≤ x15 then (if x15 < (x13.length : Int) then (congouref01_Power.l1 k x0 x1 x5 x15 1 x13 x14 x15 (rd x13 x15) 0) else (none)) else (none)) else (some x5)
def congouref01_Power.l1 : Nat → List Int → List Int → Int → Int → Int → List Int → Int → Int → Int → Int → Option (Int)
 | 0, _, _, _, _, _, _, _, _, _, _ => none
 | k + 1, x0, x1, x5, x6, x8, x13, x14, x15, x20, x21 => if x21 < x20 then (if 0 < (x1.length : Int) then (congouref01_Power.l1 k x0 x1 x5 x6 (wrap64 (x8 * (rd x1 0))) x13 x14 x15 x20 (wrap64 (x21 + 1))) else (none)) else ((some (([] : List Int) : List Int)).bind fun y658 => (if 0 ≤ x6 then (if x6 ≤ (x0.length : Int) then (if y658.length + (x0.take (x6 : Int).toNat).length < 17592186044416 then ((some (y658 ++ (x0.take (x6 : Int).toNat) : List Int)).bind fun y662 => (if 0 ≤ (wrap64 (x6 + 1)) then (if (wrap64 (x6 + 1)) ≤ (x0.length : Int) then (if y662.length + (x0.drop ((wrap64 (x6 + 1)) : Int).toNat).length < 17592186044416 then (if 1 ≤ (x1.length : Int) then ((congouref01_Power.f k (y662 ++ (x0.drop ((wrap64 (x6 + 1)) : Int).toNat)) (x1.drop 1)).bind fun t670 => (congouref01_Power.l0 k x0 x1 (wrap64 (x5 + (wrap64 (x8 * t670)))) x13 x14 (wrap64 (x15 + 1)))) else (none)) else (none)) else (none)) else (none))) else (none)) else (none)) else (none)))
def congouref01_Power.f : Nat → List Int → List Int → Option (Int)
 | 0, _, _ => none
 | k + 1, l0, l1 => if (l0.length : Int) = 0 then (some 1) else (congouref01_Power.l0 k l0 l1 0 l0 (l0.length : Int) 0)
end
theorem congouref01_Power.mono_l : ∀ k, (∀ y0 y1, LeO (congouref01_Power.f k y0 y1) (congouref01_Power.f (k + 1) y0 y1)) ∧ (∀ y0 y1 y2 y3 y4 y5, LeO (congouref01_Power.l0 k y0 y1 y2 y3 y4 y5) (congouref01_Power.l0 (k + 1) y0 y1 y2 y3 y4 y5)) ∧ (∀ y0 y1 y2 y3 y4 y5 y6 y7 y8 y9, LeO (congouref01_Power.l1 k y0 y1 y2 y3 y4 y5 y6 y7 y8 y9) (congouref01_Power.l1 (k + 1) y0 y1 y2 y3 y4 y5 y6 y7 y8 y9))
 | 0 => ⟨fun _ _ r h => by simp [congouref01_Power.f] at h, fun _ _ _ _ _ _ r h => by simp [congouref01_Power.l0] at h, fun _ _ _ _ _ _ _ _ _ _ r h => by simp [congouref01_Power.l1] at h⟩
 | k + 1 => by
  obtain ⟨ih0, ih1, ih2⟩ := congouref01_Power.mono_l k
  refine ⟨?_, ?_, ?_⟩
  ·intro y0 y1
   unfold congouref01_Power.f
   repeat' first
   | (with_reducible exact ih0 _ _)
   | (with_reducible exact ih1 _ _ _ _ _ _)
   | (with_reducible exact ih2 _ _ _ _ _ _ _ _ _ _)
   | (with_reducible exact LeO.refl _)
   | (with_reducible exact LeO.none _)
   | (with_reducible refine LeO.ite ?_ ?_)
   | (with_reducible refine LeO.bind ?_ (fun _ => ?_))
   | exact ih0 _ _
   | exact ih1 _ _ _ _ _ _
   | exact ih2 _ _ _ _ _ _ _ _ _ _
   | exact LeO.none _
   | refine LeO.ite ?_ ?_
   | refine LeO.bind ?_ (fun _ => ?_)
  ·intro y0 y1 y2 y3 y4 y5
   unfold congouref01_Power.l0
   repeat' first
   | (with_reducible exact ih0 _ _)
   | (with_reducible exact ih1 _ _ _ _ _ _)
   | (with_reducible exact ih2 _ _ _ _ _ _ _ _ _ _)
   | (with_reducible exact LeO.refl _)
   | (with_reducible exact LeO.none _)
   | (with_reducible refine LeO.ite ?_ ?_)
   | (with_reducible refine LeO.bind ?_ (fun _ => ?_))
   | exact ih0 _ _
   | exact ih1 _ _ _ _ _ _
   | exact ih2 _ _ _ _ _ _ _ _ _ _
   | exact LeO.none _
   | refine LeO.ite ?_ ?_
   | refine LeO.bind ?_ (fun _ => ?_)
  ·intro y0 y1 y2 y3 y4 y5 y6 y7 y8 y9
   unfold congouref01_Power.l1
   repeat' first
   | (with_reducible exact ih0 _ _)
   | (with_reducible exact ih1 _ _ _ _ _ _)
   | (with_reducible exact ih2 _ _ _ _ _ _ _ _ _ _)
   | (with_reducible exact LeO.refl _)
   | (with_reducible exact LeO.none _)
   | (with_reducible refine LeO.ite ?_ ?_)
   | (with_reducible refine LeO.bind ?_ (fun _ => ?_))
   | exact ih0 _ _
   | exact ih1 _ _ _ _ _ _
   | exact ih2 _ _ _ _ _ _ _ _ _ _
   | exact LeO.none _
   | refine LeO.ite ?_ ?_
   | refine LeO.bind ?_ (fun _ => ?_)
theorem congouref01_Power.mono : ∀ a0 a1 k, LeO (congouref01_Power.f k a0 a1) (congouref01_Power.f (k + 1) a0 a1) := by
 intro a0 a1 k
 obtain ⟨ih0, ih1, ih2⟩ := congouref01_Power.mono_l k
 exact ih0 a0 a1
def congouref01_Power.T12 : Bool × List (List Nat × List Nat) := (true, [([], []), ([], []), ([], []), ([1, 2], [1, 2]), ([0, 3], [0, 3]), ([], []), ([], []), ([6], [6]), ([5, 7], [5, 7]), ([4, 8, 4], [4, 8]), ([9, 9, 0, 1, 2, 3, 4, 5, 6, 7, 8, 9], [9])])
def congouref01_Power.B12 : List Nat := [0, 0, 0, 6, 15, 0, 0, 64, 224, 511, 1023]
theorem congouref01_Power.tab12 : rtab .any (opsOf Try.f27 12) = congouref01_Power.T12 := by kernel_rfl
theorem congouref01_Power.bits12 : waitsOk congouref01_Power.T12.2 congouref01_Power.B12 = true := by kernel_rfl
set_option maxHeartbeats 8000000 in
set_option maxRecDepth 100000 in
theorem congouref01_Power.calls (k : Nat) : ∀ (A0 : Option Addr) (c0 : Nat) (l0 : List Int) (A1 : Option Addr) (c1 : Nat) (l1 : List Int) (r : Int) (w : World) (hr0 : Kd.C (Kd.int .i64) w A0 l0.length l0) (hc0 : l0.length ≤ c0) (hr1 : Kd.C (Kd.int .i64) w A1 l1.length l1) (hc1 : l1.length ≤ c1) (h : congouref01_Power.f k l0 l1 = some r),
  Calls Try.prog 27 #[.slice A0 l0.length c0, .slice A1 l1.length c1] w fun e w' => e = .returned (.int .i64 r) ∧ Below w.heap.size w w' := by
 induction k using Nat.strongRecOn with
 | _ k ih =>
 intro A0 c0 l0 A1 c1 l1 r w hr0 hc0 hr1 hc1 h
 cases k with
 | zero => exact absurd h (by simp [congouref01_Power.f])
 | succ k =>
 simp only [congouref01_Power.f] at h
 have HR0 := Aside0.mk hr0
 have HC0 := Aside0.mk hc0
 clear hr0 hc0
 have HR1 := Aside0.mk hr1
 have HC1 := Aside0.mk hc1
 clear hr1 hc1
 have HB := ak (Below.refl w.heap.size w)
 have H : (if (l0.length : Int) = 0 then (some 1) else (congouref01_Power.l0 k l0 l1 0 l0 (l0.length : Int) 0)) = some r := h
 clear h
 by_cases c3 : (l0.length : Int) = 0
 ·rw [if_pos c3] at H
  have c3b0 : ((l0.length : Int) == 0) = true := beq_iff_eq.mpr c3
  have c3b1 : ((l0.length : Int) != 0) = false := bne_eq_false_iff_eq.mpr c3
  clear c3
  obtain rfl := Option.some.inj H
  go_enter Try.func27, Try.ntmps27
  go_wp2
  go_ret
  exact ⟨by first | rfl | (simp [errW_none, errW_some] <;> rfl) | (simp [*, errW_none, errW_some] <;> rfl), hbC _⟩
 rw [if_neg c3] at H
 have c3b0 : ((l0.length : Int) == 0) = false := beq_eq_false_iff_ne.mpr c3
 have c3b1 : ((l0.length : Int) != 0) = true := bne_iff_ne.mpr c3
 have c3b2 : ¬ (l0 = []) := fun h_ => c3 (by rw [h_]; rfl)
 have H' := Aside0.mk H
 clear H
 go_enter Try.func27, Try.ntmps27
 go_wp2
 go_loopg [5, 15] k (fun kq v5 v15 w' => ∃ (x5_1 : Int) (x15_1 : Int), v5 = .int .i64 x5_1 ∧ v15 = .int .i64 x15_1 ∧ Aside0 (congouref01_Power.l0 kq l0 l1 x5_1 l0 (l0.length : Int) x15_1 = some r) ∧ Aside0 (kq ≤ k) ∧ Aside0 (Below w.heap.size w w'))
 case atStart => exact ⟨(0), (0), (by first | rfl | (simp; done) | (simp [*]; done)), (by first | rfl | (simp; done) | (simp [*]; done)), H', ⟨Nat.le_refl _⟩, ⟨hbC _⟩⟩
 case round =>
  clear H'
  try clear c1
  try clear c2
  try clear p2
  try clear c3
  try clear c3b0
  try clear c3b1
  try clear c3b2
  obtain ⟨x5_1, x15_1, rfl, rfl, HA, HK1, HB⟩ := hrel
  cases gk with
  | zero => exact absurd HA.out (by simp [congouref01_Power.l0])
  | succ k1 =>
   have H := HA.out
   clear HA
   simp only [congouref01_Power.l0] at H
   by_cases c4 : x15_1 < (l0.length : Int)
   rotate_left
   ·rw [if_neg c4] at H
    have c4b0 : decide (x15_1 < (l0.length : Int)) = false := decide_eq_false c4
    clear c4
    obtain rfl := Option.some.inj H
    go_wp2
    go_ret
    exact ⟨by first | rfl | (simp [errW_none, errW_some] <;> rfl) | (simp [*, errW_none, errW_some] <;> rfl), hbC _⟩
   rw [if_pos c4] at H
   have c4b0 : decide (x15_1 < (l0.length : Int)) = true := decide_eq_true c4
   clear c4
   by_cases c5 : 0 ≤ x15_1
   rotate_left
   ·rw [if_neg c5] at H
    exact absurd H (by simp)
   rw [if_pos c5] at H
   have c5b0 : decide (0 ≤ x15_1) = true := decide_eq_true c5
   clear c5
   by_cases c6 : x15_1 < (l0.length : Int)
   rotate_left
   ·rw [if_neg c6] at H
    exact absurd H (by simp)
   rw [if_pos c6] at H
   have c6b0 : decide (x15_1 < (l0.length : Int)) = true := decide_eq_true c6
   clear c6
   have H' := Aside0.mk H
   clear H
   have p656 : 0 ≤ (x15_1 : Int) := dA
   have q656 : x15_1 < (l0.length : Int) := dA
   obtain ⟨ad656, e656, hx656_0⟩ := Kd.at_int HR0.out x15_1 p656 q656
   cases e656
   try replace hx656_0 := (HB.out.cell (World.block_lt_of_cell? w _ hx656_0)).trans hx656_0
   replace p656 := eq_true p656
   replace q656 := eq_true q656
   go_wp2
   go_loopg [8, 21] k1 (fun kq v8 v21 w' => ∃ (x8_2 : Int) (x21_2 : Int), v8 = .int .i64 x8_2 ∧ v21 = .int .i64 x21_2 ∧ Aside0 (congouref01_Power.l1 kq l0 l1 x5_1 x15_1 x8_2 l0 (l0.length : Int) x15_1 (rd l0 x15_1) x21_2 = some r) ∧ Aside0 (kq ≤ k1) ∧ Aside0 (Below w.heap.size w w'))
   case atStart => exact ⟨(1), (0), (by first | rfl | (simp; done) | (simp [*]; done)), (by first | rfl | (simp; done) | (simp [*]; done)), H', ⟨Nat.le_refl _⟩, ⟨hbC _⟩⟩
   case round =>
    clear H'
    try clear c1
    try clear c2
    try clear p2
    try clear c3
    try clear c3b0
    try clear c3b1
    try clear c3b2
    try clear c4
    try clear c4b0
    try clear c5
    try clear c5b0
    try clear c6
    try clear c6b0
    try clear p6
    try clear q6
    try clear hx6
    try clear hx656_0
    try clear p2
    try clear p656
    try clear q656
    obtain ⟨x8_2, x21_2, rfl, rfl, HA, HK2, HB⟩ := hrel
    cases gk with
    | zero => exact absurd HA.out (by simp [congouref01_Power.l1])
    | succ k2 =>
     have H := HA.out
     clear HA
     simp only [congouref01_Power.l1] at H
     by_cases c7 : x21_2 < (rd l0 x15_1)
     ·rw [if_pos c7] at H
      have c7b0 : decide (x21_2 < (rd l0 x15_1)) = true := decide_eq_true c7
      clear c7
      by_cases c8 : 0 < (l1.length : Int)
      rotate_left
      ·rw [if_neg c8] at H
       exact absurd H (by simp)
      rw [if_pos c8] at H
      have c8b0 : decide (0 < (l1.length : Int)) = true := decide_eq_true c8
      have c8b1 : decide (0 < l1.length) = true := decide_eq_true (by omega)
      clear c8
      have H' := Aside0.mk H
      clear H
      have p657 : 0 ≤ (0 : Int) := (by omega)
      have q657 : 0 < (l1.length : Int) := dA
      obtain ⟨ad657, e657, hx657_0⟩ := Kd.at_int HR1.out 0 p657 q657
      cases e657
      have qi657 : (0 < l1.length) = True := eq_true (by omega)
      (try rw [show ((0 : Int)).toNat = 0 from rfl] at hx657_0)
      (try rw [Addr.add_zero'] at hx657_0)
      try replace hx657_0 := (HB.out.cell (World.block_lt_of_cell? w _ hx657_0)).trans hx657_0
      replace p657 := eq_true p657
      replace q657 := eq_true q657
      go_wp2
      go_roundg k2
      case measure => have := HK1.out; have := HK2.out; omega
      case rel => exact ⟨(wrap64 (x8_2 * (rd l1 0))), (wrap64 (x21_2 + 1)), (by first | rfl | (simp; done) | (simp [*]; done)), (by first | rfl | (simp; done) | (simp [*]; done)), H', ⟨by have := HK1.out; have := HK2.out; omega⟩, ⟨hbC _⟩⟩
     rw [if_neg c7] at H
     have c7b0 : decide (x21_2 < (rd l0 x15_1)) = false := decide_eq_false c7
     clear c7
     obtain ⟨y658, hy658⟩ : ∃ y_ : List Int, y_ = (([] : List Int)) := ⟨_, rfl⟩
     replace H : (if 0 ≤ x15_1 then (if x15_1 ≤ (l0.length : Int) then (if y658.length + (l0.take (x15_1 : Int).toNat).length < 17592186044416 then ((some (y658 ++ (l0.take (x15_1 : Int).toNat) : List Int)).bind fun y662 => (if 0 ≤ (wrap64 (x15_1 + 1)) then (if (wrap64 (x15_1 + 1)) ≤ (l0.length : Int) then (if y662.length + (l0.drop ((wrap64 (x15_1 + 1)) : Int).toNat).length < 17592186044416 then (if 1 ≤ (l1.length : Int) then ((congouref01_Power.f k2 (y662 ++ (l0.drop ((wrap64 (x15_1 + 1)) : Int).toNat)) (l1.drop 1)).bind fun t670 => (congouref01_Power.l0 k2 l0 l1 (wrap64 (x5_1 + (wrap64 (x8_2 * t670)))) l0 (l0.length : Int) (wrap64 (x15_1 + 1)))) else (none)) else (none)) else (none)) else (none))) else (none)) else (none)) else (none)) = some r := by first | (rw [hy658]; with_reducible exact H) | (have H2_ := (Option.bind_some _ _).symm.trans H; rw [hy658]; with_reducible exact H2_) | (have H2_ := (Option.bind_some _ _).symm.trans H; with_reducible exact H2_) | with_reducible exact H | (rw [hy658]; exact H) | exact H
     have Ny658 := Aside0.mk hy658
     clear hy658
     by_cases c9 : 0 ≤ x15_1
     rotate_left
     ·rw [if_neg c9] at H
      exact absurd H (by simp)
     rw [if_pos c9] at H
     have c9b0 := eq_true c9
     have c9b1 : decide (0 ≤ x15_1) = true := decide_eq_true c9
     clear c9
     by_cases c10 : x15_1 ≤ (l0.length : Int)
     rotate_left
     ·rw [if_neg c10] at H
      exact absurd H (by simp)
     rw [if_pos c10] at H
     have c10b0 := eq_true c10
     have c10b1 : decide (x15_1 ≤ (l0.length : Int)) = true := decide_eq_true c10
     clear c10
     by_cases c11 : y658.length + (l0.take (x15_1 : Int).toNat).length < 17592186044416
     rotate_left
     ·rw [if_neg c11] at H
      exact absurd H (by simp)
     rw [if_pos c11] at H
     have LMc11 := Aside0.mk c11
     clear c11
     obtain ⟨y662, hy662⟩ : ∃ y_ : List Int, y_ = (y658 ++ (l0.take (x15_1 : Int).toNat)) := ⟨_, rfl⟩
     replace H : (if 0 ≤ (wrap64 (x15_1 + 1)) then (if (wrap64 (x15_1 + 1)) ≤ (l0.length : Int) then (if y662.length + (l0.drop ((wrap64 (x15_1 + 1)) : Int).toNat).length < 17592186044416 then (if 1 ≤ (l1.length : Int) then ((congouref01_Power.f k2 (y662 ++ (l0.drop ((wrap64 (x15_1 + 1)) : Int).toNat)) (l1.drop 1)).bind fun t670 => (congouref01_Power.l0 k2 l0 l1 (wrap64 (x5_1 + (wrap64 (x8_2 * t670)))) l0 (l0.length : Int) (wrap64 (x15_1 + 1)))) else (none)) else (none)) else (none)) else (none)) = some r := by first | (rw [hy662]; with_reducible exact H) | (have H2_ := (Option.bind_some _ _).symm.trans H; rw [hy662]; with_reducible exact H2_) | (have H2_ := (Option.bind_some _ _).symm.trans H; with_reducible exact H2_) | with_reducible exact H | (rw [hy662]; exact H) | exact H
     have Ny662 := Aside0.mk hy662
     clear hy662
     obtain ⟨ji12, hji12⟩ : ∃ j_ : Int, (wrap64 (x15_1 + 1)) = j_ := ⟨_, rfl⟩
     replace H : (if 0 ≤ (ji12) then (if (ji12) ≤ (l0.length : Int) then (if y662.length + (l0.drop ((ji12) : Int).toNat).length < 17592186044416 then (if 1 ≤ (l1.length : Int) then ((congouref01_Power.f k2 (y662 ++ (l0.drop ((ji12) : Int).toNat)) (l1.drop 1)).bind fun t670 => (congouref01_Power.l0 k2 l0 l1 (wrap64 (x5_1 + (wrap64 (x8_2 * t670)))) l0 (l0.length : Int) ji12)) else (none)) else (none)) else (none)) else (none)) = some r := by first | (rw [hji12] at H; exact H) | (simp only [hji12] at H ⊢; exact H)
     have hji12w : (IntKind.i64.wrap (x15_1 + 1)) = ji12 := (i64_w _).trans hji12
     by_cases c13 : 0 ≤ (ji12)
     rotate_left
     ·rw [if_neg c13] at H
      exact absurd H (by simp)
     rw [if_pos c13] at H
     have c13b0 := eq_true c13
     have c13b1 : decide (0 ≤ (ji12)) = true := decide_eq_true c13
     clear c13
     by_cases c14 : (ji12) ≤ (l0.length : Int)
     rotate_left
     ·rw [if_neg c14] at H
      exact absurd H (by simp)
     rw [if_pos c14] at H
     have c14b0 := eq_true c14
     have c14b1 : decide ((ji12) ≤ (l0.length : Int)) = true := decide_eq_true c14
     clear c14
     by_cases c15 : y662.length + (l0.drop ((ji12) : Int).toNat).length < 17592186044416
     rotate_left
     ·rw [if_neg c15] at H
      exact absurd H (by simp)
     rw [if_pos c15] at H
     have LMc15 := Aside0.mk c15
     clear c15
     obtain ⟨y666, hy666⟩ : ∃ y_ : List Int, y_ = (y662 ++ (l0.drop ((ji12) : Int).toNat)) := ⟨_, rfl⟩
     replace H : (if 1 ≤ (l1.length : Int) then ((congouref01_Power.f k2 y666 (l1.drop 1)).bind fun t670 => (congouref01_Power.l0 k2 l0 l1 (wrap64 (x5_1 + (wrap64 (x8_2 * t670)))) l0 (l0.length : Int) ji12)) else (none)) = some r := by first | (rw [hy666]; with_reducible exact H) | (have H2_ := (Option.bind_some _ _).symm.trans H; rw [hy666]; with_reducible exact H2_) | (have H2_ := (Option.bind_some _ _).symm.trans H; with_reducible exact H2_) | with_reducible exact H | (rw [hy666]; exact H) | exact H
     have Ny666 := Aside0.mk hy666
     clear hy666
     by_cases c16 : 1 ≤ (l1.length : Int)
     rotate_left
     ·rw [if_neg c16] at H
      exact absurd H (by simp)
     rw [if_pos c16] at H
     have c16b0 := eq_true c16
     have c16b1 : decide (1 ≤ (l1.length : Int)) = true := decide_eq_true c16
     clear c16
     replace H := Option.bind_eq_some_iff.mp H
     obtain ⟨t670, A170, H⟩ := H
     replace H : (congouref01_Power.l0 k2 l0 l1 (wrap64 (x5_1 + (wrap64 (x8_2 * t670)))) l0 (l0.length : Int) ji12) = some r := H
     have A17 := Aside0.mk A170
     clear A170
     have H' := Aside0.mk H
     clear H
     try go_wp2
     replace HB := ak (below_drew1 HB.out)
     obtain ⟨i019, hi019, _, hsz19, _⟩ := info_parts info3
     obtain ⟨hcut19, hA19, hC19⟩ := print_take_of (P := Try.prog) (Value.int .i64) 0 22 3 .i64 Try.underlying22 hi019 hsz19 (some ad656) c0 l0 x15_1 (dA) (dA) HC0.out
     have HR661 := ak (Kd.C_of_reads (h1 := fun _ => rfl) (hA19 _ (Kd.reads_of_C HR0.out)))
     have HC661 := Aside0.mk hC19
     clear hA19 hC19 hi019 hsz19
     obtain ⟨i020, hi020, _, hsz20, _⟩ := info_parts info3
     obtain ⟨A20, hcut20, hA20, hC20⟩ := print_drop_of (P := Try.prog) (Value.int .i64) 0 22 3 .i64 Try.underlying22 hi020 hsz20 (some ad656) c0 l0 (ji12) (dA) (dA) HC0.out
     have HR665 := ak (Kd.C_of_reads (h1 := fun _ => rfl) (hA20 _ (Kd.reads_of_C HR0.out)))
     have HC665 := Aside0.mk hC20
     clear hA20 hC20 hi020 hsz20
     refine sS (n := 11) (S := fun w' => True) (ds := []) trivial (fun hHeld => ?_); refine with_tabW congouref01_Power.tab12 congouref01_Power.bits12 (fun HT_ HW_ => ?_)
     generalize wr.drew = w18 at HB HR661 HR665 hHeld ⊢
     refine pS 1 30 11 2 ?_
     refine pS 2 31 11 6 ?_
     refine pS 3 32 11 14 ?_
     refine pS 5 34 11 46 ?_
     refine pS 6 35 11 110 ?_
     refine pS 7 36 11 238 ?_
     refine pS 8 37 11 494 ?_
     refine one_ (i := 0) (N := some 29) (ba 11 495) rfl rfl (one_of HT_.out (by kernel_rfl)) (by decide) (fun K hK => ?_)
     refine Kd.R_lit_step (Kd.int .i64) _ 3 ?hg (N := 29) ?hd (xs := ([] : List Int)) (inner := []) (ok := fun _ => True) (okp := fun _ => True) ?hr ?hp (fun _ hk => hk) trivial (Below.refl _ _) (Nat.le_refl _) (by simp) ?_; (case hd => rfl); (case hg => rfl); (case hr => first | (go_simp; done) | (go_simp; rfl)); (case hp => exact (Reps.none _ _))
     intro v659 w21 ho22 hb hg_ hnew_
     clear hg_ hnew_
     (first | rw [← Ny658.out] at ho22 | (simp only [Int.reduceToNat] at ho22; rw [← Ny658.out] at ho22))
     have HO660 := ak (Kd.R_lower ho22 (below_size (hbC _)))
     replace HB := kH _ hb
     clear hb ho22
     refine hK.out _ _ trivial (fun hHeld => ?_)
     clear hK K
     refine norm_ (a' := ?_) ?_ ?_
     rotate_left
     ·show Act.put _ (some 29) _ = _
      simp only [Act.put, List.setIfInBounds_toArray, List.set_cons_zero, List.set_cons_succ, i64_w, i32_w]
      rfl
     refine one_ (i := 4) (N := some 33) (ba 11 511) rfl rfl (one_of HT_.out (by kernel_rfl)) (by decide) (fun K hK => ?_)
     refine Kd.R_append_rows_step (Kd.int .i64) (w0 := w) w.heap.size (by rfl) (.tmp 29) (.tmp 32) 22 3 (.int .i64 0) 8 rfl Try.underlying22 info3 rfl (by decide) (by omega) v659 y658 (l0.take (x15_1 : Int).toNat) _ _ _ (fun _ => True) (fun _ => False) rfl rfl ?aO ?aR (fun _ _ h => h) (fun _ h => h.elim) ?aF ?aB ?aS ?aL ?_
     (case aR => first | (have hE_ : (l0.take (x15_1 : Int).toNat).length = x15_1.toNat := (by rw [List.length_take]; have h_ : (x15_1 : Int) ≤ (l0.length : Int) := dA; omega); have hT_ := (Kd.C_below HR661.out HB.out); rw [hE_] at hT_; exact hT_) | (rw [← show (l0.take (x15_1 : Int).toNat).length = x15_1.toNat from (by rw [List.length_take]; have h_ : (x15_1 : Int) ≤ (l0.length : Int) := dA; omega)]; exact kC HR661) | (exact kC HR661))
     (case aB => exact (hbC _))
     (case aF => exact (fun _ _ => trivial))
     (case aO => exact (rC HO660))
     (case aS => exact (below_size (hbC _)))
     (case aL => have := LMc11.out; have hlx_ := (show (l0.take (x15_1 : Int).toNat).length = x15_1.toNat from (by rw [List.length_take]; have h_ : (x15_1 : Int) ≤ (l0.length : Int) := dA; omega)); omega)
     intro v663 w23 ho hb hg hat
     rw [← Ny662.out] at ho
     have n0_ := ak (hb)
     have n1_ := ak (ho)
     clear HB
     clear HO660
     have HB := n0_
     have HO664 := n1_
     clear n0_ n1_
     clear ho hb hg hat
     refine hK.out _ _ trivial (fun hHeld => ?_)
     clear hK K
     refine norm_ (a' := ?_) ?_ ?_
     rotate_left
     ·show Act.put _ (some 33) _ = _
      simp only [Act.put, List.setIfInBounds_toArray, List.set_cons_zero, List.set_cons_succ, i64_w, i32_w]
      rfl
     refine one_ (i := 9) (N := some 38) (ba 11 1023) rfl rfl (one_of HT_.out (by kernel_rfl)) (by decide) (fun K hK => ?_)
     refine Kd.R_append_rows_step (Kd.int .i64) (w0 := w) w.heap.size (by rfl) (.tmp 33) (.tmp 37) 22 3 (.int .i64 0) 8 rfl Try.underlying22 info3 rfl (by decide) (by omega) v663 y662 (l0.drop ((ji12) : Int).toNat) _ _ _ (fun _ => True) (fun _ => False) rfl rfl ?aO ?aR (fun _ _ h => h) (fun _ h => h.elim) ?aF ?aB ?aS ?aL ?_
     (case aR => first | (rw [← show (l0.drop ((ji12) : Int).toNat).length = (l0.length - (ji12).toNat) from List.length_drop]; exact kC HR665) | (exact kC HR665))
     (case aB => exact (hbC _))
     (case aF => exact (fun _ _ => trivial))
     (case aO => exact (rC HO664))
     (case aS => exact (below_size (hbC _)))
     (case aL => have := LMc15.out; have hlx_ := (show (l0.drop ((ji12) : Int).toNat).length = (l0.length - (ji12).toNat) from List.length_drop); omega)
     intro v667 w24 ho hb hg hat
     rw [← Ny666.out] at ho
     have n0_ := ak (hb)
     have n1_ := ak (ho)
     clear HB
     clear HO664
     have HB := n0_
     have HO668 := n1_
     clear n0_ n1_
     clear ho hb hg hat
     refine hK.out _ _ trivial (fun hHeld => ?_)
     clear hK K
     refine norm_ (a' := ?_) ?_ ?_
     rotate_left
     ·show Act.put _ (some 38) _ = _
      simp only [Act.put, List.setIfInBounds_toArray, List.set_cons_zero, List.set_cons_succ, i64_w, i32_w]
      rfl
     refine pS 10 9 11 2047 ?_
     refine done_ (done_of HT_.out (by kernel_rfl)) ?_
     obtain ⟨i025, hi025, _, hsz25, _⟩ := info_parts info3
     obtain ⟨A25, hcut25, hA25, hC25⟩ := print_drop_of (P := Try.prog) (Value.int .i64) 0 22 3 .i64 Try.underlying22 hi025 hsz25 A1 c1 l1 1 (by omega) (dA) HC1.out
     have HR669 := ak (Kd.C_of_reads (h1 := fun _ => rfl) (hA25 _ (Kd.reads_of_C HR1.out)))
     have HC669 := Aside0.mk hC25
     clear hA25 hC25 hi025 hsz25
     obtain ⟨Ao26, co26, eo26⟩ := Kd.R_slice HO668.out
     subst eo26
     try go_wp2_with (first | ((with_reducible refine gate_callee (f := 27) rfl ?_); refine goesL_ (some 44) rfl rfl Try.func27 (by kernel_rfl) rfl #[.slice Ao26 y666.length co26, .slice A25 (l1.drop 1).length (c1 - 1)] rfl (by (try simp only [List.map_toArray, List.map_cons, List.map_nil]); first | done | (rw [show (l1.drop 1).length = (l1.length - 1) from List.length_drop] <;> rfl) | rfl | (simp only [List.length_drop, List.length_take]; rfl)) ?_; (with_reducible refine (ih k2 (by have := HK1.out; have := HK2.out; omega) _ _ y666 _ _ (l1.drop 1) t670 _ ?side1 ?side2 ?side3 ?side4 A17.out).mono ?_); (case side1 => exact kD (Kd.R_reads' HO668.out).2.2); (case side2 => exact (Kd.R_reads' HO668.out).2.1); (case side3 => exact kC HR669); (case side4 => exact HC669.out); rintro e w27 ⟨rfl, hb⟩; refine ⟨_, rfl, ?_⟩; replace HO668 := kO HO668 hb; replace HB := kH _ hb; (try clear hb); (try clear hb2); (try clear hk); (try clear hi)))
     go_roundg k2
     case measure => have := HK1.out; have := HK2.out; omega
     case rel => exact ⟨(wrap64 (x5_1 + (wrap64 (x8_2 * t670)))), (ji12), (by first | rfl | (simp; done) | (simp [*]; done)), (by first | rfl | (simp; done) | (simp only [← hji12] <;> (first | rfl | simp)) | (simp [*]; done)), H', ⟨by have := HK1.out; have := HK2.out; omega⟩, ⟨hbC _⟩⟩

end Go.Proofs.Ytefmafbbnkkpjaa.X
