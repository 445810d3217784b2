-- Written by a program of this work (wip/xprint.py, over the kit's printer) out of the translation.
import Derived.Test.YtkieehjpnjplmaaX0
namespace Go.Proofs.Ytkieehjpnjplmaa.X
open Go.RowKit Go.Proofs.YtkieehjpnjplmaaW.PrintWords Go.Proofs.YtkieehjpnjplmaaW.PrintLast Go.Proofs.YtkieehjpnjplmaaW.PrintMore
attribute [local go_sem] max2_int min2_int max_two min_two max_three min_three max_four min_four   -- for this text's walks alone
set_option linter.unusedVariables false
set_option linter.unusedSimpArgs false

/-! ### congouref09_Valid: function 8 -/
mutual
def congouref09_Valid.j0 : Nat → Bool → Int → List (List Int) → Option (Bool)
 | 0, _, _, _ => none
 | k + 1, x26, x154000, x154001 => if x26 = true then (some false) else (congouref09_Valid.l0 k x154001 (x154001.length : Int) 0 x154000 x154001)
def congouref09_Valid.l0 : Nat → List (List Int) → Int → Int → Int → List (List Int) → Option (Bool)
 | 0, _, _, _, _, _ => none
 | k + 1, x28, x29, x30, x154000, x154001 => if x30 < x29 then (if 0 ≤ x30 then (if x30 < (x28.length : Int) then (if 0 < (x154001.length : Int) then (if ((rd_L1 x28 x30).length : Int) = ((rd_L1 x154001 0).length : Int) then (if ((rd_L1 x28 x30).length : Int) < 1 then (congouref09_Valid.j2 k (rd_L1 x28 x30) x28 x29 x30 true x154000 x154001) else (congouref09_Valid.j2 k (rd_L1 x28 x30) x28 x29 x30 (decide (((rd_L1 x28 x30).length : Int) > 8)) x154000 x154001)) else (congouref09_Valid.j2 k (rd_L1 x28 x30) x28 x29 x30 true x154000 x154001)) else (none)) else (none)) else (none)) else (some true)
def congouref09_Valid.j2 : Nat → List Int → List (List Int) → Int → Int → Bool → Int → List (List Int) → Option (Bool)
 | 0, _, _, _, _, _, _, _ => none
 | k + 1, x4, x28, x29, x30, x51, x154000, x154001 => if x51 = true then (some false) else (congouref09_Valid.l1 k x28 x29 x30 x4 (x4.length : Int) 0 x154000 x154001)
def congouref09_Valid.l1 : Nat → List (List Int) → Int → Int → List Int → Int → Int → Int → List (List Int) → Option (Bool)
 | 0, _, _, _, _, _, _, _, _ => none
 | k + 1, x28, x29, x30, x52, x53, x54, x154000, x154001 => if x54 < x53 then (if 0 ≤ x54 then (if x54 < (x52.length : Int) then (if (rd x52 x54) < 0 then (some false) else (if (rd x52 x54) ≥ x154000 then (some false) else (congouref09_Valid.l1 k x28 x29 x30 x52 x53 (wrap64 (x54 + 1)) x154000 x154001))) else (none)) else (none)) else (congouref09_Valid.l0 k x28 x29 (wrap64 (x30 + 1)) x154000 x154001)
end
def congouref09_Valid.f (k : Nat) (a0_0 : Int) (l0_1 : List (List Int)) : Option (Bool) := if a0_0 < 2 then (congouref09_Valid.j0 k true a0_0 l0_1) else (if a0_0 > 4 then (congouref09_Valid.j0 k true a0_0 l0_1) else (if (l0_1.length : Int) < 1 then (congouref09_Valid.j0 k true a0_0 l0_1) else (congouref09_Valid.j0 k (decide ((l0_1.length : Int) > 16)) a0_0 l0_1)))
theorem congouref09_Valid.mono_l : ∀ k, (∀ y0 y1 y2, LeO (congouref09_Valid.j0 k y0 y1 y2) (congouref09_Valid.j0 (k + 1) y0 y1 y2)) ∧ (∀ y0 y1 y2 y3 y4, LeO (congouref09_Valid.l0 k y0 y1 y2 y3 y4) (congouref09_Valid.l0 (k + 1) y0 y1 y2 y3 y4)) ∧ (∀ y0 y1 y2 y3 y4 y5 y6, LeO (congouref09_Valid.j2 k y0 y1 y2 y3 y4 y5 y6) (congouref09_Valid.j2 (k + 1) y0 y1 y2 y3 y4 y5 y6)) ∧ (∀ y0 y1 y2 y3 y4 y5 y6 y7, LeO (congouref09_Valid.l1 k y0 y1 y2 y3 y4 y5 y6 y7) (congouref09_Valid.l1 (k + 1) y0 y1 y2 y3 y4 y5 y6 y7))
 | 0 => ⟨fun _ _ _ r h => by simp [congouref09_Valid.j0] at h, fun _ _ _ _ _ r h => by simp [congouref09_Valid.l0] at h, fun _ _ _ _ _ _ _ r h => by simp [congouref09_Valid.j2] at h, fun _ _ _ _ _ _ _ _ r h => by simp [congouref09_Valid.l1] at h⟩
 | k + 1 => by
  obtain ⟨ih0, ih1, ih2, ih3⟩ := congouref09_Valid.mono_l k
  refine ⟨?_, ?_, ?_, ?_⟩
  ·intro y0 y1 y2
   unfold congouref09_Valid.j0
   repeat' first
   | (with_reducible exact ih0 _ _ _)
   | (with_reducible exact ih1 _ _ _ _ _)
   | (with_reducible exact ih2 _ _ _ _ _ _ _)
   | (with_reducible exact ih3 _ _ _ _ _ _ _ _)
   | (with_reducible exact LeO.refl _)
   | (with_reducible exact LeO.none _)
   | (with_reducible refine LeO.ite ?_ ?_)
   | (with_reducible refine LeO.bind ?_ (fun _ => ?_))
   | exact ih0 _ _ _
   | exact ih1 _ _ _ _ _
   | exact ih2 _ _ _ _ _ _ _
   | exact ih3 _ _ _ _ _ _ _ _
   | exact LeO.none _
   | refine LeO.ite ?_ ?_
   | refine LeO.bind ?_ (fun _ => ?_)
  ·intro y0 y1 y2 y3 y4
   unfold congouref09_Valid.l0
   repeat' first
   | (with_reducible exact ih0 _ _ _)
   | (with_reducible exact ih1 _ _ _ _ _)
   | (with_reducible exact ih2 _ _ _ _ _ _ _)
   | (with_reducible exact ih3 _ _ _ _ _ _ _ _)
   | (with_reducible exact LeO.refl _)
   | (with_reducible exact LeO.none _)
   | (with_reducible refine LeO.ite ?_ ?_)
   | (with_reducible refine LeO.bind ?_ (fun _ => ?_))
   | exact ih0 _ _ _
   | exact ih1 _ _ _ _ _
   | exact ih2 _ _ _ _ _ _ _
   | exact ih3 _ _ _ _ _ _ _ _
   | exact LeO.none _
   | refine LeO.ite ?_ ?_
   | refine LeO.bind ?_ (fun _ => ?_)
  ·intro y0 y1 y2 y3 y4 y5 y6
   unfold congouref09_Valid.j2
   repeat' first
   | (with_reducible exact ih0 _ _ _)
   | (with_reducible exact ih1 _ _ _ _ _)
   | (with_reducible exact ih2 _ _ _ _ _ _ _)
   | (with_reducible exact ih3 _ _ _ _ _ _ _ _)
   | (with_reducible exact LeO.refl _)
   | (with_reducible exact LeO.none _)
   | (with_reducible refine LeO.ite ?_ ?_)
   | (with_reducible refine LeO.bind ?_ (fun _ => ?_))
   | exact ih0 _ _ _
   | exact ih1 _ _ _ _ _
   | exact ih2 _ _ _ _ _ _ _
   | exact ih3 _ _ _ _ _ _ _ _
   | exact LeO.none _
   | refine LeO.ite ?_ ?_
   | refine LeO.bind ?_ (fun _ => ?_)
  ·intro y0 y1 y2 y3 y4 y5 y6 y7
   unfold congouref09_Valid.l1
   repeat' first
   | (with_reducible exact ih0 _ _ _)
   | (with_reducible exact ih1 _ _ _ _ _)
   | (with_reducible exact ih2 _ _ _ _ _ _ _)
   | (with_reducible exact ih3 _ _ _ _ _ _ _ _)
   | (with_reducible exact LeO.refl _)
   | (with_reducible exact LeO.none _)
   | (with_reducible refine LeO.ite ?_ ?_)
   | (with_reducible refine LeO.bind ?_ (fun _ => ?_))
   | exact ih0 _ _ _
   | exact ih1 _ _ _ _ _
   | exact ih2 _ _ _ _ _ _ _
   | exact ih3 _ _ _ _ _ _ _ _
   | exact LeO.none _
   | refine LeO.ite ?_ ?_
   | refine LeO.bind ?_ (fun _ => ?_)
theorem congouref09_Valid.mono : ∀ a0 a1 k, LeO (congouref09_Valid.f k a0 a1) (congouref09_Valid.f (k + 1) a0 a1) := by
 intro a0 a1 k
 obtain ⟨ih0, ih1, ih2, ih3⟩ := congouref09_Valid.mono_l k
 unfold congouref09_Valid.f
 repeat' first
   | (with_reducible exact ih0 _ _ _)
   | (with_reducible exact ih1 _ _ _ _ _)
   | (with_reducible exact ih2 _ _ _ _ _ _ _)
   | (with_reducible exact ih3 _ _ _ _ _ _ _ _)
   | (with_reducible exact LeO.refl _)
   | (with_reducible exact LeO.none _)
   | (with_reducible refine LeO.ite ?_ ?_)
   | (with_reducible refine LeO.bind ?_ (fun _ => ?_))
   | exact ih0 _ _ _
   | exact ih1 _ _ _ _ _
   | exact ih2 _ _ _ _ _ _ _
   | exact ih3 _ _ _ _ _ _ _ _
   | exact LeO.none _
   | refine LeO.ite ?_ ?_
   | refine LeO.bind ?_ (fun _ => ?_)
set_option maxHeartbeats 8000000 in
set_option maxRecDepth 100000 in
theorem congouref09_Valid.calls (k : Nat) (a0_0 : Int) (A0_1 : Option Addr) (c0_1 : Nat) (l0_1 : List (List Int)) (r : Bool) (w : World) (hr0_1 : Kd.C (Kd.slice 3 (Kd.int .i64)) w A0_1 l0_1.length l0_1) (hc0_1 : l0_1.length ≤ c0_1) (h : congouref09_Valid.f k a0_0 l0_1 = some r) :
  Calls Try.prog 8 #[.agg #[.int .i64 a0_0, .slice A0_1 l0_1.length c0_1]] w fun e w' => e = .returned (.bool r) ∧ Below w.heap.size w w' := by
 have hu31 := Try.underlying31
 have HR0_1 := Aside0.mk hr0_1
 have HC0_1 := Aside0.mk hc0_1
 clear hr0_1 hc0_1
 have HB := ak (Below.refl w.heap.size w)
 have H : (if a0_0 < 2 then (congouref09_Valid.j0 k true a0_0 l0_1) else (if a0_0 > 4 then (congouref09_Valid.j0 k true a0_0 l0_1) else (if (l0_1.length : Int) < 1 then (congouref09_Valid.j0 k true a0_0 l0_1) else (congouref09_Valid.j0 k (decide ((l0_1.length : Int) > 16)) a0_0 l0_1)))) = some r := h
 clear h
 have HC2 := Aside0.mk H
 clear H
 go_enter Try.func8, Try.ntmps8
 go_upto_region 1 with (first | ((with_reducible refine gate_dst (N := 1) rfl ?_); (try (refine gate_guard (by rfl) ?_; dsimp only)); refine bE 1 #[.int .i64 a0_0, .slice A0_1 l0_1.length c0_1] 31 ?_; intro gb153 hg w3 hbox hb; have BK153 := ak (hbox); have GW153 := kG w hg; have GE153 := kG w hg; replace HB := kH _ hb; clear hb hbox hg))
 (try simp only [Act.put, List.setIfInBounds_toArray, List.set_cons_zero, List.set_cons_succ])
 go_cut [26] (fun v26 wc => ∃ (kq : Nat) (x26_1 : Bool), v26 = .bool x26_1 ∧ Aside0 (congouref09_Valid.j0 kq x26_1 a0_0 l0_1 = some r) ∧ Aside0 (kq ≤ k) ∧ Aside0 (wc.heap[gb153]? = some (.cells #[.int .i64 a0_0, (.slice A0_1 l0_1.length c0_1)] 31 (0, 0))) ∧ Aside0 (Below w.heap.size w wc))
 case first =>
  have H := HC2.out
  clear HC2
  by_cases c4 : a0_0 < 2
  ·rw [if_pos c4] at H
   have c4b0 : decide (a0_0 < 2) = true := decide_eq_true c4
   clear c4
   (first | rw [c4b0] | (simp only [i64_w, i32_w]; rw [c4b0]) | skip)
   have H' := Aside0.mk H
   clear H
   have hcz5_0 : w3.cell? ⟨gb153, 0, none⟩ = some (.int .i64 a0_0) := bc BK153 0
   have hcz5_1 : w3.cell? ⟨gb153, 1, none⟩ = some (.slice A0_1 l0_1.length c0_1) := bc BK153 1
   have hfz5_0 := fz BK153 0
   have hfz5_1 := fz BK153 1
   go_wp2
   go_meet
   case rel => exact ⟨_, (true), (by first | rfl | (simp; done) | (simp [*]; done)), H', ⟨by first | omega | exact Nat.le_refl _⟩, ⟨bkC BK153⟩, ⟨hbC _⟩⟩
  rw [if_neg c4] at H
  have c4b0 : decide (a0_0 < 2) = false := decide_eq_false c4
  clear c4
  (first | rw [c4b0] | (simp only [i64_w, i32_w]; rw [c4b0]) | skip)
  by_cases c6 : a0_0 > 4
  ·rw [if_pos c6] at H
   have c6b0 : decide (4 < a0_0) = true := decide_eq_true c6
   clear c6
   have H' := Aside0.mk H
   clear H
   have hcz7_0 : w3.cell? ⟨gb153, 0, none⟩ = some (.int .i64 a0_0) := bc BK153 0
   have hcz7_1 : w3.cell? ⟨gb153, 1, none⟩ = some (.slice A0_1 l0_1.length c0_1) := bc BK153 1
   have hfz7_0 := fz BK153 0
   have hfz7_1 := fz BK153 1
   go_wp2
   go_meet
   case rel => exact ⟨_, (true), (by first | rfl | (simp; done) | (simp [*]; done)), H', ⟨by first | omega | exact Nat.le_refl _⟩, ⟨bkC BK153⟩, ⟨hbC _⟩⟩
  rw [if_neg c6] at H
  have c6b0 : decide (4 < a0_0) = false := decide_eq_false c6
  clear c6
  by_cases c8 : (l0_1.length : Int) < 1
  ·rw [if_pos c8] at H
   have c8b0 : decide ((l0_1.length : Int) < 1) = true := decide_eq_true c8
   have c8b1 : decide (l0_1.length < 1) = true := decide_eq_true (by omega)
   clear c8
   have H' := Aside0.mk H
   clear H
   have hcz9_0 : w3.cell? ⟨gb153, 0, none⟩ = some (.int .i64 a0_0) := bc BK153 0
   have hcz9_1 : w3.cell? ⟨gb153, 1, none⟩ = some (.slice A0_1 l0_1.length c0_1) := bc BK153 1
   have hfz9_0 := fz BK153 0
   have hfz9_1 := fz BK153 1
   go_wp2
   go_meet
   case rel => exact ⟨_, (true), (by first | rfl | (simp; done) | (simp [*]; done)), H', ⟨by first | omega | exact Nat.le_refl _⟩, ⟨bkC BK153⟩, ⟨hbC _⟩⟩
  rw [if_neg c8] at H
  have c8b0 : decide ((l0_1.length : Int) < 1) = false := decide_eq_false c8
  have c8b1 : decide (l0_1.length < 1) = false := decide_eq_false (by omega)
  clear c8
  have H' := Aside0.mk H
  clear H
  have hcz10_0 : w3.cell? ⟨gb153, 0, none⟩ = some (.int .i64 a0_0) := bc BK153 0
  have hcz10_1 : w3.cell? ⟨gb153, 1, none⟩ = some (.slice A0_1 l0_1.length c0_1) := bc BK153 1
  have hfz10_0 := fz BK153 0
  have hfz10_1 := fz BK153 1
  go_wp2
  go_meet
  case rel => exact ⟨_, (decide ((l0_1.length : Int) > 16)), (by first | rfl | (simp; done) | (simp [*]; done)), H', ⟨by first | omega | exact Nat.le_refl _⟩, ⟨bkC BK153⟩, ⟨hbC _⟩⟩
 case rest =>
  clear HC2
  try clear p2
  try clear c4
  try clear c4b0
  try clear c6
  try clear c6b0
  try clear c8
  try clear c8b0
  try clear c8b1
  try clear hcz10_0
  try clear hcz10_1
  try clear hcz5_0
  try clear hcz5_1
  try clear hcz7_0
  try clear hcz7_1
  try clear hcz9_0
  try clear hcz9_1
  try clear hfz10_0
  try clear hfz10_1
  try clear hfz5_0
  try clear hfz5_1
  try clear hfz7_0
  try clear hfz7_1
  try clear hfz9_0
  try clear hfz9_1
  obtain ⟨kq, x26_1, rfl, HA, HJ1, BK153, HB⟩ := hcut
  cases kq with
  | zero => exact absurd HA.out (by simp [congouref09_Valid.j0])
  | succ kj1 =>
   have H := HA.out
   clear HA
   simp only [congouref09_Valid.j0] at H
   by_cases c11 : x26_1 = true
   ·subst c11
    have H1 : (some false) = some r := by rw [if_pos rfl] at H; exact H
    clear H
    have H := H1
    clear H1
    obtain rfl := Option.some.inj H
    go_wp2
    go_ret
    exact ⟨by first | rfl | (simp [errW_none, errW_some] <;> rfl) | (simp [*, errW_none, errW_some] <;> rfl), hbC _⟩
   replace c11 := Bool.eq_false_iff.mpr c11
   subst c11
   have H1 : (congouref09_Valid.l0 kj1 l0_1 (l0_1.length : Int) 0 a0_0 l0_1) = some r := by rw [if_neg (show ¬ (false = true) by decide)] at H; exact H
   clear H
   have H := H1
   clear H1
   have H' := Aside0.mk H
   clear H
   have hcz12_0 : wc.cell? ⟨gb153, 0, none⟩ = some (.int .i64 a0_0) := bc BK153 0
   have hcz12_1 : wc.cell? ⟨gb153, 1, none⟩ = some (.slice A0_1 l0_1.length c0_1) := bc BK153 1
   have hfz12_0 := fz BK153 0
   have hfz12_1 := fz BK153 1
   go_wp2
   go_loopg [30] kj1 (fun kq v30 w' => ∃ (x30_2 : Int), v30 = .int .i64 x30_2 ∧ Aside0 (congouref09_Valid.l0 kq l0_1 (l0_1.length : Int) x30_2 a0_0 l0_1 = some r) ∧ Aside0 (kq ≤ kj1) ∧ Aside0 (w'.heap[gb153]? = some (.cells #[.int .i64 a0_0, (.slice A0_1 l0_1.length c0_1)] 31 (0, 0))) ∧ Aside0 (Below w.heap.size w w'))
   case atStart => exact ⟨(0), (by first | rfl | (simp; done) | (simp [*]; done)), H', ⟨Nat.le_refl _⟩, ⟨bkC BK153⟩, ⟨hbC _⟩⟩
   case round =>
    clear H'
    try clear c1
    try clear p2
    try clear c4
    try clear c4b0
    try clear c6
    try clear c6b0
    try clear c8
    try clear c8b0
    try clear c8b1
    try clear c11
    try clear hcz10_0
    try clear hcz10_1
    try clear hcz12_0
    try clear hcz12_1
    try clear hcz5_0
    try clear hcz5_1
    try clear hcz7_0
    try clear hcz7_1
    try clear hcz9_0
    try clear hcz9_1
    try clear hfz10_0
    try clear hfz10_1
    try clear hfz12_0
    try clear hfz12_1
    try clear hfz5_0
    try clear hfz5_1
    try clear hfz7_0
    try clear hfz7_1
    try clear hfz9_0
    try clear hfz9_1
    try clear p2
    obtain ⟨x30_2, rfl, HA, HK2, BK153, HB⟩ := hrel
    cases gk with
    | zero => exact absurd HA.out (by simp [congouref09_Valid.l0])
    | succ k2 =>
     have H := HA.out
     clear HA
     simp only [congouref09_Valid.l0] at H
     by_cases c13 : x30_2 < (l0_1.length : Int)
     rotate_left
     ·rw [if_neg c13] at H
      have c13b0 : decide (x30_2 < (l0_1.length : Int)) = false := decide_eq_false c13
      clear c13
      obtain rfl := Option.some.inj H
      go_wp2
      go_ret
      exact ⟨by first | rfl | (simp [errW_none, errW_some] <;> rfl) | (simp [*, errW_none, errW_some] <;> rfl), hbC _⟩
     rw [if_pos c13] at H
     have c13b0 : decide (x30_2 < (l0_1.length : Int)) = true := decide_eq_true c13
     clear c13
     by_cases c14 : 0 ≤ x30_2
     rotate_left
     ·rw [if_neg c14] at H
      exact absurd H (by simp)
     rw [if_pos c14] at H
     have c14b0 : decide (0 ≤ x30_2) = true := decide_eq_true c14
     clear c14
     by_cases c15 : x30_2 < (l0_1.length : Int)
     rotate_left
     ·rw [if_neg c15] at H
      exact absurd H (by simp)
     rw [if_pos c15] at H
     have c15b0 : decide (x30_2 < (l0_1.length : Int)) = true := decide_eq_true c15
     clear c15
     have HC16 := Aside0.mk H
     clear H
     have p154 : 0 ≤ (x30_2 : Int) := dA
     have q154 : x30_2 < (l0_1.length : Int) := dA
     obtain ⟨ad154, A154_0, c154_0, e154, hx154_0, hl154_0, hi154_0⟩ := at_L1 HR0_1.out x30_2 p154 q154
     cases e154
     try replace hx154_0 := (HB.out.cell (World.block_lt_of_cell? w _ hx154_0)).trans hx154_0
     have HR154_0 := Aside0.mk hi154_0
     have HC154_0 := Aside0.mk hl154_0
     clear hi154_0 hl154_0
     replace p154 := eq_true p154
     replace q154 := eq_true q154
     go_upto_region 6 with (fail)
     go_cut [51] (fun v51 wc => ∃ (kq : Nat) (x51_15 : Bool), v51 = .bool x51_15 ∧ Aside0 (congouref09_Valid.j2 kq (rd_L1 l0_1 x30_2) l0_1 (l0_1.length : Int) x30_2 x51_15 a0_0 l0_1 = some r) ∧ Aside0 (kq ≤ k2) ∧ Aside0 (wc.heap[gb153]? = some (.cells #[.int .i64 a0_0, (.slice (some ad154) l0_1.length c0_1)] 31 (0, 0))) ∧ Aside0 (Below w.heap.size w wc))
     case first =>
      have H := HC16.out
      clear HC16
      by_cases c17 : 0 < (l0_1.length : Int)
      rotate_left
      ·rw [if_neg c17] at H
       exact absurd H (by simp)
      rw [if_pos c17] at H
      have c17b0 : decide (0 < (l0_1.length : Int)) = true := decide_eq_true c17
      have c17b1 : decide (0 < l0_1.length) = true := decide_eq_true (by omega)
      clear c17
      (first | rw [c17b0] | (simp only [i64_w, i32_w]; rw [c17b0]) | skip)
      by_cases c18 : ((rd_L1 l0_1 x30_2).length : Int) = ((rd_L1 l0_1 0).length : Int)
      rotate_left
      ·rw [if_neg c18] at H
       have c18b0 : (((rd_L1 l0_1 x30_2).length : Int) == ((rd_L1 l0_1 0).length : Int)) = false := beq_eq_false_iff_ne.mpr c18
       have c18b1 : (((rd_L1 l0_1 x30_2).length : Int) != ((rd_L1 l0_1 0).length : Int)) = true := bne_iff_ne.mpr c18
       have c18b2 : ((rd_L1 l0_1 x30_2).length == (rd_L1 l0_1 0).length) = false := by first | simpa using c18 | (simp at c18 ⊢; omega)
       have H' := Aside0.mk H
       clear H
       have hcz22_0 : wr.cell? ⟨gb153, 0, none⟩ = some (.int .i64 a0_0) := bc BK153 0
       have hcz22_1 : wr.cell? ⟨gb153, 1, none⟩ = some (.slice (some ad154) l0_1.length c0_1) := bc BK153 1
       have hfz22_0 := fz BK153 0
       have hfz22_1 := fz BK153 1
       have p155 : 0 ≤ (0 : Int) := (by omega)
       have q155 : 0 < (l0_1.length : Int) := dA
       obtain ⟨ad155, A155_0, c155_0, e155, hx155_0, hl155_0, hi155_0⟩ := at_L1 HR0_1.out 0 p155 q155
       obtain rfl : ad154 = ad155 := (by injection e155)
       have qi155 : (0 < l0_1.length) = True := eq_true (by omega)
       (try rw [show ((0 : Int)).toNat = 0 from rfl] at hx155_0)
       (try rw [Addr.add_zero'] at hx155_0)
       try replace hx155_0 := (HB.out.cell (World.block_lt_of_cell? w _ hx155_0)).trans hx155_0
       have HR155_0 := Aside0.mk hi155_0
       have HC155_0 := Aside0.mk hl155_0
       clear hi155_0 hl155_0
       replace p155 := eq_true p155
       replace q155 := eq_true q155
       go_wp2
       go_meet
       case rel => exact ⟨_, (true), (by first | rfl | (simp; done) | (simp [*]; done)), H', ⟨by have := HJ1.out; have := HK2.out; first | omega | exact Nat.le_refl _⟩, ⟨bkC BK153⟩, ⟨hbC _⟩⟩
      rw [if_pos c18] at H
      have c18b0 : (((rd_L1 l0_1 x30_2).length : Int) == ((rd_L1 l0_1 0).length : Int)) = true := beq_iff_eq.mpr c18
      have c18b1 : (((rd_L1 l0_1 x30_2).length : Int) != ((rd_L1 l0_1 0).length : Int)) = false := bne_eq_false_iff_eq.mpr c18
      have c18b2 : ((rd_L1 l0_1 x30_2).length == (rd_L1 l0_1 0).length) = true := by first | simpa using c18 | (simp at c18 ⊢; omega)
      clear c18
      by_cases c19 : ((rd_L1 l0_1 x30_2).length : Int) < 1
      ·rw [if_pos c19] at H
       have c19b0 : decide (((rd_L1 l0_1 x30_2).length : Int) < 1) = true := decide_eq_true c19
       have c19b1 : decide ((rd_L1 l0_1 x30_2).length < 1) = true := decide_eq_true (by omega)
       clear c19
       have H' := Aside0.mk H
       clear H
       have hcz20_0 : wr.cell? ⟨gb153, 0, none⟩ = some (.int .i64 a0_0) := bc BK153 0
       have hcz20_1 : wr.cell? ⟨gb153, 1, none⟩ = some (.slice (some ad154) l0_1.length c0_1) := bc BK153 1
       have hfz20_0 := fz BK153 0
       have hfz20_1 := fz BK153 1
       have p155 : 0 ≤ (0 : Int) := (by omega)
       have q155 : 0 < (l0_1.length : Int) := dA
       obtain ⟨ad155, A155_0, c155_0, e155, hx155_0, hl155_0, hi155_0⟩ := at_L1 HR0_1.out 0 p155 q155
       obtain rfl : ad154 = ad155 := (by injection e155)
       have qi155 : (0 < l0_1.length) = True := eq_true (by omega)
       (try rw [show ((0 : Int)).toNat = 0 from rfl] at hx155_0)
       (try rw [Addr.add_zero'] at hx155_0)
       try replace hx155_0 := (HB.out.cell (World.block_lt_of_cell? w _ hx155_0)).trans hx155_0
       have HR155_0 := Aside0.mk hi155_0
       have HC155_0 := Aside0.mk hl155_0
       clear hi155_0 hl155_0
       replace p155 := eq_true p155
       replace q155 := eq_true q155
       go_wp2
       go_meet
       case rel => exact ⟨_, (true), (by first | rfl | (simp; done) | (simp [*]; done)), H', ⟨by have := HJ1.out; have := HK2.out; first | omega | exact Nat.le_refl _⟩, ⟨bkC BK153⟩, ⟨hbC _⟩⟩
      rw [if_neg c19] at H
      have c19b0 : decide (((rd_L1 l0_1 x30_2).length : Int) < 1) = false := decide_eq_false c19
      have c19b1 : decide ((rd_L1 l0_1 x30_2).length < 1) = false := decide_eq_false (by omega)
      clear c19
      have H' := Aside0.mk H
      clear H
      have hcz21_0 : wr.cell? ⟨gb153, 0, none⟩ = some (.int .i64 a0_0) := bc BK153 0
      have hcz21_1 : wr.cell? ⟨gb153, 1, none⟩ = some (.slice (some ad154) l0_1.length c0_1) := bc BK153 1
      have hfz21_0 := fz BK153 0
      have hfz21_1 := fz BK153 1
      have p155 : 0 ≤ (0 : Int) := (by omega)
      have q155 : 0 < (l0_1.length : Int) := dA
      obtain ⟨ad155, A155_0, c155_0, e155, hx155_0, hl155_0, hi155_0⟩ := at_L1 HR0_1.out 0 p155 q155
      obtain rfl : ad154 = ad155 := (by injection e155)
      have qi155 : (0 < l0_1.length) = True := eq_true (by omega)
      (try rw [show ((0 : Int)).toNat = 0 from rfl] at hx155_0)
      (try rw [Addr.add_zero'] at hx155_0)
      try replace hx155_0 := (HB.out.cell (World.block_lt_of_cell? w _ hx155_0)).trans hx155_0
      have HR155_0 := Aside0.mk hi155_0
      have HC155_0 := Aside0.mk hl155_0
      clear hi155_0 hl155_0
      replace p155 := eq_true p155
      replace q155 := eq_true q155
      go_wp2
      go_meet
      case rel => exact ⟨_, (decide (((rd_L1 l0_1 x30_2).length : Int) > 8)), (by first | rfl | (simp; done) | (simp [*]; done)), H', ⟨by have := HJ1.out; have := HK2.out; first | omega | exact Nat.le_refl _⟩, ⟨bkC BK153⟩, ⟨hbC _⟩⟩
     case rest =>
      clear HC16
      try clear c1
      try clear p1
      try clear q1
      try clear hx1
      try clear qi1
      try clear p2
      try clear c4
      try clear c4b0
      try clear c6
      try clear c6b0
      try clear c8
      try clear c8b0
      try clear c8b1
      try clear c11
      try clear c13
      try clear c13b0
      try clear c14
      try clear c14b0
      try clear c15
      try clear c15b0
      try clear p15
      try clear q15
      try clear hx15
      try clear qi15
      try clear c17
      try clear c17b0
      try clear c17b1
      try clear c18
      try clear c18b0
      try clear c18b1
      try clear c18b2
      try clear c19
      try clear c19b0
      try clear c19b1
      try clear hcz10_0
      try clear hcz10_1
      try clear hcz12_0
      try clear hcz12_1
      try clear hcz20_0
      try clear hcz20_1
      try clear hcz21_0
      try clear hcz21_1
      try clear hcz22_0
      try clear hcz22_1
      try clear hcz5_0
      try clear hcz5_1
      try clear hcz7_0
      try clear hcz7_1
      try clear hcz9_0
      try clear hcz9_1
      try clear hfz10_0
      try clear hfz10_1
      try clear hfz12_0
      try clear hfz12_1
      try clear hfz20_0
      try clear hfz20_1
      try clear hfz21_0
      try clear hfz21_1
      try clear hfz22_0
      try clear hfz22_1
      try clear hfz5_0
      try clear hfz5_1
      try clear hfz7_0
      try clear hfz7_1
      try clear hfz9_0
      try clear hfz9_1
      try clear hx154_0
      try clear hx155_0
      try clear p154
      try clear p155
      try clear p2
      try clear q154
      try clear q155
      obtain ⟨kq, x51_15, rfl, HA, HJ15, BK153, HB⟩ := hcut
      cases kq with
      | zero => exact absurd HA.out (by simp [congouref09_Valid.j2])
      | succ kj15 =>
       have H := HA.out
       clear HA
       simp only [congouref09_Valid.j2] at H
       by_cases c23 : x51_15 = true
       ·subst c23
        have H1 : (some false) = some r := by rw [if_pos rfl] at H; exact H
        clear H
        have H := H1
        clear H1
        obtain rfl := Option.some.inj H
        go_wp2
        go_ret
        exact ⟨by first | rfl | (simp [errW_none, errW_some] <;> rfl) | (simp [*, errW_none, errW_some] <;> rfl), hbC _⟩
       replace c23 := Bool.eq_false_iff.mpr c23
       subst c23
       have H1 : (congouref09_Valid.l1 kj15 l0_1 (l0_1.length : Int) x30_2 (rd_L1 l0_1 x30_2) ((rd_L1 l0_1 x30_2).length : Int) 0 a0_0 l0_1) = some r := by rw [if_neg (show ¬ (false = true) by decide)] at H; exact H
       clear H
       have H := H1
       clear H1
       have H' := Aside0.mk H
       clear H
       go_wp2
       go_loopg [54] kj15 (fun kq v54 w' => ∃ (x54_4 : Int), v54 = .int .i64 x54_4 ∧ Aside0 (congouref09_Valid.l1 kq l0_1 (l0_1.length : Int) x30_2 (rd_L1 l0_1 x30_2) ((rd_L1 l0_1 x30_2).length : Int) x54_4 a0_0 l0_1 = some r) ∧ Aside0 (kq ≤ kj15) ∧ Aside0 (w'.heap[gb153]? = some (.cells #[.int .i64 a0_0, (.slice (some ad154) l0_1.length c0_1)] 31 (0, 0))) ∧ Aside0 (Below w.heap.size w w'))
       case atStart => exact ⟨(0), (by first | rfl | (simp; done) | (simp [*]; done)), H', ⟨Nat.le_refl _⟩, ⟨bkC BK153⟩, ⟨hbC _⟩⟩
       case round =>
        clear H'
        try clear c1
        try clear p1
        try clear q1
        try clear hx1
        try clear qi1
        try clear c2
        try clear p2
        try clear c4
        try clear c4b0
        try clear c6
        try clear c6b0
        try clear c8
        try clear c8b0
        try clear c8b1
        try clear c11
        try clear c13
        try clear c13b0
        try clear c14
        try clear c14b0
        try clear c15
        try clear c15b0
        try clear p15
        try clear q15
        try clear hx15
        try clear qi15
        try clear c17
        try clear c17b0
        try clear c17b1
        try clear c18
        try clear c18b0
        try clear c18b1
        try clear c18b2
        try clear c19
        try clear c19b0
        try clear c19b1
        try clear c23
        try clear hcz10_0
        try clear hcz10_1
        try clear hcz12_0
        try clear hcz12_1
        try clear hcz20_0
        try clear hcz20_1
        try clear hcz21_0
        try clear hcz21_1
        try clear hcz22_0
        try clear hcz22_1
        try clear hcz5_0
        try clear hcz5_1
        try clear hcz7_0
        try clear hcz7_1
        try clear hcz9_0
        try clear hcz9_1
        try clear hfz10_0
        try clear hfz10_1
        try clear hfz12_0
        try clear hfz12_1
        try clear hfz20_0
        try clear hfz20_1
        try clear hfz21_0
        try clear hfz21_1
        try clear hfz22_0
        try clear hfz22_1
        try clear hfz5_0
        try clear hfz5_1
        try clear hfz7_0
        try clear hfz7_1
        try clear hfz9_0
        try clear hfz9_1
        try clear hx154_0
        try clear hx155_0
        try clear p1
        try clear p15
        try clear p154
        try clear p155
        try clear p2
        try clear q1
        try clear q15
        try clear q154
        try clear q155
        obtain ⟨x54_4, rfl, HA, HK4, BK153, HB⟩ := hrel
        cases gk with
        | zero => exact absurd HA.out (by simp [congouref09_Valid.l1])
        | succ k4 =>
         have H := HA.out
         clear HA
         simp only [congouref09_Valid.l1] at H
         by_cases c24 : x54_4 < ((rd_L1 l0_1 x30_2).length : Int)
         rotate_left
         ·rw [if_neg c24] at H
          have c24b0 : decide (x54_4 < ((rd_L1 l0_1 x30_2).length : Int)) = false := decide_eq_false c24
          clear c24
          have H' := Aside0.mk H
          clear H
          go_wp2
          go_roundg k4
          case measure => have := HJ1.out; have := HK2.out; have := HJ15.out; have := HK4.out; omega
          case rel => exact ⟨(wrap64 (x30_2 + 1)), (by first | rfl | (simp; done) | (simp [*]; done)), H', ⟨by have := HJ1.out; have := HK2.out; have := HJ15.out; have := HK4.out; omega⟩, ⟨bkC BK153⟩, ⟨hbC _⟩⟩
         rw [if_pos c24] at H
         have c24b0 : decide (x54_4 < ((rd_L1 l0_1 x30_2).length : Int)) = true := decide_eq_true c24
         clear c24
         by_cases c25 : 0 ≤ x54_4
         rotate_left
         ·rw [if_neg c25] at H
          exact absurd H (by simp)
         rw [if_pos c25] at H
         have c25b0 : decide (0 ≤ x54_4) = true := decide_eq_true c25
         clear c25
         by_cases c26 : x54_4 < ((rd_L1 l0_1 x30_2).length : Int)
         rotate_left
         ·rw [if_neg c26] at H
          exact absurd H (by simp)
         rw [if_pos c26] at H
         have c26b0 : decide (x54_4 < ((rd_L1 l0_1 x30_2).length : Int)) = true := decide_eq_true c26
         clear c26
         by_cases c27 : (rd (rd_L1 l0_1 x30_2) x54_4) < 0
         ·rw [if_pos c27] at H
          have c27b0 : decide ((rd (rd_L1 l0_1 x30_2) x54_4) < 0) = true := decide_eq_true c27
          clear c27
          obtain rfl := Option.some.inj H
          have p156 : 0 ≤ (x54_4 : Int) := dA
          have q156 : x54_4 < ((rd_L1 l0_1 x30_2).length : Int) := dA
          obtain ⟨ad156, e156, hx156_0⟩ := Kd.at_int HR154_0.out x54_4 p156 q156
          cases e156
          try replace hx156_0 := (HB.out.cell (World.block_lt_of_cell? w _ hx156_0)).trans hx156_0
          replace p156 := eq_true p156
          replace q156 := eq_true q156
          go_wp2
          go_ret
          exact ⟨by first | rfl | (simp [errW_none, errW_some] <;> rfl) | (simp [*, errW_none, errW_some] <;> rfl), hbC _⟩
         rw [if_neg c27] at H
         have c27b0 : decide ((rd (rd_L1 l0_1 x30_2) x54_4) < 0) = false := decide_eq_false c27
         clear c27
         by_cases c28 : (rd (rd_L1 l0_1 x30_2) x54_4) ≥ a0_0
         ·rw [if_pos c28] at H
          have c28b0 : decide (a0_0 ≤ (rd (rd_L1 l0_1 x30_2) x54_4)) = true := decide_eq_true c28
          clear c28
          obtain rfl := Option.some.inj H
          have p156 : 0 ≤ (x54_4 : Int) := dA
          have q156 : x54_4 < ((rd_L1 l0_1 x30_2).length : Int) := dA
          obtain ⟨ad156, e156, hx156_0⟩ := Kd.at_int HR154_0.out x54_4 p156 q156
          cases e156
          try replace hx156_0 := (HB.out.cell (World.block_lt_of_cell? w _ hx156_0)).trans hx156_0
          replace p156 := eq_true p156
          replace q156 := eq_true q156
          have hcz29_0 : wr.cell? ⟨gb153, 0, none⟩ = some (.int .i64 a0_0) := bc BK153 0
          have hcz29_1 : wr.cell? ⟨gb153, 1, none⟩ = some (.slice (some ad154) l0_1.length c0_1) := bc BK153 1
          have hfz29_0 := fz BK153 0
          have hfz29_1 := fz BK153 1
          go_wp2
          go_ret
          exact ⟨by first | rfl | (simp [errW_none, errW_some] <;> rfl) | (simp [*, errW_none, errW_some] <;> rfl), hbC _⟩
         rw [if_neg c28] at H
         have c28b0 : decide (a0_0 ≤ (rd (rd_L1 l0_1 x30_2) x54_4)) = false := decide_eq_false c28
         clear c28
         have H' := Aside0.mk H
         clear H
         have p156 : 0 ≤ (x54_4 : Int) := dA
         have q156 : x54_4 < ((rd_L1 l0_1 x30_2).length : Int) := dA
         obtain ⟨ad156, e156, hx156_0⟩ := Kd.at_int HR154_0.out x54_4 p156 q156
         cases e156
         try replace hx156_0 := (HB.out.cell (World.block_lt_of_cell? w _ hx156_0)).trans hx156_0
         replace p156 := eq_true p156
         replace q156 := eq_true q156
         have hcz30_0 : wr.cell? ⟨gb153, 0, none⟩ = some (.int .i64 a0_0) := bc BK153 0
         have hcz30_1 : wr.cell? ⟨gb153, 1, none⟩ = some (.slice (some ad154) l0_1.length c0_1) := bc BK153 1
         have hfz30_0 := fz BK153 0
         have hfz30_1 := fz BK153 1
         go_wp2
         go_roundg k4
         case measure => have := HJ1.out; have := HK2.out; have := HJ15.out; have := HK4.out; omega
         case rel => exact ⟨(wrap64 (x54_4 + 1)), (by first | rfl | (simp; done) | (simp [*]; done)), H', ⟨by have := HJ1.out; have := HK2.out; have := HJ15.out; have := HK4.out; omega⟩, ⟨bkC BK153⟩, ⟨hbC _⟩⟩

end Go.Proofs.Ytkieehjpnjplmaa.X
