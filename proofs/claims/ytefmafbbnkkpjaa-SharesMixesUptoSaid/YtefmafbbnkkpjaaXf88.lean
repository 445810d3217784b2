-- Written by a program of this work (wip/xprint.py, over the kit's printer) out of the translation.
import Derived.Test.YtefmafbbnkkpjaaX0
import Derived.Test.YtefmafbbnkkpjaaXG1a
namespace Go.Proofs.Ytefmafbbnkkpjaa.X
open Go.RowKit Go.Proofs.YtefmafbbnkkpjaaW.PrintWords Go.Proofs.YtefmafbbnkkpjaaW.PrintLast Go.Proofs.YtefmafbbnkkpjaaW.PrintMore
attribute [local go_sem] max2_int min2_int max_two min_two max_three min_three max_four min_four   -- for this text's walks alone
set_option linter.unusedVariables false
set_option linter.unusedSimpArgs false

/-! ### congouref01_Multiple: function 88 -/
mutual
def congouref01_Multiple.l0 : Nat → Int → Int → List (S62) → Int → Int → Option (Int)
 | 0, _, _, _, _, _ => none
 | k + 1, x1, x5, x8, x9, x10 => if x10 < x9 then (if 0 ≤ x10 then (if x10 < (x8.length : Int) then (if ((rd_T62 x8 x10).f1) < 1 then (congouref01_Multiple.j1 k x1 x5 x8 x9 x10 true ((rd_T62 x8 x10).f0) ((rd_T62 x8 x10).f1)) else (if ((rd_T62 x8 x10).f1) > x1 then (congouref01_Multiple.j1 k x1 x5 x8 x9 x10 true ((rd_T62 x8 x10).f0) ((rd_T62 x8 x10).f1)) else (if ((rd_T62 x8 x10).f0) < 0 then (congouref01_Multiple.j1 k x1 x5 x8 x9 x10 true ((rd_T62 x8 x10).f0) ((rd_T62 x8 x10).f1)) else ((congouref01_gcd.f k ((rd_T62 x8 x10).f0) ((rd_T62 x8 x10).f1)).bind fun t760 => (congouref01_Multiple.j1 k x1 x5 x8 x9 x10 (t760 != 1) ((rd_T62 x8 x10).f0) ((rd_T62 x8 x10).f1)))))) else (none)) else (none)) else (some x5)
def congouref01_Multiple.j1 : Nat → Int → Int → List (S62) → Int → Int → Bool → Int → Int → Option (Int)
 | 0, _, _, _, _, _, _, _, _ => none
 | k + 1, x1, x5, x8, x9, x10, x35, x760000, x760001 => if x35 = true then (some 0) else ((congouref01_gcd.f k x5 x760001).bind fun t761 => (if t761 = 0 then (none) else (if (wrap64 ((wrap64 (Int.tdiv x5 t761)) * x760001)) > x1 then (some 0) else (congouref01_Multiple.l0 k x1 (wrap64 ((wrap64 (Int.tdiv x5 t761)) * x760001)) x8 x9 (wrap64 (x10 + 1))))))
end
def congouref01_Multiple.f (k : Nat) (l0 : List (S62)) (a1 : Int) : Option (Int) := congouref01_Multiple.l0 k a1 1 l0 (l0.length : Int) 0
theorem congouref01_Multiple.mono_l : ∀ k, (∀ y0 y1 y2 y3 y4, LeO (congouref01_Multiple.l0 k y0 y1 y2 y3 y4) (congouref01_Multiple.l0 (k + 1) y0 y1 y2 y3 y4)) ∧ (∀ y0 y1 y2 y3 y4 y5 y6 y7, LeO (congouref01_Multiple.j1 k y0 y1 y2 y3 y4 y5 y6 y7) (congouref01_Multiple.j1 (k + 1) y0 y1 y2 y3 y4 y5 y6 y7))
 | 0 => ⟨fun _ _ _ _ _ r h => by simp [congouref01_Multiple.l0] at h, fun _ _ _ _ _ _ _ _ r h => by simp [congouref01_Multiple.j1] at h⟩
 | k + 1 => by
  obtain ⟨ih0, ih1⟩ := congouref01_Multiple.mono_l k
  refine ⟨?_, ?_⟩
  ·intro y0 y1 y2 y3 y4
   unfold congouref01_Multiple.l0
   repeat' first
   | (with_reducible exact ih0 _ _ _ _ _)
   | (with_reducible exact ih1 _ _ _ _ _ _ _ _)
   | (with_reducible exact congouref01_gcd.mono _ _ _)
   | (with_reducible exact LeO.refl _)
   | (with_reducible exact LeO.none _)
   | (with_reducible refine LeO.ite ?_ ?_)
   | (with_reducible refine LeO.bind ?_ (fun _ => ?_))
   | exact ih0 _ _ _ _ _
   | exact ih1 _ _ _ _ _ _ _ _
   | exact congouref01_gcd.mono _ _ _
   | exact LeO.none _
   | refine LeO.ite ?_ ?_
   | refine LeO.bind ?_ (fun _ => ?_)
  ·intro y0 y1 y2 y3 y4 y5 y6 y7
   unfold congouref01_Multiple.j1
   repeat' first
   | (with_reducible exact ih0 _ _ _ _ _)
   | (with_reducible exact ih1 _ _ _ _ _ _ _ _)
   | (with_reducible exact congouref01_gcd.mono _ _ _)
   | (with_reducible exact LeO.refl _)
   | (with_reducible exact LeO.none _)
   | (with_reducible refine LeO.ite ?_ ?_)
   | (with_reducible refine LeO.bind ?_ (fun _ => ?_))
   | exact ih0 _ _ _ _ _
   | exact ih1 _ _ _ _ _ _ _ _
   | exact congouref01_gcd.mono _ _ _
   | exact LeO.none _
   | refine LeO.ite ?_ ?_
   | refine LeO.bind ?_ (fun _ => ?_)
theorem congouref01_Multiple.mono : ∀ a0 a1 k, LeO (congouref01_Multiple.f k a0 a1) (congouref01_Multiple.f (k + 1) a0 a1) := by
 intro a0 a1 k
 obtain ⟨ih0, ih1⟩ := congouref01_Multiple.mono_l k
 unfold congouref01_Multiple.f
 repeat' first
   | (with_reducible exact ih0 _ _ _ _ _)
   | (with_reducible exact ih1 _ _ _ _ _ _ _ _)
   | (with_reducible exact congouref01_gcd.mono _ _ _)
   | (with_reducible exact LeO.refl _)
   | (with_reducible exact LeO.none _)
   | (with_reducible refine LeO.ite ?_ ?_)
   | (with_reducible refine LeO.bind ?_ (fun _ => ?_))
   | exact ih0 _ _ _ _ _
   | exact ih1 _ _ _ _ _ _ _ _
   | exact congouref01_gcd.mono _ _ _
   | exact LeO.none _
   | refine LeO.ite ?_ ?_
   | refine LeO.bind ?_ (fun _ => ?_)
set_option maxHeartbeats 8000000 in
set_option maxRecDepth 100000 in
theorem congouref01_Multiple.calls (k : Nat) (A0 : Option Addr) (c0 : Nat) (l0 : List (S62)) (a1 : Int) (r : Int) (w : World) (hr0 : Kd.C k62 w A0 l0.length l0) (hc0 : l0.length ≤ c0) (h : congouref01_Multiple.f k l0 a1 = some r) :
  Calls Try.prog 88 #[.slice A0 l0.length c0, .int .i64 a1] w fun e w' => e = .returned (.int .i64 r) ∧ Below w.heap.size w w' := by
 have hu62 := Try.underlying62
 have HR0 := Aside0.mk hr0
 have HC0 := Aside0.mk hc0
 clear hr0 hc0
 have HB := ak (Below.refl w.heap.size w)
 have H : (congouref01_Multiple.l0 k a1 1 l0 (l0.length : Int) 0) = some r := h
 clear h
 have H' := Aside0.mk H
 clear H
 go_enter Try.func88, Try.ntmps88
 go_wp2
 repeat (go_quiet (fail); try go_wp2)
 go_loopg [5, 10] k (fun kq v5 v10 w' => ∃ (x5_1 : Int) (x10_1 : Int), v5 = .int .i64 x5_1 ∧ v10 = .int .i64 x10_1 ∧ Aside0 (congouref01_Multiple.l0 kq a1 x5_1 l0 (l0.length : Int) x10_1 = some r) ∧ Aside0 (kq ≤ k) ∧ Aside0 (Below w.heap.size w w'))
 case atStart => exact ⟨(1), (0), (by first | rfl | (simp; done) | (simp [*]; done)), (by first | rfl | (simp; done) | (simp [*]; done)), H', ⟨Nat.le_refl _⟩, ⟨hbC _⟩⟩
 case round =>
  clear H'
  try clear p2
  obtain ⟨x5_1, x10_1, rfl, rfl, HA, HK1, HB⟩ := hrel
  cases gk with
  | zero => exact absurd HA.out (by simp [congouref01_Multiple.l0])
  | succ k1 =>
   have H := HA.out
   clear HA
   simp only [congouref01_Multiple.l0] at H
   by_cases c3 : x10_1 < (l0.length : Int)
   rotate_left
   ·rw [if_neg c3] at H
    have c3b0 : decide (x10_1 < (l0.length : Int)) = false := decide_eq_false c3
    clear c3
    obtain rfl := Option.some.inj H
    go_wp2
    repeat (go_quiet (fail); try go_wp2)
    go_ret
    exact ⟨by first | rfl | (simp [errW_none, errW_some] <;> rfl) | (simp [*, errW_none, errW_some] <;> rfl), hbC _⟩
   rw [if_pos c3] at H
   have c3b0 : decide (x10_1 < (l0.length : Int)) = true := decide_eq_true c3
   clear c3
   by_cases c4 : 0 ≤ x10_1
   rotate_left
   ·rw [if_neg c4] at H
    exact absurd H (by simp)
   rw [if_pos c4] at H
   have c4b0 : decide (0 ≤ x10_1) = true := decide_eq_true c4
   clear c4
   by_cases c5 : x10_1 < (l0.length : Int)
   rotate_left
   ·rw [if_neg c5] at H
    exact absurd H (by simp)
   rw [if_pos c5] at H
   have c5b0 : decide (x10_1 < (l0.length : Int)) = true := decide_eq_true c5
   clear c5
   have HC6 := Aside0.mk H
   clear H
   have p758 : 0 ≤ (x10_1 : Int) := dA
   have q758 : x10_1 < (l0.length : Int) := dA
   obtain ⟨ad758, e758, hx758_0, hx758_1⟩ := at_T62 HR0.out x10_1 p758 q758
   cases e758
   try replace hx758_0 := (HB.out.cell (World.block_lt_of_cell? w _ hx758_0)).trans hx758_0
   try replace hx758_1 := (HB.out.cell (World.block_lt_of_cell? w _ hx758_1)).trans hx758_1
   replace p758 := eq_true p758
   replace q758 := eq_true q758
   go_upto_region 5 with (first | ((with_reducible refine gate_dst (N := 7) rfl ?_); refine bE 7 #[.int .i64 0, .int .i64 0] 62 ?_; intro gb759 hg w7 hbox hb; have BK759 := ak (hbox); have GW759 := kG w hg; have GE759 := kG w hg; replace HB := kH _ hb; clear hb hbox hg; have hcz8_0 : w7.cell? ⟨gb759, 0, none⟩ = some (.int .i64 0) := bc BK759 0; have hcz8_1 : w7.cell? ⟨gb759, 1, none⟩ = some (.int .i64 0) := bc BK759 1; have hfz8_0 := fz BK759 0; have hfz8_1 := fz BK759 1))
   repeat (go_quiet (first | ((with_reducible refine gate_dst (N := 7) rfl ?_); refine bE 7 #[.int .i64 0, .int .i64 0] 62 ?_; intro gb759 hg w7 hbox hb; have BK759 := ak (hbox); have GW759 := kG w hg; have GE759 := kG w hg; replace HB := kH _ hb; clear hb hbox hg; have hcz8_0 : w7.cell? ⟨gb759, 0, none⟩ = some (.int .i64 0) := bc BK759 0; have hcz8_1 : w7.cell? ⟨gb759, 1, none⟩ = some (.int .i64 0) := bc BK759 1; have hfz8_0 := fz BK759 0; have hfz8_1 := fz BK759 1)); go_upto_region 5 with (first | ((with_reducible refine gate_dst (N := 7) rfl ?_); refine bE 7 #[.int .i64 0, .int .i64 0] 62 ?_; intro gb759 hg w7 hbox hb; have BK759 := ak (hbox); have GW759 := kG w hg; have GE759 := kG w hg; replace HB := kH _ hb; clear hb hbox hg; have hcz8_0 : w7.cell? ⟨gb759, 0, none⟩ = some (.int .i64 0) := bc BK759 0; have hcz8_1 : w7.cell? ⟨gb759, 1, none⟩ = some (.int .i64 0) := bc BK759 1; have hfz8_0 := fz BK759 0; have hfz8_1 := fz BK759 1)))
   (try simp only [Act.put, List.setIfInBounds_toArray, List.set_cons_zero, List.set_cons_succ])
   go_cut [35] (fun v35 wc => ∃ (kq : Nat) (x35_5 : Bool), v35 = .bool x35_5 ∧ Aside0 (congouref01_Multiple.j1 kq a1 x5_1 l0 (l0.length : Int) x10_1 x35_5 ((rd_T62 l0 x10_1).f0) ((rd_T62 l0 x10_1).f1) = some r) ∧ Aside0 (kq ≤ k1) ∧ Aside0 (wc.heap[gb759]? = some (.cells #[.int .i64 ((rd_T62 l0 x10_1).f0), .int .i64 ((rd_T62 l0 x10_1).f1)] 62 (0, 0))) ∧ Aside0 (Below w.heap.size w wc))
   case first =>
    have H := HC6.out
    clear HC6
    by_cases c9 : ((rd_T62 l0 x10_1).f1) < 1
    ·rw [if_pos c9] at H
     have c9b0 : decide (((rd_T62 l0 x10_1).f1) < 1) = true := decide_eq_true c9
     clear c9
     (first | rw [c9b0] | (simp only [i64_w, i32_w]; rw [c9b0]) | skip)
     have H' := Aside0.mk H
     clear H
     have hcz10_0 : w7.cell? ⟨gb759, 0, none⟩ = some (.int .i64 0) := bc BK759 0
     have hcz10_1 : w7.cell? ⟨gb759, 1, none⟩ = some (.int .i64 0) := bc BK759 1
     have hfz10_0 := fz BK759 0
     have hfz10_1 := fz BK759 1
     go_wp2
     repeat (go_quiet (fail); try go_wp2)
     go_meet
     case rel => exact ⟨_, (true), (by first | rfl | (simp; done) | (simp [*]; done)), H', ⟨by have := HK1.out; first | omega | exact Nat.le_refl _⟩, ⟨by (with_reducible repeat (first | refine blk_drewN ?_ _ | refine blk_drew ?_ | refine blk_alloc ?_ _)); refine blk_put (cs := #[.int .i64 ((rd_T62 l0 x10_1).f0), .int .i64 0]) ?_ 1 _ rfl; (with_reducible repeat (first | refine blk_drewN ?_ _ | refine blk_drew ?_ | refine blk_alloc ?_ _)); refine blk_put (cs := #[.int .i64 0, .int .i64 0]) ?_ 0 _ rfl; (with_reducible repeat (first | refine blk_drewN ?_ _ | refine blk_drew ?_ | refine blk_alloc ?_ _)); exact BK759.out⟩, ⟨hbC _⟩⟩
    rw [if_neg c9] at H
    have c9b0 : decide (((rd_T62 l0 x10_1).f1) < 1) = false := decide_eq_false c9
    clear c9
    (first | rw [c9b0] | (simp only [i64_w, i32_w]; rw [c9b0]) | skip)
    by_cases c11 : ((rd_T62 l0 x10_1).f1) > a1
    ·rw [if_pos c11] at H
     have c11b0 : decide (a1 < ((rd_T62 l0 x10_1).f1)) = true := decide_eq_true c11
     clear c11
     have H' := Aside0.mk H
     clear H
     have hcz12_0 : w7.cell? ⟨gb759, 0, none⟩ = some (.int .i64 0) := bc BK759 0
     have hcz12_1 : w7.cell? ⟨gb759, 1, none⟩ = some (.int .i64 0) := bc BK759 1
     have hfz12_0 := fz BK759 0
     have hfz12_1 := fz BK759 1
     go_wp2
     repeat (go_quiet (fail); try go_wp2)
     go_meet
     case rel => exact ⟨_, (true), (by first | rfl | (simp; done) | (simp [*]; done)), H', ⟨by have := HK1.out; first | omega | exact Nat.le_refl _⟩, ⟨by (with_reducible repeat (first | refine blk_drewN ?_ _ | refine blk_drew ?_ | refine blk_alloc ?_ _)); refine blk_put (cs := #[.int .i64 ((rd_T62 l0 x10_1).f0), .int .i64 0]) ?_ 1 _ rfl; (with_reducible repeat (first | refine blk_drewN ?_ _ | refine blk_drew ?_ | refine blk_alloc ?_ _)); refine blk_put (cs := #[.int .i64 0, .int .i64 0]) ?_ 0 _ rfl; (with_reducible repeat (first | refine blk_drewN ?_ _ | refine blk_drew ?_ | refine blk_alloc ?_ _)); exact BK759.out⟩, ⟨hbC _⟩⟩
    rw [if_neg c11] at H
    have c11b0 : decide (a1 < ((rd_T62 l0 x10_1).f1)) = false := decide_eq_false c11
    clear c11
    by_cases c13 : ((rd_T62 l0 x10_1).f0) < 0
    ·rw [if_pos c13] at H
     have c13b0 : decide (((rd_T62 l0 x10_1).f0) < 0) = true := decide_eq_true c13
     clear c13
     have H' := Aside0.mk H
     clear H
     have hcz14_0 : w7.cell? ⟨gb759, 0, none⟩ = some (.int .i64 0) := bc BK759 0
     have hcz14_1 : w7.cell? ⟨gb759, 1, none⟩ = some (.int .i64 0) := bc BK759 1
     have hfz14_0 := fz BK759 0
     have hfz14_1 := fz BK759 1
     go_wp2
     repeat (go_quiet (fail); try go_wp2)
     go_meet
     case rel => exact ⟨_, (true), (by first | rfl | (simp; done) | (simp [*]; done)), H', ⟨by have := HK1.out; first | omega | exact Nat.le_refl _⟩, ⟨by (with_reducible repeat (first | refine blk_drewN ?_ _ | refine blk_drew ?_ | refine blk_alloc ?_ _)); refine blk_put (cs := #[.int .i64 ((rd_T62 l0 x10_1).f0), .int .i64 0]) ?_ 1 _ rfl; (with_reducible repeat (first | refine blk_drewN ?_ _ | refine blk_drew ?_ | refine blk_alloc ?_ _)); refine blk_put (cs := #[.int .i64 0, .int .i64 0]) ?_ 0 _ rfl; (with_reducible repeat (first | refine blk_drewN ?_ _ | refine blk_drew ?_ | refine blk_alloc ?_ _)); exact BK759.out⟩, ⟨hbC _⟩⟩
    rw [if_neg c13] at H
    have c13b0 : decide (((rd_T62 l0 x10_1).f0) < 0) = false := decide_eq_false c13
    clear c13
    replace H := Option.bind_eq_some_iff.mp H
    obtain ⟨t760, A150, H⟩ := H
    replace H : (congouref01_Multiple.j1 k1 a1 x5_1 l0 (l0.length : Int) x10_1 (t760 != 1) ((rd_T62 l0 x10_1).f0) ((rd_T62 l0 x10_1).f1)) = some r := H
    have A15 := Aside0.mk A150
    clear A150
    have H' := Aside0.mk H
    clear H
    have hcz16_0 : w7.cell? ⟨gb759, 0, none⟩ = some (.int .i64 0) := bc BK759 0
    have hcz16_1 : w7.cell? ⟨gb759, 1, none⟩ = some (.int .i64 0) := bc BK759 1
    have hfz16_0 := fz BK759 0
    have hfz16_1 := fz BK759 1
    go_wp2_with (first | (go_at_call 110; (with_reducible refine (congouref01_gcd.calls k1 ((rd_T62 l0 x10_1).f0) ((rd_T62 l0 x10_1).f1) t760 _ A15.out).mono ?_); rintro e w' ⟨rfl, ⟨nd, rfl⟩⟩; (try first | exact ⟨rfl, _, World.drewN_drewN _ _ _⟩ | exact ⟨rfl, _, Eq.trans (World.drewN_drewN _ _ _) (congrArg (World.drewN _) (Nat.add_assoc _ _ _))⟩)))
    repeat (go_quiet (first | (go_at_call 110; (with_reducible refine (congouref01_gcd.calls k1 ((rd_T62 l0 x10_1).f0) ((rd_T62 l0 x10_1).f1) t760 _ A15.out).mono ?_); rintro e w' ⟨rfl, ⟨nd, rfl⟩⟩; (try first | exact ⟨rfl, _, World.drewN_drewN _ _ _⟩ | exact ⟨rfl, _, Eq.trans (World.drewN_drewN _ _ _) (congrArg (World.drewN _) (Nat.add_assoc _ _ _))⟩))); try go_wp2_with (first | (go_at_call 110; (with_reducible refine (congouref01_gcd.calls k1 ((rd_T62 l0 x10_1).f0) ((rd_T62 l0 x10_1).f1) t760 _ A15.out).mono ?_); rintro e w' ⟨rfl, ⟨nd, rfl⟩⟩; (try first | exact ⟨rfl, _, World.drewN_drewN _ _ _⟩ | exact ⟨rfl, _, Eq.trans (World.drewN_drewN _ _ _) (congrArg (World.drewN _) (Nat.add_assoc _ _ _))⟩))))
    go_meet
    case rel => exact ⟨_, ((t760 != 1)), (by first | rfl | (simp; done) | (simp [*]; done)), H', ⟨by have := HK1.out; first | omega | exact Nat.le_refl _⟩, ⟨by (with_reducible repeat (first | refine blk_drewN ?_ _ | refine blk_drew ?_ | refine blk_alloc ?_ _)); refine blk_put (cs := #[.int .i64 ((rd_T62 l0 x10_1).f0), .int .i64 0]) ?_ 1 _ rfl; (with_reducible repeat (first | refine blk_drewN ?_ _ | refine blk_drew ?_ | refine blk_alloc ?_ _)); refine blk_put (cs := #[.int .i64 0, .int .i64 0]) ?_ 0 _ rfl; (with_reducible repeat (first | refine blk_drewN ?_ _ | refine blk_drew ?_ | refine blk_alloc ?_ _)); exact BK759.out⟩, ⟨hbC _⟩⟩
   case rest =>
    clear HC6
    try clear c1
    try clear p2
    try clear c3
    try clear c3b0
    try clear c4
    try clear c4b0
    try clear c5
    try clear c5b0
    try clear p7
    try clear q7
    try clear hx7
    try clear c8
    try clear c9
    try clear c9b0
    try clear c11
    try clear c11b0
    try clear c13
    try clear c13b0
    try clear hcz10_0
    try clear hcz10_1
    try clear hcz12_0
    try clear hcz12_1
    try clear hcz14_0
    try clear hcz14_1
    try clear hcz16_0
    try clear hcz16_1
    try clear hcz8_0
    try clear hcz8_1
    try clear hfz10_0
    try clear hfz10_1
    try clear hfz12_0
    try clear hfz12_1
    try clear hfz14_0
    try clear hfz14_1
    try clear hfz16_0
    try clear hfz16_1
    try clear hfz8_0
    try clear hfz8_1
    try clear hx758_0
    try clear hx758_1
    try clear p2
    try clear p758
    try clear q758
    obtain ⟨kq, x35_5, rfl, HA, HJ5, BK759, HB⟩ := hcut
    cases kq with
    | zero => exact absurd HA.out (by simp [congouref01_Multiple.j1])
    | succ kj5 =>
     have H := HA.out
     clear HA
     simp only [congouref01_Multiple.j1] at H
     by_cases c17 : x35_5 = true
     ·subst c17
      have H1 : (some 0) = some r := by rw [if_pos rfl] at H; exact H
      clear H
      have H := H1
      clear H1
      obtain rfl := Option.some.inj H
      go_wp2
      repeat (go_quiet (fail); try go_wp2)
      go_ret
      exact ⟨by first | rfl | (simp [errW_none, errW_some] <;> rfl) | (simp [*, errW_none, errW_some] <;> rfl), hbC _⟩
     replace c17 := Bool.eq_false_iff.mpr c17
     subst c17
     have H1 : ((congouref01_gcd.f kj5 x5_1 ((rd_T62 l0 x10_1).f1)).bind fun t761 => (if t761 = 0 then (none) else (if (wrap64 ((wrap64 (Int.tdiv x5_1 t761)) * ((rd_T62 l0 x10_1).f1))) > a1 then (some 0) else (congouref01_Multiple.l0 kj5 a1 (wrap64 ((wrap64 (Int.tdiv x5_1 t761)) * ((rd_T62 l0 x10_1).f1))) l0 (l0.length : Int) (wrap64 (x10_1 + 1)))))) = some r := by rw [if_neg (show ¬ (false = true) by decide)] at H; exact H
     clear H
     have H := H1
     clear H1
     replace H := Option.bind_eq_some_iff.mp H
     obtain ⟨t761, A180, H⟩ := H
     replace H : (if t761 = 0 then (none) else (if (wrap64 ((wrap64 (Int.tdiv x5_1 t761)) * ((rd_T62 l0 x10_1).f1))) > a1 then (some 0) else (congouref01_Multiple.l0 kj5 a1 (wrap64 ((wrap64 (Int.tdiv x5_1 t761)) * ((rd_T62 l0 x10_1).f1))) l0 (l0.length : Int) (wrap64 (x10_1 + 1))))) = some r := H
     have A18 := Aside0.mk A180
     clear A180
     by_cases c19 : t761 = 0
     ·rw [if_pos c19] at H
      exact absurd H (by simp)
     rw [if_neg c19] at H
     have c19b0 : (t761 == 0) = false := beq_eq_false_iff_ne.mpr c19
     have c19b1 : (t761 != 0) = true := bne_iff_ne.mpr c19
     by_cases c20 : (wrap64 ((wrap64 (Int.tdiv x5_1 t761)) * ((rd_T62 l0 x10_1).f1))) > a1
     ·rw [if_pos c20] at H
      have c20b0 : decide (a1 < (wrap64 ((wrap64 (Int.tdiv x5_1 t761)) * ((rd_T62 l0 x10_1).f1)))) = true := decide_eq_true c20
      clear c20
      obtain rfl := Option.some.inj H
      have hcz21_0 : wc.cell? ⟨gb759, 0, none⟩ = some (.int .i64 ((rd_T62 l0 x10_1).f0)) := bc BK759 0
      have hcz21_1 : wc.cell? ⟨gb759, 1, none⟩ = some (.int .i64 ((rd_T62 l0 x10_1).f1)) := bc BK759 1
      have hfz21_0 := fz BK759 0
      have hfz21_1 := fz BK759 1
      go_wp2_with (first | (go_at_call 110; (with_reducible refine (congouref01_gcd.calls kj5 x5_1 ((rd_T62 l0 x10_1).f1) t761 _ A18.out).mono ?_); rintro e w' ⟨rfl, ⟨nd, rfl⟩⟩; (try first | exact ⟨rfl, _, World.drewN_drewN _ _ _⟩ | exact ⟨rfl, _, Eq.trans (World.drewN_drewN _ _ _) (congrArg (World.drewN _) (Nat.add_assoc _ _ _))⟩)))
      repeat (go_quiet (first | (go_at_call 110; (with_reducible refine (congouref01_gcd.calls kj5 x5_1 ((rd_T62 l0 x10_1).f1) t761 _ A18.out).mono ?_); rintro e w' ⟨rfl, ⟨nd, rfl⟩⟩; (try first | exact ⟨rfl, _, World.drewN_drewN _ _ _⟩ | exact ⟨rfl, _, Eq.trans (World.drewN_drewN _ _ _) (congrArg (World.drewN _) (Nat.add_assoc _ _ _))⟩))); try go_wp2_with (first | (go_at_call 110; (with_reducible refine (congouref01_gcd.calls kj5 x5_1 ((rd_T62 l0 x10_1).f1) t761 _ A18.out).mono ?_); rintro e w' ⟨rfl, ⟨nd, rfl⟩⟩; (try first | exact ⟨rfl, _, World.drewN_drewN _ _ _⟩ | exact ⟨rfl, _, Eq.trans (World.drewN_drewN _ _ _) (congrArg (World.drewN _) (Nat.add_assoc _ _ _))⟩))))
      go_ret
      exact ⟨by first | rfl | (simp [errW_none, errW_some] <;> rfl) | (simp [*, errW_none, errW_some] <;> rfl), hbC _⟩
     rw [if_neg c20] at H
     have c20b0 : decide (a1 < (wrap64 ((wrap64 (Int.tdiv x5_1 t761)) * ((rd_T62 l0 x10_1).f1)))) = false := decide_eq_false c20
     clear c20
     have H' := Aside0.mk H
     clear H
     have hcz22_0 : wc.cell? ⟨gb759, 0, none⟩ = some (.int .i64 ((rd_T62 l0 x10_1).f0)) := bc BK759 0
     have hcz22_1 : wc.cell? ⟨gb759, 1, none⟩ = some (.int .i64 ((rd_T62 l0 x10_1).f1)) := bc BK759 1
     have hfz22_0 := fz BK759 0
     have hfz22_1 := fz BK759 1
     go_wp2_with (first | (go_at_call 110; (with_reducible refine (congouref01_gcd.calls kj5 x5_1 ((rd_T62 l0 x10_1).f1) t761 _ A18.out).mono ?_); rintro e w' ⟨rfl, ⟨nd, rfl⟩⟩; (try first | exact ⟨rfl, _, World.drewN_drewN _ _ _⟩ | exact ⟨rfl, _, Eq.trans (World.drewN_drewN _ _ _) (congrArg (World.drewN _) (Nat.add_assoc _ _ _))⟩)))
     repeat (go_quiet (first | (go_at_call 110; (with_reducible refine (congouref01_gcd.calls kj5 x5_1 ((rd_T62 l0 x10_1).f1) t761 _ A18.out).mono ?_); rintro e w' ⟨rfl, ⟨nd, rfl⟩⟩; (try first | exact ⟨rfl, _, World.drewN_drewN _ _ _⟩ | exact ⟨rfl, _, Eq.trans (World.drewN_drewN _ _ _) (congrArg (World.drewN _) (Nat.add_assoc _ _ _))⟩))); try go_wp2_with (first | (go_at_call 110; (with_reducible refine (congouref01_gcd.calls kj5 x5_1 ((rd_T62 l0 x10_1).f1) t761 _ A18.out).mono ?_); rintro e w' ⟨rfl, ⟨nd, rfl⟩⟩; (try first | exact ⟨rfl, _, World.drewN_drewN _ _ _⟩ | exact ⟨rfl, _, Eq.trans (World.drewN_drewN _ _ _) (congrArg (World.drewN _) (Nat.add_assoc _ _ _))⟩))))
     go_roundg kj5
     case measure => have := HK1.out; have := HJ5.out; omega
     case rel => exact ⟨(wrap64 ((wrap64 (Int.tdiv x5_1 t761)) * ((rd_T62 l0 x10_1).f1))), (wrap64 (x10_1 + 1)), (by first | rfl | (simp; done) | (simp [*]; done)), (by first | rfl | (simp; done) | (simp [*]; done)), H', ⟨by have := HK1.out; have := HJ5.out; omega⟩, ⟨hbC _⟩⟩

end Go.Proofs.Ytefmafbbnkkpjaa.X
