-- Written by a program of this work (wip/xprint.py, over the kit's printer) out of the translation.
import Derived.Test.YtpnocmkpeogifaaX0
import Derived.Test.YtpnocmkpeogifaaXG1a
import Derived.Test.YtpnocmkpeogifaaXG3a
import Derived.Test.YtpnocmkpeogifaaXG5a
import Derived.Test.YtpnocmkpeogifaaXf57
namespace Go.Proofs.Ytpnocmkpeogifaa.X
open Go.RowKit Go.Proofs.YtpnocmkpeogifaaW.PrintWords Go.Proofs.YtpnocmkpeogifaaW.PrintLast Go.Proofs.YtpnocmkpeogifaaW.PrintMore
attribute [local go_sem] max2_int min2_int max_two min_two max_three min_three max_four min_four   -- for this text's walks alone
set_option linter.unusedVariables false
set_option linter.unusedSimpArgs false

/-! ### congouref04_Value: function 25 -/
def congouref04_Value.l0 : Nat → List (S26) → Int → Int → Int → List Int → List Int → Int → Int → Option (Int × Int)
 | 0, _, _, _, _, _, _, _, _ => none
 | k + 1, x11, x12, x13, x484000, x484001, x484002, x489000, x489001 => if x13 < x12 then (if 0 ≤ x13 then (if x13 < (x11.length : Int) then (if x13 < (x484002.length : Int) then ((congouref04_whole.f (rd x484002 x13)).bind fun bt495 => ((congouref04_Times.f k bt495.1 bt495.2 ((rd_T26 x11 x13).f0) ((rd_T26 x11 x13).f1)).bind fun bt497 => ((congouref04_Plus.f k x489000 x489001 bt497.1 bt497.2).bind fun bt499 => (congouref04_Value.l0 k x11 x12 (wrap64 (x13 + 1)) x484000 x484001 x484002 bt499.1 bt499.2)))) else (none)) else (none)) else (none)) else (some (x489000, x489001))
def congouref04_Value.f (k : Nat) (a0_0 : Int) (l0_1 : List Int) (l0_2 : List Int) (a1_0 : Int) (a1_1 : Int) : Option (Int × Int) := (congouref04_whole.f 0).bind fun bt486 => ((congouref04_Basic.f k a0_0 l0_1 l0_2 a1_0 a1_1).bind fun t489 => (congouref04_Value.l0 k t489 (t489.length : Int) 0 a0_0 l0_1 l0_2 bt486.1 bt486.2))
theorem congouref04_Value.mono_l : ∀ k, (∀ y0 y1 y2 y3 y4 y5 y6 y7, LeO (congouref04_Value.l0 k y0 y1 y2 y3 y4 y5 y6 y7) (congouref04_Value.l0 (k + 1) y0 y1 y2 y3 y4 y5 y6 y7))
 | 0 => fun _ _ _ _ _ _ _ _ r h => by simp [congouref04_Value.l0] at h
 | k + 1 => by
  have ih0 := congouref04_Value.mono_l k
  ·intro y0 y1 y2 y3 y4 y5 y6 y7
   unfold congouref04_Value.l0
   repeat' first
   | (with_reducible exact ih0 _ _ _ _ _ _ _ _)
   | (with_reducible exact congouref04_Basic.mono _ _ _ _ _ _)
   | (with_reducible exact congouref04_Plus.mono _ _ _ _ _)
   | (with_reducible exact congouref04_Times.mono _ _ _ _ _)
   | (with_reducible exact LeO.refl _)
   | (with_reducible exact LeO.none _)
   | (with_reducible refine LeO.ite ?_ ?_)
   | (with_reducible refine LeO.bind ?_ (fun _ => ?_))
   | exact ih0 _ _ _ _ _ _ _ _
   | exact congouref04_Basic.mono _ _ _ _ _ _
   | exact congouref04_Plus.mono _ _ _ _ _
   | exact congouref04_Times.mono _ _ _ _ _
   | exact LeO.none _
   | refine LeO.ite ?_ ?_
   | refine LeO.bind ?_ (fun _ => ?_)
theorem congouref04_Value.mono : ∀ a0 a1 a2 a3 a4 k, LeO (congouref04_Value.f k a0 a1 a2 a3 a4) (congouref04_Value.f (k + 1) a0 a1 a2 a3 a4) := by
 intro a0 a1 a2 a3 a4 k
 have ih0 := congouref04_Value.mono_l k
 unfold congouref04_Value.f
 repeat' first
   | (with_reducible exact ih0 _ _ _ _ _ _ _ _)
   | (with_reducible exact congouref04_Basic.mono _ _ _ _ _ _)
   | (with_reducible exact congouref04_Plus.mono _ _ _ _ _)
   | (with_reducible exact congouref04_Times.mono _ _ _ _ _)
   | (with_reducible exact LeO.refl _)
   | (with_reducible exact LeO.none _)
   | (with_reducible refine LeO.ite ?_ ?_)
   | (with_reducible refine LeO.bind ?_ (fun _ => ?_))
   | exact ih0 _ _ _ _ _ _ _ _
   | exact congouref04_Basic.mono _ _ _ _ _ _
   | exact congouref04_Plus.mono _ _ _ _ _
   | exact congouref04_Times.mono _ _ _ _ _
   | exact LeO.none _
   | refine LeO.ite ?_ ?_
   | refine LeO.bind ?_ (fun _ => ?_)
def congouref04_Value.T5 : Bool × List (List Nat × List Nat) := (true, [([], []), ([], []), ([1], [1]), ([], []), ([2, 3], [2, 3]), ([4], [4]), ([5], [5]), ([], []), ([6, 7, 6], [6, 7]), ([0, 8, 8], [0, 8]), ([9, 9, 0, 1, 2, 3, 4, 5, 6, 7, 8, 9], [9])])
def congouref04_Value.B5 : List Nat := [0, 0, 2, 0, 14, 30, 62, 0, 254, 511, 1023]
theorem congouref04_Value.tab5 : rtab .any (opsOf Try.f25 5) = congouref04_Value.T5 := by kernel_rfl
theorem congouref04_Value.bits5 : waitsOk congouref04_Value.T5.2 congouref04_Value.B5 = true := by kernel_rfl
set_option maxHeartbeats 8000000 in
set_option maxRecDepth 100000 in
theorem congouref04_Value.calls (k : Nat) (a0_0 : Int) (A0_1 : Option Addr) (c0_1 : Nat) (l0_1 : List Int) (A0_2 : Option Addr) (c0_2 : Nat) (l0_2 : List Int) (a1_0 : Int) (a1_1 : Int) (r1 : Int) (r2 : Int) (w : World) (hr0_1 : Kd.C (Kd.int .i64) w A0_1 l0_1.length l0_1) (hc0_1 : l0_1.length ≤ c0_1) (hr0_2 : Kd.C (Kd.int .i64) w A0_2 l0_2.length l0_2) (hc0_2 : l0_2.length ≤ c0_2) (h : congouref04_Value.f k a0_0 l0_1 l0_2 a1_0 a1_1 = some (r1, r2)) :
  Calls Try.prog 25 #[.agg #[.int .i64 a0_0, .slice A0_1 l0_1.length c0_1, .slice A0_2 l0_2.length c0_2], .agg #[.int .i64 a1_0, .int .i64 a1_1]] w fun e w' => e = .returned (.agg #[.int .i64 r1, .int .i64 r2]) ∧ Below w.heap.size w w' := by
 have hu24 := Try.underlying24
 have hu26 := Try.underlying26
 have HR0_1 := Aside0.mk hr0_1
 have HC0_1 := Aside0.mk hc0_1
 clear hr0_1 hc0_1
 have HR0_2 := Aside0.mk hr0_2
 have HC0_2 := Aside0.mk hc0_2
 clear hr0_2 hc0_2
 have HB := Aside0.mk (Below.refl w.heap.size w)
 have H : ((congouref04_whole.f 0).bind fun bt486 => ((congouref04_Basic.f k a0_0 l0_1 l0_2 a1_0 a1_1).bind fun t489 => (congouref04_Value.l0 k t489 (t489.length : Int) 0 a0_0 l0_1 l0_2 bt486.1 bt486.2))) = some (r1, r2) := h
 clear h
 replace H := Option.bind_eq_some_iff.mp H
 obtain ⟨⟨t486, t487⟩, A30, H⟩ := H
 replace H : ((congouref04_Basic.f k a0_0 l0_1 l0_2 a1_0 a1_1).bind fun t489 => (congouref04_Value.l0 k t489 (t489.length : Int) 0 a0_0 l0_1 l0_2 t486 t487)) = some (r1, r2) := H
 have A3 := Aside0.mk A30
 clear A30
 replace H := Option.bind_eq_some_iff.mp H
 obtain ⟨t489, A40, H⟩ := H
 replace H : (congouref04_Value.l0 k t489 (t489.length : Int) 0 a0_0 l0_1 l0_2 t486 t487) = some (r1, r2) := H
 have A4 := Aside0.mk A40
 clear A40
 have H' := Aside0.mk H
 clear H
 go_enter Try.func25, Try.ntmps25
 go_wp2_with (first | ((with_reducible refine gate_dst (N := 2) rfl ?_); refine bE 2 #[.int .i64 a0_0, .slice A0_1 l0_1.length c0_1, .slice A0_2 l0_2.length c0_2] 24 ?_; intro gb483 hg w5 hbox hb; have BK483 := Aside0.mk (hbox); have GW483 := kG w hg; have GE483 := kG w hg; replace HB := kH _ hb; clear hb hbox hg) | ((with_reducible refine gate_dst (N := 3) rfl ?_); refine bE 3 #[.int .i64 a1_0, .int .i64 a1_1] 26 ?_; intro gb484 hg w6 hbox hb; have BK484 := Aside0.mk (hbox); have GW484 := kG w hg; have GE484 := kG w hg; replace HB := kH _ hb; have NB483_484 := kL BK483 hg; have NB484_483 := kR BK483 hg; replace BK483 := kB BK483 hb; clear hb hbox hg) | ((with_reducible refine gate_dst (N := 4) rfl ?_); refine bE 4 #[.int .i64 0, .int .i64 0] 26 ?_; intro gb485 hg w7 hbox hb; have BK485 := Aside0.mk (hbox); have GW485 := kG w hg; have GE485 := kG w hg; replace HB := kH _ hb; have NB483_485 := kL BK483 hg; have NB485_483 := kR BK483 hg; replace BK483 := kB BK483 hb; have NB484_485 := kL BK484 hg; have NB485_484 := kR BK484 hg; replace BK484 := kB BK484 hb; clear hb hbox hg) | ((with_reducible refine gate_callee (f := 56) rfl ?_); refine gL 8 Try.func56 #[.int .i64 0] ?_; (with_reducible refine (congouref04_whole.calls 0 t486 t487 _ A3.out).mono ?_); rintro e w8 ⟨rfl, hb⟩; refine ⟨_, rfl, ?_⟩; replace BK483 := kB BK483 hb; replace BK484 := kB BK484 hb; replace BK485 := kB BK485 hb; replace HB := kH _ hb; (try clear hb); (try clear hb2); (try clear hk); (try clear hi)) | ((with_reducible refine gate_dst (N := 5) rfl ?_); refine bE 5 #[.int .i64 0, .int .i64 0] 26 ?_; intro gb488 hg w9 hbox hb; have BK488 := Aside0.mk (hbox); have GW488 := kG w hg; have GE488 := kG w hg; replace HB := kH _ hb; have NB483_488 := kL BK483 hg; have NB488_483 := kR BK483 hg; replace BK483 := kB BK483 hb; have NB484_488 := kL BK484 hg; have NB488_484 := kR BK484 hg; replace BK484 := kB BK484 hb; have NB485_488 := kL BK485 hg; have NB488_485 := kR BK485 hg; replace BK485 := kB BK485 hb; clear hb hbox hg; have hnb10 := NB488_483.out; have hnc10 := NB483_488.out; have hnb11 := NB488_484.out; have hnc11 := NB484_488.out; have hnb12 := NB488_485.out; have hnc12 := NB485_488.out; have hcz13_0 : w9.cell? ⟨gb488, 0, none⟩ = some (.int .i64 0) := bc BK488 0; have hcz13_1 : w9.cell? ⟨gb488, 1, none⟩ = some (.int .i64 0) := bc BK488 1; have hfz13_0 := fz BK488 0; have hfz13_1 := fz BK488 1; have hnb14 := NB483_484.out; have hnc14 := NB484_483.out; have hnb15 := NB483_485.out; have hnc15 := NB485_483.out; have hcz16_0 : w9.cell? ⟨gb483, 0, none⟩ = some (.int .i64 a0_0) := bc BK483 0; have hcz16_1 : w9.cell? ⟨gb483, 1, none⟩ = some (.slice A0_1 l0_1.length c0_1) := bc BK483 1; have hcz16_2 : w9.cell? ⟨gb483, 2, none⟩ = some (.slice A0_2 l0_2.length c0_2) := bc BK483 2; have hfz16_0 := fz BK483 0; have hfz16_1 := fz BK483 1; have hfz16_2 := fz BK483 2; have hnb17 := NB484_485.out; have hnc17 := NB485_484.out; have hcz18_0 : w9.cell? ⟨gb484, 0, none⟩ = some (.int .i64 a1_0) := bc BK484 0; have hcz18_1 : w9.cell? ⟨gb484, 1, none⟩ = some (.int .i64 a1_1) := bc BK484 1; have hfz18_0 := fz BK484 0; have hfz18_1 := fz BK484 1) | ((with_reducible refine gate_callee (f := 24) rfl ?_); refine gL 11 Try.func24 #[.agg #[.int .i64 a0_0, .slice A0_1 l0_1.length c0_1, .slice A0_2 l0_2.length c0_2], .agg #[.int .i64 a1_0, .int .i64 a1_1]] ?_; (with_reducible refine (congouref04_Basic.calls k a0_0 _ _ l0_1 _ _ l0_2 a1_0 a1_1 t489 _ ?side1 ?side2 ?side3 ?side4 A4.out).mono ?_); (case side1 => exact Kd.C_below HR0_1.out (hbC _)); (case side2 => exact HC0_1.out); (case side3 => exact Kd.C_below HR0_2.out (hbC _)); (case side4 => exact HC0_2.out); rintro e w19 ⟨v490, rfl, ho0, hb⟩; refine ⟨_, rfl, ?_⟩; have HO491 := Aside0.mk (Kd.R_lower (Kd.R_newB (Kd.R_newB (Kd.R_newB ho0 (g := gb484) (o := .cells #[.int .i64 a1_0, .int .i64 a1_1] 26 (0, 0)) (bF BK484)) (g := gb485) (o := .cells #[.int .i64 0, .int .i64 0] 26 (0, 0)) (bF BK485)) (g := gb488) (o := .cells #[.int .i64 t486, .int .i64 t487] 26 (0, 0)) (by (with_reducible repeat (first | refine blk_drewN ?_ _ | refine blk_drew ?_ | refine blk_alloc ?_ _)); refine blk_put (cs := #[.int .i64 t486, .int .i64 0]) ?_ 1 _ rfl; (with_reducible repeat (first | refine blk_drewN ?_ _ | refine blk_drew ?_ | refine blk_alloc ?_ _)); refine blk_put (cs := #[.int .i64 0, .int .i64 0]) ?_ 0 _ rfl; (with_reducible repeat (first | refine blk_drewN ?_ _ | refine blk_drew ?_ | refine blk_alloc ?_ _)); exact BK488.out)) (below_size (hbC _))); replace BK483 := Aside0.mk (blk_below (g := gb483) (o := .cells #[.int .i64 a0_0, .slice A0_1 l0_1.length c0_1, .slice A0_2 l0_2.length c0_2] 24 (0, 0)) (bF BK483) hb); replace BK484 := Aside0.mk (blk_below (g := gb484) (o := .cells #[.int .i64 a1_0, .int .i64 a1_1] 26 (0, 0)) (bF BK484) hb); replace BK485 := Aside0.mk (blk_below (g := gb485) (o := .cells #[.int .i64 0, .int .i64 0] 26 (0, 0)) (bF BK485) hb); replace BK488 := Aside0.mk (blk_below (g := gb488) (o := .cells #[.int .i64 t486, .int .i64 t487] 26 (0, 0)) (by (with_reducible repeat (first | refine blk_drewN ?_ _ | refine blk_drew ?_ | refine blk_alloc ?_ _)); refine blk_put (cs := #[.int .i64 t486, .int .i64 0]) ?_ 1 _ rfl; (with_reducible repeat (first | refine blk_drewN ?_ _ | refine blk_drew ?_ | refine blk_alloc ?_ _)); refine blk_put (cs := #[.int .i64 0, .int .i64 0]) ?_ 0 _ rfl; (with_reducible repeat (first | refine blk_drewN ?_ _ | refine blk_drew ?_ | refine blk_alloc ?_ _)); exact BK488.out) hb); replace HB := kH _ hb; (try clear hb); (try clear hb2); (try clear hk); (try clear hi); (try clear ho0); obtain ⟨Ao20, co20, eo20⟩ := Kd.R_slice HO491.out; subst eo20))
 go_loopg [13] k (fun kq v13 w' => ∃ (x13_1 : Int) (x489000_1 : Int) (x489001_1 : Int), v13 = .int .i64 x13_1 ∧ Aside0 (congouref04_Value.l0 kq t489 (t489.length : Int) x13_1 a0_0 l0_1 l0_2 x489000_1 x489001_1 = some (r1, r2)) ∧ Aside0 (kq ≤ k) ∧ Aside0 (Kd.R k26 26 w' w.heap.size (fun k_ => k_ ≠ gb484 ∧ k_ ≠ gb485 ∧ k_ ≠ gb488) (.slice Ao20 t489.length co20) t489) ∧ Aside0 (w'.heap[gb483]? = some (.cells #[.int .i64 a0_0, (.slice A0_1 l0_1.length c0_1), (.slice A0_2 l0_2.length c0_2)] 24 (0, 0))) ∧ Aside0 (w'.heap[gb484]? = some (.cells #[.int .i64 a1_0, .int .i64 a1_1] 26 (0, 0))) ∧ Aside0 (w'.heap[gb485]? = some (.cells #[.int .i64 0, .int .i64 0] 26 (0, 0))) ∧ Aside0 (w'.heap[gb488]? = some (.cells #[.int .i64 x489000_1, .int .i64 x489001_1] 26 (0, 0))) ∧ Aside0 (Below w.heap.size w w'))
 case atStart => exact ⟨(0), (t486), (t487), (by first | rfl | (simp; done) | (simp [*]; done)), H', ⟨Nat.le_refl _⟩, ⟨by (with_reducible repeat (first | apply Kd.R_alloc | apply Kd.R_drewN | apply Kd.R_drew)); exact Kd.R_mono HO491.out (fun _ hk => ⟨hk.1.1.2, ⟨hk.1.2, hk.2⟩⟩)⟩, ⟨bkC BK483⟩, ⟨bkC BK484⟩, ⟨bkC BK485⟩, ⟨bkC BK488⟩, ⟨hbC _⟩⟩
 case round =>
  clear H'
  try clear c1
  try clear c2
  try clear p2
  try clear c5
  try clear c10
  try clear c11
  try clear c12
  try clear c14
  try clear c15
  try clear c17
  try clear hcz13_0
  try clear hcz13_1
  try clear hcz16_0
  try clear hcz16_1
  try clear hcz16_2
  try clear hcz18_0
  try clear hcz18_1
  try clear hfz13_0
  try clear hfz13_1
  try clear hfz16_0
  try clear hfz16_1
  try clear hfz16_2
  try clear hfz18_0
  try clear hfz18_1
  obtain ⟨x13_1, x489000_1, x489001_1, rfl, HA, HK1, HO_11, BK483, BK484, BK485, BK488, HB⟩ := hrel
  cases gk with
  | zero => exact absurd HA.out (by simp [congouref04_Value.l0])
  | succ k1 =>
   have H := HA.out
   clear HA
   simp only [congouref04_Value.l0] at H
   by_cases c21 : x13_1 < (t489.length : Int)
   rotate_left
   ·rw [if_neg c21] at H
    have c21b0 : decide (x13_1 < (t489.length : Int)) = false := decide_eq_false c21
    clear c21
    simp only [Option.some.injEq, Prod.mk.injEq] at H
    obtain ⟨rfl, rfl⟩ := H
    have hnb41 := NB488_483.out
    have hnc41 := NB483_488.out
    have hnb42 := NB488_484.out
    have hnc42 := NB484_488.out
    have hnb43 := NB488_485.out
    have hnc43 := NB485_488.out
    have hcz44_0 : wr.cell? ⟨gb488, 0, none⟩ = some (.int .i64 x489000_1) := bc BK488 0
    have hcz44_1 : wr.cell? ⟨gb488, 1, none⟩ = some (.int .i64 x489001_1) := bc BK488 1
    have hfz44_0 := fz BK488 0
    have hfz44_1 := fz BK488 1
    have hnb45 := NB485_483.out
    have hnc45 := NB483_485.out
    have hnb46 := NB485_484.out
    have hnc46 := NB484_485.out
    have hcz47_0 : wr.cell? ⟨gb485, 0, none⟩ = some (.int .i64 0) := bc BK485 0
    have hcz47_1 : wr.cell? ⟨gb485, 1, none⟩ = some (.int .i64 0) := bc BK485 1
    have hfz47_0 := fz BK485 0
    have hfz47_1 := fz BK485 1
    go_wp2
    refine bodyPost_ret (results_cell_row rfl _ _ gb485 26 #[.int .i64 x489000_1, .int .i64 x489001_1] (0, 0) _ rfl (by (with_reducible repeat (first | refine blk_drewN ?_ _ | refine blk_drew ?_ | refine blk_alloc ?_ _)); refine blk_put (cs := #[.int .i64 x489000_1, .int .i64 0]) ?_ 1 _ rfl; (with_reducible repeat (first | refine blk_drewN ?_ _ | refine blk_drew ?_ | refine blk_alloc ?_ _)); refine blk_put (cs := #[.int .i64 0, .int .i64 0]) ?_ 0 _ rfl; (with_reducible repeat (first | refine blk_drewN ?_ _ | refine blk_drew ?_ | refine blk_alloc ?_ _)); exact BK485.out) Try.underlying26 rfl (by kernel_rfl)) rfl ?_
    exact ⟨by first | rfl | (simp [errW_none, errW_some] <;> rfl) | (simp [*, errW_none, errW_some] <;> rfl), hbC _⟩
   rw [if_pos c21] at H
   have c21b0 : decide (x13_1 < (t489.length : Int)) = true := decide_eq_true c21
   clear c21
   by_cases c22 : 0 ≤ x13_1
   rotate_left
   ·rw [if_neg c22] at H
    exact absurd H (by simp)
   rw [if_pos c22] at H
   have c22b0 : decide (0 ≤ x13_1) = true := decide_eq_true c22
   clear c22
   by_cases c23 : x13_1 < (t489.length : Int)
   rotate_left
   ·rw [if_neg c23] at H
    exact absurd H (by simp)
   rw [if_pos c23] at H
   have c23b0 : decide (x13_1 < (t489.length : Int)) = true := decide_eq_true c23
   clear c23
   by_cases c24 : x13_1 < (l0_2.length : Int)
   rotate_left
   ·rw [if_neg c24] at H
    exact absurd H (by simp)
   rw [if_pos c24] at H
   have c24b0 : decide (x13_1 < (l0_2.length : Int)) = true := decide_eq_true c24
   clear c24
   replace H := Option.bind_eq_some_iff.mp H
   obtain ⟨⟨t495, t496⟩, A250, H⟩ := H
   replace H : ((congouref04_Times.f k1 t495 t496 ((rd_T26 t489 x13_1).f0) ((rd_T26 t489 x13_1).f1)).bind fun bt497 => ((congouref04_Plus.f k1 x489000_1 x489001_1 bt497.1 bt497.2).bind fun bt499 => (congouref04_Value.l0 k1 t489 (t489.length : Int) (wrap64 (x13_1 + 1)) a0_0 l0_1 l0_2 bt499.1 bt499.2))) = some (r1, r2) := H
   have A25 := Aside0.mk A250
   clear A250
   replace H := Option.bind_eq_some_iff.mp H
   obtain ⟨⟨t497, t498⟩, A260, H⟩ := H
   replace H : ((congouref04_Plus.f k1 x489000_1 x489001_1 t497 t498).bind fun bt499 => (congouref04_Value.l0 k1 t489 (t489.length : Int) (wrap64 (x13_1 + 1)) a0_0 l0_1 l0_2 bt499.1 bt499.2)) = some (r1, r2) := H
   have A26 := Aside0.mk A260
   clear A260
   replace H := Option.bind_eq_some_iff.mp H
   obtain ⟨⟨t499, t500⟩, A270, H⟩ := H
   replace H : (congouref04_Value.l0 k1 t489 (t489.length : Int) (wrap64 (x13_1 + 1)) a0_0 l0_1 l0_2 t499 t500) = some (r1, r2) := H
   have A27 := Aside0.mk A270
   clear A270
   have H' := Aside0.mk H
   clear H
   have p492 : 0 ≤ (x13_1 : Int) := dA
   have q492 : x13_1 < (t489.length : Int) := dA
   obtain ⟨ad492, e492, hx492_0, hx492_1⟩ := at_T26 (Kd.R_reads' HO_11.out).2.2 x13_1 p492 q492
   cases e492
   replace p492 := eq_true p492
   replace q492 := eq_true q492
   try go_wp2_with (first | ((with_reducible refine gate_dst (N := 7) rfl ?_); refine bE 7 #[.int .i64 0, .int .i64 0] 26 ?_; intro gb493 hg w28 hbox hb; replace HO_11 := Aside0.mk (Kd.R_below (Kd.R_elderB (rC HO_11) gb493 (Nat.le_of_eq hg.symm)) hb); have BK493 := Aside0.mk (hbox); have GW493 := kG w hg; have GE493 := kG w hg; replace HB := kH _ hb; have NB483_493 := kL BK483 hg; have NB493_483 := kR BK483 hg; replace BK483 := kB BK483 hb; have NB484_493 := kL BK484 hg; have NB493_484 := kR BK484 hg; replace BK484 := kB BK484 hb; have NB485_493 := kL BK485 hg; have NB493_485 := kR BK485 hg; replace BK485 := kB BK485 hb; have NB488_493 := kL BK488 hg; have NB493_488 := kR BK488 hg; replace BK488 := kB BK488 hb; clear hb hbox hg; have hnb29 := NB493_483.out; have hnc29 := NB483_493.out; have hnb30 := NB493_484.out; have hnc30 := NB484_493.out; have hnb31 := NB493_485.out; have hnc31 := NB485_493.out; have hnb32 := NB493_488.out; have hnc32 := NB488_493.out; have hcz33_0 : w28.cell? ⟨gb493, 0, none⟩ = some (.int .i64 0) := bc BK493 0; have hcz33_1 : w28.cell? ⟨gb493, 1, none⟩ = some (.int .i64 0) := bc BK493 1; have hfz33_0 := fz BK493 0; have hfz33_1 := fz BK493 1))
   have n0_ : Aside0 (Kd.R k26 26 ((w28.setCell ⟨gb493, 0, none⟩ (.int .i64 ((rd_T26 t489 x13_1).f0))).setCell ⟨gb493, 1, none⟩ (.int .i64 ((rd_T26 t489 x13_1).f1))) w.heap.size (fun k_ => k_ ≠ gb484 ∧ k_ ≠ gb485 ∧ k_ ≠ gb488 ∧ k_ ≠ gb493) (.slice (some ad492) t489.length co20) t489) := ⟨by (with_reducible repeat (first | apply Kd.R_alloc | apply Kd.R_drewN | apply Kd.R_drew)); exact Kd.R_mono (Kd.R_far (p := ⟨gb493, 1, none⟩) (Kd.R_far (p := ⟨gb493, 0, none⟩) (Kd.R_mono HO_11.out (fun k_ hk => (⟨hk, hk.2⟩ : _ ∧ k_ ≠ gb493))) (fun _ hk => hk.2) (.int .i64 ((rd_T26 t489 x13_1).f0))) (fun _ hk => hk.2) (.int .i64 ((rd_T26 t489 x13_1).f1))) (fun _ hk => ⟨hk.1.1.1, ⟨hk.1.1.2.1, ⟨hk.1.1.2.2, hk.1.2⟩⟩⟩)⟩
   have n1_ : Aside0 (((w28.setCell ⟨gb493, 0, none⟩ (.int .i64 ((rd_T26 t489 x13_1).f0))).setCell ⟨gb493, 1, none⟩ (.int .i64 ((rd_T26 t489 x13_1).f1))).heap[gb483]? = some (.cells #[.int .i64 a0_0, .slice A0_1 l0_1.length c0_1, .slice A0_2 l0_2.length c0_2] 24 (0, 0))) := ⟨bF BK483⟩
   have n2_ : Aside0 (((w28.setCell ⟨gb493, 0, none⟩ (.int .i64 ((rd_T26 t489 x13_1).f0))).setCell ⟨gb493, 1, none⟩ (.int .i64 ((rd_T26 t489 x13_1).f1))).heap[gb484]? = some (.cells #[.int .i64 a1_0, .int .i64 a1_1] 26 (0, 0))) := ⟨bF BK484⟩
   have n3_ : Aside0 (((w28.setCell ⟨gb493, 0, none⟩ (.int .i64 ((rd_T26 t489 x13_1).f0))).setCell ⟨gb493, 1, none⟩ (.int .i64 ((rd_T26 t489 x13_1).f1))).heap[gb485]? = some (.cells #[.int .i64 0, .int .i64 0] 26 (0, 0))) := ⟨bF BK485⟩
   have n4_ : Aside0 (((w28.setCell ⟨gb493, 0, none⟩ (.int .i64 ((rd_T26 t489 x13_1).f0))).setCell ⟨gb493, 1, none⟩ (.int .i64 ((rd_T26 t489 x13_1).f1))).heap[gb488]? = some (.cells #[.int .i64 x489000_1, .int .i64 x489001_1] 26 (0, 0))) := ⟨bF BK488⟩
   have n5_ : Aside0 (((w28.setCell ⟨gb493, 0, none⟩ (.int .i64 ((rd_T26 t489 x13_1).f0))).setCell ⟨gb493, 1, none⟩ (.int .i64 ((rd_T26 t489 x13_1).f1))).heap[gb493]? = some (.cells #[.int .i64 ((rd_T26 t489 x13_1).f0), .int .i64 ((rd_T26 t489 x13_1).f1)] 26 (0, 0))) := ⟨by (with_reducible repeat (first | refine blk_drewN ?_ _ | refine blk_drew ?_ | refine blk_alloc ?_ _)); refine blk_put (cs := #[.int .i64 ((rd_T26 t489 x13_1).f0), .int .i64 0]) ?_ 1 _ rfl; (with_reducible repeat (first | refine blk_drewN ?_ _ | refine blk_drew ?_ | refine blk_alloc ?_ _)); refine blk_put (cs := #[.int .i64 0, .int .i64 0]) ?_ 0 _ rfl; (with_reducible repeat (first | refine blk_drewN ?_ _ | refine blk_drew ?_ | refine blk_alloc ?_ _)); exact BK493.out⟩
   have n6_ : Aside0 (Below w.heap.size w ((w28.setCell ⟨gb493, 0, none⟩ (.int .i64 ((rd_T26 t489 x13_1).f0))).setCell ⟨gb493, 1, none⟩ (.int .i64 ((rd_T26 t489 x13_1).f1)))) := ⟨hbC _⟩
   (try clear HO_11)
   (try clear BK483)
   (try clear BK484)
   (try clear BK485)
   (try clear BK488)
   (try clear BK493)
   (try clear HB)
   generalize ((w28.setCell ⟨gb493, 0, none⟩ (.int .i64 ((rd_T26 t489 x13_1).f0))).setCell ⟨gb493, 1, none⟩ (.int .i64 ((rd_T26 t489 x13_1).f1))) = w34 at n0_ n1_ n2_ n3_ n4_ n5_ n6_ ⊢
   have HO_11 := n0_
   have BK483 := n1_
   have BK484 := n2_
   have BK485 := n3_
   have BK488 := n4_
   have BK493 := n5_
   have HB := n6_
   clear n0_ n1_ n2_ n3_ n4_ n5_ n6_
   replace HO_11 := Aside0.mk (Kd.R_drew HO_11.out)
   replace BK483 := kd BK483
   replace BK484 := kd BK484
   replace BK485 := kd BK485
   replace BK488 := kd BK488
   replace BK493 := kd BK493
   replace HB := Aside0.mk (below_drew1 HB.out)
   have p494 : 0 ≤ (x13_1 : Int) := dA
   have q494 : x13_1 < (l0_2.length : Int) := dA
   obtain ⟨ad494, e494, hx494_0⟩ := Kd.at_int HR0_2.out x13_1 p494 q494
   have hw494_0 := hx494_0
   cases e494
   try replace hx494_0 := (HB.out.cell (World.block_lt_of_cell? w _ hx494_0)).trans hx494_0
   replace p494 := eq_true p494
   replace q494 := eq_true q494
   refine sS (n := 11) (S := fun w' => w'.cell? ⟨gb488, 0, none⟩ = some (.int .i64 x489000_1) ∧ w'.cell? ⟨gb488, 1, none⟩ = some (.int .i64 x489001_1) ∧ w'.cell? ⟨gb483, 0, none⟩ = some (.int .i64 a0_0) ∧ w'.cell? ⟨gb483, 1, none⟩ = some (.slice A0_1 l0_1.length c0_1) ∧ w'.cell? ⟨gb483, 2, none⟩ = some (.slice (some ad494) l0_2.length c0_2) ∧ w'.cell? ⟨gb493, 0, none⟩ = some (.int .i64 ((rd_T26 t489 x13_1).f0)) ∧ w'.cell? ⟨gb493, 1, none⟩ = some (.int .i64 ((rd_T26 t489 x13_1).f1)) ∧ w'.cell? (ad494.add (x13_1).toNat) = some (.int .i64 (rd l0_2 x13_1))) (ds := [10]) ⟨bc BK488 0, bc BK488 1, bc BK483 0, bc BK483 1, bc BK483 2, bc BK493 0, bc BK493 1, ((HB.out.cell (World.block_lt_of_cell? w _ hw494_0)).trans hw494_0)⟩ (fun hHeld => ?_); refine with_tabW congouref04_Value.tab5 congouref04_Value.bits5 (fun HT_ HW_ => ?_)
   generalize w34.drew = w35 at HO_11 BK483 BK484 BK485 BK488 BK493 HB hx494_0 hHeld ⊢
   refine pS 1 19 11 2 ?_
   refine pS 3 21 11 10 ?_
   refine tS 0 18 11 11 ?_
   refine tS 2 20 11 15 ?_
   refine pS 4 22 11 31 ?_
   refine tS 5 23 11 63 ?_
   refine tS 7 25 11 191 ?_
   refine one_ (i := 6) (N := some 24) (ba 11 255) rfl rfl (one_of HT_.out (by kernel_rfl)) (by decide) (fun K hK => ?_)
   refine gC Try.func56 #[.int .i64 (rd l0_2 x13_1)] ?_
   with_reducible refine (congouref04_whole.calls (rd l0_2 x13_1) t495 t496 _ A25.out).mono ?_
   rintro e w36 ⟨rfl, hb⟩
   refine ⟨_, rfl, ?_⟩
   replace HO_11 := kO HO_11 hb
   replace BK483 := kB BK483 hb
   replace BK484 := kB BK484 hb
   replace BK485 := kB BK485 hb
   replace BK488 := kB BK488 hb
   replace BK493 := kB BK493 hb
   replace HB := kH _ hb
   (try clear hb)
   (try clear hb2)
   (try clear hk)
   (try clear hi)
   refine hK.out _ _ ⟨bc BK488 0, bc BK488 1, bc BK483 0, bc BK483 1, bc BK483 2, bc BK493 0, bc BK493 1, ((HB.out.cell (World.block_lt_of_cell? w _ hw494_0)).trans hw494_0)⟩ (fun hHeld => ?_)
   clear hK K
   refine norm_ (a' := ?_) ?_ ?_
   rotate_left
   ·show Act.put _ (some 24) _ = _
    simp only [Act.put, List.setIfInBounds_toArray, List.set_cons_zero, List.set_cons_succ, i64_w, i32_w]
    rfl
   refine one_ (i := 8) (N := some 26) (ba 11 511) rfl rfl (one_of HT_.out (by kernel_rfl)) (by decide) (fun K hK => ?_)
   refine gC Try.func58 #[.agg #[.int .i64 t495, .int .i64 t496], .agg #[.int .i64 ((rd_T26 t489 x13_1).f0), .int .i64 ((rd_T26 t489 x13_1).f1)]] ?_
   with_reducible refine (congouref04_Times.calls k1 t495 t496 ((rd_T26 t489 x13_1).f0) ((rd_T26 t489 x13_1).f1) t497 t498 _ A26.out).mono ?_
   rintro e w37 ⟨rfl, hb⟩
   refine ⟨_, rfl, ?_⟩
   replace HO_11 := kO HO_11 hb
   replace BK483 := kB BK483 hb
   replace BK484 := kB BK484 hb
   replace BK485 := kB BK485 hb
   replace BK488 := kB BK488 hb
   replace BK493 := kB BK493 hb
   replace HB := kH _ hb
   (try clear hb)
   (try clear hb2)
   (try clear hk)
   (try clear hi)
   refine hK.out _ _ ⟨bc BK488 0, bc BK488 1, bc BK483 0, bc BK483 1, bc BK483 2, bc BK493 0, bc BK493 1, ((HB.out.cell (World.block_lt_of_cell? w _ hw494_0)).trans hw494_0)⟩ (fun hHeld => ?_)
   clear hK K
   refine norm_ (a' := ?_) ?_ ?_
   rotate_left
   ·show Act.put _ (some 26) _ = _
    simp only [Act.put, List.setIfInBounds_toArray, List.set_cons_zero, List.set_cons_succ, i64_w, i32_w]
    rfl
   refine one_ (i := 9) (N := some 27) (ba 11 1023) rfl rfl (one_of HT_.out (by kernel_rfl)) (by decide) (fun K hK => ?_)
   refine gC Try.func57 #[.agg #[.int .i64 x489000_1, .int .i64 x489001_1], .agg #[.int .i64 t497, .int .i64 t498]] ?_
   with_reducible refine (congouref04_Plus.calls k1 x489000_1 x489001_1 t497 t498 t499 t500 _ A27.out).mono ?_
   rintro e w38 ⟨rfl, hb⟩
   refine ⟨_, rfl, ?_⟩
   replace HO_11 := kO HO_11 hb
   replace BK483 := kB BK483 hb
   replace BK484 := kB BK484 hb
   replace BK485 := kB BK485 hb
   replace BK488 := kB BK488 hb
   replace BK493 := kB BK493 hb
   replace HB := kH _ hb
   (try clear hb)
   (try clear hb2)
   (try clear hk)
   (try clear hi)
   refine hK.out _ _ ⟨bc BK488 0, bc BK488 1, bc BK483 0, bc BK483 1, bc BK483 2, bc BK493 0, bc BK493 1, ((HB.out.cell (World.block_lt_of_cell? w _ hw494_0)).trans hw494_0)⟩ (fun hHeld => ?_)
   clear hK K
   refine norm_ (a' := ?_) ?_ ?_
   rotate_left
   ·show Act.put _ (some 27) _ = _
    simp only [Act.put, List.setIfInBounds_toArray, List.set_cons_zero, List.set_cons_succ, i64_w, i32_w]
    rfl
   refine last_ (i := 10) (N := none) (ba 11 2047) rfl rfl (one_of HT_.out (by kernel_rfl)) (by decide) (fun K hK => ?_)
   have hs39 : w38.cell? ⟨gb488, 0, none⟩ = some (.int .i64 x489000_1) := bc BK488 0
   have hfs39 := fz BK488 0
   have hns39_0 := NB483_488.out
   have hns39_1 := NB484_488.out
   have hns39_2 := NB485_488.out
   have hns39_4 := NB493_488.out
   have hms39_0 := NB488_483.out
   have hms39_1 := NB488_484.out
   have hms39_2 := NB488_485.out
   have hms39_4 := NB488_493.out
   have hs40 : w38.cell? ⟨gb488, 1, none⟩ = some (.int .i64 x489001_1) := bc BK488 1
   have hfs40 := fz BK488 1
   have hns40_0 := NB483_488.out
   have hns40_1 := NB484_488.out
   have hns40_2 := NB485_488.out
   have hns40_4 := NB493_488.out
   have hms40_0 := NB488_483.out
   have hms40_1 := NB488_484.out
   have hms40_2 := NB488_485.out
   have hms40_4 := NB488_493.out
   refine skip_ (w1 := ?_) (by rfl) rfl ?_ ?_
   rotate_left
   ·go_simp
    rfl
   refine hK.out _ _ ?_
   clear hK K
   refine done_ (done_of HT_.out (by kernel_rfl)) ?_
   try go_wp2
   go_roundg k1
   case measure => have := HK1.out; omega
   case rel => exact ⟨(wrap64 (x13_1 + 1)), (t499), (t500), (by first | rfl | (simp; done) | (simp [*]; done)), H', ⟨by have := HK1.out; omega⟩, ⟨by (with_reducible repeat (first | apply Kd.R_alloc | apply Kd.R_drewN | apply Kd.R_drew)); exact Kd.R_mono (Kd.R_far (p := ⟨gb488, 1, none⟩) (Kd.R_far (p := ⟨gb488, 0, none⟩) (Kd.R_mono HO_11.out (fun k_ hk => (⟨hk, hk.2.2.1⟩ : _ ∧ k_ ≠ gb488))) (fun _ hk => hk.2) (.int .i64 t499)) (fun _ hk => hk.2) (.int .i64 t500)) (fun _ hk => ⟨hk.1.1, ⟨hk.1.2.1, hk.1.2.2.1⟩⟩)⟩, ⟨bF BK483⟩, ⟨bF BK484⟩, ⟨bF BK485⟩, ⟨by (with_reducible repeat (first | refine blk_drewN ?_ _ | refine blk_drew ?_ | refine blk_alloc ?_ _)); refine blk_put (cs := #[.int .i64 t499, .int .i64 x489001_1]) ?_ 1 _ rfl; (with_reducible repeat (first | refine blk_drewN ?_ _ | refine blk_drew ?_ | refine blk_alloc ?_ _)); refine blk_put (cs := #[.int .i64 x489000_1, .int .i64 x489001_1]) ?_ 0 _ rfl; (with_reducible repeat (first | refine blk_drewN ?_ _ | refine blk_drew ?_ | refine blk_alloc ?_ _)); exact BK488.out⟩, ⟨hbC _⟩⟩

end Go.Proofs.Ytpnocmkpeogifaa.X
