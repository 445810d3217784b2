-- Written by a program of this work (wip/xprint.py, over the kit's printer) out of the translation.
import Derived.Test.YtpnocmkpeogifaaDoorX0
import Derived.Test.YtpnocmkpeogifaaDoorXG2a
import Derived.Test.YtpnocmkpeogifaaDoorXf17
import Derived.Test.YtpnocmkpeogifaaDoorXf19
import Derived.Test.YtpnocmkpeogifaaDoorXf26
import Derived.Test.YtpnocmkpeogifaaDoorXf27
namespace Go.Proofs.YtpnocmkpeogifaaDoor.X
open Go.RowKit Go.Proofs.YtpnocmkpeogifaaDoorW.PrintWords Go.Proofs.YtpnocmkpeogifaaDoorW.PrintLast Go.Proofs.YtpnocmkpeogifaaDoorW.PrintMore
attribute [local go_sem] max2_int min2_int max_two min_two max_three min_three max_four min_four   -- for this text's walks alone
set_option linter.unusedVariables false
set_option linter.unusedSimpArgs false

/-! ### curves_Value: function 14 -/
def curves_Value.l0 : Nat → List (S49) → Int → Int → Int → List Int → List Int → Int → Int → Option (Int × Int × Int)
 | 0, _, _, _, _, _, _, _, _ => none
 | k + 1, x25, x26, x27, x280000, x280001, x280002, x289000, x289001 => if x27 < x26 then (if 0 ≤ x27 then (if x27 < (x25.length : Int) then (if x27 < (x280002.length : Int) then ((curves_of.f k (rd x280002 x27) 1).bind fun bt295 => ((curves_ratio_times.f k ((rd_T49 x25 x27).f0.f0) ((rd_T49 x25 x27).f0.f1) bt295.1 bt295.2).bind fun bt297 => ((curves_ratio_plus.f k x289000 x289001 bt297.1 bt297.2).bind fun bt299 => (curves_Value.l0 k x25 x26 (wrap64 (x27 + 1)) x280000 x280001 x280002 bt299.1 bt299.2)))) else (none)) else (none)) else (none)) else (some (x289000, x289001, 0))
def curves_Value.f (k : Nat) (a0_0 : Int) (l0_1 : List Int) (l0_2 : List Int) (a1_0 : Int) (a1_1 : Int) : Option (Int × Int × Int) := (curves_Curve_at.f k a0_0 l0_1 l0_2 a1_0 a1_1).bind fun bt282 => (if bt282.2.2 = true then ((curves_of.f k 0 1).bind fun bt286 => ((curves_Curve_basic.f k a0_0 l0_1 l0_2 a0_0 bt282.1 bt282.2.1).bind fun t289 => (curves_Value.l0 k t289 (t289.length : Int) 0 a0_0 l0_1 l0_2 bt286.1 bt286.2))) else (some (0, 0, 2)))
theorem curves_Value.mono_l : ∀ k, (∀ y0 y1 y2 y3 y4 y5 y6 y7, LeO (curves_Value.l0 k y0 y1 y2 y3 y4 y5 y6 y7) (curves_Value.l0 (k + 1) y0 y1 y2 y3 y4 y5 y6 y7))
 | 0 => fun _ _ _ _ _ _ _ _ r h => by simp [curves_Value.l0] at h
 | k + 1 => by
  have ih0 := curves_Value.mono_l k
  ·intro y0 y1 y2 y3 y4 y5 y6 y7
   unfold curves_Value.l0
   repeat' first
   | (with_reducible exact ih0 _ _ _ _ _ _ _ _)
   | (with_reducible exact curves_Curve_at.mono _ _ _ _ _ _)
   | (with_reducible exact curves_Curve_basic.mono _ _ _ _ _ _ _)
   | (with_reducible exact curves_of.mono _ _ _)
   | (with_reducible exact curves_ratio_plus.mono _ _ _ _ _)
   | (with_reducible exact curves_ratio_times.mono _ _ _ _ _)
   | (with_reducible exact LeO.refl _)
   | (with_reducible exact LeO.none _)
   | (with_reducible refine LeO.ite ?_ ?_)
   | (with_reducible refine LeO.bind ?_ (fun _ => ?_))
   | exact ih0 _ _ _ _ _ _ _ _
   | exact curves_Curve_at.mono _ _ _ _ _ _
   | exact curves_Curve_basic.mono _ _ _ _ _ _ _
   | exact curves_of.mono _ _ _
   | exact curves_ratio_plus.mono _ _ _ _ _
   | exact curves_ratio_times.mono _ _ _ _ _
   | exact LeO.none _
   | refine LeO.ite ?_ ?_
   | refine LeO.bind ?_ (fun _ => ?_)
theorem curves_Value.mono : ∀ a0 a1 a2 a3 a4 k, LeO (curves_Value.f k a0 a1 a2 a3 a4) (curves_Value.f (k + 1) a0 a1 a2 a3 a4) := by
 intro a0 a1 a2 a3 a4 k
 have ih0 := curves_Value.mono_l k
 unfold curves_Value.f
 repeat' first
   | (with_reducible exact ih0 _ _ _ _ _ _ _ _)
   | (with_reducible exact curves_Curve_at.mono _ _ _ _ _ _)
   | (with_reducible exact curves_Curve_basic.mono _ _ _ _ _ _ _)
   | (with_reducible exact curves_of.mono _ _ _)
   | (with_reducible exact curves_ratio_plus.mono _ _ _ _ _)
   | (with_reducible exact curves_ratio_times.mono _ _ _ _ _)
   | (with_reducible exact LeO.refl _)
   | (with_reducible exact LeO.none _)
   | (with_reducible refine LeO.ite ?_ ?_)
   | (with_reducible refine LeO.bind ?_ (fun _ => ?_))
   | exact ih0 _ _ _ _ _ _ _ _
   | exact curves_Curve_at.mono _ _ _ _ _ _
   | exact curves_Curve_basic.mono _ _ _ _ _ _ _
   | exact curves_of.mono _ _ _
   | exact curves_ratio_plus.mono _ _ _ _ _
   | exact curves_ratio_times.mono _ _ _ _ _
   | exact LeO.none _
   | refine LeO.ite ?_ ?_
   | refine LeO.bind ?_ (fun _ => ?_)
def curves_Value.T8 : Bool × List (List Nat × List Nat) := (true, [([], []), ([], []), ([], []), ([2], [2]), ([], []), ([3, 4], [3, 4]), ([5], [5]), ([6], [6]), ([1, 7, 7], [1, 7]), ([0, 8, 8], [0, 8]), ([9, 9, 0, 1, 2, 3, 4, 5, 6, 7, 8, 9], [9])])
def curves_Value.B8 : List Nat := [0, 0, 0, 4, 0, 28, 60, 124, 254, 511, 1023]
theorem curves_Value.tab8 : rtab .any (opsOf Tryd.f14 8) = curves_Value.T8 := by kernel_rfl
theorem curves_Value.bits8 : waitsOk curves_Value.T8.2 curves_Value.B8 = true := by kernel_rfl
set_option maxHeartbeats 8000000 in
set_option maxRecDepth 100000 in
theorem curves_Value.calls (k : Nat) (a0_0 : Int) (A0_1 : Option Addr) (c0_1 : Nat) (l0_1 : List Int) (A0_2 : Option Addr) (c0_2 : Nat) (l0_2 : List Int) (a1_0 : Int) (a1_1 : Int) (r1 : Int) (r2 : Int) (r3 : Int) (w : World) (hr0_1 : Kd.C (Kd.int .i64) w A0_1 l0_1.length l0_1) (hc0_1 : l0_1.length ≤ c0_1) (hr0_2 : Kd.C (Kd.int .i64) w A0_2 l0_2.length l0_2) (hc0_2 : l0_2.length ≤ c0_2) (h : curves_Value.f k a0_0 l0_1 l0_2 a1_0 a1_1 = some (r1, r2, r3)) :
  Calls Tryd.prog 14 #[.agg #[.int .i64 a0_0, .slice A0_1 l0_1.length c0_1, .slice A0_2 l0_2.length c0_2], .agg #[.int .i64 a1_0, .int .i64 a1_1]] w fun e w' => e = .returned (.tuple #[.agg #[.int .i64 r1, .int .i64 r2], .int .i64 r3]) ∧ Below w.heap.size w w' := by
 have hu31 := Tryd.underlying31
 have hu26 := Tryd.underlying26
 have hu49 := Tryd.underlying49
 have HR0_1 := Aside0.mk hr0_1
 have HC0_1 := Aside0.mk hc0_1
 clear hr0_1 hc0_1
 have HR0_2 := Aside0.mk hr0_2
 have HC0_2 := Aside0.mk hc0_2
 clear hr0_2 hc0_2
 have HB := ak (Below.refl w.heap.size w)
 have H : ((curves_Curve_at.f k a0_0 l0_1 l0_2 a1_0 a1_1).bind fun bt282 => (if bt282.2.2 = true then ((curves_of.f k 0 1).bind fun bt286 => ((curves_Curve_basic.f k a0_0 l0_1 l0_2 a0_0 bt282.1 bt282.2.1).bind fun t289 => (curves_Value.l0 k t289 (t289.length : Int) 0 a0_0 l0_1 l0_2 bt286.1 bt286.2))) else (some (0, 0, 2)))) = some (r1, r2, r3) := h
 clear h
 replace H := Option.bind_eq_some_iff.mp H
 obtain ⟨⟨t282, t283, t284⟩, A30, H⟩ := H
 replace H : (if t284 = true then ((curves_of.f k 0 1).bind fun bt286 => ((curves_Curve_basic.f k a0_0 l0_1 l0_2 a0_0 t282 t283).bind fun t289 => (curves_Value.l0 k t289 (t289.length : Int) 0 a0_0 l0_1 l0_2 bt286.1 bt286.2))) else (some (0, 0, 2))) = some (r1, r2, r3) := H
 have A3 := Aside0.mk A30
 clear A30
 by_cases c4 : t284 = true
 rotate_left
 ·replace c4 := Bool.eq_false_iff.mpr c4
  subst c4
  have H1 : (some (0, 0, 2)) = some (r1, r2, r3) := by rw [if_neg (show ¬ (false = true) by decide)] at H; exact H
  clear H
  have H := H1
  clear H1
  simp only [Option.some.injEq, Prod.mk.injEq] at H
  obtain ⟨rfl, rfl, rfl⟩ := H
  go_enter Tryd.func14, Tryd.ntmps14
  go_wp2_with (first | ((with_reducible refine gate_dst (N := 2) rfl ?_); refine bE 2 #[.int .i64 a0_0, .slice A0_1 l0_1.length c0_1, .slice A0_2 l0_2.length c0_2] 31 ?_; intro gb279 hg w62 hbox hb; have BK279 := ak (hbox); have GW279 := kG w hg; have GE279 := kG w hg; replace HB := kH _ hb; clear hb hbox hg) | ((with_reducible refine gate_dst (N := 3) rfl ?_); refine bE 3 #[.int .i64 a1_0, .int .i64 a1_1] 26 ?_; intro gb280 hg w63 hbox hb; have BK280 := ak (hbox); have GW280 := kG w hg; have GE280 := kG w hg; replace HB := kH _ hb; have NB279_280 := kL BK279 hg; have NB280_279 := kR BK279 hg; replace BK279 := kB BK279 hb; clear hb hbox hg) | ((with_reducible refine gate_dst (N := 4) rfl ?_); refine bE 4 #[.int .i64 0, .int .i64 0] 26 ?_; intro gb281 hg w64 hbox hb; have BK281 := ak (hbox); have GW281 := kG w hg; have GE281 := kG w hg; replace HB := kH _ hb; have NB279_281 := kL BK279 hg; have NB281_279 := kR BK279 hg; replace BK279 := kB BK279 hb; have NB280_281 := kL BK280 hg; have NB281_280 := kR BK280 hg; replace BK280 := kB BK280 hb; clear hb hbox hg; have hnb65 := NB279_280.out; have hnc65 := NB280_279.out; have hnb66 := NB279_281.out; have hnc66 := NB281_279.out; have hcz67_0 : w64.cell? ⟨gb279, 0, none⟩ = some (.int .i64 a0_0) := bc BK279 0; have hcz67_1 : w64.cell? ⟨gb279, 1, none⟩ = some (.slice A0_1 l0_1.length c0_1) := bc BK279 1; have hcz67_2 : w64.cell? ⟨gb279, 2, none⟩ = some (.slice A0_2 l0_2.length c0_2) := bc BK279 2; have hfz67_0 := fz BK279 0; have hfz67_1 := fz BK279 1; have hfz67_2 := fz BK279 2; have hnb68 := NB280_281.out; have hnc68 := NB281_280.out; have hcz69_0 : w64.cell? ⟨gb280, 0, none⟩ = some (.int .i64 a1_0) := bc BK280 0; have hcz69_1 : w64.cell? ⟨gb280, 1, none⟩ = some (.int .i64 a1_1) := bc BK280 1; have hfz69_0 := fz BK280 0; have hfz69_1 := fz BK280 1) | ((with_reducible refine gate_callee (f := 17) rfl ?_); refine gL 14 Tryd.func17 #[.agg #[.int .i64 a0_0, .slice A0_1 l0_1.length c0_1, .slice A0_2 l0_2.length c0_2], .agg #[.int .i64 a1_0, .int .i64 a1_1]] ?_; (with_reducible refine (curves_Curve_at.calls k a0_0 _ _ l0_1 _ _ l0_2 a1_0 a1_1 t282 t283 false _ ?side1 ?side2 ?side3 ?side4 A3.out).mono ?_); (case side1 => exact kC HR0_1); (case side2 => exact HC0_1.out); (case side3 => exact kC HR0_2); (case side4 => exact HC0_2.out); rintro e w70 ⟨rfl, hb⟩; refine ⟨_, rfl, ?_⟩; replace BK279 := kB BK279 hb; replace BK280 := kB BK280 hb; replace BK281 := kB BK281 hb; replace HB := kH _ hb; (try clear hb); (try clear hb2); (try clear hk); (try clear hi)) | ((with_reducible refine gate_dst (N := 6) rfl ?_); refine bE 6 #[.int .i64 0, .int .i64 0] 49 ?_; intro gb285 hg w71 hbox hb; have BK285 := ak (hbox); have GW285 := kG w hg; have GE285 := kG w hg; replace HB := kH _ hb; have NB279_285 := kL BK279 hg; have NB285_279 := kR BK279 hg; replace BK279 := kB BK279 hb; have NB280_285 := kL BK280 hg; have NB285_280 := kR BK280 hg; replace BK280 := kB BK280 hb; have NB281_285 := kL BK281 hg; have NB285_281 := kR BK281 hg; replace BK281 := kB BK281 hb; clear hb hbox hg; have hnb72 := NB285_279.out; have hnc72 := NB279_285.out; have hnb73 := NB285_280.out; have hnc73 := NB280_285.out; have hnb74 := NB285_281.out; have hnc74 := NB281_285.out; have hcz75_0 : w71.cell? ⟨gb285, 0, none⟩ = some (.int .i64 0) := bc BK285 0; have hcz75_1 : w71.cell? ⟨gb285, 1, none⟩ = some (.int .i64 0) := bc BK285 1; have hfz75_0 := fz BK285 0; have hfz75_1 := fz BK285 1; have hcz76_0 : w71.cell? ⟨gb281, 0, none⟩ = some (.int .i64 0) := bc BK281 0; have hcz76_1 : w71.cell? ⟨gb281, 1, none⟩ = some (.int .i64 0) := bc BK281 1; have hfz76_0 := fz BK281 0; have hfz76_1 := fz BK281 1))
  refine bodyPost_ret (results_ct rfl _ _ gb281 26 #[.int .i64 0, .int .i64 0] (0, 0) _ rfl (by (with_reducible repeat (first | refine blk_drewN ?_ _ | refine blk_drew ?_ | refine blk_alloc ?_ _)); refine blk_put (cs := #[.int .i64 0, .int .i64 0]) ?_ 1 _ rfl; (with_reducible repeat (first | refine blk_drewN ?_ _ | refine blk_drew ?_ | refine blk_alloc ?_ _)); refine blk_put (cs := #[.int .i64 0, .int .i64 0]) ?_ 0 _ rfl; (with_reducible repeat (first | refine blk_drewN ?_ _ | refine blk_drew ?_ | refine blk_alloc ?_ _)); refine blk_far ?_ NB281_285.out _; (with_reducible repeat (first | refine blk_drewN ?_ _ | refine blk_drew ?_ | refine blk_alloc ?_ _)); refine blk_far ?_ NB281_285.out _; (with_reducible repeat (first | refine blk_drewN ?_ _ | refine blk_drew ?_ | refine blk_alloc ?_ _)); exact BK281.out) Tryd.underlying26 rfl (by kernel_rfl)) rfl ?_
  exact ⟨by first | rfl | (simp [errW_none, errW_some] <;> rfl) | (simp [*, errW_none, errW_some] <;> rfl), hbC _⟩
 subst c4
 have H1 : ((curves_of.f k 0 1).bind fun bt286 => ((curves_Curve_basic.f k a0_0 l0_1 l0_2 a0_0 t282 t283).bind fun t289 => (curves_Value.l0 k t289 (t289.length : Int) 0 a0_0 l0_1 l0_2 bt286.1 bt286.2))) = some (r1, r2, r3) := by rw [if_pos rfl] at H; exact H
 clear H
 have H := H1
 clear H1
 replace H := Option.bind_eq_some_iff.mp H
 obtain ⟨⟨t286, t287⟩, A50, H⟩ := H
 replace H : ((curves_Curve_basic.f k a0_0 l0_1 l0_2 a0_0 t282 t283).bind fun t289 => (curves_Value.l0 k t289 (t289.length : Int) 0 a0_0 l0_1 l0_2 t286 t287)) = some (r1, r2, r3) := H
 have A5 := Aside0.mk A50
 clear A50
 replace H := Option.bind_eq_some_iff.mp H
 obtain ⟨t289, A60, H⟩ := H
 replace H : (curves_Value.l0 k t289 (t289.length : Int) 0 a0_0 l0_1 l0_2 t286 t287) = some (r1, r2, r3) := H
 have A6 := Aside0.mk A60
 clear A60
 have H' := Aside0.mk H
 clear H
 go_enter Tryd.func14, Tryd.ntmps14
 go_wp2_with (first | ((with_reducible refine gate_dst (N := 2) rfl ?_); refine bE 2 #[.int .i64 a0_0, .slice A0_1 l0_1.length c0_1, .slice A0_2 l0_2.length c0_2] 31 ?_; intro gb279 hg w7 hbox hb; have BK279 := ak (hbox); have GW279 := kG w hg; have GE279 := kG w hg; replace HB := kH _ hb; clear hb hbox hg) | ((with_reducible refine gate_dst (N := 3) rfl ?_); refine bE 3 #[.int .i64 a1_0, .int .i64 a1_1] 26 ?_; intro gb280 hg w8 hbox hb; have BK280 := ak (hbox); have GW280 := kG w hg; have GE280 := kG w hg; replace HB := kH _ hb; have NB279_280 := kL BK279 hg; have NB280_279 := kR BK279 hg; replace BK279 := kB BK279 hb; clear hb hbox hg) | ((with_reducible refine gate_dst (N := 4) rfl ?_); refine bE 4 #[.int .i64 0, .int .i64 0] 26 ?_; intro gb281 hg w9 hbox hb; have BK281 := ak (hbox); have GW281 := kG w hg; have GE281 := kG w hg; replace HB := kH _ hb; have NB279_281 := kL BK279 hg; have NB281_279 := kR BK279 hg; replace BK279 := kB BK279 hb; have NB280_281 := kL BK280 hg; have NB281_280 := kR BK280 hg; replace BK280 := kB BK280 hb; clear hb hbox hg; have hnb10 := NB279_280.out; have hnc10 := NB280_279.out; have hnb11 := NB279_281.out; have hnc11 := NB281_279.out; have hcz12_0 : w9.cell? ⟨gb279, 0, none⟩ = some (.int .i64 a0_0) := bc BK279 0; have hcz12_1 : w9.cell? ⟨gb279, 1, none⟩ = some (.slice A0_1 l0_1.length c0_1) := bc BK279 1; have hcz12_2 : w9.cell? ⟨gb279, 2, none⟩ = some (.slice A0_2 l0_2.length c0_2) := bc BK279 2; have hfz12_0 := fz BK279 0; have hfz12_1 := fz BK279 1; have hfz12_2 := fz BK279 2; have hnb13 := NB280_281.out; have hnc13 := NB281_280.out; have hcz14_0 : w9.cell? ⟨gb280, 0, none⟩ = some (.int .i64 a1_0) := bc BK280 0; have hcz14_1 : w9.cell? ⟨gb280, 1, none⟩ = some (.int .i64 a1_1) := bc BK280 1; have hfz14_0 := fz BK280 0; have hfz14_1 := fz BK280 1) | ((with_reducible refine gate_callee (f := 17) rfl ?_); refine gL 14 Tryd.func17 #[.agg #[.int .i64 a0_0, .slice A0_1 l0_1.length c0_1, .slice A0_2 l0_2.length c0_2], .agg #[.int .i64 a1_0, .int .i64 a1_1]] ?_; (with_reducible refine (curves_Curve_at.calls k a0_0 _ _ l0_1 _ _ l0_2 a1_0 a1_1 t282 t283 true _ ?side1 ?side2 ?side3 ?side4 A3.out).mono ?_); (case side1 => exact kC HR0_1); (case side2 => exact HC0_1.out); (case side3 => exact kC HR0_2); (case side4 => exact HC0_2.out); rintro e w15 ⟨rfl, hb⟩; refine ⟨_, rfl, ?_⟩; replace BK279 := kB BK279 hb; replace BK280 := kB BK280 hb; replace BK281 := kB BK281 hb; replace HB := kH _ hb; (try clear hb); (try clear hb2); (try clear hk); (try clear hi)) | ((with_reducible refine gate_dst (N := 6) rfl ?_); refine bE 6 #[.int .i64 0, .int .i64 0] 49 ?_; intro gb285 hg w16 hbox hb; have BK285 := ak (hbox); have GW285 := kG w hg; have GE285 := kG w hg; replace HB := kH _ hb; have NB279_285 := kL BK279 hg; have NB285_279 := kR BK279 hg; replace BK279 := kB BK279 hb; have NB280_285 := kL BK280 hg; have NB285_280 := kR BK280 hg; replace BK280 := kB BK280 hb; have NB281_285 := kL BK281 hg; have NB285_281 := kR BK281 hg; replace BK281 := kB BK281 hb; clear hb hbox hg; have hnb17 := NB285_279.out; have hnc17 := NB279_285.out; have hnb18 := NB285_280.out; have hnc18 := NB280_285.out; have hnb19 := NB285_281.out; have hnc19 := NB281_285.out; have hcz20_0 : w16.cell? ⟨gb285, 0, none⟩ = some (.int .i64 0) := bc BK285 0; have hcz20_1 : w16.cell? ⟨gb285, 1, none⟩ = some (.int .i64 0) := bc BK285 1; have hfz20_0 := fz BK285 0; have hfz20_1 := fz BK285 1) | ((with_reducible refine gate_callee (f := 24) rfl ?_); refine gL 20 Tryd.func24 #[.int .i64 0, .int .i64 1] ?_; (with_reducible refine (curves_of.calls k 0 1 t286 t287 _ A5.out).mono ?_); rintro e w21 ⟨rfl, hb⟩; refine ⟨_, rfl, ?_⟩; replace BK279 := ak (blk_below (g := gb279) (o := .cells #[.int .i64 a0_0, .slice A0_1 l0_1.length c0_1, .slice A0_2 l0_2.length c0_2] 31 (0, 0)) (bF BK279) hb); replace BK280 := ak (blk_below (g := gb280) (o := .cells #[.int .i64 a1_0, .int .i64 a1_1] 26 (0, 0)) (bF BK280) hb); replace BK281 := ak (blk_below (g := gb281) (o := .cells #[.int .i64 0, .int .i64 0] 26 (0, 0)) (bF BK281) hb); replace BK285 := ak (blk_below (g := gb285) (o := .cells #[.int .i64 t282, .int .i64 t283] 49 (0, 0)) (by (with_reducible repeat (first | refine blk_drewN ?_ _ | refine blk_drew ?_ | refine blk_alloc ?_ _)); refine blk_put (cs := #[.int .i64 t282, .int .i64 0]) ?_ 1 _ rfl; (with_reducible repeat (first | refine blk_drewN ?_ _ | refine blk_drew ?_ | refine blk_alloc ?_ _)); refine blk_put (cs := #[.int .i64 0, .int .i64 0]) ?_ 0 _ rfl; (with_reducible repeat (first | refine blk_drewN ?_ _ | refine blk_drew ?_ | refine blk_alloc ?_ _)); exact BK285.out) hb); replace HB := kH _ hb; (try clear hb); (try clear hb2); (try clear hk); (try clear hi)) | ((with_reducible refine gate_dst (N := 8) rfl ?_); refine bE 8 #[.int .i64 0, .int .i64 0] 49 ?_; intro gb288 hg w22 hbox hb; have BK288 := ak (hbox); have GW288 := kG w hg; have GE288 := kG w hg; replace HB := kH _ hb; have NB279_288 := kL BK279 hg; have NB288_279 := kR BK279 hg; replace BK279 := kB BK279 hb; have NB280_288 := kL BK280 hg; have NB288_280 := kR BK280 hg; replace BK280 := kB BK280 hb; have NB281_288 := kL BK281 hg; have NB288_281 := kR BK281 hg; replace BK281 := kB BK281 hb; have NB285_288 := kL BK285 hg; have NB288_285 := kR BK285 hg; replace BK285 := kB BK285 hb; clear hb hbox hg; have hnb23 := NB288_279.out; have hnc23 := NB279_288.out; have hnb24 := NB288_280.out; have hnc24 := NB280_288.out; have hnb25 := NB288_281.out; have hnc25 := NB281_288.out; have hnb26 := NB288_285.out; have hnc26 := NB285_288.out; have hcz27_0 : w22.cell? ⟨gb288, 0, none⟩ = some (.int .i64 0) := bc BK288 0; have hcz27_1 : w22.cell? ⟨gb288, 1, none⟩ = some (.int .i64 0) := bc BK288 1; have hfz27_0 := fz BK288 0; have hfz27_1 := fz BK288 1; have hcz28_0 : w22.cell? ⟨gb279, 0, none⟩ = some (.int .i64 a0_0) := bc BK279 0; have hcz28_1 : w22.cell? ⟨gb279, 1, none⟩ = some (.slice A0_1 l0_1.length c0_1) := bc BK279 1; have hcz28_2 : w22.cell? ⟨gb279, 2, none⟩ = some (.slice A0_2 l0_2.length c0_2) := bc BK279 2; have hfz28_0 := fz BK279 0; have hfz28_1 := fz BK279 1; have hfz28_2 := fz BK279 2; have hcz29_0 : w22.cell? ⟨gb285, 0, none⟩ = some (.int .i64 t282) := bc BK285 0; have hcz29_1 : w22.cell? ⟨gb285, 1, none⟩ = some (.int .i64 t283) := bc BK285 1; have hfz29_0 := fz BK285 0; have hfz29_1 := fz BK285 1) | ((with_reducible refine gate_callee (f := 19) rfl ?_); refine gL 25 Tryd.func19 #[.agg #[.int .i64 a0_0, .slice A0_1 l0_1.length c0_1, .slice A0_2 l0_2.length c0_2], .int .i64 a0_0, .agg #[.int .i64 t282, .int .i64 t283]] ?_; (with_reducible refine (curves_Curve_basic.calls k a0_0 _ _ l0_1 _ _ l0_2 a0_0 t282 t283 t289 _ ?side1 ?side2 ?side3 ?side4 A6.out).mono ?_); (case side1 => exact Kd.C_below HR0_1.out (hbC _)); (case side2 => exact HC0_1.out); (case side3 => exact Kd.C_below HR0_2.out (hbC _)); (case side4 => exact HC0_2.out); rintro e w30 ⟨v290, rfl, ho0, hb⟩; refine ⟨_, rfl, ?_⟩; have HO291 := ak (Kd.R_lower (Kd.R_newB (Kd.R_newB ho0 (g := gb285) (o := .cells #[.int .i64 t282, .int .i64 t283] 49 (0, 0)) (bF BK285)) (g := gb288) (o := .cells #[.int .i64 t286, .int .i64 t287] 49 (0, 0)) (by (with_reducible repeat (first | refine blk_drewN ?_ _ | refine blk_drew ?_ | refine blk_alloc ?_ _)); refine blk_put (cs := #[.int .i64 t286, .int .i64 0]) ?_ 1 _ rfl; (with_reducible repeat (first | refine blk_drewN ?_ _ | refine blk_drew ?_ | refine blk_alloc ?_ _)); refine blk_put (cs := #[.int .i64 0, .int .i64 0]) ?_ 0 _ rfl; (with_reducible repeat (first | refine blk_drewN ?_ _ | refine blk_drew ?_ | refine blk_alloc ?_ _)); exact BK288.out)) (below_size (hbC _))); replace BK279 := ak (blk_below (g := gb279) (o := .cells #[.int .i64 a0_0, .slice A0_1 l0_1.length c0_1, .slice A0_2 l0_2.length c0_2] 31 (0, 0)) (bF BK279) hb); replace BK280 := ak (blk_below (g := gb280) (o := .cells #[.int .i64 a1_0, .int .i64 a1_1] 26 (0, 0)) (bF BK280) hb); replace BK281 := ak (blk_below (g := gb281) (o := .cells #[.int .i64 0, .int .i64 0] 26 (0, 0)) (bF BK281) hb); replace BK285 := ak (blk_below (g := gb285) (o := .cells #[.int .i64 t282, .int .i64 t283] 49 (0, 0)) (bF BK285) hb); replace BK288 := ak (blk_below (g := gb288) (o := .cells #[.int .i64 t286, .int .i64 t287] 49 (0, 0)) (by (with_reducible repeat (first | refine blk_drewN ?_ _ | refine blk_drew ?_ | refine blk_alloc ?_ _)); refine blk_put (cs := #[.int .i64 t286, .int .i64 0]) ?_ 1 _ rfl; (with_reducible repeat (first | refine blk_drewN ?_ _ | refine blk_drew ?_ | refine blk_alloc ?_ _)); refine blk_put (cs := #[.int .i64 0, .int .i64 0]) ?_ 0 _ rfl; (with_reducible repeat (first | refine blk_drewN ?_ _ | refine blk_drew ?_ | refine blk_alloc ?_ _)); exact BK288.out) hb); replace HB := kH _ hb; (try clear hb); (try clear hb2); (try clear hk); (try clear hi); (try clear ho0); obtain ⟨Ao31, co31, eo31⟩ := Kd.R_slice HO291.out; subst eo31))
 go_loopg [27] k (fun kq v27 w' => ∃ (x27_1 : Int) (x289000_1 : Int) (x289001_1 : Int), v27 = .int .i64 x27_1 ∧ Aside0 (curves_Value.l0 kq t289 (t289.length : Int) x27_1 a0_0 l0_1 l0_2 x289000_1 x289001_1 = some (r1, r2, r3)) ∧ Aside0 (kq ≤ k) ∧ Aside0 (Kd.R k49 49 w' w.heap.size (fun k_ => k_ ≠ gb285 ∧ k_ ≠ gb288) (.slice Ao31 t289.length co31) t289) ∧ Aside0 (w'.heap[gb279]? = some (.cells #[.int .i64 a0_0, (.slice A0_1 l0_1.length c0_1), (.slice A0_2 l0_2.length c0_2)] 31 (0, 0))) ∧ Aside0 (w'.heap[gb280]? = some (.cells #[.int .i64 a1_0, .int .i64 a1_1] 26 (0, 0))) ∧ Aside0 (w'.heap[gb281]? = some (.cells #[.int .i64 0, .int .i64 0] 26 (0, 0))) ∧ Aside0 (w'.heap[gb285]? = some (.cells #[.int .i64 t282, .int .i64 t283] 49 (0, 0))) ∧ Aside0 (w'.heap[gb288]? = some (.cells #[.int .i64 x289000_1, .int .i64 x289001_1] 49 (0, 0))) ∧ Aside0 (Below w.heap.size w w'))
 case atStart => exact ⟨(0), (t286), (t287), (by first | rfl | (simp; done) | (simp [*]; done)), H', ⟨Nat.le_refl _⟩, ⟨rD (Kd.R_mono HO291.out (fun _ hk => ⟨hk.1.2, hk.2⟩))⟩, ⟨bkC BK279⟩, ⟨bkC BK280⟩, ⟨bkC BK281⟩, ⟨bkC BK285⟩, ⟨bkC BK288⟩, ⟨hbC _⟩⟩
 case round =>
  clear H'
  try clear c1
  try clear c2
  try clear p2
  try clear c4
  try clear c10
  try clear c11
  try clear c13
  try clear c14
  try clear c17
  try clear c18
  try clear c19
  try clear c23
  try clear c24
  try clear c25
  try clear c26
  try clear hcz12_0
  try clear hcz12_1
  try clear hcz12_2
  try clear hcz14_0
  try clear hcz14_1
  try clear hcz20_0
  try clear hcz20_1
  try clear hcz27_0
  try clear hcz27_1
  try clear hcz28_0
  try clear hcz28_1
  try clear hcz28_2
  try clear hcz29_0
  try clear hcz29_1
  try clear hfz12_0
  try clear hfz12_1
  try clear hfz12_2
  try clear hfz14_0
  try clear hfz14_1
  try clear hfz20_0
  try clear hfz20_1
  try clear hfz27_0
  try clear hfz27_1
  try clear hfz28_0
  try clear hfz28_1
  try clear hfz28_2
  try clear hfz29_0
  try clear hfz29_1
  obtain ⟨x27_1, x289000_1, x289001_1, rfl, HA, HK1, HO_25, BK279, BK280, BK281, BK285, BK288, HB⟩ := hrel
  cases gk with
  | zero => exact absurd HA.out (by simp [curves_Value.l0])
  | succ k1 =>
   have H := HA.out
   clear HA
   simp only [curves_Value.l0] at H
   by_cases c32 : x27_1 < (t289.length : Int)
   rotate_left
   ·rw [if_neg c32] at H
    have c32b0 : decide (x27_1 < (t289.length : Int)) = false := decide_eq_false c32
    clear c32
    simp only [Option.some.injEq, Prod.mk.injEq] at H
    obtain ⟨rfl, rfl, rfl⟩ := H
    have hnb53 := NB288_279.out
    have hnc53 := NB279_288.out
    have hnb54 := NB288_280.out
    have hnc54 := NB280_288.out
    have hnb55 := NB288_281.out
    have hnc55 := NB281_288.out
    have hnb56 := NB288_285.out
    have hnc56 := NB285_288.out
    have hcz57_0 : wr.cell? ⟨gb288, 0, none⟩ = some (.int .i64 x289000_1) := bc BK288 0
    have hcz57_1 : wr.cell? ⟨gb288, 1, none⟩ = some (.int .i64 x289001_1) := bc BK288 1
    have hfz57_0 := fz BK288 0
    have hfz57_1 := fz BK288 1
    have hnb58 := NB281_279.out
    have hnc58 := NB279_281.out
    have hnb59 := NB281_280.out
    have hnc59 := NB280_281.out
    have hnb60 := NB281_285.out
    have hnc60 := NB285_281.out
    have hcz61_0 : wr.cell? ⟨gb281, 0, none⟩ = some (.int .i64 0) := bc BK281 0
    have hcz61_1 : wr.cell? ⟨gb281, 1, none⟩ = some (.int .i64 0) := bc BK281 1
    have hfz61_0 := fz BK281 0
    have hfz61_1 := fz BK281 1
    go_wp2
    refine bodyPost_ret (results_ct rfl _ _ gb281 26 #[.int .i64 x289000_1, .int .i64 x289001_1] (0, 0) _ rfl (by (with_reducible repeat (first | refine blk_drewN ?_ _ | refine blk_drew ?_ | refine blk_alloc ?_ _)); refine blk_put (cs := #[.int .i64 x289000_1, .int .i64 0]) ?_ 1 _ rfl; (with_reducible repeat (first | refine blk_drewN ?_ _ | refine blk_drew ?_ | refine blk_alloc ?_ _)); refine blk_put (cs := #[.int .i64 0, .int .i64 0]) ?_ 0 _ rfl; (with_reducible repeat (first | refine blk_drewN ?_ _ | refine blk_drew ?_ | refine blk_alloc ?_ _)); exact BK281.out) Tryd.underlying26 rfl (by kernel_rfl)) rfl ?_
    exact ⟨by first | rfl | (simp [errW_none, errW_some] <;> rfl) | (simp [*, errW_none, errW_some] <;> rfl), hbC _⟩
   rw [if_pos c32] at H
   have c32b0 : decide (x27_1 < (t289.length : Int)) = true := decide_eq_true c32
   clear c32
   by_cases c33 : 0 ≤ x27_1
   rotate_left
   ·rw [if_neg c33] at H
    exact absurd H (by simp)
   rw [if_pos c33] at H
   have c33b0 : decide (0 ≤ x27_1) = true := decide_eq_true c33
   clear c33
   by_cases c34 : x27_1 < (t289.length : Int)
   rotate_left
   ·rw [if_neg c34] at H
    exact absurd H (by simp)
   rw [if_pos c34] at H
   have c34b0 : decide (x27_1 < (t289.length : Int)) = true := decide_eq_true c34
   clear c34
   by_cases c35 : x27_1 < (l0_2.length : Int)
   rotate_left
   ·rw [if_neg c35] at H
    exact absurd H (by simp)
   rw [if_pos c35] at H
   have c35b0 : decide (x27_1 < (l0_2.length : Int)) = true := decide_eq_true c35
   clear c35
   replace H := Option.bind_eq_some_iff.mp H
   obtain ⟨⟨t295, t296⟩, A360, H⟩ := H
   replace H : ((curves_ratio_times.f k1 ((rd_T49 t289 x27_1).f0.f0) ((rd_T49 t289 x27_1).f0.f1) t295 t296).bind fun bt297 => ((curves_ratio_plus.f k1 x289000_1 x289001_1 bt297.1 bt297.2).bind fun bt299 => (curves_Value.l0 k1 t289 (t289.length : Int) (wrap64 (x27_1 + 1)) a0_0 l0_1 l0_2 bt299.1 bt299.2))) = some (r1, r2, r3) := H
   have A36 := Aside0.mk A360
   clear A360
   replace H := Option.bind_eq_some_iff.mp H
   obtain ⟨⟨t297, t298⟩, A370, H⟩ := H
   replace H : ((curves_ratio_plus.f k1 x289000_1 x289001_1 t297 t298).bind fun bt299 => (curves_Value.l0 k1 t289 (t289.length : Int) (wrap64 (x27_1 + 1)) a0_0 l0_1 l0_2 bt299.1 bt299.2)) = some (r1, r2, r3) := H
   have A37 := Aside0.mk A370
   clear A370
   replace H := Option.bind_eq_some_iff.mp H
   obtain ⟨⟨t299, t300⟩, A380, H⟩ := H
   replace H : (curves_Value.l0 k1 t289 (t289.length : Int) (wrap64 (x27_1 + 1)) a0_0 l0_1 l0_2 t299 t300) = some (r1, r2, r3) := H
   have A38 := Aside0.mk A380
   clear A380
   have H' := Aside0.mk H
   clear H
   have p292 : 0 ≤ (x27_1 : Int) := dA
   have q292 : x27_1 < (t289.length : Int) := dA
   obtain ⟨ad292, e292, hx292_0, hx292_1⟩ := at_T49 (Kd.R_reads' HO_25.out).2.2 x27_1 p292 q292
   cases e292
   replace p292 := eq_true p292
   replace q292 := eq_true q292
   try go_wp2_with (first | ((with_reducible refine gate_dst (N := 10) rfl ?_); refine bE 10 #[.int .i64 0, .int .i64 0] 49 ?_; intro gb293 hg w39 hbox hb; replace HO_25 := ak (Kd.R_below (Kd.R_elderB (rC HO_25) gb293 (Nat.le_of_eq hg.symm)) hb); have BK293 := ak (hbox); have GW293 := kG w hg; have GE293 := kG w hg; replace HB := kH _ hb; have NB279_293 := kL BK279 hg; have NB293_279 := kR BK279 hg; replace BK279 := kB BK279 hb; have NB280_293 := kL BK280 hg; have NB293_280 := kR BK280 hg; replace BK280 := kB BK280 hb; have NB281_293 := kL BK281 hg; have NB293_281 := kR BK281 hg; replace BK281 := kB BK281 hb; have NB285_293 := kL BK285 hg; have NB293_285 := kR BK285 hg; replace BK285 := kB BK285 hb; have NB288_293 := kL BK288 hg; have NB293_288 := kR BK288 hg; replace BK288 := kB BK288 hb; clear hb hbox hg; have hnb40 := NB293_279.out; have hnc40 := NB279_293.out; have hnb41 := NB293_280.out; have hnc41 := NB280_293.out; have hnb42 := NB293_281.out; have hnc42 := NB281_293.out; have hnb43 := NB293_285.out; have hnc43 := NB285_293.out; have hnb44 := NB293_288.out; have hnc44 := NB288_293.out; have hcz45_0 : w39.cell? ⟨gb293, 0, none⟩ = some (.int .i64 0) := bc BK293 0; have hcz45_1 : w39.cell? ⟨gb293, 1, none⟩ = some (.int .i64 0) := bc BK293 1; have hfz45_0 := fz BK293 0; have hfz45_1 := fz BK293 1))
   have n0_ : Aside0 (Kd.R k49 49 ((w39.setCell ⟨gb293, 0, none⟩ (.int .i64 ((rd_T49 t289 x27_1).f0.f0))).setCell ⟨gb293, 1, none⟩ (.int .i64 ((rd_T49 t289 x27_1).f0.f1))) w.heap.size (fun k_ => k_ ≠ gb285 ∧ k_ ≠ gb288 ∧ k_ ≠ gb293) (.slice (some ad292) t289.length co31) t289) := ⟨rD (Kd.R_mono (Kd.R_far (p := ⟨gb293, 1, none⟩) (Kd.R_far (p := ⟨gb293, 0, none⟩) (Kd.R_mono HO_25.out (fun k_ hk => (⟨hk, hk.2⟩ : _ ∧ k_ ≠ gb293))) (fun _ hk => hk.2) (.int .i64 ((rd_T49 t289 x27_1).f0.f0))) (fun _ hk => hk.2) (.int .i64 ((rd_T49 t289 x27_1).f0.f1))) (fun _ hk => ⟨hk.1.1.1, ⟨hk.1.1.2, hk.1.2⟩⟩))⟩
   have n1_ : Aside0 (((w39.setCell ⟨gb293, 0, none⟩ (.int .i64 ((rd_T49 t289 x27_1).f0.f0))).setCell ⟨gb293, 1, none⟩ (.int .i64 ((rd_T49 t289 x27_1).f0.f1))).heap[gb279]? = some (.cells #[.int .i64 a0_0, .slice A0_1 l0_1.length c0_1, .slice A0_2 l0_2.length c0_2] 31 (0, 0))) := ⟨bF BK279⟩
   have n2_ : Aside0 (((w39.setCell ⟨gb293, 0, none⟩ (.int .i64 ((rd_T49 t289 x27_1).f0.f0))).setCell ⟨gb293, 1, none⟩ (.int .i64 ((rd_T49 t289 x27_1).f0.f1))).heap[gb280]? = some (.cells #[.int .i64 a1_0, .int .i64 a1_1] 26 (0, 0))) := ⟨bF BK280⟩
   have n3_ : Aside0 (((w39.setCell ⟨gb293, 0, none⟩ (.int .i64 ((rd_T49 t289 x27_1).f0.f0))).setCell ⟨gb293, 1, none⟩ (.int .i64 ((rd_T49 t289 x27_1).f0.f1))).heap[gb281]? = some (.cells #[.int .i64 0, .int .i64 0] 26 (0, 0))) := ⟨bF BK281⟩
   have n4_ : Aside0 (((w39.setCell ⟨gb293, 0, none⟩ (.int .i64 ((rd_T49 t289 x27_1).f0.f0))).setCell ⟨gb293, 1, none⟩ (.int .i64 ((rd_T49 t289 x27_1).f0.f1))).heap[gb285]? = some (.cells #[.int .i64 t282, .int .i64 t283] 49 (0, 0))) := ⟨bF BK285⟩
   have n5_ : Aside0 (((w39.setCell ⟨gb293, 0, none⟩ (.int .i64 ((rd_T49 t289 x27_1).f0.f0))).setCell ⟨gb293, 1, none⟩ (.int .i64 ((rd_T49 t289 x27_1).f0.f1))).heap[gb288]? = some (.cells #[.int .i64 x289000_1, .int .i64 x289001_1] 49 (0, 0))) := ⟨bF BK288⟩
   have n6_ : Aside0 (((w39.setCell ⟨gb293, 0, none⟩ (.int .i64 ((rd_T49 t289 x27_1).f0.f0))).setCell ⟨gb293, 1, none⟩ (.int .i64 ((rd_T49 t289 x27_1).f0.f1))).heap[gb293]? = some (.cells #[.int .i64 ((rd_T49 t289 x27_1).f0.f0), .int .i64 ((rd_T49 t289 x27_1).f0.f1)] 49 (0, 0))) := ⟨by (with_reducible repeat (first | refine blk_drewN ?_ _ | refine blk_drew ?_ | refine blk_alloc ?_ _)); refine blk_put (cs := #[.int .i64 ((rd_T49 t289 x27_1).f0.f0), .int .i64 0]) ?_ 1 _ rfl; (with_reducible repeat (first | refine blk_drewN ?_ _ | refine blk_drew ?_ | refine blk_alloc ?_ _)); refine blk_put (cs := #[.int .i64 0, .int .i64 0]) ?_ 0 _ rfl; (with_reducible repeat (first | refine blk_drewN ?_ _ | refine blk_drew ?_ | refine blk_alloc ?_ _)); exact BK293.out⟩
   have n7_ : Aside0 (Below w.heap.size w ((w39.setCell ⟨gb293, 0, none⟩ (.int .i64 ((rd_T49 t289 x27_1).f0.f0))).setCell ⟨gb293, 1, none⟩ (.int .i64 ((rd_T49 t289 x27_1).f0.f1)))) := ⟨hbC _⟩
   (try clear HO_25)
   (try clear BK279)
   (try clear BK280)
   (try clear BK281)
   (try clear BK285)
   (try clear BK288)
   (try clear BK293)
   (try clear HB)
   generalize ((w39.setCell ⟨gb293, 0, none⟩ (.int .i64 ((rd_T49 t289 x27_1).f0.f0))).setCell ⟨gb293, 1, none⟩ (.int .i64 ((rd_T49 t289 x27_1).f0.f1))) = w46 at n0_ n1_ n2_ n3_ n4_ n5_ n6_ n7_ ⊢
   have HO_25 := n0_
   have BK279 := n1_
   have BK280 := n2_
   have BK281 := n3_
   have BK285 := n4_
   have BK288 := n5_
   have BK293 := n6_
   have HB := n7_
   clear n0_ n1_ n2_ n3_ n4_ n5_ n6_ n7_
   replace HO_25 := ak (Kd.R_drew HO_25.out)
   replace BK279 := kd BK279
   replace BK280 := kd BK280
   replace BK281 := kd BK281
   replace BK285 := kd BK285
   replace BK288 := kd BK288
   replace BK293 := kd BK293
   replace HB := ak (below_drew1 HB.out)
   have p294 : 0 ≤ (x27_1 : Int) := dA
   have q294 : x27_1 < (l0_2.length : Int) := dA
   obtain ⟨ad294, e294, hx294_0⟩ := Kd.at_int HR0_2.out x27_1 p294 q294
   have hw294_0 := hx294_0
   cases e294
   try replace hx294_0 := (HB.out.cell (World.block_lt_of_cell? w _ hx294_0)).trans hx294_0
   replace p294 := eq_true p294
   replace q294 := eq_true q294
   refine sS (n := 11) (S := fun w' => w'.cell? ⟨gb288, 0, none⟩ = some (.int .i64 x289000_1) ∧ w'.cell? ⟨gb288, 1, none⟩ = some (.int .i64 x289001_1) ∧ w'.cell? ⟨gb293, 0, none⟩ = some (.int .i64 ((rd_T49 t289 x27_1).f0.f0)) ∧ w'.cell? ⟨gb293, 1, none⟩ = some (.int .i64 ((rd_T49 t289 x27_1).f0.f1)) ∧ w'.cell? ⟨gb279, 0, none⟩ = some (.int .i64 a0_0) ∧ w'.cell? ⟨gb279, 1, none⟩ = some (.slice A0_1 l0_1.length c0_1) ∧ w'.cell? ⟨gb279, 2, none⟩ = some (.slice (some ad294) l0_2.length c0_2) ∧ w'.cell? (ad294.add (x27_1).toNat) = some (.int .i64 (rd l0_2 x27_1))) (ds := [10]) ⟨bc BK288 0, bc BK288 1, bc BK293 0, bc BK293 1, bc BK279 0, bc BK279 1, bc BK279 2, ((HB.out.cell (World.block_lt_of_cell? w _ hw294_0)).trans hw294_0)⟩ (fun hHeld => ?_); refine with_tabW curves_Value.tab8 curves_Value.bits8 (fun HT_ HW_ => ?_)
   generalize w46.drew = w47 at HO_25 BK279 BK280 BK281 BK285 BK288 BK293 HB hx294_0 hHeld ⊢
   refine pS 2 34 11 4 ?_
   refine pS 4 36 11 20 ?_
   refine tS 0 32 11 21 ?_
   refine tS 1 33 11 23 ?_
   refine tS 3 35 11 31 ?_
   refine pS 5 37 11 63 ?_
   refine tS 6 38 11 127 ?_
   refine one_ (i := 7) (N := some 39) (ba 11 255) rfl rfl (one_of HT_.out (by kernel_rfl)) (by decide) (fun K hK => ?_)
   refine gC Tryd.func24 #[.int .i64 (rd l0_2 x27_1), .int .i64 1] ?_
   with_reducible refine (curves_of.calls k1 (rd l0_2 x27_1) 1 t295 t296 _ A36.out).mono ?_
   rintro e w48 ⟨rfl, hb⟩
   refine ⟨_, rfl, ?_⟩
   replace HO_25 := kO HO_25 hb
   replace BK279 := kB BK279 hb
   replace BK280 := kB BK280 hb
   replace BK281 := kB BK281 hb
   replace BK285 := kB BK285 hb
   replace BK288 := kB BK288 hb
   replace BK293 := kB BK293 hb
   replace HB := kH _ hb
   (try clear hb)
   (try clear hb2)
   (try clear hk)
   (try clear hi)
   refine hK.out _ _ ⟨bc BK288 0, bc BK288 1, bc BK293 0, bc BK293 1, bc BK279 0, bc BK279 1, bc BK279 2, ((HB.out.cell (World.block_lt_of_cell? w _ hw294_0)).trans hw294_0)⟩ (fun hHeld => ?_)
   clear hK K
   refine norm_ (a' := ?_) ?_ ?_
   rotate_left
   ·show Act.put _ (some 39) _ = _
    simp only [Act.put, List.setIfInBounds_toArray, List.set_cons_zero, List.set_cons_succ, i64_w, i32_w]
    rfl
   refine one_ (i := 8) (N := some 40) (ba 11 511) rfl rfl (one_of HT_.out (by kernel_rfl)) (by decide) (fun K hK => ?_)
   refine gC Tryd.func27 #[.agg #[.int .i64 ((rd_T49 t289 x27_1).f0.f0), .int .i64 ((rd_T49 t289 x27_1).f0.f1)], .agg #[.int .i64 t295, .int .i64 t296]] ?_
   with_reducible refine (curves_ratio_times.calls k1 ((rd_T49 t289 x27_1).f0.f0) ((rd_T49 t289 x27_1).f0.f1) t295 t296 t297 t298 _ A37.out).mono ?_
   rintro e w49 ⟨rfl, hb⟩
   refine ⟨_, rfl, ?_⟩
   replace HO_25 := kO HO_25 hb
   replace BK279 := kB BK279 hb
   replace BK280 := kB BK280 hb
   replace BK281 := kB BK281 hb
   replace BK285 := kB BK285 hb
   replace BK288 := kB BK288 hb
   replace BK293 := kB BK293 hb
   replace HB := kH _ hb
   (try clear hb)
   (try clear hb2)
   (try clear hk)
   (try clear hi)
   refine hK.out _ _ ⟨bc BK288 0, bc BK288 1, bc BK293 0, bc BK293 1, bc BK279 0, bc BK279 1, bc BK279 2, ((HB.out.cell (World.block_lt_of_cell? w _ hw294_0)).trans hw294_0)⟩ (fun hHeld => ?_)
   clear hK K
   refine norm_ (a' := ?_) ?_ ?_
   rotate_left
   ·show Act.put _ (some 40) _ = _
    simp only [Act.put, List.setIfInBounds_toArray, List.set_cons_zero, List.set_cons_succ, i64_w, i32_w]
    rfl
   refine one_ (i := 9) (N := some 41) (ba 11 1023) rfl rfl (one_of HT_.out (by kernel_rfl)) (by decide) (fun K hK => ?_)
   refine gC Tryd.func26 #[.agg #[.int .i64 x289000_1, .int .i64 x289001_1], .agg #[.int .i64 t297, .int .i64 t298]] ?_
   with_reducible refine (curves_ratio_plus.calls k1 x289000_1 x289001_1 t297 t298 t299 t300 _ A38.out).mono ?_
   rintro e w50 ⟨rfl, hb⟩
   refine ⟨_, rfl, ?_⟩
   replace HO_25 := kO HO_25 hb
   replace BK279 := kB BK279 hb
   replace BK280 := kB BK280 hb
   replace BK281 := kB BK281 hb
   replace BK285 := kB BK285 hb
   replace BK288 := kB BK288 hb
   replace BK293 := kB BK293 hb
   replace HB := kH _ hb
   (try clear hb)
   (try clear hb2)
   (try clear hk)
   (try clear hi)
   refine hK.out _ _ ⟨bc BK288 0, bc BK288 1, bc BK293 0, bc BK293 1, bc BK279 0, bc BK279 1, bc BK279 2, ((HB.out.cell (World.block_lt_of_cell? w _ hw294_0)).trans hw294_0)⟩ (fun hHeld => ?_)
   clear hK K
   refine norm_ (a' := ?_) ?_ ?_
   rotate_left
   ·show Act.put _ (some 41) _ = _
    simp only [Act.put, List.setIfInBounds_toArray, List.set_cons_zero, List.set_cons_succ, i64_w, i32_w]
    rfl
   refine last_ (i := 10) (N := none) (ba 11 2047) rfl rfl (one_of HT_.out (by kernel_rfl)) (by decide) (fun K hK => ?_)
   have hs51 : w50.cell? ⟨gb288, 0, none⟩ = some (.int .i64 x289000_1) := bc BK288 0
   have hfs51 := fz BK288 0
   have hns51_0 := NB279_288.out
   have hns51_1 := NB280_288.out
   have hns51_2 := NB281_288.out
   have hns51_3 := NB285_288.out
   have hns51_5 := NB293_288.out
   have hms51_0 := NB288_279.out
   have hms51_1 := NB288_280.out
   have hms51_2 := NB288_281.out
   have hms51_3 := NB288_285.out
   have hms51_5 := NB288_293.out
   have hs52 : w50.cell? ⟨gb288, 1, none⟩ = some (.int .i64 x289001_1) := bc BK288 1
   have hfs52 := fz BK288 1
   have hns52_0 := NB279_288.out
   have hns52_1 := NB280_288.out
   have hns52_2 := NB281_288.out
   have hns52_3 := NB285_288.out
   have hns52_5 := NB293_288.out
   have hms52_0 := NB288_279.out
   have hms52_1 := NB288_280.out
   have hms52_2 := NB288_281.out
   have hms52_3 := NB288_285.out
   have hms52_5 := NB288_293.out
   refine skip_ (w1 := ?_) (by rfl) rfl ?_ ?_
   rotate_left
   ·go_simp
    rfl
   refine hK.out _ _ ?_
   clear hK K
   refine done_ (done_of HT_.out (by kernel_rfl)) ?_
   try go_wp2
   go_roundg k1
   case measure => have := HK1.out; omega
   case rel => exact ⟨(wrap64 (x27_1 + 1)), (t299), (t300), (by first | rfl | (simp; done) | (simp [*]; done)), H', ⟨by have := HK1.out; omega⟩, ⟨rD (Kd.R_mono (Kd.R_far (p := ⟨gb288, 1, none⟩) (Kd.R_far (p := ⟨gb288, 0, none⟩) (Kd.R_mono HO_25.out (fun k_ hk => (⟨hk, hk.2.1⟩ : _ ∧ k_ ≠ gb288))) (fun _ hk => hk.2) (.int .i64 t299)) (fun _ hk => hk.2) (.int .i64 t300)) (fun _ hk => ⟨hk.1.1, hk.1.2.1⟩))⟩, ⟨bF BK279⟩, ⟨bF BK280⟩, ⟨bF BK281⟩, ⟨bF BK285⟩, ⟨by (with_reducible repeat (first | refine blk_drewN ?_ _ | refine blk_drew ?_ | refine blk_alloc ?_ _)); refine blk_put (cs := #[.int .i64 t299, .int .i64 x289001_1]) ?_ 1 _ rfl; (with_reducible repeat (first | refine blk_drewN ?_ _ | refine blk_drew ?_ | refine blk_alloc ?_ _)); refine blk_put (cs := #[.int .i64 x289000_1, .int .i64 x289001_1]) ?_ 0 _ rfl; (with_reducible repeat (first | refine blk_drewN ?_ _ | refine blk_drew ?_ | refine blk_alloc ?_ _)); exact BK288.out⟩, ⟨hbC _⟩⟩

end Go.Proofs.YtpnocmkpeogifaaDoor.X
