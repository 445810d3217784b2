-- Written by a program of this work (wip/xprint.py, over the kit's printer) out of the translation.
import Derived.Test.YtpnocmkpeogifaaX0
import Derived.Test.YtpnocmkpeogifaaXG2a
import Derived.Test.YtpnocmkpeogifaaXf47
import Derived.Test.YtpnocmkpeogifaaXf49
import Derived.Test.YtpnocmkpeogifaaXf50
import Derived.Test.YtpnocmkpeogifaaXf51
namespace Go.Proofs.Ytpnocmkpeogifaa.X
open Go.RowKit Go.Proofs.YtpnocmkpeogifaaW.PrintWords Go.Proofs.YtpnocmkpeogifaaW.PrintLast Go.Proofs.YtpnocmkpeogifaaW.PrintMore
attribute [local go_sem] max2_int min2_int max_two min_two max_three min_three max_four min_four   -- for this text's walks alone
set_option linter.unusedVariables false
set_option linter.unusedSimpArgs false

/-! ### curves_Value: function 14 -/
def curves_Value.l0 : Nat → List (S76) → Int → Int → Int → List Int → List Int → Int → Int → Option (Int × Int × Int)
 | 0, _, _, _, _, _, _, _, _ => none
 | k + 1, x25, x26, x27, x243000, x243001, x243002, x252000, x252001 => if x27 < x26 then (if 0 ≤ x27 then (if x27 < (x25.length : Int) then (if x27 < (x243002.length : Int) then ((curves_of.f k (rd x243002 x27) 1).bind fun bt258 => ((curves_ratio_times.f k ((rd_T76 x25 x27).f0.f0) ((rd_T76 x25 x27).f0.f1) bt258.1 bt258.2).bind fun bt260 => ((curves_ratio_plus.f k x252000 x252001 bt260.1 bt260.2).bind fun bt262 => (curves_Value.l0 k x25 x26 (wrap64 (x27 + 1)) x243000 x243001 x243002 bt262.1 bt262.2)))) else (none)) else (none)) else (none)) else (some (x252000, x252001, 0))
def curves_Value.f (k : Nat) (a0_0 : Int) (l0_1 : List Int) (l0_2 : List Int) (a1_0 : Int) (a1_1 : Int) : Option (Int × Int × Int) := (curves_Curve_at.f k a0_0 l0_1 l0_2 a1_0 a1_1).bind fun bt245 => (if bt245.2.2 = true then ((curves_of.f k 0 1).bind fun bt249 => ((curves_Curve_basic.f k a0_0 l0_1 l0_2 a0_0 bt245.1 bt245.2.1).bind fun t252 => (curves_Value.l0 k t252 (t252.length : Int) 0 a0_0 l0_1 l0_2 bt249.1 bt249.2))) else (some (0, 0, 2)))
theorem curves_Value.mono_l : ∀ k, (∀ y0 y1 y2 y3 y4 y5 y6 y7, LeO (curves_Value.l0 k y0 y1 y2 y3 y4 y5 y6 y7) (curves_Value.l0 (k + 1) y0 y1 y2 y3 y4 y5 y6 y7))
 | 0 => fun _ _ _ _ _ _ _ _ r h => by simp [curves_Value.l0] at h
 | k + 1 => by
  have ih0 := curves_Value.mono_l k
  ·intro y0 y1 y2 y3 y4 y5 y6 y7
   unfold curves_Value.l0
   repeat' first
   | (with_reducible exact ih0 _ _ _ _ _ _ _ _)
   | (with_reducible exact curves_Curve_at.mono _ _ _ _ _ _)
   | (with_reducible exact curves_Curve_basic.mono _ _ _ _ _ _ _)
   | (with_reducible exact curves_of.mono _ _ _)
   | (with_reducible exact curves_ratio_plus.mono _ _ _ _ _)
   | (with_reducible exact curves_ratio_times.mono _ _ _ _ _)
   | (with_reducible exact LeO.refl _)
   | (with_reducible exact LeO.none _)
   | (with_reducible refine LeO.ite ?_ ?_)
   | (with_reducible refine LeO.bind ?_ (fun _ => ?_))
   | exact ih0 _ _ _ _ _ _ _ _
   | exact curves_Curve_at.mono _ _ _ _ _ _
   | exact curves_Curve_basic.mono _ _ _ _ _ _ _
   | exact curves_of.mono _ _ _
   | exact curves_ratio_plus.mono _ _ _ _ _
   | exact curves_ratio_times.mono _ _ _ _ _
   | exact LeO.none _
   | refine LeO.ite ?_ ?_
   | refine LeO.bind ?_ (fun _ => ?_)
theorem curves_Value.mono : ∀ a0 a1 a2 a3 a4 k, LeO (curves_Value.f k a0 a1 a2 a3 a4) (curves_Value.f (k + 1) a0 a1 a2 a3 a4) := by
 intro a0 a1 a2 a3 a4 k
 have ih0 := curves_Value.mono_l k
 unfold curves_Value.f
 repeat' first
   | (with_reducible exact ih0 _ _ _ _ _ _ _ _)
   | (with_reducible exact curves_Curve_at.mono _ _ _ _ _ _)
   | (with_reducible exact curves_Curve_basic.mono _ _ _ _ _ _ _)
   | (with_reducible exact curves_of.mono _ _ _)
   | (with_reducible exact curves_ratio_plus.mono _ _ _ _ _)
   | (with_reducible exact curves_ratio_times.mono _ _ _ _ _)
   | (with_reducible exact LeO.refl _)
   | (with_reducible exact LeO.none _)
   | (with_reducible refine LeO.ite ?_ ?_)
   | (with_reducible refine LeO.bind ?_ (fun _ => ?_))
   | exact ih0 _ _ _ _ _ _ _ _
   | exact curves_Curve_at.mono _ _ _ _ _ _
   | exact curves_Curve_basic.mono _ _ _ _ _ _ _
   | exact curves_of.mono _ _ _
   | exact curves_ratio_plus.mono _ _ _ _ _
   | exact curves_ratio_times.mono _ _ _ _ _
   | exact LeO.none _
   | refine LeO.ite ?_ ?_
   | refine LeO.bind ?_ (fun _ => ?_)
def curves_Value.T8 : Bool × List (List Nat × List Nat) := (true, [([], []), ([], []), ([], []), ([2], [2]), ([], []), ([3, 4], [3, 4]), ([5], [5]), ([6], [6]), ([1, 7, 7], [1, 7]), ([0, 8, 8], [0, 8]), ([9, 9, 0, 1, 2, 3, 4, 5, 6, 7, 8, 9], [9])])
def curves_Value.B8 : List Nat := [0, 0, 0, 4, 0, 28, 60, 124, 254, 511, 1023]
theorem curves_Value.tab8 : rtab .any (opsOf Try.f14 8) = curves_Value.T8 := by kernel_rfl
theorem curves_Value.bits8 : waitsOk curves_Value.T8.2 curves_Value.B8 = true := by kernel_rfl
set_option maxHeartbeats 8000000 in
set_option maxRecDepth 100000 in
theorem curves_Value.calls (k : Nat) (a0_0 : Int) (A0_1 : Option Addr) (c0_1 : Nat) (l0_1 : List Int) (A0_2 : Option Addr) (c0_2 : Nat) (l0_2 : List Int) (a1_0 : Int) (a1_1 : Int) (r1 : Int) (r2 : Int) (r3 : Int) (w : World) (hr0_1 : Kd.C (Kd.int .i64) w A0_1 l0_1.length l0_1) (hc0_1 : l0_1.length ≤ c0_1) (hr0_2 : Kd.C (Kd.int .i64) w A0_2 l0_2.length l0_2) (hc0_2 : l0_2.length ≤ c0_2) (h : curves_Value.f k a0_0 l0_1 l0_2 a1_0 a1_1 = some (r1, r2, r3)) :
  Calls Try.prog 14 #[.agg #[.int .i64 a0_0, .slice A0_1 l0_1.length c0_1, .slice A0_2 l0_2.length c0_2], .agg #[.int .i64 a1_0, .int .i64 a1_1]] w fun e w' => e = .returned (.tuple #[.agg #[.int .i64 r1, .int .i64 r2], .int .i64 r3]) ∧ Below w.heap.size w w' := by
 have hu30 := Try.underlying30
 have hu26 := Try.underlying26
 have hu76 := Try.underlying76
 have HR0_1 := Aside0.mk hr0_1
 have HC0_1 := Aside0.mk hc0_1
 clear hr0_1 hc0_1
 have HR0_2 := Aside0.mk hr0_2
 have HC0_2 := Aside0.mk hc0_2
 clear hr0_2 hc0_2
 have HB := ak (Below.refl w.heap.size w)
 have H : ((curves_Curve_at.f k a0_0 l0_1 l0_2 a1_0 a1_1).bind fun bt245 => (if bt245.2.2 = true then ((curves_of.f k 0 1).bind fun bt249 => ((curves_Curve_basic.f k a0_0 l0_1 l0_2 a0_0 bt245.1 bt245.2.1).bind fun t252 => (curves_Value.l0 k t252 (t252.length : Int) 0 a0_0 l0_1 l0_2 bt249.1 bt249.2))) else (some (0, 0, 2)))) = some (r1, r2, r3) := h
 clear h
 replace H := Option.bind_eq_some_iff.mp H
 obtain ⟨⟨t245, t246, t247⟩, A30, H⟩ := H
 replace H : (if t247 = true then ((curves_of.f k 0 1).bind fun bt249 => ((curves_Curve_basic.f k a0_0 l0_1 l0_2 a0_0 t245 t246).bind fun t252 => (curves_Value.l0 k t252 (t252.length : Int) 0 a0_0 l0_1 l0_2 bt249.1 bt249.2))) else (some (0, 0, 2))) = some (r1, r2, r3) := H
 have A3 := Aside0.mk A30
 clear A30
 by_cases c4 : t247 = true
 rotate_left
 ·replace c4 := Bool.eq_false_iff.mpr c4
  subst c4
  have H1 : (some (0, 0, 2)) = some (r1, r2, r3) := by rw [if_neg (show ¬ (false = true) by decide)] at H; exact H
  clear H
  have H := H1
  clear H1
  simp only [Option.some.injEq, Prod.mk.injEq] at H
  obtain ⟨rfl, rfl, rfl⟩ := H
  go_enter Try.func14, Try.ntmps14
  go_wp2_with (first | ((with_reducible refine gate_dst (N := 2) rfl ?_); refine bE 2 #[.int .i64 a0_0, .slice A0_1 l0_1.length c0_1, .slice A0_2 l0_2.length c0_2] 30 ?_; intro gb242 hg w62 hbox hb; have BK242 := ak (hbox); have GW242 := kG w hg; have GE242 := kG w hg; replace HB := kH _ hb; clear hb hbox hg) | ((with_reducible refine gate_dst (N := 3) rfl ?_); refine bE 3 #[.int .i64 a1_0, .int .i64 a1_1] 26 ?_; intro gb243 hg w63 hbox hb; have BK243 := ak (hbox); have GW243 := kG w hg; have GE243 := kG w hg; replace HB := kH _ hb; have NB242_243 := kL BK242 hg; have NB243_242 := kR BK242 hg; replace BK242 := kB BK242 hb; clear hb hbox hg) | ((with_reducible refine gate_dst (N := 4) rfl ?_); refine bE 4 #[.int .i64 0, .int .i64 0] 26 ?_; intro gb244 hg w64 hbox hb; have BK244 := ak (hbox); have GW244 := kG w hg; have GE244 := kG w hg; replace HB := kH _ hb; have NB242_244 := kL BK242 hg; have NB244_242 := kR BK242 hg; replace BK242 := kB BK242 hb; have NB243_244 := kL BK243 hg; have NB244_243 := kR BK243 hg; replace BK243 := kB BK243 hb; clear hb hbox hg; have hnb65 := NB242_243.out; have hnc65 := NB243_242.out; have hnb66 := NB242_244.out; have hnc66 := NB244_242.out; have hcz67_0 : w64.cell? ⟨gb242, 0, none⟩ = some (.int .i64 a0_0) := bc BK242 0; have hcz67_1 : w64.cell? ⟨gb242, 1, none⟩ = some (.slice A0_1 l0_1.length c0_1) := bc BK242 1; have hcz67_2 : w64.cell? ⟨gb242, 2, none⟩ = some (.slice A0_2 l0_2.length c0_2) := bc BK242 2; have hfz67_0 := fz BK242 0; have hfz67_1 := fz BK242 1; have hfz67_2 := fz BK242 2; have hnb68 := NB243_244.out; have hnc68 := NB244_243.out; have hcz69_0 : w64.cell? ⟨gb243, 0, none⟩ = some (.int .i64 a1_0) := bc BK243 0; have hcz69_1 : w64.cell? ⟨gb243, 1, none⟩ = some (.int .i64 a1_1) := bc BK243 1; have hfz69_0 := fz BK243 0; have hfz69_1 := fz BK243 1) | ((with_reducible refine gate_callee (f := 47) rfl ?_); refine gL 14 Try.func47 #[.agg #[.int .i64 a0_0, .slice A0_1 l0_1.length c0_1, .slice A0_2 l0_2.length c0_2], .agg #[.int .i64 a1_0, .int .i64 a1_1]] ?_; (with_reducible refine (curves_Curve_at.calls k a0_0 _ _ l0_1 _ _ l0_2 a1_0 a1_1 t245 t246 false _ ?side1 ?side2 ?side3 ?side4 A3.out).mono ?_); (case side1 => exact kC HR0_1); (case side2 => exact HC0_1.out); (case side3 => exact kC HR0_2); (case side4 => exact HC0_2.out); rintro e w70 ⟨rfl, hb⟩; refine ⟨_, rfl, ?_⟩; replace BK242 := kB BK242 hb; replace BK243 := kB BK243 hb; replace BK244 := kB BK244 hb; replace HB := kH _ hb; (try clear hb); (try clear hb2); (try clear hk); (try clear hi)) | ((with_reducible refine gate_dst (N := 6) rfl ?_); refine bE 6 #[.int .i64 0, .int .i64 0] 76 ?_; intro gb248 hg w71 hbox hb; have BK248 := ak (hbox); have GW248 := kG w hg; have GE248 := kG w hg; replace HB := kH _ hb; have NB242_248 := kL BK242 hg; have NB248_242 := kR BK242 hg; replace BK242 := kB BK242 hb; have NB243_248 := kL BK243 hg; have NB248_243 := kR BK243 hg; replace BK243 := kB BK243 hb; have NB244_248 := kL BK244 hg; have NB248_244 := kR BK244 hg; replace BK244 := kB BK244 hb; clear hb hbox hg; have hnb72 := NB248_242.out; have hnc72 := NB242_248.out; have hnb73 := NB248_243.out; have hnc73 := NB243_248.out; have hnb74 := NB248_244.out; have hnc74 := NB244_248.out; have hcz75_0 : w71.cell? ⟨gb248, 0, none⟩ = some (.int .i64 0) := bc BK248 0; have hcz75_1 : w71.cell? ⟨gb248, 1, none⟩ = some (.int .i64 0) := bc BK248 1; have hfz75_0 := fz BK248 0; have hfz75_1 := fz BK248 1; have hcz76_0 : w71.cell? ⟨gb244, 0, none⟩ = some (.int .i64 0) := bc BK244 0; have hcz76_1 : w71.cell? ⟨gb244, 1, none⟩ = some (.int .i64 0) := bc BK244 1; have hfz76_0 := fz BK244 0; have hfz76_1 := fz BK244 1))
  refine bodyPost_ret (results_ct rfl _ _ gb244 26 #[.int .i64 0, .int .i64 0] (0, 0) _ rfl (by (with_reducible repeat (first | refine blk_drewN ?_ _ | refine blk_drew ?_ | refine blk_alloc ?_ _)); refine blk_put (cs := #[.int .i64 0, .int .i64 0]) ?_ 1 _ rfl; (with_reducible repeat (first | refine blk_drewN ?_ _ | refine blk_drew ?_ | refine blk_alloc ?_ _)); refine blk_put (cs := #[.int .i64 0, .int .i64 0]) ?_ 0 _ rfl; (with_reducible repeat (first | refine blk_drewN ?_ _ | refine blk_drew ?_ | refine blk_alloc ?_ _)); refine blk_far ?_ NB244_248.out _; (with_reducible repeat (first | refine blk_drewN ?_ _ | refine blk_drew ?_ | refine blk_alloc ?_ _)); refine blk_far ?_ NB244_248.out _; (with_reducible repeat (first | refine blk_drewN ?_ _ | refine blk_drew ?_ | refine blk_alloc ?_ _)); exact BK244.out) Try.underlying26 rfl (by kernel_rfl)) rfl ?_
  exact ⟨by first | rfl | (simp [errW_none, errW_some] <;> rfl) | (simp [*, errW_none, errW_some] <;> rfl), hbC _⟩
 subst c4
 have H1 : ((curves_of.f k 0 1).bind fun bt249 => ((curves_Curve_basic.f k a0_0 l0_1 l0_2 a0_0 t245 t246).bind fun t252 => (curves_Value.l0 k t252 (t252.length : Int) 0 a0_0 l0_1 l0_2 bt249.1 bt249.2))) = some (r1, r2, r3) := by rw [if_pos rfl] at H; exact H
 clear H
 have H := H1
 clear H1
 replace H := Option.bind_eq_some_iff.mp H
 obtain ⟨⟨t249, t250⟩, A50, H⟩ := H
 replace H : ((curves_Curve_basic.f k a0_0 l0_1 l0_2 a0_0 t245 t246).bind fun t252 => (curves_Value.l0 k t252 (t252.length : Int) 0 a0_0 l0_1 l0_2 t249 t250)) = some (r1, r2, r3) := H
 have A5 := Aside0.mk A50
 clear A50
 replace H := Option.bind_eq_some_iff.mp H
 obtain ⟨t252, A60, H⟩ := H
 replace H : (curves_Value.l0 k t252 (t252.length : Int) 0 a0_0 l0_1 l0_2 t249 t250) = some (r1, r2, r3) := H
 have A6 := Aside0.mk A60
 clear A60
 have H' := Aside0.mk H
 clear H
 go_enter Try.func14, Try.ntmps14
 go_wp2_with (first | ((with_reducible refine gate_dst (N := 2) rfl ?_); refine bE 2 #[.int .i64 a0_0, .slice A0_1 l0_1.length c0_1, .slice A0_2 l0_2.length c0_2] 30 ?_; intro gb242 hg w7 hbox hb; have BK242 := ak (hbox); have GW242 := kG w hg; have GE242 := kG w hg; replace HB := kH _ hb; clear hb hbox hg) | ((with_reducible refine gate_dst (N := 3) rfl ?_); refine bE 3 #[.int .i64 a1_0, .int .i64 a1_1] 26 ?_; intro gb243 hg w8 hbox hb; have BK243 := ak (hbox); have GW243 := kG w hg; have GE243 := kG w hg; replace HB := kH _ hb; have NB242_243 := kL BK242 hg; have NB243_242 := kR BK242 hg; replace BK242 := kB BK242 hb; clear hb hbox hg) | ((with_reducible refine gate_dst (N := 4) rfl ?_); refine bE 4 #[.int .i64 0, .int .i64 0] 26 ?_; intro gb244 hg w9 hbox hb; have BK244 := ak (hbox); have GW244 := kG w hg; have GE244 := kG w hg; replace HB := kH _ hb; have NB242_244 := kL BK242 hg; have NB244_242 := kR BK242 hg; replace BK242 := kB BK242 hb; have NB243_244 := kL BK243 hg; have NB244_243 := kR BK243 hg; replace BK243 := kB BK243 hb; clear hb hbox hg; have hnb10 := NB242_243.out; have hnc10 := NB243_242.out; have hnb11 := NB242_244.out; have hnc11 := NB244_242.out; have hcz12_0 : w9.cell? ⟨gb242, 0, none⟩ = some (.int .i64 a0_0) := bc BK242 0; have hcz12_1 : w9.cell? ⟨gb242, 1, none⟩ = some (.slice A0_1 l0_1.length c0_1) := bc BK242 1; have hcz12_2 : w9.cell? ⟨gb242, 2, none⟩ = some (.slice A0_2 l0_2.length c0_2) := bc BK242 2; have hfz12_0 := fz BK242 0; have hfz12_1 := fz BK242 1; have hfz12_2 := fz BK242 2; have hnb13 := NB243_244.out; have hnc13 := NB244_243.out; have hcz14_0 : w9.cell? ⟨gb243, 0, none⟩ = some (.int .i64 a1_0) := bc BK243 0; have hcz14_1 : w9.cell? ⟨gb243, 1, none⟩ = some (.int .i64 a1_1) := bc BK243 1; have hfz14_0 := fz BK243 0; have hfz14_1 := fz BK243 1) | ((with_reducible refine gate_callee (f := 47) rfl ?_); refine gL 14 Try.func47 #[.agg #[.int .i64 a0_0, .slice A0_1 l0_1.length c0_1, .slice A0_2 l0_2.length c0_2], .agg #[.int .i64 a1_0, .int .i64 a1_1]] ?_; (with_reducible refine (curves_Curve_at.calls k a0_0 _ _ l0_1 _ _ l0_2 a1_0 a1_1 t245 t246 true _ ?side1 ?side2 ?side3 ?side4 A3.out).mono ?_); (case side1 => exact kC HR0_1); (case side2 => exact HC0_1.out); (case side3 => exact kC HR0_2); (case side4 => exact HC0_2.out); rintro e w15 ⟨rfl, hb⟩; refine ⟨_, rfl, ?_⟩; replace BK242 := kB BK242 hb; replace BK243 := kB BK243 hb; replace BK244 := kB BK244 hb; replace HB := kH _ hb; (try clear hb); (try clear hb2); (try clear hk); (try clear hi)) | ((with_reducible refine gate_dst (N := 6) rfl ?_); refine bE 6 #[.int .i64 0, .int .i64 0] 76 ?_; intro gb248 hg w16 hbox hb; have BK248 := ak (hbox); have GW248 := kG w hg; have GE248 := kG w hg; replace HB := kH _ hb; have NB242_248 := kL BK242 hg; have NB248_242 := kR BK242 hg; replace BK242 := kB BK242 hb; have NB243_248 := kL BK243 hg; have NB248_243 := kR BK243 hg; replace BK243 := kB BK243 hb; have NB244_248 := kL BK244 hg; have NB248_244 := kR BK244 hg; replace BK244 := kB BK244 hb; clear hb hbox hg; have hnb17 := NB248_242.out; have hnc17 := NB242_248.out; have hnb18 := NB248_243.out; have hnc18 := NB243_248.out; have hnb19 := NB248_244.out; have hnc19 := NB244_248.out; have hcz20_0 : w16.cell? ⟨gb248, 0, none⟩ = some (.int .i64 0) := bc BK248 0; have hcz20_1 : w16.cell? ⟨gb248, 1, none⟩ = some (.int .i64 0) := bc BK248 1; have hfz20_0 := fz BK248 0; have hfz20_1 := fz BK248 1) | ((with_reducible refine gate_callee (f := 48) rfl ?_); refine gL 20 Try.func48 #[.int .i64 0, .int .i64 1] ?_; (with_reducible refine (curves_of.calls k 0 1 t249 t250 _ A5.out).mono ?_); rintro e w21 ⟨rfl, hb⟩; refine ⟨_, rfl, ?_⟩; replace BK242 := ak (blk_below (g := gb242) (o := .cells #[.int .i64 a0_0, .slice A0_1 l0_1.length c0_1, .slice A0_2 l0_2.length c0_2] 30 (0, 0)) (bF BK242) hb); replace BK243 := ak (blk_below (g := gb243) (o := .cells #[.int .i64 a1_0, .int .i64 a1_1] 26 (0, 0)) (bF BK243) hb); replace BK244 := ak (blk_below (g := gb244) (o := .cells #[.int .i64 0, .int .i64 0] 26 (0, 0)) (bF BK244) hb); replace BK248 := ak (blk_below (g := gb248) (o := .cells #[.int .i64 t245, .int .i64 t246] 76 (0, 0)) (by (with_reducible repeat (first | refine blk_drewN ?_ _ | refine blk_drew ?_ | refine blk_alloc ?_ _)); refine blk_put (cs := #[.int .i64 t245, .int .i64 0]) ?_ 1 _ rfl; (with_reducible repeat (first | refine blk_drewN ?_ _ | refine blk_drew ?_ | refine blk_alloc ?_ _)); refine blk_put (cs := #[.int .i64 0, .int .i64 0]) ?_ 0 _ rfl; (with_reducible repeat (first | refine blk_drewN ?_ _ | refine blk_drew ?_ | refine blk_alloc ?_ _)); exact BK248.out) hb); replace HB := kH _ hb; (try clear hb); (try clear hb2); (try clear hk); (try clear hi)) | ((with_reducible refine gate_dst (N := 8) rfl ?_); refine bE 8 #[.int .i64 0, .int .i64 0] 76 ?_; intro gb251 hg w22 hbox hb; have BK251 := ak (hbox); have GW251 := kG w hg; have GE251 := kG w hg; replace HB := kH _ hb; have NB242_251 := kL BK242 hg; have NB251_242 := kR BK242 hg; replace BK242 := kB BK242 hb; have NB243_251 := kL BK243 hg; have NB251_243 := kR BK243 hg; replace BK243 := kB BK243 hb; have NB244_251 := kL BK244 hg; have NB251_244 := kR BK244 hg; replace BK244 := kB BK244 hb; have NB248_251 := kL BK248 hg; have NB251_248 := kR BK248 hg; replace BK248 := kB BK248 hb; clear hb hbox hg; have hnb23 := NB251_242.out; have hnc23 := NB242_251.out; have hnb24 := NB251_243.out; have hnc24 := NB243_251.out; have hnb25 := NB251_244.out; have hnc25 := NB244_251.out; have hnb26 := NB251_248.out; have hnc26 := NB248_251.out; have hcz27_0 : w22.cell? ⟨gb251, 0, none⟩ = some (.int .i64 0) := bc BK251 0; have hcz27_1 : w22.cell? ⟨gb251, 1, none⟩ = some (.int .i64 0) := bc BK251 1; have hfz27_0 := fz BK251 0; have hfz27_1 := fz BK251 1; have hcz28_0 : w22.cell? ⟨gb242, 0, none⟩ = some (.int .i64 a0_0) := bc BK242 0; have hcz28_1 : w22.cell? ⟨gb242, 1, none⟩ = some (.slice A0_1 l0_1.length c0_1) := bc BK242 1; have hcz28_2 : w22.cell? ⟨gb242, 2, none⟩ = some (.slice A0_2 l0_2.length c0_2) := bc BK242 2; have hfz28_0 := fz BK242 0; have hfz28_1 := fz BK242 1; have hfz28_2 := fz BK242 2; have hcz29_0 : w22.cell? ⟨gb248, 0, none⟩ = some (.int .i64 t245) := bc BK248 0; have hcz29_1 : w22.cell? ⟨gb248, 1, none⟩ = some (.int .i64 t246) := bc BK248 1; have hfz29_0 := fz BK248 0; have hfz29_1 := fz BK248 1) | ((with_reducible refine gate_callee (f := 49) rfl ?_); refine gL 25 Try.func49 #[.agg #[.int .i64 a0_0, .slice A0_1 l0_1.length c0_1, .slice A0_2 l0_2.length c0_2], .int .i64 a0_0, .agg #[.int .i64 t245, .int .i64 t246]] ?_; (with_reducible refine (curves_Curve_basic.calls k a0_0 _ _ l0_1 _ _ l0_2 a0_0 t245 t246 t252 _ ?side1 ?side2 ?side3 ?side4 A6.out).mono ?_); (case side1 => exact Kd.C_below HR0_1.out (hbC _)); (case side2 => exact HC0_1.out); (case side3 => exact Kd.C_below HR0_2.out (hbC _)); (case side4 => exact HC0_2.out); rintro e w30 ⟨v253, rfl, ho0, hb⟩; refine ⟨_, rfl, ?_⟩; have HO254 := ak (Kd.R_lower (Kd.R_newB (Kd.R_newB ho0 (g := gb248) (o := .cells #[.int .i64 t245, .int .i64 t246] 76 (0, 0)) (bF BK248)) (g := gb251) (o := .cells #[.int .i64 t249, .int .i64 t250] 76 (0, 0)) (by (with_reducible repeat (first | refine blk_drewN ?_ _ | refine blk_drew ?_ | refine blk_alloc ?_ _)); refine blk_put (cs := #[.int .i64 t249, .int .i64 0]) ?_ 1 _ rfl; (with_reducible repeat (first | refine blk_drewN ?_ _ | refine blk_drew ?_ | refine blk_alloc ?_ _)); refine blk_put (cs := #[.int .i64 0, .int .i64 0]) ?_ 0 _ rfl; (with_reducible repeat (first | refine blk_drewN ?_ _ | refine blk_drew ?_ | refine blk_alloc ?_ _)); exact BK251.out)) (below_size (hbC _))); replace BK242 := ak (blk_below (g := gb242) (o := .cells #[.int .i64 a0_0, .slice A0_1 l0_1.length c0_1, .slice A0_2 l0_2.length c0_2] 30 (0, 0)) (bF BK242) hb); replace BK243 := ak (blk_below (g := gb243) (o := .cells #[.int .i64 a1_0, .int .i64 a1_1] 26 (0, 0)) (bF BK243) hb); replace BK244 := ak (blk_below (g := gb244) (o := .cells #[.int .i64 0, .int .i64 0] 26 (0, 0)) (bF BK244) hb); replace BK248 := ak (blk_below (g := gb248) (o := .cells #[.int .i64 t245, .int .i64 t246] 76 (0, 0)) (bF BK248) hb); replace BK251 := ak (blk_below (g := gb251) (o := .cells #[.int .i64 t249, .int .i64 t250] 76 (0, 0)) (by (with_reducible repeat (first | refine blk_drewN ?_ _ | refine blk_drew ?_ | refine blk_alloc ?_ _)); refine blk_put (cs := #[.int .i64 t249, .int .i64 0]) ?_ 1 _ rfl; (with_reducible repeat (first | refine blk_drewN ?_ _ | refine blk_drew ?_ | refine blk_alloc ?_ _)); refine blk_put (cs := #[.int .i64 0, .int .i64 0]) ?_ 0 _ rfl; (with_reducible repeat (first | refine blk_drewN ?_ _ | refine blk_drew ?_ | refine blk_alloc ?_ _)); exact BK251.out) hb); replace HB := kH _ hb; (try clear hb); (try clear hb2); (try clear hk); (try clear hi); (try clear ho0); obtain ⟨Ao31, co31, eo31⟩ := Kd.R_slice HO254.out; subst eo31))
 go_loopg [27] k (fun kq v27 w' => ∃ (x27_1 : Int) (x252000_1 : Int) (x252001_1 : Int), v27 = .int .i64 x27_1 ∧ Aside0 (curves_Value.l0 kq t252 (t252.length : Int) x27_1 a0_0 l0_1 l0_2 x252000_1 x252001_1 = some (r1, r2, r3)) ∧ Aside0 (kq ≤ k) ∧ Aside0 (Kd.R k76 76 w' w.heap.size (fun k_ => k_ ≠ gb248 ∧ k_ ≠ gb251) (.slice Ao31 t252.length co31) t252) ∧ Aside0 (w'.heap[gb242]? = some (.cells #[.int .i64 a0_0, (.slice A0_1 l0_1.length c0_1), (.slice A0_2 l0_2.length c0_2)] 30 (0, 0))) ∧ Aside0 (w'.heap[gb243]? = some (.cells #[.int .i64 a1_0, .int .i64 a1_1] 26 (0, 0))) ∧ Aside0 (w'.heap[gb244]? = some (.cells #[.int .i64 0, .int .i64 0] 26 (0, 0))) ∧ Aside0 (w'.heap[gb248]? = some (.cells #[.int .i64 t245, .int .i64 t246] 76 (0, 0))) ∧ Aside0 (w'.heap[gb251]? = some (.cells #[.int .i64 x252000_1, .int .i64 x252001_1] 76 (0, 0))) ∧ Aside0 (Below w.heap.size w w'))
 case atStart => exact ⟨(0), (t249), (t250), (by first | rfl | (simp; done) | (simp [*]; done)), H', ⟨Nat.le_refl _⟩, ⟨rD (Kd.R_mono HO254.out (fun _ hk => ⟨hk.1.2, hk.2⟩))⟩, ⟨bkC BK242⟩, ⟨bkC BK243⟩, ⟨bkC BK244⟩, ⟨bkC BK248⟩, ⟨bkC BK251⟩, ⟨hbC _⟩⟩
 case round =>
  clear H'
  try clear c1
  try clear c2
  try clear p2
  try clear c4
  try clear c10
  try clear c11
  try clear c13
  try clear c14
  try clear c17
  try clear c18
  try clear c19
  try clear c23
  try clear c24
  try clear c25
  try clear c26
  try clear hcz12_0
  try clear hcz12_1
  try clear hcz12_2
  try clear hcz14_0
  try clear hcz14_1
  try clear hcz20_0
  try clear hcz20_1
  try clear hcz27_0
  try clear hcz27_1
  try clear hcz28_0
  try clear hcz28_1
  try clear hcz28_2
  try clear hcz29_0
  try clear hcz29_1
  try clear hfz12_0
  try clear hfz12_1
  try clear hfz12_2
  try clear hfz14_0
  try clear hfz14_1
  try clear hfz20_0
  try clear hfz20_1
  try clear hfz27_0
  try clear hfz27_1
  try clear hfz28_0
  try clear hfz28_1
  try clear hfz28_2
  try clear hfz29_0
  try clear hfz29_1
  obtain ⟨x27_1, x252000_1, x252001_1, rfl, HA, HK1, HO_25, BK242, BK243, BK244, BK248, BK251, HB⟩ := hrel
  cases gk with
  | zero => exact absurd HA.out (by simp [curves_Value.l0])
  | succ k1 =>
   have H := HA.out
   clear HA
   simp only [curves_Value.l0] at H
   by_cases c32 : x27_1 < (t252.length : Int)
   rotate_left
   ·rw [if_neg c32] at H
    have c32b0 : decide (x27_1 < (t252.length : Int)) = false := decide_eq_false c32
    clear c32
    simp only [Option.some.injEq, Prod.mk.injEq] at H
    obtain ⟨rfl, rfl, rfl⟩ := H
    have hnb53 := NB251_242.out
    have hnc53 := NB242_251.out
    have hnb54 := NB251_243.out
    have hnc54 := NB243_251.out
    have hnb55 := NB251_244.out
    have hnc55 := NB244_251.out
    have hnb56 := NB251_248.out
    have hnc56 := NB248_251.out
    have hcz57_0 : wr.cell? ⟨gb251, 0, none⟩ = some (.int .i64 x252000_1) := bc BK251 0
    have hcz57_1 : wr.cell? ⟨gb251, 1, none⟩ = some (.int .i64 x252001_1) := bc BK251 1
    have hfz57_0 := fz BK251 0
    have hfz57_1 := fz BK251 1
    have hnb58 := NB244_242.out
    have hnc58 := NB242_244.out
    have hnb59 := NB244_243.out
    have hnc59 := NB243_244.out
    have hnb60 := NB244_248.out
    have hnc60 := NB248_244.out
    have hcz61_0 : wr.cell? ⟨gb244, 0, none⟩ = some (.int .i64 0) := bc BK244 0
    have hcz61_1 : wr.cell? ⟨gb244, 1, none⟩ = some (.int .i64 0) := bc BK244 1
    have hfz61_0 := fz BK244 0
    have hfz61_1 := fz BK244 1
    go_wp2
    refine bodyPost_ret (results_ct rfl _ _ gb244 26 #[.int .i64 x252000_1, .int .i64 x252001_1] (0, 0) _ rfl (by (with_reducible repeat (first | refine blk_drewN ?_ _ | refine blk_drew ?_ | refine blk_alloc ?_ _)); refine blk_put (cs := #[.int .i64 x252000_1, .int .i64 0]) ?_ 1 _ rfl; (with_reducible repeat (first | refine blk_drewN ?_ _ | refine blk_drew ?_ | refine blk_alloc ?_ _)); refine blk_put (cs := #[.int .i64 0, .int .i64 0]) ?_ 0 _ rfl; (with_reducible repeat (first | refine blk_drewN ?_ _ | refine blk_drew ?_ | refine blk_alloc ?_ _)); exact BK244.out) Try.underlying26 rfl (by kernel_rfl)) rfl ?_
    exact ⟨by first | rfl | (simp [errW_none, errW_some] <;> rfl) | (simp [*, errW_none, errW_some] <;> rfl), hbC _⟩
   rw [if_pos c32] at H
   have c32b0 : decide (x27_1 < (t252.length : Int)) = true := decide_eq_true c32
   clear c32
   by_cases c33 : 0 ≤ x27_1
   rotate_left
   ·rw [if_neg c33] at H
    exact absurd H (by simp)
   rw [if_pos c33] at H
   have c33b0 : decide (0 ≤ x27_1) = true := decide_eq_true c33
   clear c33
   by_cases c34 : x27_1 < (t252.length : Int)
   rotate_left
   ·rw [if_neg c34] at H
    exact absurd H (by simp)
   rw [if_pos c34] at H
   have c34b0 : decide (x27_1 < (t252.length : Int)) = true := decide_eq_true c34
   clear c34
   by_cases c35 : x27_1 < (l0_2.length : Int)
   rotate_left
   ·rw [if_neg c35] at H
    exact absurd H (by simp)
   rw [if_pos c35] at H
   have c35b0 : decide (x27_1 < (l0_2.length : Int)) = true := decide_eq_true c35
   clear c35
   replace H := Option.bind_eq_some_iff.mp H
   obtain ⟨⟨t258, t259⟩, A360, H⟩ := H
   replace H : ((curves_ratio_times.f k1 ((rd_T76 t252 x27_1).f0.f0) ((rd_T76 t252 x27_1).f0.f1) t258 t259).bind fun bt260 => ((curves_ratio_plus.f k1 x252000_1 x252001_1 bt260.1 bt260.2).bind fun bt262 => (curves_Value.l0 k1 t252 (t252.length : Int) (wrap64 (x27_1 + 1)) a0_0 l0_1 l0_2 bt262.1 bt262.2))) = some (r1, r2, r3) := H
   have A36 := Aside0.mk A360
   clear A360
   replace H := Option.bind_eq_some_iff.mp H
   obtain ⟨⟨t260, t261⟩, A370, H⟩ := H
   replace H : ((curves_ratio_plus.f k1 x252000_1 x252001_1 t260 t261).bind fun bt262 => (curves_Value.l0 k1 t252 (t252.length : Int) (wrap64 (x27_1 + 1)) a0_0 l0_1 l0_2 bt262.1 bt262.2)) = some (r1, r2, r3) := H
   have A37 := Aside0.mk A370
   clear A370
   replace H := Option.bind_eq_some_iff.mp H
   obtain ⟨⟨t262, t263⟩, A380, H⟩ := H
   replace H : (curves_Value.l0 k1 t252 (t252.length : Int) (wrap64 (x27_1 + 1)) a0_0 l0_1 l0_2 t262 t263) = some (r1, r2, r3) := H
   have A38 := Aside0.mk A380
   clear A380
   have H' := Aside0.mk H
   clear H
   have p255 : 0 ≤ (x27_1 : Int) := dA
   have q255 : x27_1 < (t252.length : Int) := dA
   obtain ⟨ad255, e255, hx255_0, hx255_1⟩ := at_T76 (Kd.R_reads' HO_25.out).2.2 x27_1 p255 q255
   cases e255
   replace p255 := eq_true p255
   replace q255 := eq_true q255
   try go_wp2_with (first | ((with_reducible refine gate_dst (N := 10) rfl ?_); refine bE 10 #[.int .i64 0, .int .i64 0] 76 ?_; intro gb256 hg w39 hbox hb; replace HO_25 := ak (Kd.R_below (Kd.R_elderB (rC HO_25) gb256 (Nat.le_of_eq hg.symm)) hb); have BK256 := ak (hbox); have GW256 := kG w hg; have GE256 := kG w hg; replace HB := kH _ hb; have NB242_256 := kL BK242 hg; have NB256_242 := kR BK242 hg; replace BK242 := kB BK242 hb; have NB243_256 := kL BK243 hg; have NB256_243 := kR BK243 hg; replace BK243 := kB BK243 hb; have NB244_256 := kL BK244 hg; have NB256_244 := kR BK244 hg; replace BK244 := kB BK244 hb; have NB248_256 := kL BK248 hg; have NB256_248 := kR BK248 hg; replace BK248 := kB BK248 hb; have NB251_256 := kL BK251 hg; have NB256_251 := kR BK251 hg; replace BK251 := kB BK251 hb; clear hb hbox hg; have hnb40 := NB256_242.out; have hnc40 := NB242_256.out; have hnb41 := NB256_243.out; have hnc41 := NB243_256.out; have hnb42 := NB256_244.out; have hnc42 := NB244_256.out; have hnb43 := NB256_248.out; have hnc43 := NB248_256.out; have hnb44 := NB256_251.out; have hnc44 := NB251_256.out; have hcz45_0 : w39.cell? ⟨gb256, 0, none⟩ = some (.int .i64 0) := bc BK256 0; have hcz45_1 : w39.cell? ⟨gb256, 1, none⟩ = some (.int .i64 0) := bc BK256 1; have hfz45_0 := fz BK256 0; have hfz45_1 := fz BK256 1))
   have n0_ : Aside0 (Kd.R k76 76 ((w39.setCell ⟨gb256, 0, none⟩ (.int .i64 ((rd_T76 t252 x27_1).f0.f0))).setCell ⟨gb256, 1, none⟩ (.int .i64 ((rd_T76 t252 x27_1).f0.f1))) w.heap.size (fun k_ => k_ ≠ gb248 ∧ k_ ≠ gb251 ∧ k_ ≠ gb256) (.slice (some ad255) t252.length co31) t252) := ⟨rD (Kd.R_mono (Kd.R_far (p := ⟨gb256, 1, none⟩) (Kd.R_far (p := ⟨gb256, 0, none⟩) (Kd.R_mono HO_25.out (fun k_ hk => (⟨hk, hk.2⟩ : _ ∧ k_ ≠ gb256))) (fun _ hk => hk.2) (.int .i64 ((rd_T76 t252 x27_1).f0.f0))) (fun _ hk => hk.2) (.int .i64 ((rd_T76 t252 x27_1).f0.f1))) (fun _ hk => ⟨hk.1.1.1, ⟨hk.1.1.2, hk.1.2⟩⟩))⟩
   have n1_ : Aside0 (((w39.setCell ⟨gb256, 0, none⟩ (.int .i64 ((rd_T76 t252 x27_1).f0.f0))).setCell ⟨gb256, 1, none⟩ (.int .i64 ((rd_T76 t252 x27_1).f0.f1))).heap[gb242]? = some (.cells #[.int .i64 a0_0, .slice A0_1 l0_1.length c0_1, .slice A0_2 l0_2.length c0_2] 30 (0, 0))) := ⟨bF BK242⟩
   have n2_ : Aside0 (((w39.setCell ⟨gb256, 0, none⟩ (.int .i64 ((rd_T76 t252 x27_1).f0.f0))).setCell ⟨gb256, 1, none⟩ (.int .i64 ((rd_T76 t252 x27_1).f0.f1))).heap[gb243]? = some (.cells #[.int .i64 a1_0, .int .i64 a1_1] 26 (0, 0))) := ⟨bF BK243⟩
   have n3_ : Aside0 (((w39.setCell ⟨gb256, 0, none⟩ (.int .i64 ((rd_T76 t252 x27_1).f0.f0))).setCell ⟨gb256, 1, none⟩ (.int .i64 ((rd_T76 t252 x27_1).f0.f1))).heap[gb244]? = some (.cells #[.int .i64 0, .int .i64 0] 26 (0, 0))) := ⟨bF BK244⟩
   have n4_ : Aside0 (((w39.setCell ⟨gb256, 0, none⟩ (.int .i64 ((rd_T76 t252 x27_1).f0.f0))).setCell ⟨gb256, 1, none⟩ (.int .i64 ((rd_T76 t252 x27_1).f0.f1))).heap[gb248]? = some (.cells #[.int .i64 t245, .int .i64 t246] 76 (0, 0))) := ⟨bF BK248⟩
   have n5_ : Aside0 (((w39.setCell ⟨gb256, 0, none⟩ (.int .i64 ((rd_T76 t252 x27_1).f0.f0))).setCell ⟨gb256, 1, none⟩ (.int .i64 ((rd_T76 t252 x27_1).f0.f1))).heap[gb251]? = some (.cells #[.int .i64 x252000_1, .int .i64 x252001_1] 76 (0, 0))) := ⟨bF BK251⟩
   have n6_ : Aside0 (((w39.setCell ⟨gb256, 0, none⟩ (.int .i64 ((rd_T76 t252 x27_1).f0.f0))).setCell ⟨gb256, 1, none⟩ (.int .i64 ((rd_T76 t252 x27_1).f0.f1))).heap[gb256]? = some (.cells #[.int .i64 ((rd_T76 t252 x27_1).f0.f0), .int .i64 ((rd_T76 t252 x27_1).f0.f1)] 76 (0, 0))) := ⟨by (with_reducible repeat (first | refine blk_drewN ?_ _ | refine blk_drew ?_ | refine blk_alloc ?_ _)); refine blk_put (cs := #[.int .i64 ((rd_T76 t252 x27_1).f0.f0), .int .i64 0]) ?_ 1 _ rfl; (with_reducible repeat (first | refine blk_drewN ?_ _ | refine blk_drew ?_ | refine blk_alloc ?_ _)); refine blk_put (cs := #[.int .i64 0, .int .i64 0]) ?_ 0 _ rfl; (with_reducible repeat (first | refine blk_drewN ?_ _ | refine blk_drew ?_ | refine blk_alloc ?_ _)); exact BK256.out⟩
   have n7_ : Aside0 (Below w.heap.size w ((w39.setCell ⟨gb256, 0, none⟩ (.int .i64 ((rd_T76 t252 x27_1).f0.f0))).setCell ⟨gb256, 1, none⟩ (.int .i64 ((rd_T76 t252 x27_1).f0.f1)))) := ⟨hbC _⟩
   (try clear HO_25)
   (try clear BK242)
   (try clear BK243)
   (try clear BK244)
   (try clear BK248)
   (try clear BK251)
   (try clear BK256)
   (try clear HB)
   generalize ((w39.setCell ⟨gb256, 0, none⟩ (.int .i64 ((rd_T76 t252 x27_1).f0.f0))).setCell ⟨gb256, 1, none⟩ (.int .i64 ((rd_T76 t252 x27_1).f0.f1))) = w46 at n0_ n1_ n2_ n3_ n4_ n5_ n6_ n7_ ⊢
   have HO_25 := n0_
   have BK242 := n1_
   have BK243 := n2_
   have BK244 := n3_
   have BK248 := n4_
   have BK251 := n5_
   have BK256 := n6_
   have HB := n7_
   clear n0_ n1_ n2_ n3_ n4_ n5_ n6_ n7_
   replace HO_25 := ak (Kd.R_drew HO_25.out)
   replace BK242 := kd BK242
   replace BK243 := kd BK243
   replace BK244 := kd BK244
   replace BK248 := kd BK248
   replace BK251 := kd BK251
   replace BK256 := kd BK256
   replace HB := ak (below_drew1 HB.out)
   have p257 : 0 ≤ (x27_1 : Int) := dA
   have q257 : x27_1 < (l0_2.length : Int) := dA
   obtain ⟨ad257, e257, hx257_0⟩ := Kd.at_int HR0_2.out x27_1 p257 q257
   have hw257_0 := hx257_0
   cases e257
   try replace hx257_0 := (HB.out.cell (World.block_lt_of_cell? w _ hx257_0)).trans hx257_0
   replace p257 := eq_true p257
   replace q257 := eq_true q257
   refine sS (n := 11) (S := fun w' => w'.cell? ⟨gb251, 0, none⟩ = some (.int .i64 x252000_1) ∧ w'.cell? ⟨gb251, 1, none⟩ = some (.int .i64 x252001_1) ∧ w'.cell? ⟨gb256, 0, none⟩ = some (.int .i64 ((rd_T76 t252 x27_1).f0.f0)) ∧ w'.cell? ⟨gb256, 1, none⟩ = some (.int .i64 ((rd_T76 t252 x27_1).f0.f1)) ∧ w'.cell? ⟨gb242, 0, none⟩ = some (.int .i64 a0_0) ∧ w'.cell? ⟨gb242, 1, none⟩ = some (.slice A0_1 l0_1.length c0_1) ∧ w'.cell? ⟨gb242, 2, none⟩ = some (.slice (some ad257) l0_2.length c0_2) ∧ w'.cell? (ad257.add (x27_1).toNat) = some (.int .i64 (rd l0_2 x27_1))) (ds := [10]) ⟨bc BK251 0, bc BK251 1, bc BK256 0, bc BK256 1, bc BK242 0, bc BK242 1, bc BK242 2, ((HB.out.cell (World.block_lt_of_cell? w _ hw257_0)).trans hw257_0)⟩ (fun hHeld => ?_); refine with_tabW curves_Value.tab8 curves_Value.bits8 (fun HT_ HW_ => ?_)
   generalize w46.drew = w47 at HO_25 BK242 BK243 BK244 BK248 BK251 BK256 HB hx257_0 hHeld ⊢
   refine pS 2 34 11 4 ?_
   refine pS 4 36 11 20 ?_
   refine tS 0 32 11 21 ?_
   refine tS 1 33 11 23 ?_
   refine tS 3 35 11 31 ?_
   refine pS 5 37 11 63 ?_
   refine tS 6 38 11 127 ?_
   refine one_ (i := 7) (N := some 39) (ba 11 255) rfl rfl (one_of HT_.out (by kernel_rfl)) (by decide) (fun K hK => ?_)
   refine gC Try.func48 #[.int .i64 (rd l0_2 x27_1), .int .i64 1] ?_
   with_reducible refine (curves_of.calls k1 (rd l0_2 x27_1) 1 t258 t259 _ A36.out).mono ?_
   rintro e w48 ⟨rfl, hb⟩
   refine ⟨_, rfl, ?_⟩
   replace HO_25 := kO HO_25 hb
   replace BK242 := kB BK242 hb
   replace BK243 := kB BK243 hb
   replace BK244 := kB BK244 hb
   replace BK248 := kB BK248 hb
   replace BK251 := kB BK251 hb
   replace BK256 := kB BK256 hb
   replace HB := kH _ hb
   (try clear hb)
   (try clear hb2)
   (try clear hk)
   (try clear hi)
   refine hK.out _ _ ⟨bc BK251 0, bc BK251 1, bc BK256 0, bc BK256 1, bc BK242 0, bc BK242 1, bc BK242 2, ((HB.out.cell (World.block_lt_of_cell? w _ hw257_0)).trans hw257_0)⟩ (fun hHeld => ?_)
   clear hK K
   refine norm_ (a' := ?_) ?_ ?_
   rotate_left
   ·show Act.put _ (some 39) _ = _
    simp only [Act.put, List.setIfInBounds_toArray, List.set_cons_zero, List.set_cons_succ, i64_w, i32_w]
    rfl
   refine one_ (i := 8) (N := some 40) (ba 11 511) rfl rfl (one_of HT_.out (by kernel_rfl)) (by decide) (fun K hK => ?_)
   refine gC Try.func51 #[.agg #[.int .i64 ((rd_T76 t252 x27_1).f0.f0), .int .i64 ((rd_T76 t252 x27_1).f0.f1)], .agg #[.int .i64 t258, .int .i64 t259]] ?_
   with_reducible refine (curves_ratio_times.calls k1 ((rd_T76 t252 x27_1).f0.f0) ((rd_T76 t252 x27_1).f0.f1) t258 t259 t260 t261 _ A37.out).mono ?_
   rintro e w49 ⟨rfl, hb⟩
   refine ⟨_, rfl, ?_⟩
   replace HO_25 := kO HO_25 hb
   replace BK242 := kB BK242 hb
   replace BK243 := kB BK243 hb
   replace BK244 := kB BK244 hb
   replace BK248 := kB BK248 hb
   replace BK251 := kB BK251 hb
   replace BK256 := kB BK256 hb
   replace HB := kH _ hb
   (try clear hb)
   (try clear hb2)
   (try clear hk)
   (try clear hi)
   refine hK.out _ _ ⟨bc BK251 0, bc BK251 1, bc BK256 0, bc BK256 1, bc BK242 0, bc BK242 1, bc BK242 2, ((HB.out.cell (World.block_lt_of_cell? w _ hw257_0)).trans hw257_0)⟩ (fun hHeld => ?_)
   clear hK K
   refine norm_ (a' := ?_) ?_ ?_
   rotate_left
   ·show Act.put _ (some 40) _ = _
    simp only [Act.put, List.setIfInBounds_toArray, List.set_cons_zero, List.set_cons_succ, i64_w, i32_w]
    rfl
   refine one_ (i := 9) (N := some 41) (ba 11 1023) rfl rfl (one_of HT_.out (by kernel_rfl)) (by decide) (fun K hK => ?_)
   refine gC Try.func50 #[.agg #[.int .i64 x252000_1, .int .i64 x252001_1], .agg #[.int .i64 t260, .int .i64 t261]] ?_
   with_reducible refine (curves_ratio_plus.calls k1 x252000_1 x252001_1 t260 t261 t262 t263 _ A38.out).mono ?_
   rintro e w50 ⟨rfl, hb⟩
   refine ⟨_, rfl, ?_⟩
   replace HO_25 := kO HO_25 hb
   replace BK242 := kB BK242 hb
   replace BK243 := kB BK243 hb
   replace BK244 := kB BK244 hb
   replace BK248 := kB BK248 hb
   replace BK251 := kB BK251 hb
   replace BK256 := kB BK256 hb
   replace HB := kH _ hb
   (try clear hb)
   (try clear hb2)
   (try clear hk)
   (try clear hi)
   refine hK.out _ _ ⟨bc BK251 0, bc BK251 1, bc BK256 0, bc BK256 1, bc BK242 0, bc BK242 1, bc BK242 2, ((HB.out.cell (World.block_lt_of_cell? w _ hw257_0)).trans hw257_0)⟩ (fun hHeld => ?_)
   clear hK K
   refine norm_ (a' := ?_) ?_ ?_
   rotate_left
   ·show Act.put _ (some 41) _ = _
    simp only [Act.put, List.setIfInBounds_toArray, List.set_cons_zero, List.set_cons_succ, i64_w, i32_w]
    rfl
   refine last_ (i := 10) (N := none) (ba 11 2047) rfl rfl (one_of HT_.out (by kernel_rfl)) (by decide) (fun K hK => ?_)
   have hs51 : w50.cell? ⟨gb251, 0, none⟩ = some (.int .i64 x252000_1) := bc BK251 0
   have hfs51 := fz BK251 0
   have hns51_0 := NB242_251.out
   have hns51_1 := NB243_251.out
   have hns51_2 := NB244_251.out
   have hns51_3 := NB248_251.out
   have hns51_5 := NB256_251.out
   have hms51_0 := NB251_242.out
   have hms51_1 := NB251_243.out
   have hms51_2 := NB251_244.out
   have hms51_3 := NB251_248.out
   have hms51_5 := NB251_256.out
   have hs52 : w50.cell? ⟨gb251, 1, none⟩ = some (.int .i64 x252001_1) := bc BK251 1
   have hfs52 := fz BK251 1
   have hns52_0 := NB242_251.out
   have hns52_1 := NB243_251.out
   have hns52_2 := NB244_251.out
   have hns52_3 := NB248_251.out
   have hns52_5 := NB256_251.out
   have hms52_0 := NB251_242.out
   have hms52_1 := NB251_243.out
   have hms52_2 := NB251_244.out
   have hms52_3 := NB251_248.out
   have hms52_5 := NB251_256.out
   refine skip_ (w1 := ?_) (by rfl) rfl ?_ ?_
   rotate_left
   ·go_simp
    rfl
   refine hK.out _ _ ?_
   clear hK K
   refine done_ (done_of HT_.out (by kernel_rfl)) ?_
   try go_wp2
   go_roundg k1
   case measure => have := HK1.out; omega
   case rel => exact ⟨(wrap64 (x27_1 + 1)), (t262), (t263), (by first | rfl | (simp; done) | (simp [*]; done)), H', ⟨by have := HK1.out; omega⟩, ⟨rD (Kd.R_mono (Kd.R_far (p := ⟨gb251, 1, none⟩) (Kd.R_far (p := ⟨gb251, 0, none⟩) (Kd.R_mono HO_25.out (fun k_ hk => (⟨hk, hk.2.1⟩ : _ ∧ k_ ≠ gb251))) (fun _ hk => hk.2) (.int .i64 t262)) (fun _ hk => hk.2) (.int .i64 t263)) (fun _ hk => ⟨hk.1.1, hk.1.2.1⟩))⟩, ⟨bF BK242⟩, ⟨bF BK243⟩, ⟨bF BK244⟩, ⟨bF BK248⟩, ⟨by (with_reducible repeat (first | refine blk_drewN ?_ _ | refine blk_drew ?_ | refine blk_alloc ?_ _)); refine blk_put (cs := #[.int .i64 t262, .int .i64 x252001_1]) ?_ 1 _ rfl; (with_reducible repeat (first | refine blk_drewN ?_ _ | refine blk_drew ?_ | refine blk_alloc ?_ _)); refine blk_put (cs := #[.int .i64 x252000_1, .int .i64 x252001_1]) ?_ 0 _ rfl; (with_reducible repeat (first | refine blk_drewN ?_ _ | refine blk_drew ?_ | refine blk_alloc ?_ _)); exact BK251.out⟩, ⟨hbC _⟩⟩

end Go.Proofs.Ytpnocmkpeogifaa.X
