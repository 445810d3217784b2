-- Written by a program of this work (wip/xprint.py, over the kit's printer) out of the translation.
import Derived.Test.YtpnocmkpeogifaaDoorX0
import Derived.Test.YtpnocmkpeogifaaDoorXG1a
import Derived.Test.YtpnocmkpeogifaaDoorXG2a
import Derived.Test.YtpnocmkpeogifaaDoorXf23
import Derived.Test.YtpnocmkpeogifaaDoorXq0
namespace Go.Proofs.YtpnocmkpeogifaaDoor.X
open Go.RowKit Go.Proofs.YtpnocmkpeogifaaDoorW.PrintWords Go.Proofs.YtpnocmkpeogifaaDoorW.PrintLast Go.Proofs.YtpnocmkpeogifaaDoorW.PrintMore
attribute [local go_sem] max2_int min2_int max_two min_two max_three min_three max_four min_four   -- for this text's walks alone
set_option linter.unusedVariables false
set_option linter.unusedSimpArgs false

attribute [local go_sem high] eqA26
/-! ### curves_Curve_at: function 17 -/
def curves_Curve_at.j0 : Nat → Bool → Int → List Int → List Int → Int → Int → Int → Int → Option (Int × Int × Bool)
 | 0, _, _, _, _, _, _, _, _ => none
 | k + 1, x44, x146000, x146001, x146002, x147000, x147001, x149000, x149001 => if x44 = true then (some (x149000, x149001, false)) else ((curves_Curve_span.f x146000 x146001 x146002).bind fun bt151 => ((curves_ratio_below.f x149000 x149001 bt151.1).bind fun t153 => (if t153 = true then (some (x149000, x149001, false)) else ((curves_ratio_below.f x149000 x149001 bt151.2).bind fun t154 => (if t154 = true then (some (x149000, x149001, true)) else ((curves_of.f k bt151.2 1).bind fun bt155 => (some (x149000, x149001, (x147000 == bt155.1 && (x147001 == bt155.2))))))))))
def curves_Curve_at.f (k : Nat) (a0_0 : Int) (l0_1 : List Int) (l0_2 : List Int) (a1_0 : Int) (a1_1 : Int) : Option (Int × Int × Bool) := (curves_Curve_valid.f k a0_0 l0_1 l0_2).bind fun t149 => (if t149 = true then (if a1_1 < 1 then (curves_Curve_at.j0 k true a0_0 l0_1 l0_2 a1_0 a1_1 a1_0 a1_1) else (if a1_1 > 12 then (curves_Curve_at.j0 k true a0_0 l0_1 l0_2 a1_0 a1_1 a1_0 a1_1) else (if a1_0 < 0 then (curves_Curve_at.j0 k true a0_0 l0_1 l0_2 a1_0 a1_1 a1_0 a1_1) else (if a1_0 > (wrap64 (12 * a1_1)) then (curves_Curve_at.j0 k true a0_0 l0_1 l0_2 a1_0 a1_1 a1_0 a1_1) else ((curves_gcd.f k a1_0 a1_1).bind fun t150 => (curves_Curve_at.j0 k (t150 != 1) a0_0 l0_1 l0_2 a1_0 a1_1 a1_0 a1_1)))))) else (curves_Curve_at.j0 k true a0_0 l0_1 l0_2 a1_0 a1_1 a1_0 a1_1))
theorem curves_Curve_at.mono_l : ∀ k, (∀ y0 y1 y2 y3 y4 y5 y6 y7, LeO (curves_Curve_at.j0 k y0 y1 y2 y3 y4 y5 y6 y7) (curves_Curve_at.j0 (k + 1) y0 y1 y2 y3 y4 y5 y6 y7))
 | 0 => fun _ _ _ _ _ _ _ _ r h => by simp [curves_Curve_at.j0] at h
 | k + 1 => by
  have ih0 := curves_Curve_at.mono_l k
  ·intro y0 y1 y2 y3 y4 y5 y6 y7
   unfold curves_Curve_at.j0
   repeat' first
   | (with_reducible exact ih0 _ _ _ _ _ _ _ _)
   | (with_reducible exact curves_Curve_valid.mono _ _ _ _)
   | (with_reducible exact curves_gcd.mono _ _ _)
   | (with_reducible exact curves_of.mono _ _ _)
   | (with_reducible exact LeO.refl _)
   | (with_reducible exact LeO.none _)
   | (with_reducible refine LeO.ite ?_ ?_)
   | (with_reducible refine LeO.bind ?_ (fun _ => ?_))
   | exact ih0 _ _ _ _ _ _ _ _
   | exact curves_Curve_valid.mono _ _ _ _
   | exact curves_gcd.mono _ _ _
   | exact curves_of.mono _ _ _
   | exact LeO.none _
   | refine LeO.ite ?_ ?_
   | refine LeO.bind ?_ (fun _ => ?_)
theorem curves_Curve_at.mono : ∀ a0 a1 a2 a3 a4 k, LeO (curves_Curve_at.f k a0 a1 a2 a3 a4) (curves_Curve_at.f (k + 1) a0 a1 a2 a3 a4) := by
 intro a0 a1 a2 a3 a4 k
 have ih0 := curves_Curve_at.mono_l k
 unfold curves_Curve_at.f
 repeat' first
   | (with_reducible exact ih0 _ _ _ _ _ _ _ _)
   | (with_reducible exact curves_Curve_valid.mono _ _ _ _)
   | (with_reducible exact curves_gcd.mono _ _ _)
   | (with_reducible exact curves_of.mono _ _ _)
   | (with_reducible exact LeO.refl _)
   | (with_reducible exact LeO.none _)
   | (with_reducible refine LeO.ite ?_ ?_)
   | (with_reducible refine LeO.bind ?_ (fun _ => ?_))
   | exact ih0 _ _ _ _ _ _ _ _
   | exact curves_Curve_valid.mono _ _ _ _
   | exact curves_gcd.mono _ _ _
   | exact curves_of.mono _ _ _
   | exact LeO.none _
   | refine LeO.ite ?_ ?_
   | refine LeO.bind ?_ (fun _ => ?_)
def curves_Curve_at.T5 : Bool × List (List Nat × List Nat) := (true, [([], []), ([], []), ([], []), ([1, 2], [1, 2]), ([3], [3]), ([4, 3], [4]), ([5], [5]), ([5], [5]), ([6, 7, 5, 5], [5, 6, 7]), ([8, 8, 5], [5, 8]), ([9], [9]), ([9], [9]), ([11, 9, 9], [9, 11]), ([12, 9], [9, 12]), ([10, 13, 9], [9, 10, 13]), ([9, 14, 5], [5, 9, 14]), ([5, 15], [5, 15]), ([0, 12, 0], [0]), ([16, 17, 0, 1, 2, 3, 4, 5, 6, 7, 8, 9, 10, 11, 12, 13, 14, 15, 16, 17], [16])])
def curves_Curve_at.B5 : List Nat := [0, 0, 0, 6, 14, 30, 62, 62, 254, 510, 1022, 1022, 3070, 7166, 16382, 32766, 65534, 7167, 262143]
theorem curves_Curve_at.tab5 : rtab .any (opsOf Tryd.f17 5) = curves_Curve_at.T5 := by kernel_rfl
theorem curves_Curve_at.bits5 : waitsOk curves_Curve_at.T5.2 curves_Curve_at.B5 = true := by kernel_rfl
theorem curves_Curve_at.fld49 (x y : Int) (W : World) : (Instr.field 49 (.agg #[.int .i64 x, .int .i64 y]) 0).run Tryd.prog W = .ok (.agg #[.int .i64 x, .int .i64 y]) W := by
 obtain ⟨i, hi, hs⟩ := Option.map_eq_some_iff.1 (show (Tryd.prog.info? 26).map (·.size) = some 2 by kernel_rfl)
 have h := run_underlying (w := W) Tryd.underlying49
 have h26 := run_underlying (w := W) Tryd.underlying26
 simp [Instr.field, h, h26, sizeOf, typeInfo, hi, hs, asAgg, part, isAgg]
set_option maxHeartbeats 8000000 in
set_option maxRecDepth 100000 in
theorem curves_Curve_at.calls (k : Nat) (a0_0 : Int) (A0_1 : Option Addr) (c0_1 : Nat) (l0_1 : List Int) (A0_2 : Option Addr) (c0_2 : Nat) (l0_2 : List Int) (a1_0 : Int) (a1_1 : Int) (r1 : Int) (r2 : Int) (r3 : Bool) (w : World) (hr0_1 : Kd.C (Kd.int .i64) w A0_1 l0_1.length l0_1) (hc0_1 : l0_1.length ≤ c0_1) (hr0_2 : Kd.C (Kd.int .i64) w A0_2 l0_2.length l0_2) (hc0_2 : l0_2.length ≤ c0_2) (h : curves_Curve_at.f k a0_0 l0_1 l0_2 a1_0 a1_1 = some (r1, r2, r3)) :
  Calls Tryd.prog 17 #[.agg #[.int .i64 a0_0, .slice A0_1 l0_1.length c0_1, .slice A0_2 l0_2.length c0_2], .agg #[.int .i64 a1_0, .int .i64 a1_1]] w fun e w' => e = .returned (.tuple #[.agg #[.int .i64 r1, .int .i64 r2], .bool r3]) ∧ Below w.heap.size w w' := by
 have hu31 := Tryd.underlying31
 have hu26 := Tryd.underlying26
 have hu49 := Tryd.underlying49
 have hfld49 := curves_Curve_at.fld49
 have HR0_1 := Aside0.mk hr0_1
 have HC0_1 := Aside0.mk hc0_1
 clear hr0_1 hc0_1
 have HR0_2 := Aside0.mk hr0_2
 have HC0_2 := Aside0.mk hc0_2
 clear hr0_2 hc0_2
 have HB := ak (Below.refl w.heap.size w)
 have H : ((curves_Curve_valid.f k a0_0 l0_1 l0_2).bind fun t149 => (if t149 = true then (if a1_1 < 1 then (curves_Curve_at.j0 k true a0_0 l0_1 l0_2 a1_0 a1_1 a1_0 a1_1) else (if a1_1 > 12 then (curves_Curve_at.j0 k true a0_0 l0_1 l0_2 a1_0 a1_1 a1_0 a1_1) else (if a1_0 < 0 then (curves_Curve_at.j0 k true a0_0 l0_1 l0_2 a1_0 a1_1 a1_0 a1_1) else (if a1_0 > (wrap64 (12 * a1_1)) then (curves_Curve_at.j0 k true a0_0 l0_1 l0_2 a1_0 a1_1 a1_0 a1_1) else ((curves_gcd.f k a1_0 a1_1).bind fun t150 => (curves_Curve_at.j0 k (t150 != 1) a0_0 l0_1 l0_2 a1_0 a1_1 a1_0 a1_1)))))) else (curves_Curve_at.j0 k true a0_0 l0_1 l0_2 a1_0 a1_1 a1_0 a1_1))) = some (r1, r2, r3) := h
 clear h
 have HC3 := Aside0.mk H
 clear H
 go_enter Tryd.func17, Tryd.ntmps17
 go_upto_region 2 with (first | ((with_reducible refine gate_dst (N := 2) rfl ?_); refine bE 2 #[.int .i64 a0_0, .slice A0_1 l0_1.length c0_1, .slice A0_2 l0_2.length c0_2] 31 ?_; intro gb145 hg w4 hbox hb; have BK145 := ak (hbox); have GW145 := kG w hg; have GE145 := kG w hg; replace HB := kH _ hb; clear hb hbox hg) | ((with_reducible refine gate_dst (N := 3) rfl ?_); refine bE 3 #[.int .i64 a1_0, .int .i64 a1_1] 26 ?_; intro gb146 hg w5 hbox hb; have BK146 := ak (hbox); have GW146 := kG w hg; have GE146 := kG w hg; replace HB := kH _ hb; have NB145_146 := kL BK145 hg; have NB146_145 := kR BK145 hg; replace BK145 := kB BK145 hb; clear hb hbox hg) | ((with_reducible refine gate_dst (N := 4) rfl ?_); refine bE 4 #[.int .i64 0, .int .i64 0] 49 ?_; intro gb147 hg w6 hbox hb; have BK147 := ak (hbox); have GW147 := kG w hg; have GE147 := kG w hg; replace HB := kH _ hb; have NB145_147 := kL BK145 hg; have NB147_145 := kR BK145 hg; replace BK145 := kB BK145 hb; have NB146_147 := kL BK146 hg; have NB147_146 := kR BK146 hg; replace BK146 := kB BK146 hb; clear hb hbox hg; have hnb7 := NB146_145.out; have hnc7 := NB145_146.out; have hnb8 := NB146_147.out; have hnc8 := NB147_146.out; have hcz9_0 : w6.cell? ⟨gb146, 0, none⟩ = some (.int .i64 a1_0) := bc BK146 0; have hcz9_1 : w6.cell? ⟨gb146, 1, none⟩ = some (.int .i64 a1_1) := bc BK146 1; have hfz9_0 := fz BK146 0; have hfz9_1 := fz BK146 1) | ((with_reducible refine gate_dst (N := 6) rfl ?_); refine bE 6 #[.int .i64 0, .int .i64 0] 49 ?_; intro gb148 hg w10 hbox hb; have BK148 := ak (hbox); have GW148 := kG w hg; have GE148 := kG w hg; replace HB := kH _ hb; have NB145_148 := kL BK145 hg; have NB148_145 := kR BK145 hg; replace BK145 := kB BK145 hb; have NB146_148 := kL BK146 hg; have NB148_146 := kR BK146 hg; replace BK146 := kB BK146 hb; have NB147_148 := kL BK147 hg; have NB148_147 := kR BK147 hg; replace BK147 := kB BK147 hb; clear hb hbox hg; have hnb11 := NB148_145.out; have hnc11 := NB145_148.out; have hnb12 := NB148_146.out; have hnc12 := NB146_148.out; have hnb13 := NB148_147.out; have hnc13 := NB147_148.out; have hcz14_0 : w10.cell? ⟨gb148, 0, none⟩ = some (.int .i64 0) := bc BK148 0; have hcz14_1 : w10.cell? ⟨gb148, 1, none⟩ = some (.int .i64 0) := bc BK148 1; have hfz14_0 := fz BK148 0; have hfz14_1 := fz BK148 1))
 (try simp only [Act.put, List.setIfInBounds_toArray, List.set_cons_zero, List.set_cons_succ])
 go_cut [44] (fun v44 wc => ∃ (kq : Nat) (x44_2 : Bool), v44 = .bool x44_2 ∧ Aside0 (curves_Curve_at.j0 kq x44_2 a0_0 l0_1 l0_2 a1_0 a1_1 a1_0 a1_1 = some (r1, r2, r3)) ∧ Aside0 (kq ≤ k) ∧ Aside0 (wc.heap[gb145]? = some (.cells #[.int .i64 a0_0, (.slice A0_1 l0_1.length c0_1), (.slice A0_2 l0_2.length c0_2)] 31 (0, 0))) ∧ Aside0 (wc.heap[gb146]? = some (.cells #[.int .i64 a1_0, .int .i64 a1_1] 26 (0, 0))) ∧ Aside0 (wc.heap[gb147]? = some (.cells #[.int .i64 0, .int .i64 0] 49 (0, 0))) ∧ Aside0 (wc.heap[gb148]? = some (.cells #[.int .i64 a1_0, .int .i64 a1_1] 49 (0, 0))) ∧ Aside0 (Below w.heap.size w wc))
 case first =>
  have H := HC3.out
  clear HC3
  replace H := Option.bind_eq_some_iff.mp H
  obtain ⟨t149, A150, H⟩ := H
  replace H : (if t149 = true then (if a1_1 < 1 then (curves_Curve_at.j0 k true a0_0 l0_1 l0_2 a1_0 a1_1 a1_0 a1_1) else (if a1_1 > 12 then (curves_Curve_at.j0 k true a0_0 l0_1 l0_2 a1_0 a1_1 a1_0 a1_1) else (if a1_0 < 0 then (curves_Curve_at.j0 k true a0_0 l0_1 l0_2 a1_0 a1_1 a1_0 a1_1) else (if a1_0 > (wrap64 (12 * a1_1)) then (curves_Curve_at.j0 k true a0_0 l0_1 l0_2 a1_0 a1_1 a1_0 a1_1) else ((curves_gcd.f k a1_0 a1_1).bind fun t150 => (curves_Curve_at.j0 k (t150 != 1) a0_0 l0_1 l0_2 a1_0 a1_1 a1_0 a1_1)))))) else (curves_Curve_at.j0 k true a0_0 l0_1 l0_2 a1_0 a1_1 a1_0 a1_1)) = some (r1, r2, r3) := H
  have A15 := Aside0.mk A150
  clear A150
  by_cases c16 : t149 = true
  rotate_left
  ·replace c16 := Bool.eq_false_iff.mpr c16
   subst c16
   have H1 : (curves_Curve_at.j0 k true a0_0 l0_1 l0_2 a1_0 a1_1 a1_0 a1_1) = some (r1, r2, r3) := by rw [if_neg (show ¬ (false = true) by decide)] at H; exact H
   clear H
   have H := H1
   clear H1
   have H' := Aside0.mk H
   clear H
   have hnb63 := NB145_146.out
   have hnc63 := NB146_145.out
   have hnb64 := NB145_147.out
   have hnc64 := NB147_145.out
   have hnb65 := NB145_148.out
   have hnc65 := NB148_145.out
   have hcz66_0 : w10.cell? ⟨gb145, 0, none⟩ = some (.int .i64 a0_0) := bc BK145 0
   have hcz66_1 : w10.cell? ⟨gb145, 1, none⟩ = some (.slice A0_1 l0_1.length c0_1) := bc BK145 1
   have hcz66_2 : w10.cell? ⟨gb145, 2, none⟩ = some (.slice A0_2 l0_2.length c0_2) := bc BK145 2
   have hfz66_0 := fz BK145 0
   have hfz66_1 := fz BK145 1
   have hfz66_2 := fz BK145 2
   go_wp2_with (first | ((with_reducible refine gate_callee (f := 23) rfl ?_); refine gL 12 Tryd.func23 #[.agg #[.int .i64 a0_0, .slice A0_1 l0_1.length c0_1, .slice A0_2 l0_2.length c0_2]] ?_; (with_reducible refine (curves_Curve_valid.calls k a0_0 _ _ l0_1 _ _ l0_2 false _ ?side1 ?side2 ?side3 ?side4 A15.out).mono ?_); (case side1 => exact Kd.C_below HR0_1.out (hbC _)); (case side2 => exact HC0_1.out); (case side3 => exact Kd.C_below HR0_2.out (hbC _)); (case side4 => exact HC0_2.out); rintro e w67 ⟨rfl, hb⟩; refine ⟨_, rfl, ?_⟩; replace BK145 := ak (blk_below (g := gb145) (o := .cells #[.int .i64 a0_0, .slice A0_1 l0_1.length c0_1, .slice A0_2 l0_2.length c0_2] 31 (0, 0)) (bF BK145) hb); replace BK146 := ak (blk_below (g := gb146) (o := .cells #[.int .i64 a1_0, .int .i64 a1_1] 26 (0, 0)) (bF BK146) hb); replace BK147 := ak (blk_below (g := gb147) (o := .cells #[.int .i64 0, .int .i64 0] 49 (0, 0)) (bF BK147) hb); replace BK148 := ak (blk_below (g := gb148) (o := .cells #[.int .i64 a1_0, .int .i64 a1_1] 49 (0, 0)) (by (with_reducible repeat (first | refine blk_drewN ?_ _ | refine blk_drew ?_ | refine blk_alloc ?_ _)); refine blk_put (cs := #[.int .i64 a1_0, .int .i64 0]) ?_ 1 _ rfl; (with_reducible repeat (first | refine blk_drewN ?_ _ | refine blk_drew ?_ | refine blk_alloc ?_ _)); refine blk_put (cs := #[.int .i64 0, .int .i64 0]) ?_ 0 _ rfl; (with_reducible repeat (first | refine blk_drewN ?_ _ | refine blk_drew ?_ | refine blk_alloc ?_ _)); exact BK148.out) hb); replace HB := kH _ hb; (try clear hb); (try clear hb2); (try clear hk); (try clear hi)))
   go_meet
   case rel => exact ⟨_, (true), (by first | rfl | (simp; done) | (simp [*]; done)), H', ⟨by first | omega | exact Nat.le_refl _⟩, ⟨bkC BK145⟩, ⟨bkC BK146⟩, ⟨bkC BK147⟩, ⟨bkC BK148⟩, ⟨hbC _⟩⟩
  subst c16
  have H1 : (if a1_1 < 1 then (curves_Curve_at.j0 k true a0_0 l0_1 l0_2 a1_0 a1_1 a1_0 a1_1) else (if a1_1 > 12 then (curves_Curve_at.j0 k true a0_0 l0_1 l0_2 a1_0 a1_1 a1_0 a1_1) else (if a1_0 < 0 then (curves_Curve_at.j0 k true a0_0 l0_1 l0_2 a1_0 a1_1 a1_0 a1_1) else (if a1_0 > (wrap64 (12 * a1_1)) then (curves_Curve_at.j0 k true a0_0 l0_1 l0_2 a1_0 a1_1 a1_0 a1_1) else ((curves_gcd.f k a1_0 a1_1).bind fun t150 => (curves_Curve_at.j0 k (t150 != 1) a0_0 l0_1 l0_2 a1_0 a1_1 a1_0 a1_1)))))) = some (r1, r2, r3) := by rw [if_pos rfl] at H; exact H
  clear H
  have H := H1
  clear H1
  by_cases c17 : a1_1 < 1
  ·rw [if_pos c17] at H
   have c17b0 : decide (a1_1 < 1) = true := decide_eq_true c17
   clear c17
   (first | rw [c17b0] | (simp only [i64_w, i32_w]; rw [c17b0]) | skip)
   have H' := Aside0.mk H
   clear H
   have hnb18 := NB145_146.out
   have hnc18 := NB146_145.out
   have hnb19 := NB145_147.out
   have hnc19 := NB147_145.out
   have hnb20 := NB145_148.out
   have hnc20 := NB148_145.out
   have hcz21_0 : w10.cell? ⟨gb145, 0, none⟩ = some (.int .i64 a0_0) := bc BK145 0
   have hcz21_1 : w10.cell? ⟨gb145, 1, none⟩ = some (.slice A0_1 l0_1.length c0_1) := bc BK145 1
   have hcz21_2 : w10.cell? ⟨gb145, 2, none⟩ = some (.slice A0_2 l0_2.length c0_2) := bc BK145 2
   have hfz21_0 := fz BK145 0
   have hfz21_1 := fz BK145 1
   have hfz21_2 := fz BK145 2
   go_wp2_with (first | ((with_reducible refine gate_callee (f := 23) rfl ?_); refine gL 12 Tryd.func23 #[.agg #[.int .i64 a0_0, .slice A0_1 l0_1.length c0_1, .slice A0_2 l0_2.length c0_2]] ?_; (with_reducible refine (curves_Curve_valid.calls k a0_0 _ _ l0_1 _ _ l0_2 true _ ?side1 ?side2 ?side3 ?side4 A15.out).mono ?_); (case side1 => exact Kd.C_below HR0_1.out (hbC _)); (case side2 => exact HC0_1.out); (case side3 => exact Kd.C_below HR0_2.out (hbC _)); (case side4 => exact HC0_2.out); rintro e w22 ⟨rfl, hb⟩; refine ⟨_, rfl, ?_⟩; replace BK145 := ak (blk_below (g := gb145) (o := .cells #[.int .i64 a0_0, .slice A0_1 l0_1.length c0_1, .slice A0_2 l0_2.length c0_2] 31 (0, 0)) (bF BK145) hb); replace BK146 := ak (blk_below (g := gb146) (o := .cells #[.int .i64 a1_0, .int .i64 a1_1] 26 (0, 0)) (bF BK146) hb); replace BK147 := ak (blk_below (g := gb147) (o := .cells #[.int .i64 0, .int .i64 0] 49 (0, 0)) (bF BK147) hb); replace BK148 := ak (blk_below (g := gb148) (o := .cells #[.int .i64 a1_0, .int .i64 a1_1] 49 (0, 0)) (by (with_reducible repeat (first | refine blk_drewN ?_ _ | refine blk_drew ?_ | refine blk_alloc ?_ _)); refine blk_put (cs := #[.int .i64 a1_0, .int .i64 0]) ?_ 1 _ rfl; (with_reducible repeat (first | refine blk_drewN ?_ _ | refine blk_drew ?_ | refine blk_alloc ?_ _)); refine blk_put (cs := #[.int .i64 0, .int .i64 0]) ?_ 0 _ rfl; (with_reducible repeat (first | refine blk_drewN ?_ _ | refine blk_drew ?_ | refine blk_alloc ?_ _)); exact BK148.out) hb); replace HB := kH _ hb; (try clear hb); (try clear hb2); (try clear hk); (try clear hi); have hnb23 := NB146_147.out; have hnc23 := NB147_146.out; have hnb24 := NB146_148.out; have hnc24 := NB148_146.out; have hcz25_0 : w22.cell? ⟨gb146, 0, none⟩ = some (.int .i64 a1_0) := bc BK146 0; have hcz25_1 : w22.cell? ⟨gb146, 1, none⟩ = some (.int .i64 a1_1) := bc BK146 1; have hfz25_0 := fz BK146 0; have hfz25_1 := fz BK146 1))
   go_meet
   case rel => exact ⟨_, (true), (by first | rfl | (simp; done) | (simp [*]; done)), H', ⟨by first | omega | exact Nat.le_refl _⟩, ⟨bkC BK145⟩, ⟨bkC BK146⟩, ⟨bkC BK147⟩, ⟨bkC BK148⟩, ⟨hbC _⟩⟩
  rw [if_neg c17] at H
  have c17b0 : decide (a1_1 < 1) = false := decide_eq_false c17
  clear c17
  (first | rw [c17b0] | (simp only [i64_w, i32_w]; rw [c17b0]) | skip)
  by_cases c26 : a1_1 > 12
  ·rw [if_pos c26] at H
   have c26b0 : decide (12 < a1_1) = true := decide_eq_true c26
   clear c26
   have H' := Aside0.mk H
   clear H
   have hnb27 := NB145_146.out
   have hnc27 := NB146_145.out
   have hnb28 := NB145_147.out
   have hnc28 := NB147_145.out
   have hnb29 := NB145_148.out
   have hnc29 := NB148_145.out
   have hcz30_0 : w10.cell? ⟨gb145, 0, none⟩ = some (.int .i64 a0_0) := bc BK145 0
   have hcz30_1 : w10.cell? ⟨gb145, 1, none⟩ = some (.slice A0_1 l0_1.length c0_1) := bc BK145 1
   have hcz30_2 : w10.cell? ⟨gb145, 2, none⟩ = some (.slice A0_2 l0_2.length c0_2) := bc BK145 2
   have hfz30_0 := fz BK145 0
   have hfz30_1 := fz BK145 1
   have hfz30_2 := fz BK145 2
   go_wp2_with (first | ((with_reducible refine gate_callee (f := 23) rfl ?_); refine gL 12 Tryd.func23 #[.agg #[.int .i64 a0_0, .slice A0_1 l0_1.length c0_1, .slice A0_2 l0_2.length c0_2]] ?_; (with_reducible refine (curves_Curve_valid.calls k a0_0 _ _ l0_1 _ _ l0_2 true _ ?side1 ?side2 ?side3 ?side4 A15.out).mono ?_); (case side1 => exact Kd.C_below HR0_1.out (hbC _)); (case side2 => exact HC0_1.out); (case side3 => exact Kd.C_below HR0_2.out (hbC _)); (case side4 => exact HC0_2.out); rintro e w31 ⟨rfl, hb⟩; refine ⟨_, rfl, ?_⟩; replace BK145 := ak (blk_below (g := gb145) (o := .cells #[.int .i64 a0_0, .slice A0_1 l0_1.length c0_1, .slice A0_2 l0_2.length c0_2] 31 (0, 0)) (bF BK145) hb); replace BK146 := ak (blk_below (g := gb146) (o := .cells #[.int .i64 a1_0, .int .i64 a1_1] 26 (0, 0)) (bF BK146) hb); replace BK147 := ak (blk_below (g := gb147) (o := .cells #[.int .i64 0, .int .i64 0] 49 (0, 0)) (bF BK147) hb); replace BK148 := ak (blk_below (g := gb148) (o := .cells #[.int .i64 a1_0, .int .i64 a1_1] 49 (0, 0)) (by (with_reducible repeat (first | refine blk_drewN ?_ _ | refine blk_drew ?_ | refine blk_alloc ?_ _)); refine blk_put (cs := #[.int .i64 a1_0, .int .i64 0]) ?_ 1 _ rfl; (with_reducible repeat (first | refine blk_drewN ?_ _ | refine blk_drew ?_ | refine blk_alloc ?_ _)); refine blk_put (cs := #[.int .i64 0, .int .i64 0]) ?_ 0 _ rfl; (with_reducible repeat (first | refine blk_drewN ?_ _ | refine blk_drew ?_ | refine blk_alloc ?_ _)); exact BK148.out) hb); replace HB := kH _ hb; (try clear hb); (try clear hb2); (try clear hk); (try clear hi); have hnb32 := NB146_147.out; have hnc32 := NB147_146.out; have hnb33 := NB146_148.out; have hnc33 := NB148_146.out; have hcz34_0 : w31.cell? ⟨gb146, 0, none⟩ = some (.int .i64 a1_0) := bc BK146 0; have hcz34_1 : w31.cell? ⟨gb146, 1, none⟩ = some (.int .i64 a1_1) := bc BK146 1; have hfz34_0 := fz BK146 0; have hfz34_1 := fz BK146 1))
   go_meet
   case rel => exact ⟨_, (true), (by first | rfl | (simp; done) | (simp [*]; done)), H', ⟨by first | omega | exact Nat.le_refl _⟩, ⟨bkC BK145⟩, ⟨bkC BK146⟩, ⟨bkC BK147⟩, ⟨bkC BK148⟩, ⟨hbC _⟩⟩
  rw [if_neg c26] at H
  have c26b0 : decide (12 < a1_1) = false := decide_eq_false c26
  clear c26
  by_cases c35 : a1_0 < 0
  ·rw [if_pos c35] at H
   have c35b0 : decide (a1_0 < 0) = true := decide_eq_true c35
   clear c35
   have H' := Aside0.mk H
   clear H
   have hnb36 := NB145_146.out
   have hnc36 := NB146_145.out
   have hnb37 := NB145_147.out
   have hnc37 := NB147_145.out
   have hnb38 := NB145_148.out
   have hnc38 := NB148_145.out
   have hcz39_0 : w10.cell? ⟨gb145, 0, none⟩ = some (.int .i64 a0_0) := bc BK145 0
   have hcz39_1 : w10.cell? ⟨gb145, 1, none⟩ = some (.slice A0_1 l0_1.length c0_1) := bc BK145 1
   have hcz39_2 : w10.cell? ⟨gb145, 2, none⟩ = some (.slice A0_2 l0_2.length c0_2) := bc BK145 2
   have hfz39_0 := fz BK145 0
   have hfz39_1 := fz BK145 1
   have hfz39_2 := fz BK145 2
   go_wp2_with (first | ((with_reducible refine gate_callee (f := 23) rfl ?_); refine gL 12 Tryd.func23 #[.agg #[.int .i64 a0_0, .slice A0_1 l0_1.length c0_1, .slice A0_2 l0_2.length c0_2]] ?_; (with_reducible refine (curves_Curve_valid.calls k a0_0 _ _ l0_1 _ _ l0_2 true _ ?side1 ?side2 ?side3 ?side4 A15.out).mono ?_); (case side1 => exact Kd.C_below HR0_1.out (hbC _)); (case side2 => exact HC0_1.out); (case side3 => exact Kd.C_below HR0_2.out (hbC _)); (case side4 => exact HC0_2.out); rintro e w40 ⟨rfl, hb⟩; refine ⟨_, rfl, ?_⟩; replace BK145 := ak (blk_below (g := gb145) (o := .cells #[.int .i64 a0_0, .slice A0_1 l0_1.length c0_1, .slice A0_2 l0_2.length c0_2] 31 (0, 0)) (bF BK145) hb); replace BK146 := ak (blk_below (g := gb146) (o := .cells #[.int .i64 a1_0, .int .i64 a1_1] 26 (0, 0)) (bF BK146) hb); replace BK147 := ak (blk_below (g := gb147) (o := .cells #[.int .i64 0, .int .i64 0] 49 (0, 0)) (bF BK147) hb); replace BK148 := ak (blk_below (g := gb148) (o := .cells #[.int .i64 a1_0, .int .i64 a1_1] 49 (0, 0)) (by (with_reducible repeat (first | refine blk_drewN ?_ _ | refine blk_drew ?_ | refine blk_alloc ?_ _)); refine blk_put (cs := #[.int .i64 a1_0, .int .i64 0]) ?_ 1 _ rfl; (with_reducible repeat (first | refine blk_drewN ?_ _ | refine blk_drew ?_ | refine blk_alloc ?_ _)); refine blk_put (cs := #[.int .i64 0, .int .i64 0]) ?_ 0 _ rfl; (with_reducible repeat (first | refine blk_drewN ?_ _ | refine blk_drew ?_ | refine blk_alloc ?_ _)); exact BK148.out) hb); replace HB := kH _ hb; (try clear hb); (try clear hb2); (try clear hk); (try clear hi); have hnb41 := NB146_147.out; have hnc41 := NB147_146.out; have hnb42 := NB146_148.out; have hnc42 := NB148_146.out; have hcz43_0 : w40.cell? ⟨gb146, 0, none⟩ = some (.int .i64 a1_0) := bc BK146 0; have hcz43_1 : w40.cell? ⟨gb146, 1, none⟩ = some (.int .i64 a1_1) := bc BK146 1; have hfz43_0 := fz BK146 0; have hfz43_1 := fz BK146 1))
   go_meet
   case rel => exact ⟨_, (true), (by first | rfl | (simp; done) | (simp [*]; done)), H', ⟨by first | omega | exact Nat.le_refl _⟩, ⟨bkC BK145⟩, ⟨bkC BK146⟩, ⟨bkC BK147⟩, ⟨bkC BK148⟩, ⟨hbC _⟩⟩
  rw [if_neg c35] at H
  have c35b0 : decide (a1_0 < 0) = false := decide_eq_false c35
  clear c35
  by_cases c44 : a1_0 > (wrap64 (12 * a1_1))
  ·rw [if_pos c44] at H
   have c44b0 : decide ((wrap64 (12 * a1_1)) < a1_0) = true := decide_eq_true c44
   clear c44
   have H' := Aside0.mk H
   clear H
   have hnb45 := NB145_146.out
   have hnc45 := NB146_145.out
   have hnb46 := NB145_147.out
   have hnc46 := NB147_145.out
   have hnb47 := NB145_148.out
   have hnc47 := NB148_145.out
   have hcz48_0 : w10.cell? ⟨gb145, 0, none⟩ = some (.int .i64 a0_0) := bc BK145 0
   have hcz48_1 : w10.cell? ⟨gb145, 1, none⟩ = some (.slice A0_1 l0_1.length c0_1) := bc BK145 1
   have hcz48_2 : w10.cell? ⟨gb145, 2, none⟩ = some (.slice A0_2 l0_2.length c0_2) := bc BK145 2
   have hfz48_0 := fz BK145 0
   have hfz48_1 := fz BK145 1
   have hfz48_2 := fz BK145 2
   go_wp2_with (first | ((with_reducible refine gate_callee (f := 23) rfl ?_); refine gL 12 Tryd.func23 #[.agg #[.int .i64 a0_0, .slice A0_1 l0_1.length c0_1, .slice A0_2 l0_2.length c0_2]] ?_; (with_reducible refine (curves_Curve_valid.calls k a0_0 _ _ l0_1 _ _ l0_2 true _ ?side1 ?side2 ?side3 ?side4 A15.out).mono ?_); (case side1 => exact Kd.C_below HR0_1.out (hbC _)); (case side2 => exact HC0_1.out); (case side3 => exact Kd.C_below HR0_2.out (hbC _)); (case side4 => exact HC0_2.out); rintro e w49 ⟨rfl, hb⟩; refine ⟨_, rfl, ?_⟩; replace BK145 := ak (blk_below (g := gb145) (o := .cells #[.int .i64 a0_0, .slice A0_1 l0_1.length c0_1, .slice A0_2 l0_2.length c0_2] 31 (0, 0)) (bF BK145) hb); replace BK146 := ak (blk_below (g := gb146) (o := .cells #[.int .i64 a1_0, .int .i64 a1_1] 26 (0, 0)) (bF BK146) hb); replace BK147 := ak (blk_below (g := gb147) (o := .cells #[.int .i64 0, .int .i64 0] 49 (0, 0)) (bF BK147) hb); replace BK148 := ak (blk_below (g := gb148) (o := .cells #[.int .i64 a1_0, .int .i64 a1_1] 49 (0, 0)) (by (with_reducible repeat (first | refine blk_drewN ?_ _ | refine blk_drew ?_ | refine blk_alloc ?_ _)); refine blk_put (cs := #[.int .i64 a1_0, .int .i64 0]) ?_ 1 _ rfl; (with_reducible repeat (first | refine blk_drewN ?_ _ | refine blk_drew ?_ | refine blk_alloc ?_ _)); refine blk_put (cs := #[.int .i64 0, .int .i64 0]) ?_ 0 _ rfl; (with_reducible repeat (first | refine blk_drewN ?_ _ | refine blk_drew ?_ | refine blk_alloc ?_ _)); exact BK148.out) hb); replace HB := kH _ hb; (try clear hb); (try clear hb2); (try clear hk); (try clear hi); have hnb50 := NB146_147.out; have hnc50 := NB147_146.out; have hnb51 := NB146_148.out; have hnc51 := NB148_146.out; have hcz52_0 : w49.cell? ⟨gb146, 0, none⟩ = some (.int .i64 a1_0) := bc BK146 0; have hcz52_1 : w49.cell? ⟨gb146, 1, none⟩ = some (.int .i64 a1_1) := bc BK146 1; have hfz52_0 := fz BK146 0; have hfz52_1 := fz BK146 1))
   go_meet
   case rel => exact ⟨_, (true), (by first | rfl | (simp; done) | (simp [*]; done)), H', ⟨by first | omega | exact Nat.le_refl _⟩, ⟨bkC BK145⟩, ⟨bkC BK146⟩, ⟨bkC BK147⟩, ⟨bkC BK148⟩, ⟨hbC _⟩⟩
  rw [if_neg c44] at H
  have c44b0 : decide ((wrap64 (12 * a1_1)) < a1_0) = false := decide_eq_false c44
  clear c44
  replace H := Option.bind_eq_some_iff.mp H
  obtain ⟨t150, A530, H⟩ := H
  replace H : (curves_Curve_at.j0 k (t150 != 1) a0_0 l0_1 l0_2 a1_0 a1_1 a1_0 a1_1) = some (r1, r2, r3) := H
  have A53 := Aside0.mk A530
  clear A530
  have H' := Aside0.mk H
  clear H
  have hnb54 := NB145_146.out
  have hnc54 := NB146_145.out
  have hnb55 := NB145_147.out
  have hnc55 := NB147_145.out
  have hnb56 := NB145_148.out
  have hnc56 := NB148_145.out
  have hcz57_0 : w10.cell? ⟨gb145, 0, none⟩ = some (.int .i64 a0_0) := bc BK145 0
  have hcz57_1 : w10.cell? ⟨gb145, 1, none⟩ = some (.slice A0_1 l0_1.length c0_1) := bc BK145 1
  have hcz57_2 : w10.cell? ⟨gb145, 2, none⟩ = some (.slice A0_2 l0_2.length c0_2) := bc BK145 2
  have hfz57_0 := fz BK145 0
  have hfz57_1 := fz BK145 1
  have hfz57_2 := fz BK145 2
  go_wp2_with (first | ((with_reducible refine gate_callee (f := 23) rfl ?_); refine gL 12 Tryd.func23 #[.agg #[.int .i64 a0_0, .slice A0_1 l0_1.length c0_1, .slice A0_2 l0_2.length c0_2]] ?_; (with_reducible refine (curves_Curve_valid.calls k a0_0 _ _ l0_1 _ _ l0_2 true _ ?side1 ?side2 ?side3 ?side4 A15.out).mono ?_); (case side1 => exact Kd.C_below HR0_1.out (hbC _)); (case side2 => exact HC0_1.out); (case side3 => exact Kd.C_below HR0_2.out (hbC _)); (case side4 => exact HC0_2.out); rintro e w58 ⟨rfl, hb⟩; refine ⟨_, rfl, ?_⟩; replace BK145 := ak (blk_below (g := gb145) (o := .cells #[.int .i64 a0_0, .slice A0_1 l0_1.length c0_1, .slice A0_2 l0_2.length c0_2] 31 (0, 0)) (bF BK145) hb); replace BK146 := ak (blk_below (g := gb146) (o := .cells #[.int .i64 a1_0, .int .i64 a1_1] 26 (0, 0)) (bF BK146) hb); replace BK147 := ak (blk_below (g := gb147) (o := .cells #[.int .i64 0, .int .i64 0] 49 (0, 0)) (bF BK147) hb); replace BK148 := ak (blk_below (g := gb148) (o := .cells #[.int .i64 a1_0, .int .i64 a1_1] 49 (0, 0)) (by (with_reducible repeat (first | refine blk_drewN ?_ _ | refine blk_drew ?_ | refine blk_alloc ?_ _)); refine blk_put (cs := #[.int .i64 a1_0, .int .i64 0]) ?_ 1 _ rfl; (with_reducible repeat (first | refine blk_drewN ?_ _ | refine blk_drew ?_ | refine blk_alloc ?_ _)); refine blk_put (cs := #[.int .i64 0, .int .i64 0]) ?_ 0 _ rfl; (with_reducible repeat (first | refine blk_drewN ?_ _ | refine blk_drew ?_ | refine blk_alloc ?_ _)); exact BK148.out) hb); replace HB := kH _ hb; (try clear hb); (try clear hb2); (try clear hk); (try clear hi); have hnb59 := NB146_147.out; have hnc59 := NB147_146.out; have hnb60 := NB146_148.out; have hnc60 := NB148_146.out; have hcz61_0 : w58.cell? ⟨gb146, 0, none⟩ = some (.int .i64 a1_0) := bc BK146 0; have hcz61_1 : w58.cell? ⟨gb146, 1, none⟩ = some (.int .i64 a1_1) := bc BK146 1; have hfz61_0 := fz BK146 0; have hfz61_1 := fz BK146 1) | (go_at_call 29; (with_reducible refine (curves_gcd.calls k a1_0 a1_1 t150 _ A53.out).mono ?_); rintro e w62 ⟨rfl, hb⟩; replace BK145 := kB BK145 hb; replace BK146 := kB BK146 hb; replace BK147 := kB BK147 hb; replace BK148 := kB BK148 hb; replace HB := kH _ hb; (try clear hb); (try clear hb2); (try clear hk); (try clear hi)))
  go_meet
  case rel => exact ⟨_, ((t150 != 1)), (by first | rfl | (simp; done) | (simp [*]; done)), H', ⟨by first | omega | exact Nat.le_refl _⟩, ⟨bkC BK145⟩, ⟨bkC BK146⟩, ⟨bkC BK147⟩, ⟨bkC BK148⟩, ⟨hbC _⟩⟩
 case rest =>
  clear HC3
  try clear c1
  try clear c2
  try clear p2
  try clear c3
  try clear c4
  try clear c5
  try clear c6
  try clear p6
  try clear c7
  try clear c8
  try clear c11
  try clear c12
  try clear c13
  try clear c16
  try clear c17
  try clear c17b0
  try clear c18
  try clear c19
  try clear c20
  try clear c23
  try clear c24
  try clear c26
  try clear c26b0
  try clear c27
  try clear c28
  try clear c29
  try clear c32
  try clear c33
  try clear c35
  try clear c35b0
  try clear c36
  try clear c37
  try clear c38
  try clear c41
  try clear c42
  try clear c44
  try clear c44b0
  try clear c45
  try clear c46
  try clear c47
  try clear c50
  try clear c51
  try clear c54
  try clear c55
  try clear c56
  try clear c59
  try clear c60
  try clear c63
  try clear c64
  try clear p64
  try clear c65
  try clear hcz14_0
  try clear hcz14_1
  try clear hcz21_0
  try clear hcz21_1
  try clear hcz21_2
  try clear hcz25_0
  try clear hcz25_1
  try clear hcz30_0
  try clear hcz30_1
  try clear hcz30_2
  try clear hcz34_0
  try clear hcz34_1
  try clear hcz39_0
  try clear hcz39_1
  try clear hcz39_2
  try clear hcz43_0
  try clear hcz43_1
  try clear hcz48_0
  try clear hcz48_1
  try clear hcz48_2
  try clear hcz52_0
  try clear hcz52_1
  try clear hcz57_0
  try clear hcz57_1
  try clear hcz57_2
  try clear hcz61_0
  try clear hcz61_1
  try clear hcz66_0
  try clear hcz66_1
  try clear hcz66_2
  try clear hcz9_0
  try clear hcz9_1
  try clear hfz14_0
  try clear hfz14_1
  try clear hfz21_0
  try clear hfz21_1
  try clear hfz21_2
  try clear hfz25_0
  try clear hfz25_1
  try clear hfz30_0
  try clear hfz30_1
  try clear hfz30_2
  try clear hfz34_0
  try clear hfz34_1
  try clear hfz39_0
  try clear hfz39_1
  try clear hfz39_2
  try clear hfz43_0
  try clear hfz43_1
  try clear hfz48_0
  try clear hfz48_1
  try clear hfz48_2
  try clear hfz52_0
  try clear hfz52_1
  try clear hfz57_0
  try clear hfz57_1
  try clear hfz57_2
  try clear hfz61_0
  try clear hfz61_1
  try clear hfz66_0
  try clear hfz66_1
  try clear hfz66_2
  try clear hfz9_0
  try clear hfz9_1
  obtain ⟨kq, x44_2, rfl, HA, HJ2, BK145, BK146, BK147, BK148, HB⟩ := hcut
  cases kq with
  | zero => exact absurd HA.out (by simp [curves_Curve_at.j0])
  | succ kj2 =>
   have H := HA.out
   clear HA
   simp only [curves_Curve_at.j0] at H
   by_cases c68 : x44_2 = true
   ·subst c68
    have H1 : (some (a1_0, a1_1, false)) = some (r1, r2, r3) := by rw [if_pos rfl] at H; exact H
    clear H
    have H := H1
    clear H1
    simp only [Option.some.injEq, Prod.mk.injEq] at H
    obtain ⟨rfl, rfl, rfl⟩ := H
    have hnb69 := NB148_145.out
    have hnc69 := NB145_148.out
    have hnb70 := NB148_146.out
    have hnc70 := NB146_148.out
    have hnb71 := NB148_147.out
    have hnc71 := NB147_148.out
    have hcz72_0 : wc.cell? ⟨gb148, 0, none⟩ = some (.int .i64 a1_0) := bc BK148 0
    have hcz72_1 : wc.cell? ⟨gb148, 1, none⟩ = some (.int .i64 a1_1) := bc BK148 1
    have hfz72_0 := fz BK148 0
    have hfz72_1 := fz BK148 1
    have hnb73 := NB147_145.out
    have hnc73 := NB145_147.out
    have hnb74 := NB147_146.out
    have hnc74 := NB146_147.out
    have hcz75_0 : wc.cell? ⟨gb147, 0, none⟩ = some (.int .i64 0) := bc BK147 0
    have hcz75_1 : wc.cell? ⟨gb147, 1, none⟩ = some (.int .i64 0) := bc BK147 1
    have hfz75_0 := fz BK147 0
    have hfz75_1 := fz BK147 1
    go_wp2
    refine bodyPost_ret (results_ct rfl _ _ gb147 49 #[.int .i64 a1_0, .int .i64 a1_1] (0, 0) _ rfl (by (with_reducible repeat (first | refine blk_drewN ?_ _ | refine blk_drew ?_ | refine blk_alloc ?_ _)); refine blk_put (cs := #[.int .i64 a1_0, .int .i64 0]) ?_ 1 _ rfl; (with_reducible repeat (first | refine blk_drewN ?_ _ | refine blk_drew ?_ | refine blk_alloc ?_ _)); refine blk_put (cs := #[.int .i64 0, .int .i64 0]) ?_ 0 _ rfl; (with_reducible repeat (first | refine blk_drewN ?_ _ | refine blk_drew ?_ | refine blk_alloc ?_ _)); exact BK147.out) Tryd.underlying49 rfl (by kernel_rfl)) rfl ?_
    exact ⟨by first | rfl | (simp [errW_none, errW_some] <;> rfl) | (simp [*, errW_none, errW_some] <;> rfl), hbC _⟩
   replace c68 := Bool.eq_false_iff.mpr c68
   subst c68
   have H1 : ((curves_Curve_span.f a0_0 l0_1 l0_2).bind fun bt151 => ((curves_ratio_below.f a1_0 a1_1 bt151.1).bind fun t153 => (if t153 = true then (some (a1_0, a1_1, false)) else ((curves_ratio_below.f a1_0 a1_1 bt151.2).bind fun t154 => (if t154 = true then (some (a1_0, a1_1, true)) else ((curves_of.f kj2 bt151.2 1).bind fun bt155 => (some (a1_0, a1_1, (a1_0 == bt155.1 && (a1_1 == bt155.2)))))))))) = some (r1, r2, r3) := by rw [if_neg (show ¬ (false = true) by decide)] at H; exact H
   clear H
   have H := H1
   clear H1
   replace H := Option.bind_eq_some_iff.mp H
   obtain ⟨⟨t151, t152⟩, A760, H⟩ := H
   replace H : ((curves_ratio_below.f a1_0 a1_1 t151).bind fun t153 => (if t153 = true then (some (a1_0, a1_1, false)) else ((curves_ratio_below.f a1_0 a1_1 t152).bind fun t154 => (if t154 = true then (some (a1_0, a1_1, true)) else ((curves_of.f kj2 t152 1).bind fun bt155 => (some (a1_0, a1_1, (a1_0 == bt155.1 && (a1_1 == bt155.2))))))))) = some (r1, r2, r3) := H
   have A76 := Aside0.mk A760
   clear A760
   replace H := Option.bind_eq_some_iff.mp H
   obtain ⟨t153, A770, H⟩ := H
   replace H : (if t153 = true then (some (a1_0, a1_1, false)) else ((curves_ratio_below.f a1_0 a1_1 t152).bind fun t154 => (if t154 = true then (some (a1_0, a1_1, true)) else ((curves_of.f kj2 t152 1).bind fun bt155 => (some (a1_0, a1_1, (a1_0 == bt155.1 && (a1_1 == bt155.2)))))))) = some (r1, r2, r3) := H
   have A77 := Aside0.mk A770
   clear A770
   by_cases c78 : t153 = true
   ·subst c78
    have H1 : (some (a1_0, a1_1, false)) = some (r1, r2, r3) := by rw [if_pos rfl] at H; exact H
    clear H
    have H := H1
    clear H1
    simp only [Option.some.injEq, Prod.mk.injEq] at H
    obtain ⟨rfl, rfl, rfl⟩ := H
    have hnb79 := NB145_146.out
    have hnc79 := NB146_145.out
    have hnb80 := NB145_147.out
    have hnc80 := NB147_145.out
    have hnb81 := NB145_148.out
    have hnc81 := NB148_145.out
    have hcz82_0 : wc.cell? ⟨gb145, 0, none⟩ = some (.int .i64 a0_0) := bc BK145 0
    have hcz82_1 : wc.cell? ⟨gb145, 1, none⟩ = some (.slice A0_1 l0_1.length c0_1) := bc BK145 1
    have hcz82_2 : wc.cell? ⟨gb145, 2, none⟩ = some (.slice A0_2 l0_2.length c0_2) := bc BK145 2
    have hfz82_0 := fz BK145 0
    have hfz82_1 := fz BK145 1
    have hfz82_2 := fz BK145 2
    try go_wp2_with (first | ((with_reducible refine gate_callee (f := 30) rfl ?_); refine gL 48 Tryd.func30 #[.agg #[.int .i64 a0_0, .slice A0_1 l0_1.length c0_1, .slice A0_2 l0_2.length c0_2]] ?_; (with_reducible refine (curves_Curve_span.calls a0_0 _ _ l0_1 _ _ l0_2 t151 t152 _ ?side1 ?side2 ?side3 ?side4 A76.out).mono ?_); (case side1 => exact kC HR0_1); (case side2 => exact HC0_1.out); (case side3 => exact kC HR0_2); (case side4 => exact HC0_2.out); rintro e w83 ⟨rfl, hb⟩; refine ⟨_, rfl, ?_⟩; replace BK145 := kB BK145 hb; replace BK146 := kB BK146 hb; replace BK147 := kB BK147 hb; replace BK148 := kB BK148 hb; replace HB := kH _ hb; (try clear hb); (try clear hb2); (try clear hk); (try clear hi)))
    replace BK145 := kd BK145
    replace BK146 := kd BK146
    replace BK147 := kd BK147
    replace BK148 := kd BK148
    replace HB := ak (below_drew1 HB.out)
    refine sS (n := 19) (S := fun w' => w'.cell? ⟨gb148, 0, none⟩ = some (.int .i64 a1_0) ∧ w'.cell? ⟨gb148, 1, none⟩ = some (.int .i64 a1_1)) (ds := []) ⟨bc BK148 0, bc BK148 1⟩ (fun hHeld => ?_); refine with_tabW curves_Curve_at.tab5 curves_Curve_at.bits5 (fun HT_ HW_ => ?_)
    generalize w83.drew = w84 at BK145 BK146 BK147 BK148 HB hHeld ⊢
    refine pS 2 53 19 4 ?_
    refine tS 0 51 19 5 ?_
    refine tS 1 52 19 7 ?_
    refine one_ (i := 3) (N := some 54) (ba 19 15) rfl rfl (one_of HT_.out (by kernel_rfl)) (by decide) (fun K hK => ?_)
    refine gC Tryd.func31 #[.agg #[.int .i64 a1_0, .int .i64 a1_1], .int .i64 t151] ?_
    with_reducible refine (curves_ratio_below.calls a1_0 a1_1 t151 true _ A77.out).mono ?_
    rintro e w85 ⟨rfl, hb⟩
    refine ⟨_, rfl, ?_⟩
    replace BK145 := kB BK145 hb
    replace BK146 := kB BK146 hb
    replace BK147 := kB BK147 hb
    replace BK148 := kB BK148 hb
    replace HB := kH _ hb
    (try clear hb)
    (try clear hb2)
    (try clear hk)
    (try clear hi)
    refine hK.out _ _ ⟨bc BK148 0, bc BK148 1⟩ (fun hHeld => ?_)
    clear hK K
    refine norm_ (a' := ?_) ?_ ?_
    rotate_left
    ·show Act.put _ (some 54) _ = _
     simp only [Act.put, List.setIfInBounds_toArray, List.set_cons_zero, List.set_cons_succ, i64_w, i32_w]
     rfl
    refine pS 4 55 19 31 ?_
    refine pS 5 56 19 63 ?_
    refine uS 6 57 19 127 ?_
    refine uS 7 58 19 255 ?_
    refine uS 8 59 19 511 ?_
    refine uS 9 60 19 1023 ?_
    refine uS 10 61 19 2047 ?_
    refine uS 11 62 19 4095 ?_
    refine uS 12 63 19 8191 ?_
    refine uS 13 64 19 16383 ?_
    refine uS 14 65 19 32767 ?_
    refine uS 15 66 19 65535 ?_
    refine pS 16 67 19 131071 ?_
    refine one_ (i := 17) (N := none) (ba 19 262143) rfl rfl (one_of HT_.out (by kernel_rfl)) (by decide) (fun K hK => ?_)
    have hs86 : w85.cell? ⟨gb147, 0, none⟩ = some (.int .i64 0) := bc BK147 0
    have hfs86 := fz BK147 0
    have hns86_0 := NB145_147.out
    have hns86_1 := NB146_147.out
    have hns86_3 := NB148_147.out
    have hms86_0 := NB147_145.out
    have hms86_1 := NB147_146.out
    have hms86_3 := NB147_148.out
    have hs87 : w85.cell? ⟨gb147, 1, none⟩ = some (.int .i64 0) := bc BK147 1
    have hfs87 := fz BK147 1
    have hns87_0 := NB145_147.out
    have hns87_1 := NB146_147.out
    have hns87_3 := NB148_147.out
    have hms87_0 := NB147_145.out
    have hms87_1 := NB147_146.out
    have hms87_3 := NB147_148.out
    refine skip_ (w1 := ?_) (by rfl) rfl ?_ ?_
    rotate_left
    ·go_simp
     rfl
    refine hK.out _ _ ⟨((cell_far (p := ⟨gb147, _, none⟩) NB148_147.out _).trans (((cell_far (p := ⟨gb147, _, none⟩) NB148_147.out _).trans (hHeld.1)))), ((cell_far (p := ⟨gb147, _, none⟩) NB148_147.out _).trans (((cell_far (p := ⟨gb147, _, none⟩) NB148_147.out _).trans (hHeld.2))))⟩ (fun hHeld => ?_)
    clear hK K
    refine pS 18 5 19 524287 ?_
    refine done_ (done_of HT_.out (by kernel_rfl)) ?_
    try go_wp2
    refine bodyPost_ret (results_ct rfl _ _ gb147 49 #[.int .i64 a1_0, .int .i64 a1_1] (0, 0) _ rfl (by (with_reducible repeat (first | refine blk_drewN ?_ _ | refine blk_drew ?_ | refine blk_alloc ?_ _)); refine blk_put (cs := #[.int .i64 a1_0, .int .i64 0]) ?_ 1 _ rfl; (with_reducible repeat (first | refine blk_drewN ?_ _ | refine blk_drew ?_ | refine blk_alloc ?_ _)); refine blk_put (cs := #[.int .i64 0, .int .i64 0]) ?_ 0 _ rfl; (with_reducible repeat (first | refine blk_drewN ?_ _ | refine blk_drew ?_ | refine blk_alloc ?_ _)); exact BK147.out) Tryd.underlying49 rfl (by kernel_rfl)) rfl ?_
    exact ⟨by first | rfl | (simp [errW_none, errW_some] <;> rfl) | (simp [*, errW_none, errW_some] <;> rfl), hbC _⟩
   replace c78 := Bool.eq_false_iff.mpr c78
   subst c78
   have H1 : ((curves_ratio_below.f a1_0 a1_1 t152).bind fun t154 => (if t154 = true then (some (a1_0, a1_1, true)) else ((curves_of.f kj2 t152 1).bind fun bt155 => (some (a1_0, a1_1, (a1_0 == bt155.1 && (a1_1 == bt155.2))))))) = some (r1, r2, r3) := by rw [if_neg (show ¬ (false = true) by decide)] at H; exact H
   clear H
   have H := H1
   clear H1
   replace H := Option.bind_eq_some_iff.mp H
   obtain ⟨t154, A880, H⟩ := H
   replace H : (if t154 = true then (some (a1_0, a1_1, true)) else ((curves_of.f kj2 t152 1).bind fun bt155 => (some (a1_0, a1_1, (a1_0 == bt155.1 && (a1_1 == bt155.2)))))) = some (r1, r2, r3) := H
   have A88 := Aside0.mk A880
   clear A880
   by_cases c89 : t154 = true
   ·subst c89
    have H1 : (some (a1_0, a1_1, true)) = some (r1, r2, r3) := by rw [if_pos rfl] at H; exact H
    clear H
    have H := H1
    clear H1
    simp only [Option.some.injEq, Prod.mk.injEq] at H
    obtain ⟨rfl, rfl, rfl⟩ := H
    have hnb90 := NB145_146.out
    have hnc90 := NB146_145.out
    have hnb91 := NB145_147.out
    have hnc91 := NB147_145.out
    have hnb92 := NB145_148.out
    have hnc92 := NB148_145.out
    have hcz93_0 : wc.cell? ⟨gb145, 0, none⟩ = some (.int .i64 a0_0) := bc BK145 0
    have hcz93_1 : wc.cell? ⟨gb145, 1, none⟩ = some (.slice A0_1 l0_1.length c0_1) := bc BK145 1
    have hcz93_2 : wc.cell? ⟨gb145, 2, none⟩ = some (.slice A0_2 l0_2.length c0_2) := bc BK145 2
    have hfz93_0 := fz BK145 0
    have hfz93_1 := fz BK145 1
    have hfz93_2 := fz BK145 2
    try go_wp2_with (first | ((with_reducible refine gate_callee (f := 30) rfl ?_); refine gL 48 Tryd.func30 #[.agg #[.int .i64 a0_0, .slice A0_1 l0_1.length c0_1, .slice A0_2 l0_2.length c0_2]] ?_; (with_reducible refine (curves_Curve_span.calls a0_0 _ _ l0_1 _ _ l0_2 t151 t152 _ ?side1 ?side2 ?side3 ?side4 A76.out).mono ?_); (case side1 => exact kC HR0_1); (case side2 => exact HC0_1.out); (case side3 => exact kC HR0_2); (case side4 => exact HC0_2.out); rintro e w94 ⟨rfl, hb⟩; refine ⟨_, rfl, ?_⟩; replace BK145 := kB BK145 hb; replace BK146 := kB BK146 hb; replace BK147 := kB BK147 hb; replace BK148 := kB BK148 hb; replace HB := kH _ hb; (try clear hb); (try clear hb2); (try clear hk); (try clear hi)))
    replace BK145 := kd BK145
    replace BK146 := kd BK146
    replace BK147 := kd BK147
    replace BK148 := kd BK148
    replace HB := ak (below_drew1 HB.out)
    refine sS (n := 19) (S := fun w' => w'.cell? ⟨gb148, 0, none⟩ = some (.int .i64 a1_0) ∧ w'.cell? ⟨gb148, 1, none⟩ = some (.int .i64 a1_1)) (ds := []) ⟨bc BK148 0, bc BK148 1⟩ (fun hHeld => ?_); refine with_tabW curves_Curve_at.tab5 curves_Curve_at.bits5 (fun HT_ HW_ => ?_)
    generalize w94.drew = w95 at BK145 BK146 BK147 BK148 HB hHeld ⊢
    refine pS 2 53 19 4 ?_
    refine tS 0 51 19 5 ?_
    refine tS 1 52 19 7 ?_
    refine one_ (i := 3) (N := some 54) (ba 19 15) rfl rfl (one_of HT_.out (by kernel_rfl)) (by decide) (fun K hK => ?_)
    refine gC Tryd.func31 #[.agg #[.int .i64 a1_0, .int .i64 a1_1], .int .i64 t151] ?_
    with_reducible refine (curves_ratio_below.calls a1_0 a1_1 t151 false _ A77.out).mono ?_
    rintro e w96 ⟨rfl, hb⟩
    refine ⟨_, rfl, ?_⟩
    replace BK145 := kB BK145 hb
    replace BK146 := kB BK146 hb
    replace BK147 := kB BK147 hb
    replace BK148 := kB BK148 hb
    replace HB := kH _ hb
    (try clear hb)
    (try clear hb2)
    (try clear hk)
    (try clear hi)
    refine hK.out _ _ ⟨bc BK148 0, bc BK148 1⟩ (fun hHeld => ?_)
    clear hK K
    refine norm_ (a' := ?_) ?_ ?_
    rotate_left
    ·show Act.put _ (some 54) _ = _
     simp only [Act.put, List.setIfInBounds_toArray, List.set_cons_zero, List.set_cons_succ, i64_w, i32_w]
     rfl
    refine pS 4 55 19 31 ?_
    refine pS 5 56 19 63 ?_
    refine pS 7 58 19 191 ?_
    refine tS 6 57 19 255 ?_
    refine one_ (i := 8) (N := some 59) (ba 19 511) rfl rfl (one_of HT_.out (by kernel_rfl)) (by decide) (fun K hK => ?_)
    refine gC Tryd.func31 #[.agg #[.int .i64 a1_0, .int .i64 a1_1], .int .i64 t152] ?_
    with_reducible refine (curves_ratio_below.calls a1_0 a1_1 t152 true _ A88.out).mono ?_
    rintro e w97 ⟨rfl, hb⟩
    refine ⟨_, rfl, ?_⟩
    replace BK145 := kB BK145 hb
    replace BK146 := kB BK146 hb
    replace BK147 := kB BK147 hb
    replace BK148 := kB BK148 hb
    replace HB := kH _ hb
    (try clear hb)
    (try clear hb2)
    (try clear hk)
    (try clear hi)
    refine hK.out _ _ ⟨bc BK148 0, bc BK148 1⟩ (fun hHeld => ?_)
    clear hK K
    refine norm_ (a' := ?_) ?_ ?_
    rotate_left
    ·show Act.put _ (some 59) _ = _
     simp only [Act.put, List.setIfInBounds_toArray, List.set_cons_zero, List.set_cons_succ, i64_w, i32_w]
     rfl
    refine pS 9 60 19 1023 ?_
    refine uS 10 61 19 2047 ?_
    refine uS 11 62 19 4095 ?_
    refine uS 12 63 19 8191 ?_
    refine uS 13 64 19 16383 ?_
    refine uS 14 65 19 32767 ?_
    refine pS 15 66 19 65535 ?_
    refine pS 16 67 19 131071 ?_
    refine one_ (i := 17) (N := none) (ba 19 262143) rfl rfl (one_of HT_.out (by kernel_rfl)) (by decide) (fun K hK => ?_)
    have hs98 : w97.cell? ⟨gb147, 0, none⟩ = some (.int .i64 0) := bc BK147 0
    have hfs98 := fz BK147 0
    have hns98_0 := NB145_147.out
    have hns98_1 := NB146_147.out
    have hns98_3 := NB148_147.out
    have hms98_0 := NB147_145.out
    have hms98_1 := NB147_146.out
    have hms98_3 := NB147_148.out
    have hs99 : w97.cell? ⟨gb147, 1, none⟩ = some (.int .i64 0) := bc BK147 1
    have hfs99 := fz BK147 1
    have hns99_0 := NB145_147.out
    have hns99_1 := NB146_147.out
    have hns99_3 := NB148_147.out
    have hms99_0 := NB147_145.out
    have hms99_1 := NB147_146.out
    have hms99_3 := NB147_148.out
    refine skip_ (w1 := ?_) (by rfl) rfl ?_ ?_
    rotate_left
    ·go_simp
     rfl
    refine hK.out _ _ ⟨((cell_far (p := ⟨gb147, _, none⟩) NB148_147.out _).trans (((cell_far (p := ⟨gb147, _, none⟩) NB148_147.out _).trans (hHeld.1)))), ((cell_far (p := ⟨gb147, _, none⟩) NB148_147.out _).trans (((cell_far (p := ⟨gb147, _, none⟩) NB148_147.out _).trans (hHeld.2))))⟩ (fun hHeld => ?_)
    clear hK K
    refine pS 18 5 19 524287 ?_
    refine done_ (done_of HT_.out (by kernel_rfl)) ?_
    try go_wp2
    refine bodyPost_ret (results_ct rfl _ _ gb147 49 #[.int .i64 a1_0, .int .i64 a1_1] (0, 0) _ rfl (by (with_reducible repeat (first | refine blk_drewN ?_ _ | refine blk_drew ?_ | refine blk_alloc ?_ _)); refine blk_put (cs := #[.int .i64 a1_0, .int .i64 0]) ?_ 1 _ rfl; (with_reducible repeat (first | refine blk_drewN ?_ _ | refine blk_drew ?_ | refine blk_alloc ?_ _)); refine blk_put (cs := #[.int .i64 0, .int .i64 0]) ?_ 0 _ rfl; (with_reducible repeat (first | refine blk_drewN ?_ _ | refine blk_drew ?_ | refine blk_alloc ?_ _)); exact BK147.out) Tryd.underlying49 rfl (by kernel_rfl)) rfl ?_
    exact ⟨by first | rfl | (simp [errW_none, errW_some] <;> rfl) | (simp [*, errW_none, errW_some] <;> rfl), hbC _⟩
   replace c89 := Bool.eq_false_iff.mpr c89
   subst c89
   have H1 : ((curves_of.f kj2 t152 1).bind fun bt155 => (some (a1_0, a1_1, (a1_0 == bt155.1 && (a1_1 == bt155.2))))) = some (r1, r2, r3) := by rw [if_neg (show ¬ (false = true) by decide)] at H; exact H
   clear H
   have H := H1
   clear H1
   replace H := Option.bind_eq_some_iff.mp H
   obtain ⟨⟨t155, t156⟩, A1000, H⟩ := H
   replace H : (some (a1_0, a1_1, (a1_0 == t155 && (a1_1 == t156)))) = some (r1, r2, r3) := H
   have A100 := Aside0.mk A1000
   clear A1000
   simp only [Option.some.injEq, Prod.mk.injEq] at H
   obtain ⟨rfl, rfl, rfl⟩ := H
   have hnb101 := NB145_146.out
   have hnc101 := NB146_145.out
   have hnb102 := NB145_147.out
   have hnc102 := NB147_145.out
   have hnb103 := NB145_148.out
   have hnc103 := NB148_145.out
   have hcz104_0 : wc.cell? ⟨gb145, 0, none⟩ = some (.int .i64 a0_0) := bc BK145 0
   have hcz104_1 : wc.cell? ⟨gb145, 1, none⟩ = some (.slice A0_1 l0_1.length c0_1) := bc BK145 1
   have hcz104_2 : wc.cell? ⟨gb145, 2, none⟩ = some (.slice A0_2 l0_2.length c0_2) := bc BK145 2
   have hfz104_0 := fz BK145 0
   have hfz104_1 := fz BK145 1
   have hfz104_2 := fz BK145 2
   try go_wp2_with (first | ((with_reducible refine gate_callee (f := 30) rfl ?_); refine gL 48 Tryd.func30 #[.agg #[.int .i64 a0_0, .slice A0_1 l0_1.length c0_1, .slice A0_2 l0_2.length c0_2]] ?_; (with_reducible refine (curves_Curve_span.calls a0_0 _ _ l0_1 _ _ l0_2 t151 t152 _ ?side1 ?side2 ?side3 ?side4 A76.out).mono ?_); (case side1 => exact kC HR0_1); (case side2 => exact HC0_1.out); (case side3 => exact kC HR0_2); (case side4 => exact HC0_2.out); rintro e w105 ⟨rfl, hb⟩; refine ⟨_, rfl, ?_⟩; replace BK145 := kB BK145 hb; replace BK146 := kB BK146 hb; replace BK147 := kB BK147 hb; replace BK148 := kB BK148 hb; replace HB := kH _ hb; (try clear hb); (try clear hb2); (try clear hk); (try clear hi)))
   replace BK145 := kd BK145
   replace BK146 := kd BK146
   replace BK147 := kd BK147
   replace BK148 := kd BK148
   replace HB := ak (below_drew1 HB.out)
   refine sS (n := 19) (S := fun w' => w'.cell? ⟨gb148, 0, none⟩ = some (.int .i64 a1_0) ∧ w'.cell? ⟨gb148, 1, none⟩ = some (.int .i64 a1_1) ∧ w'.cell? ⟨gb146, 0, none⟩ = some (.int .i64 a1_0) ∧ w'.cell? ⟨gb146, 1, none⟩ = some (.int .i64 a1_1)) (ds := []) ⟨bc BK148 0, bc BK148 1, bc BK146 0, bc BK146 1⟩ (fun hHeld => ?_); refine with_tabW curves_Curve_at.tab5 curves_Curve_at.bits5 (fun HT_ HW_ => ?_)
   generalize w105.drew = w106 at BK145 BK146 BK147 BK148 HB hHeld ⊢
   refine pS 2 53 19 4 ?_
   refine tS 0 51 19 5 ?_
   refine tS 1 52 19 7 ?_
   refine one_ (i := 3) (N := some 54) (ba 19 15) rfl rfl (one_of HT_.out (by kernel_rfl)) (by decide) (fun K hK => ?_)
   refine gC Tryd.func31 #[.agg #[.int .i64 a1_0, .int .i64 a1_1], .int .i64 t151] ?_
   with_reducible refine (curves_ratio_below.calls a1_0 a1_1 t151 false _ A77.out).mono ?_
   rintro e w107 ⟨rfl, hb⟩
   refine ⟨_, rfl, ?_⟩
   replace BK145 := kB BK145 hb
   replace BK146 := kB BK146 hb
   replace BK147 := kB BK147 hb
   replace BK148 := kB BK148 hb
   replace HB := kH _ hb
   (try clear hb)
   (try clear hb2)
   (try clear hk)
   (try clear hi)
   refine hK.out _ _ ⟨bc BK148 0, bc BK148 1, bc BK146 0, bc BK146 1⟩ (fun hHeld => ?_)
   clear hK K
   refine norm_ (a' := ?_) ?_ ?_
   rotate_left
   ·show Act.put _ (some 54) _ = _
    simp only [Act.put, List.setIfInBounds_toArray, List.set_cons_zero, List.set_cons_succ, i64_w, i32_w]
    rfl
   refine pS 4 55 19 31 ?_
   refine pS 5 56 19 63 ?_
   refine pS 7 58 19 191 ?_
   refine tS 6 57 19 255 ?_
   refine one_ (i := 8) (N := some 59) (ba 19 511) rfl rfl (one_of HT_.out (by kernel_rfl)) (by decide) (fun K hK => ?_)
   refine gC Tryd.func31 #[.agg #[.int .i64 a1_0, .int .i64 a1_1], .int .i64 t152] ?_
   with_reducible refine (curves_ratio_below.calls a1_0 a1_1 t152 false _ A88.out).mono ?_
   rintro e w108 ⟨rfl, hb⟩
   refine ⟨_, rfl, ?_⟩
   replace BK145 := kB BK145 hb
   replace BK146 := kB BK146 hb
   replace BK147 := kB BK147 hb
   replace BK148 := kB BK148 hb
   replace HB := kH _ hb
   (try clear hb)
   (try clear hb2)
   (try clear hk)
   (try clear hi)
   refine hK.out _ _ ⟨bc BK148 0, bc BK148 1, bc BK146 0, bc BK146 1⟩ (fun hHeld => ?_)
   clear hK K
   refine norm_ (a' := ?_) ?_ ?_
   rotate_left
   ·show Act.put _ (some 59) _ = _
    simp only [Act.put, List.setIfInBounds_toArray, List.set_cons_zero, List.set_cons_succ, i64_w, i32_w]
    rfl
   refine pS 9 60 19 1023 ?_
   refine pS 11 62 19 3071 ?_
   refine tS 10 61 19 4095 ?_
   refine one_ (i := 12) (N := some 63) (ba 19 8191) rfl rfl (one_of HT_.out (by kernel_rfl)) (by decide) (fun K hK => ?_)
   refine gC Tryd.func24 #[.int .i64 t152, .int .i64 1] ?_
   with_reducible refine (curves_of.calls kj2 t152 1 t155 t156 _ A100.out).mono ?_
   rintro e w109 ⟨rfl, hb⟩
   refine ⟨_, rfl, ?_⟩
   replace BK145 := kB BK145 hb
   replace BK146 := kB BK146 hb
   replace BK147 := kB BK147 hb
   replace BK148 := kB BK148 hb
   replace HB := kH _ hb
   (try clear hb)
   (try clear hb2)
   (try clear hk)
   (try clear hi)
   refine hK.out _ _ ⟨bc BK148 0, bc BK148 1, bc BK146 0, bc BK146 1⟩ (fun hHeld => ?_)
   clear hK K
   refine norm_ (a' := ?_) ?_ ?_
   rotate_left
   ·show Act.put _ (some 63) _ = _
    simp only [Act.put, List.setIfInBounds_toArray, List.set_cons_zero, List.set_cons_succ, i64_w, i32_w]
    rfl
   refine pS 13 64 19 16383 ?_
   refine pS 14 65 19 32767 ?_
   refine pS 15 66 19 65535 ?_
   refine pS 16 67 19 131071 ?_
   refine one_ (i := 17) (N := none) (ba 19 262143) rfl rfl (one_of HT_.out (by kernel_rfl)) (by decide) (fun K hK => ?_)
   have hs110 : w109.cell? ⟨gb147, 0, none⟩ = some (.int .i64 0) := bc BK147 0
   have hfs110 := fz BK147 0
   have hns110_0 := NB145_147.out
   have hns110_1 := NB146_147.out
   have hns110_3 := NB148_147.out
   have hms110_0 := NB147_145.out
   have hms110_1 := NB147_146.out
   have hms110_3 := NB147_148.out
   have hs111 : w109.cell? ⟨gb147, 1, none⟩ = some (.int .i64 0) := bc BK147 1
   have hfs111 := fz BK147 1
   have hns111_0 := NB145_147.out
   have hns111_1 := NB146_147.out
   have hns111_3 := NB148_147.out
   have hms111_0 := NB147_145.out
   have hms111_1 := NB147_146.out
   have hms111_3 := NB147_148.out
   refine skip_ (w1 := ?_) (by rfl) rfl ?_ ?_
   rotate_left
   ·go_simp
    rfl
   refine hK.out _ _ ⟨((cell_far (p := ⟨gb147, _, none⟩) NB148_147.out _).trans (((cell_far (p := ⟨gb147, _, none⟩) NB148_147.out _).trans (hHeld.1)))), ((cell_far (p := ⟨gb147, _, none⟩) NB148_147.out _).trans (((cell_far (p := ⟨gb147, _, none⟩) NB148_147.out _).trans (hHeld.2.1)))), ((cell_far (p := ⟨gb147, _, none⟩) NB146_147.out _).trans (((cell_far (p := ⟨gb147, _, none⟩) NB146_147.out _).trans (hHeld.2.2.1)))), ((cell_far (p := ⟨gb147, _, none⟩) NB146_147.out _).trans (((cell_far (p := ⟨gb147, _, none⟩) NB146_147.out _).trans (hHeld.2.2.2))))⟩ (fun hHeld => ?_)
   clear hK K
   refine pS 18 5 19 524287 ?_
   refine done_ (done_of HT_.out (by kernel_rfl)) ?_
   try go_wp2
   refine bodyPost_ret (results_ct rfl _ _ gb147 49 #[.int .i64 a1_0, .int .i64 a1_1] (0, 0) _ rfl (by (with_reducible repeat (first | refine blk_drewN ?_ _ | refine blk_drew ?_ | refine blk_alloc ?_ _)); refine blk_put (cs := #[.int .i64 a1_0, .int .i64 0]) ?_ 1 _ rfl; (with_reducible repeat (first | refine blk_drewN ?_ _ | refine blk_drew ?_ | refine blk_alloc ?_ _)); refine blk_put (cs := #[.int .i64 0, .int .i64 0]) ?_ 0 _ rfl; (with_reducible repeat (first | refine blk_drewN ?_ _ | refine blk_drew ?_ | refine blk_alloc ?_ _)); exact BK147.out) Tryd.underlying49 rfl (by kernel_rfl)) rfl ?_
   exact ⟨by first | rfl | (simp [errW_none, errW_some] <;> rfl) | (simp [*, errW_none, errW_some] <;> rfl), hbC _⟩

end Go.Proofs.YtpnocmkpeogifaaDoor.X
