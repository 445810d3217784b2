-- Written by a program of this work (wip/xprint.py, over the kit's printer) out of the translation.
import Derived.Test.YtpnocmkpeogifaaX0
import Derived.Test.YtpnocmkpeogifaaXG4a
import Derived.Test.YtpnocmkpeogifaaXf15
import Derived.Test.YtpnocmkpeogifaaXf17
import Derived.Test.YtpnocmkpeogifaaXf18
import Derived.Test.YtpnocmkpeogifaaXf19
import Derived.Test.YtpnocmkpeogifaaXf34
import Derived.Test.YtpnocmkpeogifaaXq0
namespace Go.Proofs.Ytpnocmkpeogifaa.X
open Go.RowKit Go.Proofs.YtpnocmkpeogifaaW.PrintWords Go.Proofs.YtpnocmkpeogifaaW.PrintLast Go.Proofs.YtpnocmkpeogifaaW.PrintMore
attribute [local go_sem] max2_int min2_int max_two min_two max_three min_three max_four min_four   -- for this text's walks alone
set_option linter.unusedVariables false
set_option linter.unusedSimpArgs false

attribute [local go_sem high] eqA26
/-! ### congoulaw04_CurvesStraight: function 8 -/
mutual
def congoulaw04_CurvesStraight.j0 : Nat → List (S26) → Int → List (S26) → Int → Bool → Int → List Int → List Int → Int → Int → Option (Bool)
 | 0, _, _, _, _, _, _, _, _, _, _ => none
 | k + 1, x5, x6, x7, x8, x37, x642000, x642001, x642002, x643000, x643001 => if x37 = true then (if x6 = 2 then ((congoulaw04_awake.f k).bind fun t666 => (some t666)) else (if x8 = 2 then ((congoulaw04_awake.f k).bind fun t667 => (some t667)) else (if x6 = 4 then (if x642000 = 0 then ((congoulaw04_awake.f k).bind fun t668 => (some t668)) else (some false)) else (some false)))) else (if (x5.length : Int) = (x7.length : Int) then (congoulaw04_CurvesStraight.j1 k x5 x7 ((x7.length : Int) != (x642002.length : Int)) x643000 x643001) else (congoulaw04_CurvesStraight.j1 k x5 x7 true x643000 x643001))
def congoulaw04_CurvesStraight.j1 : Nat → List (S26) → List (S26) → Bool → Int → Int → Option (Bool)
 | 0, _, _, _, _, _ => none
 | k + 1, x5, x7, x68, x643000, x643001 => if x68 = true then (some false) else (congoulaw04_CurvesStraight.l0 k x7 x5 (x5.length : Int) 0 x643000 x643001 0 1)
def congoulaw04_CurvesStraight.l0 : Nat → List (S26) → List (S26) → Int → Int → Int → Int → Int → Int → Option (Bool)
 | 0, _, _, _, _, _, _, _, _ => none
 | k + 1, x7, x70, x71, x72, x643000, x643001, x670000, x670001 => if x72 < x71 then (if 0 ≤ x72 then (if x72 < (x70.length : Int) then (if x72 < (x7.length : Int) then ((congoulaw04_more.f k x670000 x670001 ((rd_T26 x70 x72).f0) ((rd_T26 x70 x72).f1) ((rd_T26 x7 x72).f0) ((rd_T26 x7 x72).f1)).bind fun bt673 => (if bt673.2.2 = true then (congoulaw04_CurvesStraight.l0 k x7 x70 x71 (wrap64 (x72 + 1)) x643000 x643001 bt673.1 bt673.2.1) else (some false))) else (none)) else (none)) else (none)) else (if (x670000 == x643000 && (x670001 == x643001)) = true then ((congoulaw04_awake.f k).bind fun t676 => (some t676)) else (some false))
end
def congoulaw04_CurvesStraight.f (k : Nat) (a0_0 : Int) (l0_1 : List Int) (l0_2 : List Int) (a1_0 : Int) (a1_1 : Int) : Option (Bool) := (congoulaw04_Of.f a0_0 l0_1 l0_2).bind fun bt643 => ((curves_Means.f k bt643.1 bt643.2.1 bt643.2.2).bind fun bt650 => ((congoulaw04_Of.f a0_0 l0_1 l0_2).bind fun bt654 => ((curves_Basic.f k bt654.1 bt654.2.1 bt654.2.2 a1_0 a1_1).bind fun bt661 => (if bt650.2 = 0 then (if bt661.2 = 0 then ((congoulaw04_fine.f k a0_0 l0_1 l0_2 a1_0 a1_1).bind fun t665 => (congoulaw04_CurvesStraight.j0 k bt650.1 bt650.2 bt661.1 bt661.2 (!t665) a0_0 l0_1 l0_2 a1_0 a1_1)) else (congoulaw04_CurvesStraight.j0 k bt650.1 bt650.2 bt661.1 bt661.2 true a0_0 l0_1 l0_2 a1_0 a1_1)) else (congoulaw04_CurvesStraight.j0 k bt650.1 bt650.2 bt661.1 bt661.2 true a0_0 l0_1 l0_2 a1_0 a1_1)))))
theorem congoulaw04_CurvesStraight.mono_l : ∀ k, (∀ y0 y1 y2 y3 y4 y5 y6 y7 y8 y9, LeO (congoulaw04_CurvesStraight.j0 k y0 y1 y2 y3 y4 y5 y6 y7 y8 y9) (congoulaw04_CurvesStraight.j0 (k + 1) y0 y1 y2 y3 y4 y5 y6 y7 y8 y9)) ∧ (∀ y0 y1 y2 y3 y4, LeO (congoulaw04_CurvesStraight.j1 k y0 y1 y2 y3 y4) (congoulaw04_CurvesStraight.j1 (k + 1) y0 y1 y2 y3 y4)) ∧ (∀ y0 y1 y2 y3 y4 y5 y6 y7, LeO (congoulaw04_CurvesStraight.l0 k y0 y1 y2 y3 y4 y5 y6 y7) (congoulaw04_CurvesStraight.l0 (k + 1) y0 y1 y2 y3 y4 y5 y6 y7))
 | 0 => ⟨fun _ _ _ _ _ _ _ _ _ _ r h => by simp [congoulaw04_CurvesStraight.j0] at h, fun _ _ _ _ _ r h => by simp [congoulaw04_CurvesStraight.j1] at h, fun _ _ _ _ _ _ _ _ r h => by simp [congoulaw04_CurvesStraight.l0] at h⟩
 | k + 1 => by
  obtain ⟨ih0, ih1, ih2⟩ := congoulaw04_CurvesStraight.mono_l k
  refine ⟨?_, ?_, ?_⟩
  ·intro y0 y1 y2 y3 y4 y5 y6 y7 y8 y9
   unfold congoulaw04_CurvesStraight.j0
   repeat' first
   | (with_reducible exact ih0 _ _ _ _ _ _ _ _ _ _)
   | (with_reducible exact ih1 _ _ _ _ _)
   | (with_reducible exact ih2 _ _ _ _ _ _ _ _)
   | (with_reducible exact congoulaw04_awake.mono _)
   | (with_reducible exact congoulaw04_fine.mono _ _ _ _ _ _)
   | (with_reducible exact congoulaw04_more.mono _ _ _ _ _ _ _)
   | (with_reducible exact curves_Basic.mono _ _ _ _ _ _)
   | (with_reducible exact curves_Means.mono _ _ _ _)
   | (with_reducible exact LeO.refl _)
   | (with_reducible exact LeO.none _)
   | (with_reducible refine LeO.ite ?_ ?_)
   | (with_reducible refine LeO.bind ?_ (fun _ => ?_))
   | exact ih0 _ _ _ _ _ _ _ _ _ _
   | exact ih1 _ _ _ _ _
   | exact ih2 _ _ _ _ _ _ _ _
   | exact congoulaw04_awake.mono _
   | exact congoulaw04_fine.mono _ _ _ _ _ _
   | exact congoulaw04_more.mono _ _ _ _ _ _ _
   | exact curves_Basic.mono _ _ _ _ _ _
   | exact curves_Means.mono _ _ _ _
   | exact LeO.none _
   | refine LeO.ite ?_ ?_
   | refine LeO.bind ?_ (fun _ => ?_)
  ·intro y0 y1 y2 y3 y4
   unfold congoulaw04_CurvesStraight.j1
   repeat' first
   | (with_reducible exact ih0 _ _ _ _ _ _ _ _ _ _)
   | (with_reducible exact ih1 _ _ _ _ _)
   | (with_reducible exact ih2 _ _ _ _ _ _ _ _)
   | (with_reducible exact congoulaw04_awake.mono _)
   | (with_reducible exact congoulaw04_fine.mono _ _ _ _ _ _)
   | (with_reducible exact congoulaw04_more.mono _ _ _ _ _ _ _)
   | (with_reducible exact curves_Basic.mono _ _ _ _ _ _)
   | (with_reducible exact curves_Means.mono _ _ _ _)
   | (with_reducible exact LeO.refl _)
   | (with_reducible exact LeO.none _)
   | (with_reducible refine LeO.ite ?_ ?_)
   | (with_reducible refine LeO.bind ?_ (fun _ => ?_))
   | exact ih0 _ _ _ _ _ _ _ _ _ _
   | exact ih1 _ _ _ _ _
   | exact ih2 _ _ _ _ _ _ _ _
   | exact congoulaw04_awake.mono _
   | exact congoulaw04_fine.mono _ _ _ _ _ _
   | exact congoulaw04_more.mono _ _ _ _ _ _ _
   | exact curves_Basic.mono _ _ _ _ _ _
   | exact curves_Means.mono _ _ _ _
   | exact LeO.none _
   | refine LeO.ite ?_ ?_
   | refine LeO.bind ?_ (fun _ => ?_)
  ·intro y0 y1 y2 y3 y4 y5 y6 y7
   unfold congoulaw04_CurvesStraight.l0
   repeat' first
   | (with_reducible exact ih0 _ _ _ _ _ _ _ _ _ _)
   | (with_reducible exact ih1 _ _ _ _ _)
   | (with_reducible exact ih2 _ _ _ _ _ _ _ _)
   | (with_reducible exact congoulaw04_awake.mono _)
   | (with_reducible exact congoulaw04_fine.mono _ _ _ _ _ _)
   | (with_reducible exact congoulaw04_more.mono _ _ _ _ _ _ _)
   | (with_reducible exact curves_Basic.mono _ _ _ _ _ _)
   | (with_reducible exact curves_Means.mono _ _ _ _)
   | (with_reducible exact LeO.refl _)
   | (with_reducible exact LeO.none _)
   | (with_reducible refine LeO.ite ?_ ?_)
   | (with_reducible refine LeO.bind ?_ (fun _ => ?_))
   | exact ih0 _ _ _ _ _ _ _ _ _ _
   | exact ih1 _ _ _ _ _
   | exact ih2 _ _ _ _ _ _ _ _
   | exact congoulaw04_awake.mono _
   | exact congoulaw04_fine.mono _ _ _ _ _ _
   | exact congoulaw04_more.mono _ _ _ _ _ _ _
   | exact curves_Basic.mono _ _ _ _ _ _
   | exact curves_Means.mono _ _ _ _
   | exact LeO.none _
   | refine LeO.ite ?_ ?_
   | refine LeO.bind ?_ (fun _ => ?_)
theorem congoulaw04_CurvesStraight.mono : ∀ a0 a1 a2 a3 a4 k, LeO (congoulaw04_CurvesStraight.f k a0 a1 a2 a3 a4) (congoulaw04_CurvesStraight.f (k + 1) a0 a1 a2 a3 a4) := by
 intro a0 a1 a2 a3 a4 k
 obtain ⟨ih0, ih1, ih2⟩ := congoulaw04_CurvesStraight.mono_l k
 unfold congoulaw04_CurvesStraight.f
 repeat' first
   | (with_reducible exact ih0 _ _ _ _ _ _ _ _ _ _)
   | (with_reducible exact ih1 _ _ _ _ _)
   | (with_reducible exact ih2 _ _ _ _ _ _ _ _)
   | (with_reducible exact congoulaw04_awake.mono _)
   | (with_reducible exact congoulaw04_fine.mono _ _ _ _ _ _)
   | (with_reducible exact congoulaw04_more.mono _ _ _ _ _ _ _)
   | (with_reducible exact curves_Basic.mono _ _ _ _ _ _)
   | (with_reducible exact curves_Means.mono _ _ _ _)
   | (with_reducible exact LeO.refl _)
   | (with_reducible exact LeO.none _)
   | (with_reducible refine LeO.ite ?_ ?_)
   | (with_reducible refine LeO.bind ?_ (fun _ => ?_))
   | exact ih0 _ _ _ _ _ _ _ _ _ _
   | exact ih1 _ _ _ _ _
   | exact ih2 _ _ _ _ _ _ _ _
   | exact congoulaw04_awake.mono _
   | exact congoulaw04_fine.mono _ _ _ _ _ _
   | exact congoulaw04_more.mono _ _ _ _ _ _ _
   | exact curves_Basic.mono _ _ _ _ _ _
   | exact curves_Means.mono _ _ _ _
   | exact LeO.none _
   | refine LeO.ite ?_ ?_
   | refine LeO.bind ?_ (fun _ => ?_)
def congoulaw04_CurvesStraight.T2 : Bool × List (List Nat × List Nat) := (true, [([], []), ([0], [0]), ([], []), ([1, 2, 1], [1, 2]), ([3], [3]), ([4], [4]), ([4], [4]), ([5, 3, 0, 1, 2, 3, 4, 5], [5]), ([6, 7, 0, 1, 2, 3, 4, 5, 6, 7], [6])])
def congoulaw04_CurvesStraight.B2 : List Nat := [0, 1, 0, 7, 15, 31, 31, 63, 255]
theorem congoulaw04_CurvesStraight.tab2 : rtab .any (opsOf Try.f8 2) = congoulaw04_CurvesStraight.T2 := by kernel_rfl
theorem congoulaw04_CurvesStraight.bits2 : waitsOk congoulaw04_CurvesStraight.T2.2 congoulaw04_CurvesStraight.B2 = true := by kernel_rfl
def congoulaw04_CurvesStraight.T12 : Bool × List (List Nat × List Nat) := (true, [([], []), ([], []), ([], []), ([], []), ([2, 3], [2, 3]), ([4], [4]), ([0, 1, 5], [0, 1, 5]), ([6], [6]), ([7], [7]), ([7], [7]), ([8, 6, 0, 1, 2, 3, 4, 5, 6, 7, 8], [8]), ([9, 10, 0, 1, 2, 3, 4, 5, 6, 7, 8, 9, 10], [9])])
def congoulaw04_CurvesStraight.B12 : List Nat := [0, 0, 0, 0, 12, 28, 63, 127, 255, 255, 511, 2047]
theorem congoulaw04_CurvesStraight.tab12 : rtab .any (opsOf Try.f8 12) = congoulaw04_CurvesStraight.T12 := by kernel_rfl
theorem congoulaw04_CurvesStraight.bits12 : waitsOk congoulaw04_CurvesStraight.T12.2 congoulaw04_CurvesStraight.B12 = true := by kernel_rfl
set_option maxHeartbeats 8000000 in
set_option maxRecDepth 100000 in
theorem congoulaw04_CurvesStraight.calls (k : Nat) (a0_0 : Int) (A0_1 : Option Addr) (c0_1 : Nat) (l0_1 : List Int) (A0_2 : Option Addr) (c0_2 : Nat) (l0_2 : List Int) (a1_0 : Int) (a1_1 : Int) (r : Bool) (w : World) (hr0_1 : Kd.C (Kd.int .i64) w A0_1 l0_1.length l0_1) (hc0_1 : l0_1.length ≤ c0_1) (hr0_2 : Kd.C (Kd.int .i64) w A0_2 l0_2.length l0_2) (hc0_2 : l0_2.length ≤ c0_2) (hrt : r = true) (h : congoulaw04_CurvesStraight.f k a0_0 l0_1 l0_2 a1_0 a1_1 = some r) :
  Calls Try.prog 8 #[.agg #[.int .i64 a0_0, .slice A0_1 l0_1.length c0_1, .slice A0_2 l0_2.length c0_2], .agg #[.int .i64 a1_0, .int .i64 a1_1]] w fun e w' => e = .returned (.bool r) ∧ Below w.heap.size w w' := by
 have hu24 := Try.underlying24
 have hu26 := Try.underlying26
 have HR0_1 := Aside0.mk hr0_1
 have HC0_1 := Aside0.mk hc0_1
 clear hr0_1 hc0_1
 have HR0_2 := Aside0.mk hr0_2
 have HC0_2 := Aside0.mk hc0_2
 clear hr0_2 hc0_2
 have HB := Aside0.mk (Below.refl w.heap.size w)
 have H : ((congoulaw04_Of.f a0_0 l0_1 l0_2).bind fun bt643 => ((curves_Means.f k bt643.1 bt643.2.1 bt643.2.2).bind fun bt650 => ((congoulaw04_Of.f a0_0 l0_1 l0_2).bind fun bt654 => ((curves_Basic.f k bt654.1 bt654.2.1 bt654.2.2 a1_0 a1_1).bind fun bt661 => (if bt650.2 = 0 then (if bt661.2 = 0 then ((congoulaw04_fine.f k a0_0 l0_1 l0_2 a1_0 a1_1).bind fun t665 => (congoulaw04_CurvesStraight.j0 k bt650.1 bt650.2 bt661.1 bt661.2 (!t665) a0_0 l0_1 l0_2 a1_0 a1_1)) else (congoulaw04_CurvesStraight.j0 k bt650.1 bt650.2 bt661.1 bt661.2 true a0_0 l0_1 l0_2 a1_0 a1_1)) else (congoulaw04_CurvesStraight.j0 k bt650.1 bt650.2 bt661.1 bt661.2 true a0_0 l0_1 l0_2 a1_0 a1_1)))))) = some r := h
 clear h
 have HRT := Aside0.mk hrt
 clear hrt
 replace H := Option.bind_eq_some_iff.mp H
 obtain ⟨⟨t643, t644, t647⟩, A30, H⟩ := H
 replace H : ((curves_Means.f k t643 t644 t647).bind fun bt650 => ((congoulaw04_Of.f a0_0 l0_1 l0_2).bind fun bt654 => ((curves_Basic.f k bt654.1 bt654.2.1 bt654.2.2 a1_0 a1_1).bind fun bt661 => (if bt650.2 = 0 then (if bt661.2 = 0 then ((congoulaw04_fine.f k a0_0 l0_1 l0_2 a1_0 a1_1).bind fun t665 => (congoulaw04_CurvesStraight.j0 k bt650.1 bt650.2 bt661.1 bt661.2 (!t665) a0_0 l0_1 l0_2 a1_0 a1_1)) else (congoulaw04_CurvesStraight.j0 k bt650.1 bt650.2 bt661.1 bt661.2 true a0_0 l0_1 l0_2 a1_0 a1_1)) else (congoulaw04_CurvesStraight.j0 k bt650.1 bt650.2 bt661.1 bt661.2 true a0_0 l0_1 l0_2 a1_0 a1_1))))) = some r := H
 have A3 := Aside0.mk A30
 clear A30
 replace H := Option.bind_eq_some_iff.mp H
 obtain ⟨⟨t650, t653⟩, A40, H⟩ := H
 replace H : ((congoulaw04_Of.f a0_0 l0_1 l0_2).bind fun bt654 => ((curves_Basic.f k bt654.1 bt654.2.1 bt654.2.2 a1_0 a1_1).bind fun bt661 => (if t653 = 0 then (if bt661.2 = 0 then ((congoulaw04_fine.f k a0_0 l0_1 l0_2 a1_0 a1_1).bind fun t665 => (congoulaw04_CurvesStraight.j0 k t650 t653 bt661.1 bt661.2 (!t665) a0_0 l0_1 l0_2 a1_0 a1_1)) else (congoulaw04_CurvesStraight.j0 k t650 t653 bt661.1 bt661.2 true a0_0 l0_1 l0_2 a1_0 a1_1)) else (congoulaw04_CurvesStraight.j0 k t650 t653 bt661.1 bt661.2 true a0_0 l0_1 l0_2 a1_0 a1_1)))) = some r := H
 have A4 := Aside0.mk A40
 clear A40
 replace H := Option.bind_eq_some_iff.mp H
 obtain ⟨⟨t654, t655, t658⟩, A50, H⟩ := H
 replace H : ((curves_Basic.f k t654 t655 t658 a1_0 a1_1).bind fun bt661 => (if t653 = 0 then (if bt661.2 = 0 then ((congoulaw04_fine.f k a0_0 l0_1 l0_2 a1_0 a1_1).bind fun t665 => (congoulaw04_CurvesStraight.j0 k t650 t653 bt661.1 bt661.2 (!t665) a0_0 l0_1 l0_2 a1_0 a1_1)) else (congoulaw04_CurvesStraight.j0 k t650 t653 bt661.1 bt661.2 true a0_0 l0_1 l0_2 a1_0 a1_1)) else (congoulaw04_CurvesStraight.j0 k t650 t653 bt661.1 bt661.2 true a0_0 l0_1 l0_2 a1_0 a1_1))) = some r := H
 have A5 := Aside0.mk A50
 clear A50
 replace H := Option.bind_eq_some_iff.mp H
 obtain ⟨⟨t661, t664⟩, A60, H⟩ := H
 replace H : (if t653 = 0 then (if t664 = 0 then ((congoulaw04_fine.f k a0_0 l0_1 l0_2 a1_0 a1_1).bind fun t665 => (congoulaw04_CurvesStraight.j0 k t650 t653 t661 t664 (!t665) a0_0 l0_1 l0_2 a1_0 a1_1)) else (congoulaw04_CurvesStraight.j0 k t650 t653 t661 t664 true a0_0 l0_1 l0_2 a1_0 a1_1)) else (congoulaw04_CurvesStraight.j0 k t650 t653 t661 t664 true a0_0 l0_1 l0_2 a1_0 a1_1)) = some r := H
 have A6 := Aside0.mk A60
 clear A60
 have HC7 := Aside0.mk H
 clear H
 go_enter Try.func8, Try.ntmps8
 try go_wp2_with (first | ((with_reducible refine gate_dst (N := 2) rfl ?_); (try (refine gate_guard (by rfl) ?_; dsimp only)); refine bE 2 #[.int .i64 a0_0, .slice A0_1 l0_1.length c0_1, .slice A0_2 l0_2.length c0_2] 24 ?_; intro gb641 hg w8 hbox hb; have BK641 := Aside0.mk (hbox); have GW641 := kG w hg; have GE641 := kG w hg; replace HB := kH _ hb; clear hb hbox hg) | ((with_reducible refine gate_dst (N := 3) rfl ?_); (try (refine gate_guard (by rfl) ?_; dsimp only)); refine bE 3 #[.int .i64 a1_0, .int .i64 a1_1] 26 ?_; intro gb642 hg w9 hbox hb; have BK642 := Aside0.mk (hbox); have GW642 := kG w hg; have GE642 := kG w hg; replace HB := kH _ hb; have NB641_642 := kL BK641 hg; have NB642_641 := kR BK641 hg; replace BK641 := kB BK641 hb; clear hb hbox hg; have hnb10 := NB641_642.out; have hnc10 := NB642_641.out; have hcz11_0 : w9.cell? ⟨gb641, 0, none⟩ = some (.int .i64 a0_0) := bc BK641 0; have hcz11_1 : w9.cell? ⟨gb641, 1, none⟩ = some (.slice A0_1 l0_1.length c0_1) := bc BK641 1; have hcz11_2 : w9.cell? ⟨gb641, 2, none⟩ = some (.slice A0_2 l0_2.length c0_2) := bc BK641 2; have hfz11_0 := fz BK641 0; have hfz11_1 := fz BK641 1; have hfz11_2 := fz BK641 2) | ((with_reducible refine gate_callee (f := 15) rfl ?_); refine gL 15 Try.func15 #[.agg #[.int .i64 a0_0, .slice A0_1 l0_1.length c0_1, .slice A0_2 l0_2.length c0_2]] ?_; (with_reducible refine (congoulaw04_Of.calls a0_0 _ _ l0_1 _ _ l0_2 t643 t644 t647 _ ?side1 ?side2 ?side3 ?side4 A3.out).mono ?_); (case side1 => exact kC HR0_1); (case side2 => exact HC0_1.out); (case side3 => exact kC HR0_2); (case side4 => exact HC0_2.out); rintro e w12 ⟨v645, v648, rfl, ho0, ho1, hb⟩; refine ⟨_, rfl, ?_⟩; have HO646 := Aside0.mk (Kd.R_lower ho0 (below_size (hbC _))); have HO649 := Aside0.mk (Kd.R_lower ho1 (below_size (hbC _))); replace BK641 := kB BK641 hb; replace BK642 := kB BK642 hb; replace HB := kH _ hb; (try clear hb); (try clear hb2); (try clear hk); (try clear hi); (try clear ho0); (try clear ho1); obtain ⟨Ao13, co13, eo13⟩ := Kd.R_slice HO646.out; subst eo13; obtain ⟨Ao14, co14, eo14⟩ := Kd.R_slice HO649.out; subst eo14) | ((with_reducible refine gate_callee (f := 34) rfl ?_); refine gL 16 Try.func34 #[.agg #[.int .i64 t643, .slice Ao13 t644.length co13, .slice Ao14 t647.length co14]] ?_; (with_reducible refine (curves_Means.calls k t643 _ _ t644 _ _ t647 t650 t653 _ ?side1 ?side2 ?side3 ?side4 A4.out).mono ?_); (case side1 => exact kD (Kd.R_reads' HO646.out).2.2); (case side2 => exact (Kd.R_reads' HO646.out).2.1); (case side3 => exact kD (Kd.R_reads' HO649.out).2.2); (case side4 => exact (Kd.R_reads' HO649.out).2.1); rintro e w15 ⟨v651, rfl, ho0, hb⟩; refine ⟨_, rfl, ?_⟩; replace HO646 := kO HO646 hb; replace HO649 := kO HO649 hb; have HO652 := Aside0.mk (Kd.R_lower (Kd.R_newB ho0 (g := gb642) (o := .cells #[.int .i64 a1_0, .int .i64 a1_1] 26 (0, 0)) (bkC BK642)) (below_size (hbC _))); replace BK641 := kB BK641 hb; replace BK642 := kB BK642 hb; replace HB := kH _ hb; (try clear hb); (try clear hb2); (try clear hk); (try clear hi); (try clear ho0)))
 replace HO646 := Aside0.mk (Kd.R_drew HO646.out)
 replace HO649 := Aside0.mk (Kd.R_drew HO649.out)
 replace HO652 := Aside0.mk (Kd.R_drew HO652.out)
 replace BK641 := kd BK641
 replace BK642 := kd BK642
 replace HB := Aside0.mk (below_drew1 HB.out)
 refine sS (n := 9) (S := fun w' => w'.cell? ⟨gb641, 0, none⟩ = some (.int .i64 a0_0) ∧ w'.cell? ⟨gb641, 1, none⟩ = some (.slice A0_1 l0_1.length c0_1) ∧ w'.cell? ⟨gb641, 2, none⟩ = some (.slice A0_2 l0_2.length c0_2) ∧ w'.cell? ⟨gb642, 0, none⟩ = some (.int .i64 a1_0) ∧ w'.cell? ⟨gb642, 1, none⟩ = some (.int .i64 a1_1)) (ds := []) ⟨bc BK641 0, bc BK641 1, bc BK641 2, bc BK642 0, bc BK642 1⟩ (fun hHeld => ?_); refine with_tabW congoulaw04_CurvesStraight.tab2 congoulaw04_CurvesStraight.bits2 (fun HT_ HW_ => ?_)
 generalize w15.drew = w16 at HO646 HO649 HO652 BK641 BK642 HB hHeld ⊢
 refine tS 0 20 9 1 ?_
 refine tS 2 22 9 5 ?_
 refine one_ (i := 1) (N := some 21) (ba 9 7) rfl rfl (one_of HT_.out (by kernel_rfl)) (by decide) (fun K hK => ?_)
 refine gC Try.func15 #[.agg #[.int .i64 a0_0, .slice A0_1 l0_1.length c0_1, .slice A0_2 l0_2.length c0_2]] ?_
 with_reducible refine (congoulaw04_Of.calls a0_0 _ _ l0_1 _ _ l0_2 t654 t655 t658 _ ?side1 ?side2 ?side3 ?side4 A5.out).mono ?_
 (case side1 => exact kC HR0_1)
 (case side2 => exact HC0_1.out)
 (case side3 => exact kC HR0_2)
 (case side4 => exact HC0_2.out)
 rintro e w17 ⟨v656, v659, rfl, ho0, ho1, hb⟩
 refine ⟨_, rfl, ?_⟩
 replace HO652 := kO HO652 hb
 have HO657 := Aside0.mk (Kd.R_lower (Kd.R_new' (Kd.R_new' ho0 (Kd.R_lt (rC HO646))) (Kd.R_lt (rC HO649))) (below_size (hbC _)))
 have HO660 := Aside0.mk (Kd.R_lower (Kd.R_new' (Kd.R_new' ho1 (Kd.R_lt (rC HO646))) (Kd.R_lt (rC HO649))) (below_size (hbC _)))
 replace HO646 := Aside0.mk (Kd.R_mono (Kd.R_told (Kd.R_told (Kd.R_old (rC HO646) hb) (Kd.R_base ho0)) (Kd.R_base ho1)) (fun _ h_ => h_.1))
 replace HO649 := Aside0.mk (Kd.R_mono (Kd.R_told (Kd.R_told (Kd.R_old (rC HO649) hb) (Kd.R_base ho0)) (Kd.R_base ho1)) (fun _ h_ => h_.1))
 replace BK641 := kB BK641 hb
 replace BK642 := kB BK642 hb
 replace HB := kH _ hb
 (try clear hb)
 (try clear hb2)
 (try clear hk)
 (try clear hi)
 (try clear ho0)
 (try clear ho1)
 obtain ⟨Ao18, co18, eo18⟩ := Kd.R_slice HO657.out
 (first | subst eo18 | (injection eo18 with f1_ f2_ f3_; have f4_ := f1_.symm; have f5_ := f3_.symm; clear f1_ f2_ f3_; subst f4_; subst f5_))
 obtain ⟨Ao19, co19, eo19⟩ := Kd.R_slice HO660.out
 (first | subst eo19 | (injection eo19 with f1_ f2_ f3_; have f4_ := f1_.symm; have f5_ := f3_.symm; clear f1_ f2_ f3_; subst f4_; subst f5_))
 refine hK.out _ _ ⟨bc BK641 0, bc BK641 1, bc BK641 2, bc BK642 0, bc BK642 1⟩ (fun hHeld => ?_)
 clear hK K
 refine norm_ (a' := ?_) ?_ ?_
 rotate_left
 ·show Act.put _ (some 21) _ = _
  simp only [Act.put, List.setIfInBounds_toArray, List.set_cons_zero, List.set_cons_succ, i64_w, i32_w]
  rfl
 refine one_ (i := 3) (N := some 23) (ba 9 15) rfl rfl (one_of HT_.out (by kernel_rfl)) (by decide) (fun K hK => ?_)
 refine gC Try.func18 #[.agg #[.int .i64 t654, .slice Ao18 t655.length co18, .slice Ao19 t658.length co19], .agg #[.int .i64 a1_0, .int .i64 a1_1]] ?_
 with_reducible refine (curves_Basic.calls k t654 _ _ t655 _ _ t658 a1_0 a1_1 t661 t664 _ ?side1 ?side2 ?side3 ?side4 A6.out).mono ?_
 (case side1 => exact kD (Kd.R_reads' HO657.out).2.2)
 (case side2 => exact (Kd.R_reads' HO657.out).2.1)
 (case side3 => exact kD (Kd.R_reads' HO660.out).2.2)
 (case side4 => exact (Kd.R_reads' HO660.out).2.1)
 rintro e w20 ⟨v662, rfl, ho0, hb⟩
 refine ⟨_, rfl, ?_⟩
 replace HO646 := kO HO646 hb
 replace HO649 := kO HO649 hb
 replace HO657 := kO HO657 hb
 replace HO660 := kO HO660 hb
 have HO663 := Aside0.mk (Kd.R_lower (Kd.R_newB (Kd.R_new' ho0 (Kd.R_lt (rC HO652))) (g := gb642) (o := .cells #[.int .i64 a1_0, .int .i64 a1_1] 26 (0, 0)) (bkC BK642)) (below_size (hbC _)))
 replace HO652 := Aside0.mk (Kd.R_elder' (rC HO652) (Kd.R_base ho0) hb)
 replace BK641 := kB BK641 hb
 replace BK642 := kB BK642 hb
 replace HB := kH _ hb
 (try clear hb)
 (try clear hb2)
 (try clear hk)
 (try clear hi)
 (try clear ho0)
 refine hK.out _ _ ⟨bc BK641 0, bc BK641 1, bc BK641 2, bc BK642 0, bc BK642 1⟩ (fun hHeld => ?_)
 clear hK K
 refine norm_ (a' := ?_) ?_ ?_
 rotate_left
 ·show Act.put _ (some 23) _ = _
  simp only [Act.put, List.setIfInBounds_toArray, List.set_cons_zero, List.set_cons_succ, i64_w, i32_w]
  rfl
 refine pS 4 19 9 31 ?_
 refine pS 5 24 9 63 ?_
 refine pS 6 25 9 127 ?_
 refine pS 7 7 9 255 ?_
 refine pS 8 8 9 511 ?_
 refine done_ (done_of HT_.out (by kernel_rfl)) ?_
 go_upto_region 3 with (fail)
 go_cut [37] (fun v37 wc => ∃ (kq : Nat) (x37_6 : Bool), v37 = .bool x37_6 ∧ Aside0 (congoulaw04_CurvesStraight.j0 kq t650 t653 t661 t664 x37_6 a0_0 l0_1 l0_2 a1_0 a1_1 = some r) ∧ Aside0 (kq ≤ k) ∧ Aside0 (Kd.R k26 26 wc w.heap.size (fun k_ => some k_ ≠ (v662 : Value).ownBlock ∧ k_ ≠ gb642) v651 t650) ∧ Aside0 (Kd.R k26 26 wc w.heap.size (fun k_ => some k_ ≠ (v651 : Value).ownBlock ∧ k_ ≠ gb642) v662 t661) ∧ Aside0 (wc.heap[gb641]? = some (.cells #[.int .i64 a0_0, (.slice A0_1 l0_1.length c0_1), (.slice A0_2 l0_2.length c0_2)] 24 (0, 0))) ∧ Aside0 (wc.heap[gb642]? = some (.cells #[.int .i64 a1_0, .int .i64 a1_1] 26 (0, 0))) ∧ Aside0 (Below w.heap.size w wc))
 case first =>
  have H := HC7.out
  clear HC7
  by_cases c21 : t653 = 0
  rotate_left
  ·rw [if_neg c21] at H
   have c21b0 : (t653 == 0) = false := beq_eq_false_iff_ne.mpr c21
   have c21b1 : (t653 != 0) = true := bne_iff_ne.mpr c21
   (first | rw [c21b0] | (simp only [i64_w, i32_w]; rw [c21b0]) | skip)
   have H' := Aside0.mk H
   clear H
   go_wp2
   go_meet
   case rel => exact ⟨_, (true), (by first | rfl | (simp; done) | (simp [*]; done)), H', ⟨by first | omega | exact Nat.le_refl _⟩, ⟨by (with_reducible repeat (first | apply Kd.R_alloc | apply Kd.R_drewN | apply Kd.R_drew)); exact Kd.R_mono HO652.out (fun _ hk => ⟨hk.2, hk.1.2⟩)⟩, ⟨by (with_reducible repeat (first | apply Kd.R_alloc | apply Kd.R_drewN | apply Kd.R_drew)); exact Kd.R_mono HO663.out (fun _ hk => ⟨hk.1.2, hk.2⟩)⟩, ⟨bkC BK641⟩, ⟨bkC BK642⟩, ⟨hbC _⟩⟩
  rw [if_pos c21] at H
  have c21b0 : (t653 == 0) = true := beq_iff_eq.mpr c21
  have c21b1 : (t653 != 0) = false := bne_eq_false_iff_eq.mpr c21
  clear c21
  (first | rw [c21b0] | (simp only [i64_w, i32_w]; rw [c21b0]) | skip)
  by_cases c22 : t664 = 0
  rotate_left
  ·rw [if_neg c22] at H
   have c22b0 : (t664 == 0) = false := beq_eq_false_iff_ne.mpr c22
   have c22b1 : (t664 != 0) = true := bne_iff_ne.mpr c22
   have H' := Aside0.mk H
   clear H
   go_wp2
   go_meet
   case rel => exact ⟨_, (true), (by first | rfl | (simp; done) | (simp [*]; done)), H', ⟨by first | omega | exact Nat.le_refl _⟩, ⟨by (with_reducible repeat (first | apply Kd.R_alloc | apply Kd.R_drewN | apply Kd.R_drew)); exact Kd.R_mono HO652.out (fun _ hk => ⟨hk.2, hk.1.2⟩)⟩, ⟨by (with_reducible repeat (first | apply Kd.R_alloc | apply Kd.R_drewN | apply Kd.R_drew)); exact Kd.R_mono HO663.out (fun _ hk => ⟨hk.1.2, hk.2⟩)⟩, ⟨bkC BK641⟩, ⟨bkC BK642⟩, ⟨hbC _⟩⟩
  rw [if_pos c22] at H
  have c22b0 : (t664 == 0) = true := beq_iff_eq.mpr c22
  have c22b1 : (t664 != 0) = false := bne_eq_false_iff_eq.mpr c22
  clear c22
  replace H := Option.bind_eq_some_iff.mp H
  obtain ⟨t665, A230, H⟩ := H
  replace H : (congoulaw04_CurvesStraight.j0 k t650 t653 t661 t664 (!t665) a0_0 l0_1 l0_2 a1_0 a1_1) = some r := H
  have A23 := Aside0.mk A230
  clear A230
  have H' := Aside0.mk H
  clear H
  have hnb24 := NB641_642.out
  have hnc24 := NB642_641.out
  have hcz25_0 : w20.cell? ⟨gb641, 0, none⟩ = some (.int .i64 a0_0) := bc BK641 0
  have hcz25_1 : w20.cell? ⟨gb641, 1, none⟩ = some (.slice A0_1 l0_1.length c0_1) := bc BK641 1
  have hcz25_2 : w20.cell? ⟨gb641, 2, none⟩ = some (.slice A0_2 l0_2.length c0_2) := bc BK641 2
  have hfz25_0 := fz BK641 0
  have hfz25_1 := fz BK641 1
  have hfz25_2 := fz BK641 2
  have hcz26_0 : w20.cell? ⟨gb642, 0, none⟩ = some (.int .i64 a1_0) := bc BK642 0
  have hcz26_1 : w20.cell? ⟨gb642, 1, none⟩ = some (.int .i64 a1_1) := bc BK642 1
  have hfz26_0 := fz BK642 0
  have hfz26_1 := fz BK642 1
  go_wp2_with (first | (go_at_call 16; (with_reducible refine (congoulaw04_fine.calls k a0_0 _ _ l0_1 _ _ l0_2 a1_0 a1_1 t665 _ ?side1 ?side2 ?side3 ?side4 A23.out).mono ?_); (case side1 => exact kC HR0_1); (case side2 => exact HC0_1.out); (case side3 => exact kC HR0_2); (case side4 => exact HC0_2.out); rintro e w27 ⟨rfl, hb⟩; replace HO646 := kO HO646 hb; replace HO649 := kO HO649 hb; replace HO652 := kO HO652 hb; replace HO657 := kO HO657 hb; replace HO660 := kO HO660 hb; replace HO663 := kO HO663 hb; replace BK641 := kB BK641 hb; replace BK642 := kB BK642 hb; replace HB := kH _ hb; (try clear hb); (try clear hb2); (try clear hk); (try clear hi)))
  go_meet
  case rel => exact ⟨_, (!t665), (by first | rfl | (simp; done) | (simp [*]; done)), H', ⟨by first | omega | exact Nat.le_refl _⟩, ⟨by (with_reducible repeat (first | apply Kd.R_alloc | apply Kd.R_drewN | apply Kd.R_drew)); exact Kd.R_mono HO652.out (fun _ hk => ⟨hk.2, hk.1.2⟩)⟩, ⟨by (with_reducible repeat (first | apply Kd.R_alloc | apply Kd.R_drewN | apply Kd.R_drew)); exact Kd.R_mono HO663.out (fun _ hk => ⟨hk.1.2, hk.2⟩)⟩, ⟨bkC BK641⟩, ⟨bkC BK642⟩, ⟨hbC _⟩⟩
 case rest =>
  clear HC7
  try clear c1
  try clear c2
  try clear p2
  try clear c3
  try clear c8
  try clear c10
  try clear c15
  try clear c18
  try clear c21
  try clear c21b0
  try clear c21b1
  try clear c22
  try clear c22b0
  try clear c22b1
  try clear c24
  try clear hcz11_0
  try clear hcz11_1
  try clear hcz11_2
  try clear hcz25_0
  try clear hcz25_1
  try clear hcz25_2
  try clear hcz26_0
  try clear hcz26_1
  try clear hfz11_0
  try clear hfz11_1
  try clear hfz11_2
  try clear hfz25_0
  try clear hfz25_1
  try clear hfz25_2
  try clear hfz26_0
  try clear hfz26_1
  obtain ⟨kq, x37_6, rfl, HA, HJ6, HO_5, HO_7, BK641, BK642, HB⟩ := hcut
  cases kq with
  | zero => exact absurd HA.out (by simp [congoulaw04_CurvesStraight.j0])
  | succ kj6 =>
   have H := HA.out
   clear HA
   simp only [congoulaw04_CurvesStraight.j0] at H
   by_cases c28 : x37_6 = true
   ·subst c28
    have H1 : (if t653 = 2 then ((congoulaw04_awake.f kj6).bind fun t666 => (some t666)) else (if t664 = 2 then ((congoulaw04_awake.f kj6).bind fun t667 => (some t667)) else (if t653 = 4 then (if a0_0 = 0 then ((congoulaw04_awake.f kj6).bind fun t668 => (some t668)) else (some false)) else (some false)))) = some r := by rw [if_pos rfl] at H; exact H
    clear H
    have H := H1
    clear H1
    by_cases c29 : t653 = 2
    ·rw [if_pos c29] at H
     have c29b0 : (t653 == 2) = true := beq_iff_eq.mpr c29
     have c29b1 : (t653 != 2) = false := bne_eq_false_iff_eq.mpr c29
     clear c29
     replace H := Option.bind_eq_some_iff.mp H
     obtain ⟨t666, A300, H⟩ := H
     replace H : (some t666) = some r := H
     have A30 := Aside0.mk A300
     clear A300
     obtain rfl := Option.some.inj H
     go_wp2_with (first | (go_at_call 17; (with_reducible refine (congoulaw04_awake.calls kj6  t666 _ A30.out).mono ?_); rintro e w31 ⟨rfl, hb⟩; replace HO_5 := kO HO_5 hb; replace HO_7 := kO HO_7 hb; replace BK641 := kB BK641 hb; replace BK642 := kB BK642 hb; replace HB := kH _ hb; (try clear hb); (try clear hb2); (try clear hk); (try clear hi)))
     go_ret
     exact ⟨by first | rfl | (simp [errW_none, errW_some] <;> rfl) | (simp [*, errW_none, errW_some] <;> rfl), hbC _⟩
    rw [if_neg c29] at H
    have c29b0 : (t653 == 2) = false := beq_eq_false_iff_ne.mpr c29
    have c29b1 : (t653 != 2) = true := bne_iff_ne.mpr c29
    by_cases c32 : t664 = 2
    ·rw [if_pos c32] at H
     have c32b0 : (t664 == 2) = true := beq_iff_eq.mpr c32
     have c32b1 : (t664 != 2) = false := bne_eq_false_iff_eq.mpr c32
     clear c32
     replace H := Option.bind_eq_some_iff.mp H
     obtain ⟨t667, A330, H⟩ := H
     replace H : (some t667) = some r := H
     have A33 := Aside0.mk A330
     clear A330
     obtain rfl := Option.some.inj H
     go_wp2_with (first | (go_at_call 17; (with_reducible refine (congoulaw04_awake.calls kj6  t667 _ A33.out).mono ?_); rintro e w34 ⟨rfl, hb⟩; replace HO_5 := kO HO_5 hb; replace HO_7 := kO HO_7 hb; replace BK641 := kB BK641 hb; replace BK642 := kB BK642 hb; replace HB := kH _ hb; (try clear hb); (try clear hb2); (try clear hk); (try clear hi)))
     go_ret
     exact ⟨by first | rfl | (simp [errW_none, errW_some] <;> rfl) | (simp [*, errW_none, errW_some] <;> rfl), hbC _⟩
    rw [if_neg c32] at H
    have c32b0 : (t664 == 2) = false := beq_eq_false_iff_ne.mpr c32
    have c32b1 : (t664 != 2) = true := bne_iff_ne.mpr c32
    by_cases c35 : t653 = 4
    rotate_left
    ·rw [if_neg c35] at H
     have c35b0 : (t653 == 4) = false := beq_eq_false_iff_ne.mpr c35
     have c35b1 : (t653 != 4) = true := bne_iff_ne.mpr c35
     exact absurd (H.trans (congrArg some HRT.out)) (by simp)
    rw [if_pos c35] at H
    have c35b0 : (t653 == 4) = true := beq_iff_eq.mpr c35
    have c35b1 : (t653 != 4) = false := bne_eq_false_iff_eq.mpr c35
    clear c35
    by_cases c36 : a0_0 = 0
    rotate_left
    ·rw [if_neg c36] at H
     have c36b0 : (a0_0 == 0) = false := beq_eq_false_iff_ne.mpr c36
     have c36b1 : (a0_0 != 0) = true := bne_iff_ne.mpr c36
     exact absurd (H.trans (congrArg some HRT.out)) (by simp)
    rw [if_pos c36] at H
    have c36b0 : (a0_0 == 0) = true := beq_iff_eq.mpr c36
    have c36b1 : (a0_0 != 0) = false := bne_eq_false_iff_eq.mpr c36
    clear c36
    replace H := Option.bind_eq_some_iff.mp H
    obtain ⟨t668, A370, H⟩ := H
    replace H : (some t668) = some r := H
    have A37 := Aside0.mk A370
    clear A370
    obtain rfl := Option.some.inj H
    have hnb38 := NB641_642.out
    have hnc38 := NB642_641.out
    have hcz39_0 : wc.cell? ⟨gb641, 0, none⟩ = some (.int .i64 a0_0) := bc BK641 0
    have hcz39_1 : wc.cell? ⟨gb641, 1, none⟩ = some (.slice A0_1 l0_1.length c0_1) := bc BK641 1
    have hcz39_2 : wc.cell? ⟨gb641, 2, none⟩ = some (.slice A0_2 l0_2.length c0_2) := bc BK641 2
    have hfz39_0 := fz BK641 0
    have hfz39_1 := fz BK641 1
    have hfz39_2 := fz BK641 2
    go_wp2_with (first | (go_at_call 17; (with_reducible refine (congoulaw04_awake.calls kj6  t668 _ A37.out).mono ?_); rintro e w40 ⟨rfl, hb⟩; replace HO_5 := kO HO_5 hb; replace HO_7 := kO HO_7 hb; replace BK641 := kB BK641 hb; replace BK642 := kB BK642 hb; replace HB := kH _ hb; (try clear hb); (try clear hb2); (try clear hk); (try clear hi)))
    go_ret
    exact ⟨by first | rfl | (simp [errW_none, errW_some] <;> rfl) | (simp [*, errW_none, errW_some] <;> rfl), hbC _⟩
   replace c28 := Bool.eq_false_iff.mpr c28
   subst c28
   have H1 : (if (t650.length : Int) = (t661.length : Int) then (congoulaw04_CurvesStraight.j1 kj6 t650 t661 ((t661.length : Int) != (l0_2.length : Int)) a1_0 a1_1) else (congoulaw04_CurvesStraight.j1 kj6 t650 t661 true a1_0 a1_1)) = some r := by rw [if_neg (show ¬ (false = true) by decide)] at H; exact H
   clear H
   have H := H1
   clear H1
   have HC41 := Aside0.mk H
   clear H
   go_upto_region 5 with (fail)
   go_cut [68] (fun v68 wc => ∃ (kq : Nat) (x68_40 : Bool), v68 = .bool x68_40 ∧ Aside0 (congoulaw04_CurvesStraight.j1 kq t650 t661 x68_40 a1_0 a1_1 = some r) ∧ Aside0 (kq ≤ kj6) ∧ Aside0 (Kd.R k26 26 wc w.heap.size (fun k_ => some k_ ≠ (v662 : Value).ownBlock ∧ k_ ≠ gb642) v651 t650) ∧ Aside0 (Kd.R k26 26 wc w.heap.size (fun k_ => some k_ ≠ (v651 : Value).ownBlock ∧ k_ ≠ gb642) v662 t661) ∧ Aside0 (wc.heap[gb641]? = some (.cells #[.int .i64 a0_0, (.slice A0_1 l0_1.length c0_1), (.slice A0_2 l0_2.length c0_2)] 24 (0, 0))) ∧ Aside0 (wc.heap[gb642]? = some (.cells #[.int .i64 a1_0, .int .i64 a1_1] 26 (0, 0))) ∧ Aside0 (Below w.heap.size w wc))
   case first =>
    have H := HC41.out
    clear HC41
    by_cases c42 : (t650.length : Int) = (t661.length : Int)
    rotate_left
    ·rw [if_neg c42] at H
     have c42b0 : ((t650.length : Int) == (t661.length : Int)) = false := beq_eq_false_iff_ne.mpr c42
     have c42b1 : ((t650.length : Int) != (t661.length : Int)) = true := bne_iff_ne.mpr c42
     have c42b2 : (t650.length == t661.length) = false := by first | simpa using c42 | (simp at c42 ⊢; omega)
     (first | rw [c42b0] | (simp only [i64_w, i32_w]; rw [c42b0]) | skip)
     have H' := Aside0.mk H
     clear H
     obtain ⟨Ao47, co47, eo47⟩ := Kd.R_slice HO_5.out
     subst eo47
     obtain ⟨Ao48, co48, eo48⟩ := Kd.R_slice HO_7.out
     subst eo48
     go_wp2
     go_meet
     case rel => exact ⟨_, (true), (by first | rfl | (simp; done) | (simp [*]; done)), H', ⟨by have := HJ6.out; first | omega | exact Nat.le_refl _⟩, ⟨rC HO_5⟩, ⟨rC HO_7⟩, ⟨bkC BK641⟩, ⟨bkC BK642⟩, ⟨hbC _⟩⟩
    rw [if_pos c42] at H
    have c42b0 : ((t650.length : Int) == (t661.length : Int)) = true := beq_iff_eq.mpr c42
    have c42b1 : ((t650.length : Int) != (t661.length : Int)) = false := bne_eq_false_iff_eq.mpr c42
    have c42b2 : (t650.length == t661.length) = true := by first | simpa using c42 | (simp at c42 ⊢; omega)
    clear c42
    (first | rw [c42b0] | (simp only [i64_w, i32_w]; rw [c42b0]) | skip)
    have H' := Aside0.mk H
    clear H
    obtain ⟨Ao43, co43, eo43⟩ := Kd.R_slice HO_5.out
    subst eo43
    obtain ⟨Ao44, co44, eo44⟩ := Kd.R_slice HO_7.out
    subst eo44
    have hnb45 := NB641_642.out
    have hnc45 := NB642_641.out
    have hcz46_0 : wc.cell? ⟨gb641, 0, none⟩ = some (.int .i64 a0_0) := bc BK641 0
    have hcz46_1 : wc.cell? ⟨gb641, 1, none⟩ = some (.slice A0_1 l0_1.length c0_1) := bc BK641 1
    have hcz46_2 : wc.cell? ⟨gb641, 2, none⟩ = some (.slice A0_2 l0_2.length c0_2) := bc BK641 2
    have hfz46_0 := fz BK641 0
    have hfz46_1 := fz BK641 1
    have hfz46_2 := fz BK641 2
    go_wp2
    go_meet
    case rel => exact ⟨_, (((t661.length : Int) != (l0_2.length : Int))), (by first | rfl | (simp; done) | (simp [*]; done)), H', ⟨by have := HJ6.out; first | omega | exact Nat.le_refl _⟩, ⟨rC HO_5⟩, ⟨rC HO_7⟩, ⟨bkC BK641⟩, ⟨bkC BK642⟩, ⟨hbC _⟩⟩
   case rest =>
    clear HC41
    try clear c1
    try clear c2
    try clear p2
    try clear c3
    try clear c4
    try clear c8
    try clear c10
    try clear c15
    try clear c18
    try clear c21
    try clear c21b0
    try clear c21b1
    try clear c22
    try clear c22b0
    try clear c22b1
    try clear c24
    try clear c28
    try clear c29
    try clear c29b0
    try clear c29b1
    try clear c32
    try clear c32b0
    try clear c32b1
    try clear c34
    try clear c35
    try clear c35b0
    try clear c35b1
    try clear c36
    try clear c36b0
    try clear c36b1
    try clear c38
    try clear c42
    try clear c42b0
    try clear c42b1
    try clear c42b2
    try clear c45
    try clear hcz11_0
    try clear hcz11_1
    try clear hcz11_2
    try clear hcz25_0
    try clear hcz25_1
    try clear hcz25_2
    try clear hcz26_0
    try clear hcz26_1
    try clear hcz39_0
    try clear hcz39_1
    try clear hcz39_2
    try clear hcz46_0
    try clear hcz46_1
    try clear hcz46_2
    try clear hfz11_0
    try clear hfz11_1
    try clear hfz11_2
    try clear hfz25_0
    try clear hfz25_1
    try clear hfz25_2
    try clear hfz26_0
    try clear hfz26_1
    try clear hfz39_0
    try clear hfz39_1
    try clear hfz39_2
    try clear hfz46_0
    try clear hfz46_1
    try clear hfz46_2
    try clear p2
    obtain ⟨kq, x68_40, rfl, HA, HJ40, HO_5, HO_7, BK641, BK642, HB⟩ := hcut
    cases kq with
    | zero => exact absurd HA.out (by simp [congoulaw04_CurvesStraight.j1])
    | succ kj40 =>
     have H := HA.out
     clear HA
     simp only [congoulaw04_CurvesStraight.j1] at H
     by_cases c49 : x68_40 = true
     ·subst c49
      have H1 : (some false) = some r := by rw [if_pos rfl] at H; exact H
      clear H
      have H := H1
      clear H1
      exact absurd (H.trans (congrArg some HRT.out)) (by simp)
     replace c49 := Bool.eq_false_iff.mpr c49
     subst c49
     have H1 : (congoulaw04_CurvesStraight.l0 kj40 t661 t650 (t650.length : Int) 0 a1_0 a1_1 0 1) = some r := by rw [if_neg (show ¬ (false = true) by decide)] at H; exact H
     clear H
     have H := H1
     clear H1
     have H' := Aside0.mk H
     clear H
     go_wp2_with (first | ((with_reducible refine gate_dst (N := 9) rfl ?_); (try (refine gate_guard (by rfl) ?_; dsimp only)); refine bE 9 #[.int .i64 0, .int .i64 0] 26 ?_; intro gb669 hg w50 hbox hb; replace HO_5 := Aside0.mk (Kd.R_below (Kd.R_elderB (rC HO_5) gb669 (Nat.le_of_eq hg.symm)) hb); replace HO_7 := Aside0.mk (Kd.R_below (Kd.R_elderB (rC HO_7) gb669 (Nat.le_of_eq hg.symm)) hb); have BK669 := Aside0.mk (hbox); have GW669 := kG w hg; have GE669 := kG w hg; replace HB := kH _ hb; have NB641_669 := kL BK641 hg; have NB669_641 := kR BK641 hg; replace BK641 := kB BK641 hb; have NB642_669 := kL BK642 hg; have NB669_642 := kR BK642 hg; replace BK642 := kB BK642 hb; clear hb hbox hg; have hnb51 := NB669_641.out; have hnc51 := NB641_669.out; have hnb52 := NB669_642.out; have hnc52 := NB642_669.out; have hcz53_0 : w50.cell? ⟨gb669, 0, none⟩ = some (.int .i64 0) := bc BK669 0; have hcz53_1 : w50.cell? ⟨gb669, 1, none⟩ = some (.int .i64 0) := bc BK669 1; have hfz53_0 := fz BK669 0; have hfz53_1 := fz BK669 1; obtain ⟨Ao54, co54, eo54⟩ := Kd.R_slice HO_5.out; subst eo54))
     go_loopg [72] kj40 (fun kq v72 w' => ∃ (x72_3 : Int) (x670000_3 : Int) (x670001_3 : Int), v72 = .int .i64 x72_3 ∧ Aside0 (congoulaw04_CurvesStraight.l0 kq t661 t650 (t650.length : Int) x72_3 a1_0 a1_1 x670000_3 x670001_3 = some r) ∧ Aside0 (kq ≤ kj40) ∧ Aside0 (Kd.R k26 26 w' w.heap.size (fun k_ => some k_ ≠ ((.slice Ao54 t650.length co54) : Value).ownBlock ∧ k_ ≠ gb642 ∧ k_ ≠ gb669) v662 t661) ∧ Aside0 (Kd.R k26 26 w' w.heap.size (fun k_ => some k_ ≠ (v662 : Value).ownBlock ∧ k_ ≠ gb642 ∧ k_ ≠ gb669) (.slice Ao54 t650.length co54) t650) ∧ Aside0 (w'.heap[gb641]? = some (.cells #[.int .i64 a0_0, (.slice A0_1 l0_1.length c0_1), (.slice A0_2 l0_2.length c0_2)] 24 (0, 0))) ∧ Aside0 (w'.heap[gb642]? = some (.cells #[.int .i64 a1_0, .int .i64 a1_1] 26 (0, 0))) ∧ Aside0 (w'.heap[gb669]? = some (.cells #[.int .i64 x670000_3, .int .i64 x670001_3] 26 (0, 0))) ∧ Aside0 (Below w.heap.size w w'))
     case atStart => exact ⟨(0), (0), (1), (by first | rfl | (simp; done) | (simp [*]; done)), H', ⟨Nat.le_refl _⟩, ⟨by (with_reducible repeat (first | apply Kd.R_alloc | apply Kd.R_drewN | apply Kd.R_drew)); exact Kd.R_mono (Kd.R_far (p := ⟨gb669, 1, none⟩) (Kd.R_far (p := ⟨gb669, 0, none⟩) (Kd.R_mono HO_7.out (fun k_ hk => (⟨hk, hk.2⟩ : _ ∧ k_ ≠ gb669))) (fun _ hk => hk.2) (.int .i64 0)) (fun _ hk => hk.2) (.int .i64 1)) (fun _ hk => ⟨hk.1.1.1, ⟨hk.1.1.2, hk.1.2⟩⟩)⟩, ⟨by (with_reducible repeat (first | apply Kd.R_alloc | apply Kd.R_drewN | apply Kd.R_drew)); exact Kd.R_mono (Kd.R_far (p := ⟨gb669, 1, none⟩) (Kd.R_far (p := ⟨gb669, 0, none⟩) (Kd.R_mono HO_5.out (fun k_ hk => (⟨hk, hk.2⟩ : _ ∧ k_ ≠ gb669))) (fun _ hk => hk.2) (.int .i64 0)) (fun _ hk => hk.2) (.int .i64 1)) (fun _ hk => ⟨hk.1.1.1, ⟨hk.1.1.2, hk.1.2⟩⟩)⟩, ⟨bF BK641⟩, ⟨bF BK642⟩, ⟨by (with_reducible repeat (first | refine blk_drewN ?_ _ | refine blk_drew ?_ | refine blk_alloc ?_ _)); refine blk_put (cs := #[.int .i64 0, .int .i64 0]) ?_ 1 _ rfl; (with_reducible repeat (first | refine blk_drewN ?_ _ | refine blk_drew ?_ | refine blk_alloc ?_ _)); refine blk_put (cs := #[.int .i64 0, .int .i64 0]) ?_ 0 _ rfl; (with_reducible repeat (first | refine blk_drewN ?_ _ | refine blk_drew ?_ | refine blk_alloc ?_ _)); exact BK669.out⟩, ⟨hbC _⟩⟩
     case round =>
      clear H'
      try clear c1
      try clear c2
      try clear p2
      try clear c3
      try clear c4
      try clear c5
      try clear c8
      try clear c10
      try clear c15
      try clear c18
      try clear c21
      try clear c21b0
      try clear c21b1
      try clear c22
      try clear c22b0
      try clear c22b1
      try clear c24
      try clear c28
      try clear c29
      try clear c29b0
      try clear c29b1
      try clear c32
      try clear c32b0
      try clear c32b1
      try clear c34
      try clear c35
      try clear c35b0
      try clear c35b1
      try clear c36
      try clear c36b0
      try clear c36b1
      try clear c38
      try clear c42
      try clear c42b0
      try clear c42b1
      try clear c42b2
      try clear c45
      try clear c49
      try clear c51
      try clear c52
      try clear hcz11_0
      try clear hcz11_1
      try clear hcz11_2
      try clear hcz25_0
      try clear hcz25_1
      try clear hcz25_2
      try clear hcz26_0
      try clear hcz26_1
      try clear hcz39_0
      try clear hcz39_1
      try clear hcz39_2
      try clear hcz46_0
      try clear hcz46_1
      try clear hcz46_2
      try clear hcz53_0
      try clear hcz53_1
      try clear hfz11_0
      try clear hfz11_1
      try clear hfz11_2
      try clear hfz25_0
      try clear hfz25_1
      try clear hfz25_2
      try clear hfz26_0
      try clear hfz26_1
      try clear hfz39_0
      try clear hfz39_1
      try clear hfz39_2
      try clear hfz46_0
      try clear hfz46_1
      try clear hfz46_2
      try clear hfz53_0
      try clear hfz53_1
      try clear p2
      obtain ⟨x72_3, x670000_3, x670001_3, rfl, HA, HK3, HO_7, HO_70, BK641, BK642, BK669, HB⟩ := hrel
      cases gk with
      | zero => exact absurd HA.out (by simp [congoulaw04_CurvesStraight.l0])
      | succ k3 =>
       have H := HA.out
       clear HA
       simp only [congoulaw04_CurvesStraight.l0] at H
       by_cases c55 : x72_3 < (t650.length : Int)
       rotate_left
       ·rw [if_neg c55] at H
        have c55b0 : decide (x72_3 < (t650.length : Int)) = false := decide_eq_false c55
        clear c55
        by_cases c72 : (x670000_3 == a1_0 && (x670001_3 == a1_1)) = true
        rotate_left
        ·rw [if_neg c72] at H
         have c72b0 : (x670000_3 == a1_0 && (x670001_3 == a1_1)) = false := by simpa using c72
         (try (have c72b1 : decide (x670000_3 = a1_0 && (x670001_3 == a1_1)) = false := by simpa using c72))
         (try (have c72b2 : (x670000_3 == a1_0 && (x670001_3 == a1_1)) = false := by simpa using c72))
         (try (have c72b3 : ¬ (x670000_3 = a1_0 && (x670001_3 == a1_1)) := by simpa using c72))
         clear c72
         exact absurd (H.trans (congrArg some HRT.out)) (by simp)
        rw [if_pos c72] at H
        have c72b0 : (x670000_3 == a1_0 && (x670001_3 == a1_1)) = true := c72
        (try (have c72b1 : decide (x670000_3 = a1_0 && (x670001_3 == a1_1)) = true := by simpa using c72))
        (try (have c72b2 : (x670000_3 == a1_0 && (x670001_3 == a1_1)) = true := by simpa using c72))
        clear c72
        replace H := Option.bind_eq_some_iff.mp H
        obtain ⟨t676, A730, H⟩ := H
        replace H : (some t676) = some r := H
        have A73 := Aside0.mk A730
        clear A730
        obtain rfl := Option.some.inj H
        have hnb74 := NB669_641.out
        have hnc74 := NB641_669.out
        have hnb75 := NB669_642.out
        have hnc75 := NB642_669.out
        have hcz76_0 : wr.cell? ⟨gb669, 0, none⟩ = some (.int .i64 x670000_3) := bc BK669 0
        have hcz76_1 : wr.cell? ⟨gb669, 1, none⟩ = some (.int .i64 x670001_3) := bc BK669 1
        have hfz76_0 := fz BK669 0
        have hfz76_1 := fz BK669 1
        have hnb77 := NB642_641.out
        have hnc77 := NB641_642.out
        have hcz78_0 : wr.cell? ⟨gb642, 0, none⟩ = some (.int .i64 a1_0) := bc BK642 0
        have hcz78_1 : wr.cell? ⟨gb642, 1, none⟩ = some (.int .i64 a1_1) := bc BK642 1
        have hfz78_0 := fz BK642 0
        have hfz78_1 := fz BK642 1
        go_wp2_with (first | (go_at_call 17; (with_reducible refine (congoulaw04_awake.calls k3  t676 _ A73.out).mono ?_); rintro e w79 ⟨rfl, hb⟩; replace HO_7 := kO HO_7 hb; replace HO_70 := kO HO_70 hb; replace BK641 := kB BK641 hb; replace BK642 := kB BK642 hb; replace BK669 := kB BK669 hb; replace HB := kH _ hb; (try clear hb); (try clear hb2); (try clear hk); (try clear hi)))
        go_ret
        exact ⟨by first | rfl | (simp [errW_none, errW_some] <;> rfl) | (simp [*, errW_none, errW_some] <;> rfl), hbC _⟩
       rw [if_pos c55] at H
       have c55b0 : decide (x72_3 < (t650.length : Int)) = true := decide_eq_true c55
       clear c55
       by_cases c56 : 0 ≤ x72_3
       rotate_left
       ·rw [if_neg c56] at H
        exact absurd H (by simp)
       rw [if_pos c56] at H
       have c56b0 : decide (0 ≤ x72_3) = true := decide_eq_true c56
       clear c56
       by_cases c57 : x72_3 < (t650.length : Int)
       rotate_left
       ·rw [if_neg c57] at H
        exact absurd H (by simp)
       rw [if_pos c57] at H
       have c57b0 : decide (x72_3 < (t650.length : Int)) = true := decide_eq_true c57
       clear c57
       by_cases c58 : x72_3 < (t661.length : Int)
       rotate_left
       ·rw [if_neg c58] at H
        exact absurd H (by simp)
       rw [if_pos c58] at H
       have c58b0 : decide (x72_3 < (t661.length : Int)) = true := decide_eq_true c58
       clear c58
       replace H := Option.bind_eq_some_iff.mp H
       obtain ⟨⟨t673, t674, t675⟩, A590, H⟩ := H
       replace H : (if t675 = true then (congoulaw04_CurvesStraight.l0 k3 t661 t650 (t650.length : Int) (wrap64 (x72_3 + 1)) a1_0 a1_1 t673 t674) else (some false)) = some r := H
       have A59 := Aside0.mk A590
       clear A590
       by_cases c60 : t675 = true
       rotate_left
       ·replace c60 := Bool.eq_false_iff.mpr c60
        subst c60
        have H1 : (some false) = some r := by rw [if_neg (show ¬ (false = true) by decide)] at H; exact H
        clear H
        have H := H1
        clear H1
        exact absurd (H.trans (congrArg some HRT.out)) (by simp)
       subst c60
       have H1 : (congoulaw04_CurvesStraight.l0 k3 t661 t650 (t650.length : Int) (wrap64 (x72_3 + 1)) a1_0 a1_1 t673 t674) = some r := by rw [if_pos rfl] at H; exact H
       clear H
       have H := H1
       clear H1
       have H' := Aside0.mk H
       clear H
       have p670 : 0 ≤ (x72_3 : Int) := dA
       have q670 : x72_3 < (t650.length : Int) := dA
       obtain ⟨ad670, e670, hx670_0, hx670_1⟩ := at_T26 (Kd.R_reads' HO_70.out).2.2 x72_3 p670 q670
       cases e670
       replace p670 := eq_true p670
       replace q670 := eq_true q670
       try go_wp2_with (first | ((with_reducible refine gate_dst (N := 11) rfl ?_); (try (refine gate_guard (by rfl) ?_; dsimp only)); refine bE 11 #[.int .i64 0, .int .i64 0] 26 ?_; intro gb671 hg w61 hbox hb; replace HO_7 := Aside0.mk (Kd.R_below (Kd.R_elderB (rC HO_7) gb671 (Nat.le_of_eq hg.symm)) hb); replace HO_70 := Aside0.mk (Kd.R_below (Kd.R_elderB (rC HO_70) gb671 (Nat.le_of_eq hg.symm)) hb); have BK671 := Aside0.mk (hbox); have GW671 := kG w hg; have GE671 := kG w hg; replace HB := kH _ hb; have NB641_671 := kL BK641 hg; have NB671_641 := kR BK641 hg; replace BK641 := kB BK641 hb; have NB642_671 := kL BK642 hg; have NB671_642 := kR BK642 hg; replace BK642 := kB BK642 hb; have NB669_671 := kL BK669 hg; have NB671_669 := kR BK669 hg; replace BK669 := kB BK669 hb; clear hb hbox hg; have hnb62 := NB671_641.out; have hnc62 := NB641_671.out; have hnb63 := NB671_642.out; have hnc63 := NB642_671.out; have hnb64 := NB671_669.out; have hnc64 := NB669_671.out; have hcz65_0 : w61.cell? ⟨gb671, 0, none⟩ = some (.int .i64 0) := bc BK671 0; have hcz65_1 : w61.cell? ⟨gb671, 1, none⟩ = some (.int .i64 0) := bc BK671 1; have hfz65_0 := fz BK671 0; have hfz65_1 := fz BK671 1))
       have n0_ : Aside0 (Kd.R k26 26 ((w61.setCell ⟨gb671, 0, none⟩ (.int .i64 ((rd_T26 t650 x72_3).f0))).setCell ⟨gb671, 1, none⟩ (.int .i64 ((rd_T26 t650 x72_3).f1))) w.heap.size (fun k_ => some k_ ≠ (.slice (some ad670) t650.length co54 : Value).ownBlock ∧ k_ ≠ gb642 ∧ k_ ≠ gb669 ∧ k_ ≠ gb671) v662 t661) := ⟨by (with_reducible repeat (first | apply Kd.R_alloc | apply Kd.R_drewN | apply Kd.R_drew)); exact Kd.R_mono (Kd.R_far (p := ⟨gb671, 1, none⟩) (Kd.R_far (p := ⟨gb671, 0, none⟩) (Kd.R_mono HO_7.out (fun k_ hk => (⟨hk, hk.2⟩ : _ ∧ k_ ≠ gb671))) (fun _ hk => hk.2) (.int .i64 ((rd_T26 t650 x72_3).f0))) (fun _ hk => hk.2) (.int .i64 ((rd_T26 t650 x72_3).f1))) (fun _ hk => ⟨hk.1.1.1, ⟨hk.1.1.2.1, ⟨hk.1.1.2.2, hk.1.2⟩⟩⟩)⟩
       have n1_ : Aside0 (Kd.R k26 26 ((w61.setCell ⟨gb671, 0, none⟩ (.int .i64 ((rd_T26 t650 x72_3).f0))).setCell ⟨gb671, 1, none⟩ (.int .i64 ((rd_T26 t650 x72_3).f1))) w.heap.size (fun k_ => some k_ ≠ (v662 : Value).ownBlock ∧ k_ ≠ gb642 ∧ k_ ≠ gb669 ∧ k_ ≠ gb671) (.slice (some ad670) t650.length co54) t650) := ⟨by (with_reducible repeat (first | apply Kd.R_alloc | apply Kd.R_drewN | apply Kd.R_drew)); exact Kd.R_mono (Kd.R_far (p := ⟨gb671, 1, none⟩) (Kd.R_far (p := ⟨gb671, 0, none⟩) (Kd.R_mono HO_70.out (fun k_ hk => (⟨hk, hk.2⟩ : _ ∧ k_ ≠ gb671))) (fun _ hk => hk.2) (.int .i64 ((rd_T26 t650 x72_3).f0))) (fun _ hk => hk.2) (.int .i64 ((rd_T26 t650 x72_3).f1))) (fun _ hk => ⟨hk.1.1.1, ⟨hk.1.1.2.1, ⟨hk.1.1.2.2, hk.1.2⟩⟩⟩)⟩
       have n2_ : Aside0 (((w61.setCell ⟨gb671, 0, none⟩ (.int .i64 ((rd_T26 t650 x72_3).f0))).setCell ⟨gb671, 1, none⟩ (.int .i64 ((rd_T26 t650 x72_3).f1))).heap[gb641]? = some (.cells #[.int .i64 a0_0, .slice A0_1 l0_1.length c0_1, .slice A0_2 l0_2.length c0_2] 24 (0, 0))) := ⟨bF BK641⟩
       have n3_ : Aside0 (((w61.setCell ⟨gb671, 0, none⟩ (.int .i64 ((rd_T26 t650 x72_3).f0))).setCell ⟨gb671, 1, none⟩ (.int .i64 ((rd_T26 t650 x72_3).f1))).heap[gb642]? = some (.cells #[.int .i64 a1_0, .int .i64 a1_1] 26 (0, 0))) := ⟨bF BK642⟩
       have n4_ : Aside0 (((w61.setCell ⟨gb671, 0, none⟩ (.int .i64 ((rd_T26 t650 x72_3).f0))).setCell ⟨gb671, 1, none⟩ (.int .i64 ((rd_T26 t650 x72_3).f1))).heap[gb669]? = some (.cells #[.int .i64 x670000_3, .int .i64 x670001_3] 26 (0, 0))) := ⟨bF BK669⟩
       have n5_ : Aside0 (((w61.setCell ⟨gb671, 0, none⟩ (.int .i64 ((rd_T26 t650 x72_3).f0))).setCell ⟨gb671, 1, none⟩ (.int .i64 ((rd_T26 t650 x72_3).f1))).heap[gb671]? = some (.cells #[.int .i64 ((rd_T26 t650 x72_3).f0), .int .i64 ((rd_T26 t650 x72_3).f1)] 26 (0, 0))) := ⟨by (with_reducible repeat (first | refine blk_drewN ?_ _ | refine blk_drew ?_ | refine blk_alloc ?_ _)); refine blk_put (cs := #[.int .i64 ((rd_T26 t650 x72_3).f0), .int .i64 0]) ?_ 1 _ rfl; (with_reducible repeat (first | refine blk_drewN ?_ _ | refine blk_drew ?_ | refine blk_alloc ?_ _)); refine blk_put (cs := #[.int .i64 0, .int .i64 0]) ?_ 0 _ rfl; (with_reducible repeat (first | refine blk_drewN ?_ _ | refine blk_drew ?_ | refine blk_alloc ?_ _)); exact BK671.out⟩
       have n6_ : Aside0 (Below w.heap.size w ((w61.setCell ⟨gb671, 0, none⟩ (.int .i64 ((rd_T26 t650 x72_3).f0))).setCell ⟨gb671, 1, none⟩ (.int .i64 ((rd_T26 t650 x72_3).f1)))) := ⟨hbC _⟩
       (try clear HO_7)
       (try clear HO_70)
       (try clear BK641)
       (try clear BK642)
       (try clear BK669)
       (try clear BK671)
       (try clear HB)
       generalize ((w61.setCell ⟨gb671, 0, none⟩ (.int .i64 ((rd_T26 t650 x72_3).f0))).setCell ⟨gb671, 1, none⟩ (.int .i64 ((rd_T26 t650 x72_3).f1))) = w66 at n0_ n1_ n2_ n3_ n4_ n5_ n6_ ⊢
       have HO_7 := n0_
       have HO_70 := n1_
       have BK641 := n2_
       have BK642 := n3_
       have BK669 := n4_
       have BK671 := n5_
       have HB := n6_
       clear n0_ n1_ n2_ n3_ n4_ n5_ n6_
       replace HO_7 := Aside0.mk (Kd.R_drew HO_7.out)
       replace HO_70 := Aside0.mk (Kd.R_drew HO_70.out)
       replace BK641 := kd BK641
       replace BK642 := kd BK642
       replace BK669 := kd BK669
       replace BK671 := kd BK671
       replace HB := Aside0.mk (below_drew1 HB.out)
       obtain ⟨Ao68, co68, eo68⟩ := Kd.R_slice HO_7.out
       (first | subst eo68 | (injection eo68 with f1_ f2_ f3_; have f4_ := f1_.symm; have f5_ := f3_.symm; clear f1_ f2_ f3_; subst f4_; subst f5_))
       have p672 : 0 ≤ (x72_3 : Int) := dA
       have q672 : x72_3 < (t661.length : Int) := dA
       obtain ⟨ad672, e672, hx672_0, hx672_1⟩ := at_T26 (Kd.R_reads' HO_7.out).2.2 x72_3 p672 q672
       cases e672
       replace p672 := eq_true p672
       replace q672 := eq_true q672
       refine sS (n := 12) (S := fun w' => w'.cell? ⟨gb669, 0, none⟩ = some (.int .i64 x670000_3) ∧ w'.cell? ⟨gb669, 1, none⟩ = some (.int .i64 x670001_3) ∧ w'.cell? ⟨gb671, 0, none⟩ = some (.int .i64 ((rd_T26 t650 x72_3).f0)) ∧ w'.cell? ⟨gb671, 1, none⟩ = some (.int .i64 ((rd_T26 t650 x72_3).f1)) ∧ w'.cell? (ad672.add ((x72_3).toNat * 2)) = some (.int .i64 ((rd_T26 t661 x72_3).f0)) ∧ w'.cell? ⟨(ad672.add ((x72_3).toNat * 2)).block, (ad672.add ((x72_3).toNat * 2)).off + 1, none⟩ = some (.int .i64 ((rd_T26 t661 x72_3).f1))) (ds := [10]) ⟨bc BK669 0, bc BK669 1, bc BK671 0, bc BK671 1, hx672_0, hx672_1⟩ (fun hHeld => ?_); refine with_tabW congoulaw04_CurvesStraight.tab12 congoulaw04_CurvesStraight.bits12 (fun HT_ HW_ => ?_)
       generalize w66.drew = w67 at HO_7 HO_70 BK641 BK642 BK669 BK671 HB hx672_0 hx672_1 hHeld ⊢
       refine pS 2 80 12 4 ?_
       refine pS 3 81 12 12 ?_
       refine pS 4 82 12 28 ?_
       refine tS 0 78 12 29 ?_
       refine tS 1 79 12 31 ?_
       refine tS 5 83 12 63 ?_
       refine one_ (i := 6) (N := some 84) (ba 12 127) rfl rfl (one_of HT_.out (by kernel_rfl)) (by decide) (fun K hK => ?_)
       refine gC Try.func19 #[.agg #[.int .i64 x670000_3, .int .i64 x670001_3], .agg #[.int .i64 ((rd_T26 t650 x72_3).f0), .int .i64 ((rd_T26 t650 x72_3).f1)], .agg #[.int .i64 ((rd_T26 t661 x72_3).f0), .int .i64 ((rd_T26 t661 x72_3).f1)]] ?_
       with_reducible refine (congoulaw04_more.calls k3 x670000_3 x670001_3 ((rd_T26 t650 x72_3).f0) ((rd_T26 t650 x72_3).f1) ((rd_T26 t661 x72_3).f0) ((rd_T26 t661 x72_3).f1) t673 t674 true _ A59.out).mono ?_
       rintro e w69 ⟨rfl, hb⟩
       have HS4_ := (hb.cell (World.block_lt_of_cell? _ _ (hHeld.2.2.2.2.1))).trans (hHeld.2.2.2.2.1)
       have HS5_ := (hb.cell (World.block_lt_of_cell? _ _ (hHeld.2.2.2.2.2))).trans (hHeld.2.2.2.2.2)
       refine ⟨_, rfl, ?_⟩
       replace HO_7 := kO HO_7 hb
       replace HO_70 := kO HO_70 hb
       replace BK641 := kB BK641 hb
       replace BK642 := kB BK642 hb
       replace BK669 := kB BK669 hb
       replace BK671 := kB BK671 hb
       replace HB := kH _ hb
       (try clear hb)
       (try clear hb2)
       (try clear hk)
       (try clear hi)
       refine hK.out _ _ ⟨bc BK669 0, bc BK669 1, bc BK671 0, bc BK671 1, HS4_, HS5_⟩ (fun hHeld => ?_)
       clear hK K
       refine norm_ (a' := ?_) ?_ ?_
       rotate_left
       ·show Act.put _ (some 84) _ = _
        simp only [Act.put, List.setIfInBounds_toArray, List.set_cons_zero, List.set_cons_succ, i64_w, i32_w]
        rfl
       refine pS 7 77 12 255 ?_
       refine pS 8 85 12 511 ?_
       refine pS 9 86 12 1023 ?_
       refine last_ (i := 10) (N := none) (ba 12 2047) rfl rfl (one_of HT_.out (by kernel_rfl)) (by decide) (fun K hK => ?_)
       have hs70 : w69.cell? ⟨gb669, 0, none⟩ = some (.int .i64 x670000_3) := bc BK669 0
       have hfs70 := fz BK669 0
       have hns70_0 := NB641_669.out
       have hns70_1 := NB642_669.out
       have hns70_3 := NB671_669.out
       have hms70_0 := NB669_641.out
       have hms70_1 := NB669_642.out
       have hms70_3 := NB669_671.out
       have hs71 : w69.cell? ⟨gb669, 1, none⟩ = some (.int .i64 x670001_3) := bc BK669 1
       have hfs71 := fz BK669 1
       have hns71_0 := NB641_669.out
       have hns71_1 := NB642_669.out
       have hns71_3 := NB671_669.out
       have hms71_0 := NB669_641.out
       have hms71_1 := NB669_642.out
       have hms71_3 := NB669_671.out
       refine skip_ (w1 := ?_) (by rfl) rfl ?_ ?_
       rotate_left
       ·go_simp
        rfl
       refine hK.out _ _ ?_
       clear hK K
       refine pS 11 12 12 4095 ?_
       refine done_ (done_of HT_.out (by kernel_rfl)) ?_
       try go_wp2
       go_roundg k3
       case measure => have := HJ6.out; have := HJ40.out; have := HK3.out; omega
       case rel => exact ⟨(wrap64 (x72_3 + 1)), (t673), (t674), (by first | rfl | (simp; done) | (simp [*]; done)), H', ⟨by have := HJ6.out; have := HJ40.out; have := HK3.out; omega⟩, ⟨by (with_reducible repeat (first | apply Kd.R_alloc | apply Kd.R_drewN | apply Kd.R_drew)); exact Kd.R_mono (Kd.R_far (p := ⟨gb669, 1, none⟩) (Kd.R_far (p := ⟨gb669, 0, none⟩) (Kd.R_mono HO_7.out (fun k_ hk => (⟨hk, hk.2.2.1⟩ : _ ∧ k_ ≠ gb669))) (fun _ hk => hk.2) (.int .i64 t673)) (fun _ hk => hk.2) (.int .i64 t674)) (fun _ hk => ⟨hk.1.1, ⟨hk.1.2.1, hk.1.2.2.1⟩⟩)⟩, ⟨by (with_reducible repeat (first | apply Kd.R_alloc | apply Kd.R_drewN | apply Kd.R_drew)); exact Kd.R_mono (Kd.R_far (p := ⟨gb669, 1, none⟩) (Kd.R_far (p := ⟨gb669, 0, none⟩) (Kd.R_mono HO_70.out (fun k_ hk => (⟨hk, hk.2.2.1⟩ : _ ∧ k_ ≠ gb669))) (fun _ hk => hk.2) (.int .i64 t673)) (fun _ hk => hk.2) (.int .i64 t674)) (fun _ hk => ⟨hk.1.1, ⟨hk.1.2.1, hk.1.2.2.1⟩⟩)⟩, ⟨bF BK641⟩, ⟨bF BK642⟩, ⟨by (with_reducible repeat (first | refine blk_drewN ?_ _ | refine blk_drew ?_ | refine blk_alloc ?_ _)); refine blk_put (cs := #[.int .i64 t673, .int .i64 x670001_3]) ?_ 1 _ rfl; (with_reducible repeat (first | refine blk_drewN ?_ _ | refine blk_drew ?_ | refine blk_alloc ?_ _)); refine blk_put (cs := #[.int .i64 x670000_3, .int .i64 x670001_3]) ?_ 0 _ rfl; (with_reducible repeat (first | refine blk_drewN ?_ _ | refine blk_drew ?_ | refine blk_alloc ?_ _)); exact BK669.out⟩, ⟨hbC _⟩⟩

end Go.Proofs.Ytpnocmkpeogifaa.X
