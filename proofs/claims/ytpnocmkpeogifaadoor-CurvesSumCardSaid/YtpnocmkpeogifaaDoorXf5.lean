-- Written by a program of this work (wip/xprint.py, over the kit's printer) out of the translation.
import Derived.Test.YtpnocmkpeogifaaDoorX0
import Derived.Test.YtpnocmkpeogifaaDoorXG4a
import Derived.Test.YtpnocmkpeogifaaDoorXf10
import Derived.Test.YtpnocmkpeogifaaDoorXf12
import Derived.Test.YtpnocmkpeogifaaDoorXf13
import Derived.Test.YtpnocmkpeogifaaDoorXf14
import Derived.Test.YtpnocmkpeogifaaDoorXf15
import Derived.Test.YtpnocmkpeogifaaDoorXf16
import Derived.Test.YtpnocmkpeogifaaDoorXf7
import Derived.Test.YtpnocmkpeogifaaDoorXf9
import Derived.Test.YtpnocmkpeogifaaDoorXq0
import Derived.Test.YtpnocmkpeogifaaDoorEG
namespace Go.Proofs.YtpnocmkpeogifaaDoor.X
open Go.RowKit Go.Proofs.YtpnocmkpeogifaaDoorW.PrintWords Go.Proofs.YtpnocmkpeogifaaDoorW.PrintLast Go.Proofs.YtpnocmkpeogifaaDoorW.PrintMore
attribute [local go_sem] max2_int min2_int max_two min_two max_three min_three max_four min_four   -- for this text's walks alone
set_option linter.unusedVariables false
set_option linter.unusedSimpArgs false

attribute [local go_sem high] eqA26
/-! ### congoulaw04_CurvesSum: function 5 -/
mutual
def congoulaw04_CurvesSum.j0 : Nat → Int → Bool → Int → List Int → List Int → Int → List Int → List Int → Int → Int → Int → List Int → List Int → Option (Bool)
 | 0, _, _, _, _, _, _, _, _, _, _, _, _, _ => none
 | k + 1, x8, x43, x456000, x456001, x456002, x457000, x457001, x457002, x458000, x458001, x481000, x481001, x481002 => if x43 = true then (if x8 = 2 then ((congoulaw04_awake.f k).bind fun t484 => (some t484)) else (if x8 = 4 then ((congoulaw04_awake.f k).bind fun t485 => (some t485)) else (if x8 = 0 then ((congouref04_Valid.f k x456000 x456001 x456002).bind fun t486 => (if t486 = true then ((congouref04_In.f k x456000 x456001 x456002 x458000 x458001).bind fun t487 => (if t487 = true then (some false) else ((congoulaw04_awake.f k).bind fun t488 => (some t488)))) else (some false))) else (some false)))) else ((congoulaw04_Of.f x456000 x456001 x456002).bind fun bt489 => ((curves_Value.f k bt489.1 bt489.2.1 bt489.2.2 x458000 x458001).bind fun bt496 => ((congoulaw04_Of.f x457000 x457001 x457002).bind fun bt500 => ((curves_Value.f k bt500.1 bt500.2.1 bt500.2.2 x458000 x458001).bind fun bt507 => ((curves_Value.f k x481000 x481001 x481002 x458000 x458001).bind fun bt511 => (if bt496.2.2 = 0 then (if bt507.2.2 = 0 then (congoulaw04_CurvesSum.j1 k (bt511.2.2 != 0) bt496.1 bt496.2.1 bt507.1 bt507.2.1 bt511.1 bt511.2.1) else (congoulaw04_CurvesSum.j1 k true bt496.1 bt496.2.1 bt507.1 bt507.2.1 bt511.1 bt511.2.1)) else (congoulaw04_CurvesSum.j1 k true bt496.1 bt496.2.1 bt507.1 bt507.2.1 bt511.1 bt511.2.1)))))))
def congoulaw04_CurvesSum.j1 : Nat → Bool → Int → Int → Int → Int → Int → Int → Option (Bool)
 | 0, _, _, _, _, _, _, _ => none
 | k + 1, x96, x500000, x500001, x511000, x511001, x515000, x515001 => if x96 = true then (some false) else ((congoulaw04_more.f k x500000 x500001 x511000 x511001 1 1).bind fun bt515 => (if bt515.2.2 = true then (if (bt515.1 == x515000 && (bt515.2.1 == x515001)) = true then ((congoulaw04_awake.f k).bind fun t519 => (some t519)) else (some false)) else (some false)))
end
def congoulaw04_CurvesSum.f (k : Nat) (a0_0 : Int) (l0_1 : List Int) (l0_2 : List Int) (a1_0 : Int) (l1_1 : List Int) (l1_2 : List Int) (a2_0 : Int) (a2_1 : Int) : Option (Bool) := (congoulaw04_Of.f a0_0 l0_1 l0_2).bind fun bt458 => ((congoulaw04_Of.f a1_0 l1_1 l1_2).bind fun bt465 => ((curves_Plus.f k bt458.1 bt458.2.1 bt458.2.2 bt465.1 bt465.2.1 bt465.2.2).bind fun bt472 => (if bt472.2.2.2 = 0 then ((congoulaw04_fine.f k a0_0 l0_1 l0_2 a2_0 a2_1).bind fun t481 => (if t481 = true then ((congouref04_Valid.f k a1_0 l1_1 l1_2).bind fun t482 => (if t482 = true then ((congouref04_Like.f k a0_0 l0_1 l0_2 a1_0 l1_1 l1_2).bind fun t483 => (congoulaw04_CurvesSum.j0 k bt472.2.2.2 (!t483) a0_0 l0_1 l0_2 a1_0 l1_1 l1_2 a2_0 a2_1 bt472.1 bt472.2.1 bt472.2.2.1)) else (congoulaw04_CurvesSum.j0 k bt472.2.2.2 true a0_0 l0_1 l0_2 a1_0 l1_1 l1_2 a2_0 a2_1 bt472.1 bt472.2.1 bt472.2.2.1))) else (congoulaw04_CurvesSum.j0 k bt472.2.2.2 true a0_0 l0_1 l0_2 a1_0 l1_1 l1_2 a2_0 a2_1 bt472.1 bt472.2.1 bt472.2.2.1))) else (congoulaw04_CurvesSum.j0 k bt472.2.2.2 true a0_0 l0_1 l0_2 a1_0 l1_1 l1_2 a2_0 a2_1 bt472.1 bt472.2.1 bt472.2.2.1))))
theorem congoulaw04_CurvesSum.mono_l : ∀ k, (∀ y0 y1 y2 y3 y4 y5 y6 y7 y8 y9 y10 y11 y12, LeO (congoulaw04_CurvesSum.j0 k y0 y1 y2 y3 y4 y5 y6 y7 y8 y9 y10 y11 y12) (congoulaw04_CurvesSum.j0 (k + 1) y0 y1 y2 y3 y4 y5 y6 y7 y8 y9 y10 y11 y12)) ∧ (∀ y0 y1 y2 y3 y4 y5 y6, LeO (congoulaw04_CurvesSum.j1 k y0 y1 y2 y3 y4 y5 y6) (congoulaw04_CurvesSum.j1 (k + 1) y0 y1 y2 y3 y4 y5 y6))
 | 0 => ⟨fun _ _ _ _ _ _ _ _ _ _ _ _ _ r h => by simp [congoulaw04_CurvesSum.j0] at h, fun _ _ _ _ _ _ _ r h => by simp [congoulaw04_CurvesSum.j1] at h⟩
 | k + 1 => by
  obtain ⟨ih0, ih1⟩ := congoulaw04_CurvesSum.mono_l k
  refine ⟨?_, ?_⟩
  ·intro y0 y1 y2 y3 y4 y5 y6 y7 y8 y9 y10 y11 y12
   unfold congoulaw04_CurvesSum.j0
   repeat' first
   | (with_reducible exact ih0 _ _ _ _ _ _ _ _ _ _ _ _ _)
   | (with_reducible exact ih1 _ _ _ _ _ _ _)
   | (with_reducible exact congoulaw04_awake.mono _)
   | (with_reducible exact congoulaw04_fine.mono _ _ _ _ _ _)
   | (with_reducible exact congoulaw04_more.mono _ _ _ _ _ _ _)
   | (with_reducible exact congouref04_In.mono _ _ _ _ _ _)
   | (with_reducible exact congouref04_Like.mono _ _ _ _ _ _ _)
   | (with_reducible exact congouref04_Valid.mono _ _ _ _)
   | (with_reducible exact curves_Plus.mono _ _ _ _ _ _ _)
   | (with_reducible exact curves_Value.mono _ _ _ _ _ _)
   | (with_reducible exact LeO.refl _)
   | (with_reducible exact LeO.none _)
   | (with_reducible refine LeO.ite ?_ ?_)
   | (with_reducible refine LeO.bind ?_ (fun _ => ?_))
   | exact ih0 _ _ _ _ _ _ _ _ _ _ _ _ _
   | exact ih1 _ _ _ _ _ _ _
   | exact congoulaw04_awake.mono _
   | exact congoulaw04_fine.mono _ _ _ _ _ _
   | exact congoulaw04_more.mono _ _ _ _ _ _ _
   | exact congouref04_In.mono _ _ _ _ _ _
   | exact congouref04_Like.mono _ _ _ _ _ _ _
   | exact congouref04_Valid.mono _ _ _ _
   | exact curves_Plus.mono _ _ _ _ _ _ _
   | exact curves_Value.mono _ _ _ _ _ _
   | exact LeO.none _
   | refine LeO.ite ?_ ?_
   | refine LeO.bind ?_ (fun _ => ?_)
  ·intro y0 y1 y2 y3 y4 y5 y6
   unfold congoulaw04_CurvesSum.j1
   repeat' first
   | (with_reducible exact ih0 _ _ _ _ _ _ _ _ _ _ _ _ _)
   | (with_reducible exact ih1 _ _ _ _ _ _ _)
   | (with_reducible exact congoulaw04_awake.mono _)
   | (with_reducible exact congoulaw04_fine.mono _ _ _ _ _ _)
   | (with_reducible exact congoulaw04_more.mono _ _ _ _ _ _ _)
   | (with_reducible exact congouref04_In.mono _ _ _ _ _ _)
   | (with_reducible exact congouref04_Like.mono _ _ _ _ _ _ _)
   | (with_reducible exact congouref04_Valid.mono _ _ _ _)
   | (with_reducible exact curves_Plus.mono _ _ _ _ _ _ _)
   | (with_reducible exact curves_Value.mono _ _ _ _ _ _)
   | (with_reducible exact LeO.refl _)
   | (with_reducible exact LeO.none _)
   | (with_reducible refine LeO.ite ?_ ?_)
   | (with_reducible refine LeO.bind ?_ (fun _ => ?_))
   | exact ih0 _ _ _ _ _ _ _ _ _ _ _ _ _
   | exact ih1 _ _ _ _ _ _ _
   | exact congoulaw04_awake.mono _
   | exact congoulaw04_fine.mono _ _ _ _ _ _
   | exact congoulaw04_more.mono _ _ _ _ _ _ _
   | exact congouref04_In.mono _ _ _ _ _ _
   | exact congouref04_Like.mono _ _ _ _ _ _ _
   | exact congouref04_Valid.mono _ _ _ _
   | exact curves_Plus.mono _ _ _ _ _ _ _
   | exact curves_Value.mono _ _ _ _ _ _
   | exact LeO.none _
   | refine LeO.ite ?_ ?_
   | refine LeO.bind ?_ (fun _ => ?_)
theorem congoulaw04_CurvesSum.mono : ∀ a0 a1 a2 a3 a4 a5 a6 a7 k, LeO (congoulaw04_CurvesSum.f k a0 a1 a2 a3 a4 a5 a6 a7) (congoulaw04_CurvesSum.f (k + 1) a0 a1 a2 a3 a4 a5 a6 a7) := by
 intro a0 a1 a2 a3 a4 a5 a6 a7 k
 obtain ⟨ih0, ih1⟩ := congoulaw04_CurvesSum.mono_l k
 unfold congoulaw04_CurvesSum.f
 repeat' first
   | (with_reducible exact ih0 _ _ _ _ _ _ _ _ _ _ _ _ _)
   | (with_reducible exact ih1 _ _ _ _ _ _ _)
   | (with_reducible exact congoulaw04_awake.mono _)
   | (with_reducible exact congoulaw04_fine.mono _ _ _ _ _ _)
   | (with_reducible exact congoulaw04_more.mono _ _ _ _ _ _ _)
   | (with_reducible exact congouref04_In.mono _ _ _ _ _ _)
   | (with_reducible exact congouref04_Like.mono _ _ _ _ _ _ _)
   | (with_reducible exact congouref04_Valid.mono _ _ _ _)
   | (with_reducible exact curves_Plus.mono _ _ _ _ _ _ _)
   | (with_reducible exact curves_Value.mono _ _ _ _ _ _)
   | (with_reducible exact LeO.refl _)
   | (with_reducible exact LeO.none _)
   | (with_reducible refine LeO.ite ?_ ?_)
   | (with_reducible refine LeO.bind ?_ (fun _ => ?_))
   | exact ih0 _ _ _ _ _ _ _ _ _ _ _ _ _
   | exact ih1 _ _ _ _ _ _ _
   | exact congoulaw04_awake.mono _
   | exact congoulaw04_fine.mono _ _ _ _ _ _
   | exact congoulaw04_more.mono _ _ _ _ _ _ _
   | exact congouref04_In.mono _ _ _ _ _ _
   | exact congouref04_Like.mono _ _ _ _ _ _ _
   | exact congouref04_Valid.mono _ _ _ _
   | exact curves_Plus.mono _ _ _ _ _ _ _
   | exact curves_Value.mono _ _ _ _ _ _
   | exact LeO.none _
   | refine LeO.ite ?_ ?_
   | refine LeO.bind ?_ (fun _ => ?_)
def congoulaw04_CurvesSum.T1 : Bool × List (List Nat × List Nat) := (true, [([], []), ([0], [0]), ([], []), ([2, 1], [2]), ([1, 3, 3], [1, 3]), ([4], [4]), ([5], [5]), ([5], [5]), ([], []), ([8, 6, 4, 0, 1, 2, 3, 4, 5, 6, 8], [6, 8]), ([7, 9, 0, 1, 2, 3, 4, 5, 6, 7, 8, 9], [7])])
def congoulaw04_CurvesSum.B1 : List Nat := [0, 1, 0, 7, 15, 31, 63, 63, 0, 383, 1023]
theorem congoulaw04_CurvesSum.tab1 : rtab .any (opsOf Tryd.f5 1) = congoulaw04_CurvesSum.T1 := by kernel_rfl
theorem congoulaw04_CurvesSum.bits1 : waitsOk congoulaw04_CurvesSum.T1.2 congoulaw04_CurvesSum.B1 = true := by kernel_rfl
def congoulaw04_CurvesSum.T4 : Bool × List (List Nat × List Nat) := (true, [([], []), ([0], [0]), ([], []), ([1, 2, 1], [1, 2]), ([3], [3]), ([4], [4]), ([4], [4]), ([], []), ([7, 5, 3, 0, 1, 2, 3, 4, 5, 7], [5, 7]), ([6, 8, 0, 1, 2, 3, 4, 5, 6, 7, 8], [6])])
def congoulaw04_CurvesSum.B4 : List Nat := [0, 1, 0, 7, 15, 31, 31, 0, 191, 511]
theorem congoulaw04_CurvesSum.tab4 : rtab .any (opsOf Tryd.f5 4) = congoulaw04_CurvesSum.T4 := by kernel_rfl
theorem congoulaw04_CurvesSum.bits4 : waitsOk congoulaw04_CurvesSum.T4.2 congoulaw04_CurvesSum.B4 = true := by kernel_rfl
def congoulaw04_CurvesSum.T5 : Bool × List (List Nat × List Nat) := (true, [([], []), ([0], [0]), ([], []), ([1, 2, 1], [1, 2]), ([3], [3]), ([4], [4]), ([4], [4]), ([], []), ([7, 5, 3, 0, 1, 2, 3, 4, 5, 7], [5, 7]), ([6, 8, 0, 1, 2, 3, 4, 5, 6, 7, 8], [6])])
def congoulaw04_CurvesSum.B5 : List Nat := [0, 1, 0, 7, 15, 31, 31, 0, 191, 511]
theorem congoulaw04_CurvesSum.tab5 : rtab .any (opsOf Tryd.f5 5) = congoulaw04_CurvesSum.T5 := by kernel_rfl
theorem congoulaw04_CurvesSum.bits5 : waitsOk congoulaw04_CurvesSum.T5.2 congoulaw04_CurvesSum.B5 = true := by kernel_rfl
set_option maxHeartbeats 8000000 in
set_option maxRecDepth 100000 in
theorem congoulaw04_CurvesSum.calls (k : Nat) (a0_0 : Int) (A0_1 : Option Addr) (c0_1 : Nat) (l0_1 : List Int) (A0_2 : Option Addr) (c0_2 : Nat) (l0_2 : List Int) (a1_0 : Int) (A1_1 : Option Addr) (c1_1 : Nat) (l1_1 : List Int) (A1_2 : Option Addr) (c1_2 : Nat) (l1_2 : List Int) (a2_0 : Int) (a2_1 : Int) (r : Bool) (w : World) (hr0_1 : Kd.C (Kd.int .i64) w A0_1 l0_1.length l0_1) (hc0_1 : l0_1.length ≤ c0_1) (hr0_2 : Kd.C (Kd.int .i64) w A0_2 l0_2.length l0_2) (hc0_2 : l0_2.length ≤ c0_2) (hr1_1 : Kd.C (Kd.int .i64) w A1_1 l1_1.length l1_1) (hc1_1 : l1_1.length ≤ c1_1) (hr1_2 : Kd.C (Kd.int .i64) w A1_2 l1_2.length l1_2) (hc1_2 : l1_2.length ≤ c1_2) (hrt : r = true) (h : congoulaw04_CurvesSum.f k a0_0 l0_1 l0_2 a1_0 l1_1 l1_2 a2_0 a2_1 = some r) (hG0 : GL w) :
  Calls Tryd.prog 5 #[.agg #[.int .i64 a0_0, .slice A0_1 l0_1.length c0_1, .slice A0_2 l0_2.length c0_2], .agg #[.int .i64 a1_0, .slice A1_1 l1_1.length c1_1, .slice A1_2 l1_2.length c1_2], .agg #[.int .i64 a2_0, .int .i64 a2_1]] w fun e w' => e = .returned (.bool r) ∧ Below w.heap.size w w' := by
 have hG := Aside0.mk hG0
 clear hG0
 have hu24 := Tryd.underlying24
 have hu26 := Tryd.underlying26
 have hu31 := Tryd.underlying31
 have HR0_1 := Aside0.mk hr0_1
 have HC0_1 := Aside0.mk hc0_1
 clear hr0_1 hc0_1
 have HR0_2 := Aside0.mk hr0_2
 have HC0_2 := Aside0.mk hc0_2
 clear hr0_2 hc0_2
 have HR1_1 := Aside0.mk hr1_1
 have HC1_1 := Aside0.mk hc1_1
 clear hr1_1 hc1_1
 have HR1_2 := Aside0.mk hr1_2
 have HC1_2 := Aside0.mk hc1_2
 clear hr1_2 hc1_2
 have HB := ak (Below.refl w.heap.size w)
 have H : ((congoulaw04_Of.f a0_0 l0_1 l0_2).bind fun bt458 => ((congoulaw04_Of.f a1_0 l1_1 l1_2).bind fun bt465 => ((curves_Plus.f k bt458.1 bt458.2.1 bt458.2.2 bt465.1 bt465.2.1 bt465.2.2).bind fun bt472 => (if bt472.2.2.2 = 0 then ((congoulaw04_fine.f k a0_0 l0_1 l0_2 a2_0 a2_1).bind fun t481 => (if t481 = true then ((congouref04_Valid.f k a1_0 l1_1 l1_2).bind fun t482 => (if t482 = true then ((congouref04_Like.f k a0_0 l0_1 l0_2 a1_0 l1_1 l1_2).bind fun t483 => (congoulaw04_CurvesSum.j0 k bt472.2.2.2 (!t483) a0_0 l0_1 l0_2 a1_0 l1_1 l1_2 a2_0 a2_1 bt472.1 bt472.2.1 bt472.2.2.1)) else (congoulaw04_CurvesSum.j0 k bt472.2.2.2 true a0_0 l0_1 l0_2 a1_0 l1_1 l1_2 a2_0 a2_1 bt472.1 bt472.2.1 bt472.2.2.1))) else (congoulaw04_CurvesSum.j0 k bt472.2.2.2 true a0_0 l0_1 l0_2 a1_0 l1_1 l1_2 a2_0 a2_1 bt472.1 bt472.2.1 bt472.2.2.1))) else (congoulaw04_CurvesSum.j0 k bt472.2.2.2 true a0_0 l0_1 l0_2 a1_0 l1_1 l1_2 a2_0 a2_1 bt472.1 bt472.2.1 bt472.2.2.1))))) = some r := h
 clear h
 have HRT := Aside0.mk hrt
 clear hrt
 replace H := Option.bind_eq_some_iff.mp H
 obtain ⟨⟨t458, t459, t462⟩, A40, H⟩ := H
 replace H : ((congoulaw04_Of.f a1_0 l1_1 l1_2).bind fun bt465 => ((curves_Plus.f k t458 t459 t462 bt465.1 bt465.2.1 bt465.2.2).bind fun bt472 => (if bt472.2.2.2 = 0 then ((congoulaw04_fine.f k a0_0 l0_1 l0_2 a2_0 a2_1).bind fun t481 => (if t481 = true then ((congouref04_Valid.f k a1_0 l1_1 l1_2).bind fun t482 => (if t482 = true then ((congouref04_Like.f k a0_0 l0_1 l0_2 a1_0 l1_1 l1_2).bind fun t483 => (congoulaw04_CurvesSum.j0 k bt472.2.2.2 (!t483) a0_0 l0_1 l0_2 a1_0 l1_1 l1_2 a2_0 a2_1 bt472.1 bt472.2.1 bt472.2.2.1)) else (congoulaw04_CurvesSum.j0 k bt472.2.2.2 true a0_0 l0_1 l0_2 a1_0 l1_1 l1_2 a2_0 a2_1 bt472.1 bt472.2.1 bt472.2.2.1))) else (congoulaw04_CurvesSum.j0 k bt472.2.2.2 true a0_0 l0_1 l0_2 a1_0 l1_1 l1_2 a2_0 a2_1 bt472.1 bt472.2.1 bt472.2.2.1))) else (congoulaw04_CurvesSum.j0 k bt472.2.2.2 true a0_0 l0_1 l0_2 a1_0 l1_1 l1_2 a2_0 a2_1 bt472.1 bt472.2.1 bt472.2.2.1)))) = some r := H
 have A4 := Aside0.mk A40
 clear A40
 replace H := Option.bind_eq_some_iff.mp H
 obtain ⟨⟨t465, t466, t469⟩, A50, H⟩ := H
 replace H : ((curves_Plus.f k t458 t459 t462 t465 t466 t469).bind fun bt472 => (if bt472.2.2.2 = 0 then ((congoulaw04_fine.f k a0_0 l0_1 l0_2 a2_0 a2_1).bind fun t481 => (if t481 = true then ((congouref04_Valid.f k a1_0 l1_1 l1_2).bind fun t482 => (if t482 = true then ((congouref04_Like.f k a0_0 l0_1 l0_2 a1_0 l1_1 l1_2).bind fun t483 => (congoulaw04_CurvesSum.j0 k bt472.2.2.2 (!t483) a0_0 l0_1 l0_2 a1_0 l1_1 l1_2 a2_0 a2_1 bt472.1 bt472.2.1 bt472.2.2.1)) else (congoulaw04_CurvesSum.j0 k bt472.2.2.2 true a0_0 l0_1 l0_2 a1_0 l1_1 l1_2 a2_0 a2_1 bt472.1 bt472.2.1 bt472.2.2.1))) else (congoulaw04_CurvesSum.j0 k bt472.2.2.2 true a0_0 l0_1 l0_2 a1_0 l1_1 l1_2 a2_0 a2_1 bt472.1 bt472.2.1 bt472.2.2.1))) else (congoulaw04_CurvesSum.j0 k bt472.2.2.2 true a0_0 l0_1 l0_2 a1_0 l1_1 l1_2 a2_0 a2_1 bt472.1 bt472.2.1 bt472.2.2.1))) = some r := H
 have A5 := Aside0.mk A50
 clear A50
 replace H := Option.bind_eq_some_iff.mp H
 obtain ⟨⟨t472, t473, t476, t479⟩, A60, H⟩ := H
 replace H : (if t479 = 0 then ((congoulaw04_fine.f k a0_0 l0_1 l0_2 a2_0 a2_1).bind fun t481 => (if t481 = true then ((congouref04_Valid.f k a1_0 l1_1 l1_2).bind fun t482 => (if t482 = true then ((congouref04_Like.f k a0_0 l0_1 l0_2 a1_0 l1_1 l1_2).bind fun t483 => (congoulaw04_CurvesSum.j0 k t479 (!t483) a0_0 l0_1 l0_2 a1_0 l1_1 l1_2 a2_0 a2_1 t472 t473 t476)) else (congoulaw04_CurvesSum.j0 k t479 true a0_0 l0_1 l0_2 a1_0 l1_1 l1_2 a2_0 a2_1 t472 t473 t476))) else (congoulaw04_CurvesSum.j0 k t479 true a0_0 l0_1 l0_2 a1_0 l1_1 l1_2 a2_0 a2_1 t472 t473 t476))) else (congoulaw04_CurvesSum.j0 k t479 true a0_0 l0_1 l0_2 a1_0 l1_1 l1_2 a2_0 a2_1 t472 t473 t476)) = some r := H
 have A6 := Aside0.mk A60
 clear A60
 have HC7 := Aside0.mk H
 clear H
 go_enter Tryd.func5, Tryd.ntmps5
 try go_wp2_with (first | ((with_reducible refine gate_dst (N := 3) rfl ?_); refine bE 3 #[.int .i64 a0_0, .slice A0_1 l0_1.length c0_1, .slice A0_2 l0_2.length c0_2] 24 ?_; intro gb455 hg w8 hbox hb; have BK455 := ak (hbox); have GW455 := kG w hg; have GE455 := kG w hg; replace HB := kH _ hb; clear hb hbox hg) | ((with_reducible refine gate_dst (N := 4) rfl ?_); refine bE 4 #[.int .i64 a1_0, .slice A1_1 l1_1.length c1_1, .slice A1_2 l1_2.length c1_2] 24 ?_; intro gb456 hg w9 hbox hb; have BK456 := ak (hbox); have GW456 := kG w hg; have GE456 := kG w hg; replace HB := kH _ hb; have NB455_456 := kL BK455 hg; have NB456_455 := kR BK455 hg; replace BK455 := kB BK455 hb; clear hb hbox hg) | ((with_reducible refine gate_dst (N := 5) rfl ?_); refine bE 5 #[.int .i64 a2_0, .int .i64 a2_1] 26 ?_; intro gb457 hg w10 hbox hb; have BK457 := ak (hbox); have GW457 := kG w hg; have GE457 := kG w hg; replace HB := kH _ hb; have NB455_457 := kL BK455 hg; have NB457_455 := kR BK455 hg; replace BK455 := kB BK455 hb; have NB456_457 := kL BK456 hg; have NB457_456 := kR BK456 hg; replace BK456 := kB BK456 hb; clear hb hbox hg))
 replace BK455 := kd BK455
 replace BK456 := kd BK456
 replace BK457 := kd BK457
 replace HB := ak (below_drew1 HB.out)
 refine sS (n := 11) (S := fun w' => w'.cell? ⟨gb455, 0, none⟩ = some (.int .i64 a0_0) ∧ w'.cell? ⟨gb455, 1, none⟩ = some (.slice A0_1 l0_1.length c0_1) ∧ w'.cell? ⟨gb455, 2, none⟩ = some (.slice A0_2 l0_2.length c0_2) ∧ w'.cell? ⟨gb456, 0, none⟩ = some (.int .i64 a1_0) ∧ w'.cell? ⟨gb456, 1, none⟩ = some (.slice A1_1 l1_1.length c1_1) ∧ w'.cell? ⟨gb456, 2, none⟩ = some (.slice A1_2 l1_2.length c1_2)) (ds := []) ⟨bc BK455 0, bc BK455 1, bc BK455 2, bc BK456 0, bc BK456 1, bc BK456 2⟩ (fun hHeld => ?_); refine with_tabW congoulaw04_CurvesSum.tab1 congoulaw04_CurvesSum.bits1 (fun HT_ HW_ => ?_)
 generalize w10.drew = w11 at BK455 BK456 BK457 HB hHeld ⊢
 refine tS 0 18 11 1 ?_
 refine tS 2 20 11 5 ?_
 refine join_ (σ := Value × Value × Value × Value × Value × Value × Nat) 2 (ba 11 511) (fun s_ => [(19, .agg #[.int .i64 t458, s_.1, s_.2.1]), (21, .agg #[.int .i64 t465, s_.2.2.1, s_.2.2.2.1]), (22, .tuple #[.agg #[.int .i64 t472, s_.2.2.2.2.1, s_.2.2.2.2.2.1], .int .i64 t479]), (7, .pointer (some ⟨s_.2.2.2.2.2.2, 0, none⟩)), (17, .tuple #[.agg #[.int .i64 t472, s_.2.2.2.2.1, s_.2.2.2.2.2.1], .int .i64 t479]), (23, .agg #[.int .i64 t472, s_.2.2.2.2.1, s_.2.2.2.2.2.1]), (24, .int .i64 t479)]) (fun s_ w' => (w'.cell? ⟨gb455, 0, none⟩ = some (.int .i64 a0_0) ∧ w'.cell? ⟨gb455, 1, none⟩ = some (.slice A0_1 l0_1.length c0_1) ∧ w'.cell? ⟨gb455, 2, none⟩ = some (.slice A0_2 l0_2.length c0_2) ∧ w'.cell? ⟨gb456, 0, none⟩ = some (.int .i64 a1_0) ∧ w'.cell? ⟨gb456, 1, none⟩ = some (.slice A1_1 l1_1.length c1_1) ∧ w'.cell? ⟨gb456, 2, none⟩ = some (.slice A1_2 l1_2.length c1_2)) ∧ (Kd.R (Kd.int .i64) 3 w' w.heap.size (fun k_ => some k_ ≠ (s_.2.1 : Value).ownBlock ∧ some k_ ≠ (s_.2.2.1 : Value).ownBlock ∧ some k_ ≠ (s_.2.2.2.1 : Value).ownBlock ∧ some k_ ≠ (s_.2.2.2.2.1 : Value).ownBlock ∧ some k_ ≠ (s_.2.2.2.2.2.1 : Value).ownBlock) s_.1 t459) ∧ (Kd.R (Kd.int .i64) 3 w' w.heap.size (fun k_ => some k_ ≠ (s_.1 : Value).ownBlock ∧ some k_ ≠ (s_.2.2.1 : Value).ownBlock ∧ some k_ ≠ (s_.2.2.2.1 : Value).ownBlock ∧ some k_ ≠ (s_.2.2.2.2.1 : Value).ownBlock ∧ some k_ ≠ (s_.2.2.2.2.2.1 : Value).ownBlock) s_.2.1 t462) ∧ (Kd.R (Kd.int .i64) 3 w' w.heap.size (fun k_ => some k_ ≠ (s_.1 : Value).ownBlock ∧ some k_ ≠ (s_.2.1 : Value).ownBlock ∧ some k_ ≠ (s_.2.2.2.1 : Value).ownBlock ∧ some k_ ≠ (s_.2.2.2.2.1 : Value).ownBlock ∧ some k_ ≠ (s_.2.2.2.2.2.1 : Value).ownBlock) s_.2.2.1 t466) ∧ (Kd.R (Kd.int .i64) 3 w' w.heap.size (fun k_ => some k_ ≠ (s_.1 : Value).ownBlock ∧ some k_ ≠ (s_.2.1 : Value).ownBlock ∧ some k_ ≠ (s_.2.2.1 : Value).ownBlock ∧ some k_ ≠ (s_.2.2.2.2.1 : Value).ownBlock ∧ some k_ ≠ (s_.2.2.2.2.2.1 : Value).ownBlock) s_.2.2.2.1 t469) ∧ (Kd.R (Kd.int .i64) 3 w' w.heap.size (fun k_ => some k_ ≠ (s_.1 : Value).ownBlock ∧ some k_ ≠ (s_.2.1 : Value).ownBlock ∧ some k_ ≠ (s_.2.2.1 : Value).ownBlock ∧ some k_ ≠ (s_.2.2.2.1 : Value).ownBlock ∧ some k_ ≠ (s_.2.2.2.2.2.1 : Value).ownBlock) s_.2.2.2.2.1 t473) ∧ (Kd.R (Kd.int .i64) 3 w' w.heap.size (fun k_ => some k_ ≠ (s_.1 : Value).ownBlock ∧ some k_ ≠ (s_.2.1 : Value).ownBlock ∧ some k_ ≠ (s_.2.2.1 : Value).ownBlock ∧ some k_ ≠ (s_.2.2.2.1 : Value).ownBlock ∧ some k_ ≠ (s_.2.2.2.2.1 : Value).ownBlock) s_.2.2.2.2.2.1 t476) ∧ (w'.heap[gb455]? = some (.cells #[.int .i64 a0_0, .slice A0_1 l0_1.length c0_1, .slice A0_2 l0_2.length c0_2] 24 (0, 0))) ∧ (w'.heap[gb456]? = some (.cells #[.int .i64 a1_0, .slice A1_1 l1_1.length c1_1, .slice A1_2 l1_2.length c1_2] 24 (0, 0))) ∧ (w'.heap[gb457]? = some (.cells #[.int .i64 a2_0, .int .i64 a2_1] 26 (0, 0))) ∧ (w'.heap[s_.2.2.2.2.2.2]? = some (.cells #[.int .i64 0, .slice none 0 0, .slice none 0 0] 31 (0, 0))) ∧ (w.heap.size ≤ s_.2.2.2.2.2.2) ∧ (w.heap.size ≤ s_.2.2.2.2.2.2) ∧ (gb455 ≠ s_.2.2.2.2.2.2) ∧ (s_.2.2.2.2.2.2 ≠ gb455) ∧ (gb456 ≠ s_.2.2.2.2.2.2) ∧ (s_.2.2.2.2.2.2 ≠ gb456) ∧ (gb457 ≠ s_.2.2.2.2.2.2) ∧ (s_.2.2.2.2.2.2 ≠ gb457) ∧ (Below w.heap.size w w')) ?_ ?_
 rotate_left
 ·intro hCont
  refine two_ (i := 1) (j := 8) (Ni := some 19) (Nj := some 7) (ba 11 7) (ba 11 261) rfl rfl rfl rfl (two_of HT_.out (by kernel_rfl)) (by decide) (by decide) (fun K hK => ?_) (fun K hK => ?_)
  ·skip
   refine gC Tryd.func7 #[.agg #[.int .i64 a0_0, .slice A0_1 l0_1.length c0_1, .slice A0_2 l0_2.length c0_2]] ?_
   with_reducible refine (congoulaw04_Of.calls a0_0 _ _ l0_1 _ _ l0_2 t458 t459 t462 _ ?side1 ?side2 ?side3 ?side4 A4.out).mono ?_
   (case side1 => exact kC HR0_1)
   (case side2 => exact HC0_1.out)
   (case side3 => exact kC HR0_2)
   (case side4 => exact HC0_2.out)
   rintro e w12 ⟨v460, v463, rfl, ho0, ho1, hb⟩
   refine ⟨_, rfl, ?_⟩
   have HO461 := ak (Kd.R_lower ho0 (below_size (hbC _)))
   have HO464 := ak (Kd.R_lower ho1 (below_size (hbC _)))
   replace BK455 := kB BK455 hb
   replace BK456 := kB BK456 hb
   replace BK457 := kB BK457 hb
   replace HB := kH _ hb
   (try clear hb)
   (try clear hb2)
   (try clear hk)
   (try clear hi)
   (try clear ho0)
   (try clear ho1)
   refine hK.out _ _ ⟨bc BK455 0, bc BK455 1, bc BK455 2, bc BK456 0, bc BK456 1, bc BK456 2⟩ (fun hHeld => ?_)
   clear hK K
   refine norm_ (a' := ?_) ?_ ?_
   rotate_left
   ·show Act.put _ (some 19) _ = _
    simp only [Act.put, List.setIfInBounds_toArray, List.set_cons_zero, List.set_cons_succ, i64_w, i32_w]
    rfl
   refine two_ (i := 3) (j := 8) (Ni := some 21) (Nj := some 7) (ba 11 15) (ba 11 263) rfl rfl rfl rfl (two_of HT_.out (by kernel_rfl)) (by decide) (by decide) (fun K hK => ?_) (fun K hK => ?_)
   ·skip
    refine gC Tryd.func7 #[.agg #[.int .i64 a1_0, .slice A1_1 l1_1.length c1_1, .slice A1_2 l1_2.length c1_2]] ?_
    with_reducible refine (congoulaw04_Of.calls a1_0 _ _ l1_1 _ _ l1_2 t465 t466 t469 _ ?side1 ?side2 ?side3 ?side4 A5.out).mono ?_
    (case side1 => exact kC HR1_1)
    (case side2 => exact HC1_1.out)
    (case side3 => exact kC HR1_2)
    (case side4 => exact HC1_2.out)
    rintro e w13 ⟨v467, v470, rfl, ho0, ho1, hb⟩
    refine ⟨_, rfl, ?_⟩
    have HO468 := ak (Kd.R_lower (Kd.R_new' (Kd.R_new' ho0 (Kd.R_lt (rC HO461))) (Kd.R_lt (rC HO464))) (below_size (hbC _)))
    have HO471 := ak (Kd.R_lower (Kd.R_new' (Kd.R_new' ho1 (Kd.R_lt (rC HO461))) (Kd.R_lt (rC HO464))) (below_size (hbC _)))
    replace HO461 := kT HO461 hb ho0 ho1
    replace HO464 := kT HO464 hb ho0 ho1
    replace BK455 := kB BK455 hb
    replace BK456 := kB BK456 hb
    replace BK457 := kB BK457 hb
    replace HB := kH _ hb
    (try clear hb)
    (try clear hb2)
    (try clear hk)
    (try clear hi)
    (try clear ho0)
    (try clear ho1)
    obtain ⟨Ao14, co14, eo14⟩ := Kd.R_slice HO461.out
    (first | subst eo14 | (injection eo14 with f1_ f2_ f3_; have f4_ := f1_.symm; have f5_ := f3_.symm; clear f1_ f2_ f3_; subst f4_; subst f5_))
    obtain ⟨Ao15, co15, eo15⟩ := Kd.R_slice HO464.out
    (first | subst eo15 | (injection eo15 with f1_ f2_ f3_; have f4_ := f1_.symm; have f5_ := f3_.symm; clear f1_ f2_ f3_; subst f4_; subst f5_))
    obtain ⟨Ao16, co16, eo16⟩ := Kd.R_slice HO468.out
    (first | subst eo16 | (injection eo16 with f1_ f2_ f3_; have f4_ := f1_.symm; have f5_ := f3_.symm; clear f1_ f2_ f3_; subst f4_; subst f5_))
    obtain ⟨Ao17, co17, eo17⟩ := Kd.R_slice HO471.out
    (first | subst eo17 | (injection eo17 with f1_ f2_ f3_; have f4_ := f1_.symm; have f5_ := f3_.symm; clear f1_ f2_ f3_; subst f4_; subst f5_))
    refine hK.out _ _ ⟨bc BK455 0, bc BK455 1, bc BK455 2, bc BK456 0, bc BK456 1, bc BK456 2⟩ (fun hHeld => ?_)
    clear hK K
    refine norm_ (a' := ?_) ?_ ?_
    rotate_left
    ·show Act.put _ (some 21) _ = _
     simp only [Act.put, List.setIfInBounds_toArray, List.set_cons_zero, List.set_cons_succ, i64_w, i32_w]
     rfl
    refine two_ (i := 4) (j := 8) (Ni := some 22) (Nj := some 7) (ba 11 31) (ba 11 271) rfl rfl rfl rfl (two_of HT_.out (by kernel_rfl)) (by decide) (by decide) (fun K hK => ?_) (fun K hK => ?_)
    ·skip
     refine gC Tryd.func15 #[.agg #[.int .i64 t458, .slice Ao14 t459.length co14, .slice Ao15 t462.length co15], .agg #[.int .i64 t465, .slice Ao16 t466.length co16, .slice Ao17 t469.length co17]] ?_
     with_reducible refine (curves_Plus.calls k t458 _ _ t459 _ _ t462 t465 _ _ t466 _ _ t469 t472 t473 t476 t479 _ ?side1 ?side2 ?side3 ?side4 ?side5 ?side6 ?side7 ?side8 A6.out).mono ?_
     (case side1 => exact kD (Kd.R_reads' HO461.out).2.2)
     (case side2 => exact (Kd.R_reads' HO461.out).2.1)
     (case side3 => exact kD (Kd.R_reads' HO464.out).2.2)
     (case side4 => exact (Kd.R_reads' HO464.out).2.1)
     (case side5 => exact kD (Kd.R_reads' HO468.out).2.2)
     (case side6 => exact (Kd.R_reads' HO468.out).2.1)
     (case side7 => exact kD (Kd.R_reads' HO471.out).2.2)
     (case side8 => exact (Kd.R_reads' HO471.out).2.1)
     rintro e w18 ⟨v474, v477, rfl, ho0, ho1, hb⟩
     refine ⟨_, rfl, ?_⟩
     have HO475 := ak (Kd.R_lower (Kd.R_new' (Kd.R_new' (Kd.R_new' (Kd.R_new' ho0 (Kd.R_lt (rC HO461))) (Kd.R_lt (rC HO464))) (Kd.R_lt (rC HO468))) (Kd.R_lt (rC HO471))) (below_size (hbC _)))
     have HO478 := ak (Kd.R_lower (Kd.R_new' (Kd.R_new' (Kd.R_new' (Kd.R_new' ho1 (Kd.R_lt (rC HO461))) (Kd.R_lt (rC HO464))) (Kd.R_lt (rC HO468))) (Kd.R_lt (rC HO471))) (below_size (hbC _)))
     replace HO461 := kT HO461 hb ho0 ho1
     replace HO464 := kT HO464 hb ho0 ho1
     replace HO468 := kT HO468 hb ho0 ho1
     replace HO471 := kT HO471 hb ho0 ho1
     replace BK455 := kB BK455 hb
     replace BK456 := kB BK456 hb
     replace BK457 := kB BK457 hb
     replace HB := kH _ hb
     (try clear hb)
     (try clear hb2)
     (try clear hk)
     (try clear hi)
     (try clear ho0)
     (try clear ho1)
     refine hK.out _ _ ⟨bc BK455 0, bc BK455 1, bc BK455 2, bc BK456 0, bc BK456 1, bc BK456 2⟩ (fun hHeld => ?_)
     clear hK K
     refine norm_ (a' := ?_) ?_ ?_
     rotate_left
     ·show Act.put _ (some 22) _ = _
      simp only [Act.put, List.setIfInBounds_toArray, List.set_cons_zero, List.set_cons_succ, i64_w, i32_w]
      rfl
     refine pS 5 17 11 63 ?_
     refine pS 6 23 11 127 ?_
     refine pS 7 24 11 255 ?_
     refine one_ (i := 8) (N := some 7) (ba 11 511) rfl rfl (one_of HT_.out (by kernel_rfl)) (by decide) (fun K hK => ?_)
     refine box_step ?hg (N := 7) ?hd (cs := #[.int .i64 0, .slice none 0 0, .slice none 0 0]) (t := 31) ?hr ?_; (case hd => rfl); (case hg => rfl); (case hr => first | (go_simp; done) | (go_simp; rfl))
     intro gb480 hg w19 hbox hb
     replace HO461 := kO HO461 hb
     replace HO464 := kO HO464 hb
     replace HO468 := kO HO468 hb
     replace HO471 := kO HO471 hb
     replace HO475 := kO HO475 hb
     replace HO478 := kO HO478 hb
     have BK480 := ak (hbox)
     have GW480 := kG w hg
     have GE480 := kG w hg
     replace HB := kH _ hb
     have NB455_480 := kL BK455 hg
     have NB480_455 := kR BK455 hg
     replace BK455 := kB BK455 hb
     have NB456_480 := kL BK456 hg
     have NB480_456 := kR BK456 hg
     replace BK456 := kB BK456 hb
     have NB457_480 := kL BK457 hg
     have NB480_457 := kR BK457 hg
     replace BK457 := kB BK457 hb
     clear hb hbox hg
     refine hK.out _ _ ⟨bc BK455 0, bc BK455 1, bc BK455 2, bc BK456 0, bc BK456 1, bc BK456 2⟩ (fun hHeld => ?_)
     clear hK K
     refine norm_ (a' := ?_) ?_ ?_
     rotate_left
     ·show Act.put _ (some 7) _ = _
      simp only [Act.put, List.setIfInBounds_toArray, List.set_cons_zero, List.set_cons_succ, i64_w, i32_w]
      rfl
     exact norm_ (by simp only [putAll, Act.put, List.setIfInBounds_toArray, List.set_cons_zero, List.set_cons_succ]) (hCont (.slice Ao14 t459.length co14, .slice Ao15 t462.length co15, .slice Ao16 t466.length co16, .slice Ao17 t469.length co17, v474, v477, gb480) _ ⟨hHeld, (rD (kM HO461)), (rD (kM HO464)), (rD (Kd.R_mono HO468.out (fun _ hk => ⟨hk.1.1.1.2, ⟨hk.1.1.2, ⟨hk.1.1.1.1, ⟨hk.1.2, hk.2⟩⟩⟩⟩))), (rD (Kd.R_mono HO471.out (fun _ hk => ⟨hk.1.1.1.2, ⟨hk.1.1.2, ⟨hk.1.1.1.1, ⟨hk.1.2, hk.2⟩⟩⟩⟩))), (rD (Kd.R_mono HO475.out (fun _ hk => ⟨hk.1.1.1.2, ⟨hk.1.1.2, ⟨hk.1.2, ⟨hk.2, hk.1.1.1.1⟩⟩⟩⟩))), (rD (Kd.R_mono HO478.out (fun _ hk => ⟨hk.1.1.1.2, ⟨hk.1.1.2, ⟨hk.1.2, ⟨hk.2, hk.1.1.1.1⟩⟩⟩⟩))), (bkC BK455), (bkC BK456), (bkC BK457), (bkC BK480), GW480.out, GE480.out, NB455_480.out, NB480_455.out, NB456_480.out, NB480_456.out, NB457_480.out, NB480_457.out, (hbC _)⟩)
    ·skip
     refine box_step ?hg (N := 7) ?hd (cs := #[.int .i64 0, .slice none 0 0, .slice none 0 0]) (t := 31) ?hr ?_; (case hd => rfl); (case hg => rfl); (case hr => first | (go_simp; done) | (go_simp; rfl))
     intro gb480 hg w14 hbox hb
     replace HO461 := kO HO461 hb
     replace HO464 := kO HO464 hb
     replace HO468 := kO HO468 hb
     replace HO471 := kO HO471 hb
     have BK480 := ak (hbox)
     have GW480 := kG w hg
     have GE480 := kG w hg
     replace HB := kH _ hb
     have NB455_480 := kL BK455 hg
     have NB480_455 := kR BK455 hg
     replace BK455 := kB BK455 hb
     have NB456_480 := kL BK456 hg
     have NB480_456 := kR BK456 hg
     replace BK456 := kB BK456 hb
     have NB457_480 := kL BK457 hg
     have NB480_457 := kR BK457 hg
     replace BK457 := kB BK457 hb
     clear hb hbox hg
     obtain ⟨Ao15, co15, eo15⟩ := Kd.R_slice HO461.out
     (first | subst eo15 | (injection eo15 with f1_ f2_ f3_; have f4_ := f1_.symm; have f5_ := f3_.symm; clear f1_ f2_ f3_; subst f4_; subst f5_))
     obtain ⟨Ao16, co16, eo16⟩ := Kd.R_slice HO464.out
     (first | subst eo16 | (injection eo16 with f1_ f2_ f3_; have f4_ := f1_.symm; have f5_ := f3_.symm; clear f1_ f2_ f3_; subst f4_; subst f5_))
     obtain ⟨Ao17, co17, eo17⟩ := Kd.R_slice HO468.out
     (first | subst eo17 | (injection eo17 with f1_ f2_ f3_; have f4_ := f1_.symm; have f5_ := f3_.symm; clear f1_ f2_ f3_; subst f4_; subst f5_))
     obtain ⟨Ao18, co18, eo18⟩ := Kd.R_slice HO471.out
     (first | subst eo18 | (injection eo18 with f1_ f2_ f3_; have f4_ := f1_.symm; have f5_ := f3_.symm; clear f1_ f2_ f3_; subst f4_; subst f5_))
     refine hK.out _ _ ⟨bc BK455 0, bc BK455 1, bc BK455 2, bc BK456 0, bc BK456 1, bc BK456 2⟩ (fun hHeld => ?_)
     clear hK K
     refine norm_ (a' := ?_) ?_ ?_
     rotate_left
     ·show Act.put _ (some 7) _ = _
      simp only [Act.put, List.setIfInBounds_toArray, List.set_cons_zero, List.set_cons_succ, i64_w, i32_w]
      rfl
     refine one_ (i := 4) (N := some 22) (ba 11 287) rfl rfl (one_of HT_.out (by kernel_rfl)) (by decide) (fun K hK => ?_)
     refine gC Tryd.func15 #[.agg #[.int .i64 t458, .slice Ao15 t459.length co15, .slice Ao16 t462.length co16], .agg #[.int .i64 t465, .slice Ao17 t466.length co17, .slice Ao18 t469.length co18]] ?_
     with_reducible refine (curves_Plus.calls k t458 _ _ t459 _ _ t462 t465 _ _ t466 _ _ t469 t472 t473 t476 t479 _ ?side1 ?side2 ?side3 ?side4 ?side5 ?side6 ?side7 ?side8 A6.out).mono ?_
     (case side1 => exact kD (Kd.R_reads' HO461.out).2.2)
     (case side2 => exact (Kd.R_reads' HO461.out).2.1)
     (case side3 => exact kD (Kd.R_reads' HO464.out).2.2)
     (case side4 => exact (Kd.R_reads' HO464.out).2.1)
     (case side5 => exact kD (Kd.R_reads' HO468.out).2.2)
     (case side6 => exact (Kd.R_reads' HO468.out).2.1)
     (case side7 => exact kD (Kd.R_reads' HO471.out).2.2)
     (case side8 => exact (Kd.R_reads' HO471.out).2.1)
     rintro e w19 ⟨v474, v477, rfl, ho0, ho1, hb⟩
     refine ⟨_, rfl, ?_⟩
     have HO475 := ak (Kd.R_lower (Kd.R_new' (Kd.R_new' (Kd.R_new' (Kd.R_new' ho0 (Kd.R_lt (rC HO461))) (Kd.R_lt (rC HO464))) (Kd.R_lt (rC HO468))) (Kd.R_lt (rC HO471))) (below_size (hbC _)))
     have HO478 := ak (Kd.R_lower (Kd.R_new' (Kd.R_new' (Kd.R_new' (Kd.R_new' ho1 (Kd.R_lt (rC HO461))) (Kd.R_lt (rC HO464))) (Kd.R_lt (rC HO468))) (Kd.R_lt (rC HO471))) (below_size (hbC _)))
     replace HO461 := kT HO461 hb ho0 ho1
     replace HO464 := kT HO464 hb ho0 ho1
     replace HO468 := kT HO468 hb ho0 ho1
     replace HO471 := kT HO471 hb ho0 ho1
     replace BK455 := kB BK455 hb
     replace BK456 := kB BK456 hb
     replace BK457 := kB BK457 hb
     replace BK480 := kB BK480 hb
     replace HB := kH _ hb
     (try clear hb)
     (try clear hb2)
     (try clear hk)
     (try clear hi)
     (try clear ho0)
     (try clear ho1)
     refine hK.out _ _ ⟨bc BK455 0, bc BK455 1, bc BK455 2, bc BK456 0, bc BK456 1, bc BK456 2⟩ (fun hHeld => ?_)
     clear hK K
     refine norm_ (a' := ?_) ?_ ?_
     rotate_left
     ·show Act.put _ (some 22) _ = _
      simp only [Act.put, List.setIfInBounds_toArray, List.set_cons_zero, List.set_cons_succ, i64_w, i32_w]
      rfl
     refine pS 5 17 11 319 ?_
     refine pS 6 23 11 383 ?_
     refine pS 7 24 11 511 ?_
     exact norm_ (by simp only [putAll, Act.put, List.setIfInBounds_toArray, List.set_cons_zero, List.set_cons_succ]) (hCont (.slice Ao15 t459.length co15, .slice Ao16 t462.length co16, .slice Ao17 t466.length co17, .slice Ao18 t469.length co18, v474, v477, gb480) _ ⟨hHeld, (rD (kM HO461)), (rD (kM HO464)), (rD (Kd.R_mono HO468.out (fun _ hk => ⟨hk.1.1.1.2, ⟨hk.1.1.2, ⟨hk.1.1.1.1, ⟨hk.1.2, hk.2⟩⟩⟩⟩))), (rD (Kd.R_mono HO471.out (fun _ hk => ⟨hk.1.1.1.2, ⟨hk.1.1.2, ⟨hk.1.1.1.1, ⟨hk.1.2, hk.2⟩⟩⟩⟩))), (rD (Kd.R_mono HO475.out (fun _ hk => ⟨hk.1.1.1.2, ⟨hk.1.1.2, ⟨hk.1.2, ⟨hk.2, hk.1.1.1.1⟩⟩⟩⟩))), (rD (Kd.R_mono HO478.out (fun _ hk => ⟨hk.1.1.1.2, ⟨hk.1.1.2, ⟨hk.1.2, ⟨hk.2, hk.1.1.1.1⟩⟩⟩⟩))), (bkC BK455), (bkC BK456), (bkC BK457), (bkC BK480), GW480.out, GE480.out, NB455_480.out, NB480_455.out, NB456_480.out, NB480_456.out, NB457_480.out, NB480_457.out, (hbC _)⟩)
   ·skip
    refine box_step ?hg (N := 7) ?hd (cs := #[.int .i64 0, .slice none 0 0, .slice none 0 0]) (t := 31) ?hr ?_; (case hd => rfl); (case hg => rfl); (case hr => first | (go_simp; done) | (go_simp; rfl))
    intro gb480 hg w13 hbox hb
    replace HO461 := kO HO461 hb
    replace HO464 := kO HO464 hb
    have BK480 := ak (hbox)
    have GW480 := kG w hg
    have GE480 := kG w hg
    replace HB := kH _ hb
    have NB455_480 := kL BK455 hg
    have NB480_455 := kR BK455 hg
    replace BK455 := kB BK455 hb
    have NB456_480 := kL BK456 hg
    have NB480_456 := kR BK456 hg
    replace BK456 := kB BK456 hb
    have NB457_480 := kL BK457 hg
    have NB480_457 := kR BK457 hg
    replace BK457 := kB BK457 hb
    clear hb hbox hg
    refine hK.out _ _ ⟨bc BK455 0, bc BK455 1, bc BK455 2, bc BK456 0, bc BK456 1, bc BK456 2⟩ (fun hHeld => ?_)
    clear hK K
    refine norm_ (a' := ?_) ?_ ?_
    rotate_left
    ·show Act.put _ (some 7) _ = _
     simp only [Act.put, List.setIfInBounds_toArray, List.set_cons_zero, List.set_cons_succ, i64_w, i32_w]
     rfl
    refine one_ (i := 3) (N := some 21) (ba 11 271) rfl rfl (one_of HT_.out (by kernel_rfl)) (by decide) (fun K hK => ?_)
    refine gC Tryd.func7 #[.agg #[.int .i64 a1_0, .slice A1_1 l1_1.length c1_1, .slice A1_2 l1_2.length c1_2]] ?_
    with_reducible refine (congoulaw04_Of.calls a1_0 _ _ l1_1 _ _ l1_2 t465 t466 t469 _ ?side1 ?side2 ?side3 ?side4 A5.out).mono ?_
    (case side1 => exact kC HR1_1)
    (case side2 => exact HC1_1.out)
    (case side3 => exact kC HR1_2)
    (case side4 => exact HC1_2.out)
    rintro e w14 ⟨v467, v470, rfl, ho0, ho1, hb⟩
    refine ⟨_, rfl, ?_⟩
    have HO468 := ak (Kd.R_lower (Kd.R_new' (Kd.R_new' ho0 (Kd.R_lt (rC HO461))) (Kd.R_lt (rC HO464))) (below_size (hbC _)))
    have HO471 := ak (Kd.R_lower (Kd.R_new' (Kd.R_new' ho1 (Kd.R_lt (rC HO461))) (Kd.R_lt (rC HO464))) (below_size (hbC _)))
    replace HO461 := kT HO461 hb ho0 ho1
    replace HO464 := kT HO464 hb ho0 ho1
    replace BK455 := kB BK455 hb
    replace BK456 := kB BK456 hb
    replace BK457 := kB BK457 hb
    replace BK480 := kB BK480 hb
    replace HB := kH _ hb
    (try clear hb)
    (try clear hb2)
    (try clear hk)
    (try clear hi)
    (try clear ho0)
    (try clear ho1)
    obtain ⟨Ao15, co15, eo15⟩ := Kd.R_slice HO461.out
    (first | subst eo15 | (injection eo15 with f1_ f2_ f3_; have f4_ := f1_.symm; have f5_ := f3_.symm; clear f1_ f2_ f3_; subst f4_; subst f5_))
    obtain ⟨Ao16, co16, eo16⟩ := Kd.R_slice HO464.out
    (first | subst eo16 | (injection eo16 with f1_ f2_ f3_; have f4_ := f1_.symm; have f5_ := f3_.symm; clear f1_ f2_ f3_; subst f4_; subst f5_))
    obtain ⟨Ao17, co17, eo17⟩ := Kd.R_slice HO468.out
    (first | subst eo17 | (injection eo17 with f1_ f2_ f3_; have f4_ := f1_.symm; have f5_ := f3_.symm; clear f1_ f2_ f3_; subst f4_; subst f5_))
    obtain ⟨Ao18, co18, eo18⟩ := Kd.R_slice HO471.out
    (first | subst eo18 | (injection eo18 with f1_ f2_ f3_; have f4_ := f1_.symm; have f5_ := f3_.symm; clear f1_ f2_ f3_; subst f4_; subst f5_))
    refine hK.out _ _ ⟨bc BK455 0, bc BK455 1, bc BK455 2, bc BK456 0, bc BK456 1, bc BK456 2⟩ (fun hHeld => ?_)
    clear hK K
    refine norm_ (a' := ?_) ?_ ?_
    rotate_left
    ·show Act.put _ (some 21) _ = _
     simp only [Act.put, List.setIfInBounds_toArray, List.set_cons_zero, List.set_cons_succ, i64_w, i32_w]
     rfl
    refine one_ (i := 4) (N := some 22) (ba 11 287) rfl rfl (one_of HT_.out (by kernel_rfl)) (by decide) (fun K hK => ?_)
    refine gC Tryd.func15 #[.agg #[.int .i64 t458, .slice Ao15 t459.length co15, .slice Ao16 t462.length co16], .agg #[.int .i64 t465, .slice Ao17 t466.length co17, .slice Ao18 t469.length co18]] ?_
    with_reducible refine (curves_Plus.calls k t458 _ _ t459 _ _ t462 t465 _ _ t466 _ _ t469 t472 t473 t476 t479 _ ?side1 ?side2 ?side3 ?side4 ?side5 ?side6 ?side7 ?side8 A6.out).mono ?_
    (case side1 => exact kD (Kd.R_reads' HO461.out).2.2)
    (case side2 => exact (Kd.R_reads' HO461.out).2.1)
    (case side3 => exact kD (Kd.R_reads' HO464.out).2.2)
    (case side4 => exact (Kd.R_reads' HO464.out).2.1)
    (case side5 => exact kD (Kd.R_reads' HO468.out).2.2)
    (case side6 => exact (Kd.R_reads' HO468.out).2.1)
    (case side7 => exact kD (Kd.R_reads' HO471.out).2.2)
    (case side8 => exact (Kd.R_reads' HO471.out).2.1)
    rintro e w19 ⟨v474, v477, rfl, ho0, ho1, hb⟩
    refine ⟨_, rfl, ?_⟩
    have HO475 := ak (Kd.R_lower (Kd.R_new' (Kd.R_new' (Kd.R_new' (Kd.R_new' ho0 (Kd.R_lt (rC HO461))) (Kd.R_lt (rC HO464))) (Kd.R_lt (rC HO468))) (Kd.R_lt (rC HO471))) (below_size (hbC _)))
    have HO478 := ak (Kd.R_lower (Kd.R_new' (Kd.R_new' (Kd.R_new' (Kd.R_new' ho1 (Kd.R_lt (rC HO461))) (Kd.R_lt (rC HO464))) (Kd.R_lt (rC HO468))) (Kd.R_lt (rC HO471))) (below_size (hbC _)))
    replace HO461 := kT HO461 hb ho0 ho1
    replace HO464 := kT HO464 hb ho0 ho1
    replace HO468 := kT HO468 hb ho0 ho1
    replace HO471 := kT HO471 hb ho0 ho1
    replace BK455 := kB BK455 hb
    replace BK456 := kB BK456 hb
    replace BK457 := kB BK457 hb
    replace BK480 := kB BK480 hb
    replace HB := kH _ hb
    (try clear hb)
    (try clear hb2)
    (try clear hk)
    (try clear hi)
    (try clear ho0)
    (try clear ho1)
    refine hK.out _ _ ⟨bc BK455 0, bc BK455 1, bc BK455 2, bc BK456 0, bc BK456 1, bc BK456 2⟩ (fun hHeld => ?_)
    clear hK K
    refine norm_ (a' := ?_) ?_ ?_
    rotate_left
    ·show Act.put _ (some 22) _ = _
     simp only [Act.put, List.setIfInBounds_toArray, List.set_cons_zero, List.set_cons_succ, i64_w, i32_w]
     rfl
    refine pS 5 17 11 319 ?_
    refine pS 6 23 11 383 ?_
    refine pS 7 24 11 511 ?_
    exact norm_ (by simp only [putAll, Act.put, List.setIfInBounds_toArray, List.set_cons_zero, List.set_cons_succ]) (hCont (.slice Ao15 t459.length co15, .slice Ao16 t462.length co16, .slice Ao17 t466.length co17, .slice Ao18 t469.length co18, v474, v477, gb480) _ ⟨hHeld, (rD (kM HO461)), (rD (kM HO464)), (rD (Kd.R_mono HO468.out (fun _ hk => ⟨hk.1.1.1.2, ⟨hk.1.1.2, ⟨hk.1.1.1.1, ⟨hk.1.2, hk.2⟩⟩⟩⟩))), (rD (Kd.R_mono HO471.out (fun _ hk => ⟨hk.1.1.1.2, ⟨hk.1.1.2, ⟨hk.1.1.1.1, ⟨hk.1.2, hk.2⟩⟩⟩⟩))), (rD (Kd.R_mono HO475.out (fun _ hk => ⟨hk.1.1.1.2, ⟨hk.1.1.2, ⟨hk.1.2, ⟨hk.2, hk.1.1.1.1⟩⟩⟩⟩))), (rD (Kd.R_mono HO478.out (fun _ hk => ⟨hk.1.1.1.2, ⟨hk.1.1.2, ⟨hk.1.2, ⟨hk.2, hk.1.1.1.1⟩⟩⟩⟩))), (bkC BK455), (bkC BK456), (bkC BK457), (bkC BK480), GW480.out, GE480.out, NB455_480.out, NB480_455.out, NB456_480.out, NB480_456.out, NB457_480.out, NB480_457.out, (hbC _)⟩)
  ·skip
   refine box_step ?hg (N := 7) ?hd (cs := #[.int .i64 0, .slice none 0 0, .slice none 0 0]) (t := 31) ?hr ?_; (case hd => rfl); (case hg => rfl); (case hr => first | (go_simp; done) | (go_simp; rfl))
   intro gb480 hg w12 hbox hb
   have BK480 := ak (hbox)
   have GW480 := kG w hg
   have GE480 := kG w hg
   replace HB := kH _ hb
   have NB455_480 := kL BK455 hg
   have NB480_455 := kR BK455 hg
   replace BK455 := kB BK455 hb
   have NB456_480 := kL BK456 hg
   have NB480_456 := kR BK456 hg
   replace BK456 := kB BK456 hb
   have NB457_480 := kL BK457 hg
   have NB480_457 := kR BK457 hg
   replace BK457 := kB BK457 hb
   clear hb hbox hg
   refine hK.out _ _ ⟨bc BK455 0, bc BK455 1, bc BK455 2, bc BK456 0, bc BK456 1, bc BK456 2⟩ (fun hHeld => ?_)
   clear hK K
   refine norm_ (a' := ?_) ?_ ?_
   rotate_left
   ·show Act.put _ (some 7) _ = _
    simp only [Act.put, List.setIfInBounds_toArray, List.set_cons_zero, List.set_cons_succ, i64_w, i32_w]
    rfl
   refine one_ (i := 1) (N := some 19) (ba 11 263) rfl rfl (one_of HT_.out (by kernel_rfl)) (by decide) (fun K hK => ?_)
   refine gC Tryd.func7 #[.agg #[.int .i64 a0_0, .slice A0_1 l0_1.length c0_1, .slice A0_2 l0_2.length c0_2]] ?_
   with_reducible refine (congoulaw04_Of.calls a0_0 _ _ l0_1 _ _ l0_2 t458 t459 t462 _ ?side1 ?side2 ?side3 ?side4 A4.out).mono ?_
   (case side1 => exact kC HR0_1)
   (case side2 => exact HC0_1.out)
   (case side3 => exact kC HR0_2)
   (case side4 => exact HC0_2.out)
   rintro e w13 ⟨v460, v463, rfl, ho0, ho1, hb⟩
   refine ⟨_, rfl, ?_⟩
   have HO461 := ak (Kd.R_lower ho0 (below_size (hbC _)))
   have HO464 := ak (Kd.R_lower ho1 (below_size (hbC _)))
   replace BK455 := kB BK455 hb
   replace BK456 := kB BK456 hb
   replace BK457 := kB BK457 hb
   replace BK480 := kB BK480 hb
   replace HB := kH _ hb
   (try clear hb)
   (try clear hb2)
   (try clear hk)
   (try clear hi)
   (try clear ho0)
   (try clear ho1)
   refine hK.out _ _ ⟨bc BK455 0, bc BK455 1, bc BK455 2, bc BK456 0, bc BK456 1, bc BK456 2⟩ (fun hHeld => ?_)
   clear hK K
   refine norm_ (a' := ?_) ?_ ?_
   rotate_left
   ·show Act.put _ (some 19) _ = _
    simp only [Act.put, List.setIfInBounds_toArray, List.set_cons_zero, List.set_cons_succ, i64_w, i32_w]
    rfl
   refine one_ (i := 3) (N := some 21) (ba 11 271) rfl rfl (one_of HT_.out (by kernel_rfl)) (by decide) (fun K hK => ?_)
   refine gC Tryd.func7 #[.agg #[.int .i64 a1_0, .slice A1_1 l1_1.length c1_1, .slice A1_2 l1_2.length c1_2]] ?_
   with_reducible refine (congoulaw04_Of.calls a1_0 _ _ l1_1 _ _ l1_2 t465 t466 t469 _ ?side1 ?side2 ?side3 ?side4 A5.out).mono ?_
   (case side1 => exact kC HR1_1)
   (case side2 => exact HC1_1.out)
   (case side3 => exact kC HR1_2)
   (case side4 => exact HC1_2.out)
   rintro e w14 ⟨v467, v470, rfl, ho0, ho1, hb⟩
   refine ⟨_, rfl, ?_⟩
   have HO468 := ak (Kd.R_lower (Kd.R_new' (Kd.R_new' ho0 (Kd.R_lt (rC HO461))) (Kd.R_lt (rC HO464))) (below_size (hbC _)))
   have HO471 := ak (Kd.R_lower (Kd.R_new' (Kd.R_new' ho1 (Kd.R_lt (rC HO461))) (Kd.R_lt (rC HO464))) (below_size (hbC _)))
   replace HO461 := kT HO461 hb ho0 ho1
   replace HO464 := kT HO464 hb ho0 ho1
   replace BK455 := kB BK455 hb
   replace BK456 := kB BK456 hb
   replace BK457 := kB BK457 hb
   replace BK480 := kB BK480 hb
   replace HB := kH _ hb
   (try clear hb)
   (try clear hb2)
   (try clear hk)
   (try clear hi)
   (try clear ho0)
   (try clear ho1)
   obtain ⟨Ao15, co15, eo15⟩ := Kd.R_slice HO461.out
   (first | subst eo15 | (injection eo15 with f1_ f2_ f3_; have f4_ := f1_.symm; have f5_ := f3_.symm; clear f1_ f2_ f3_; subst f4_; subst f5_))
   obtain ⟨Ao16, co16, eo16⟩ := Kd.R_slice HO464.out
   (first | subst eo16 | (injection eo16 with f1_ f2_ f3_; have f4_ := f1_.symm; have f5_ := f3_.symm; clear f1_ f2_ f3_; subst f4_; subst f5_))
   obtain ⟨Ao17, co17, eo17⟩ := Kd.R_slice HO468.out
   (first | subst eo17 | (injection eo17 with f1_ f2_ f3_; have f4_ := f1_.symm; have f5_ := f3_.symm; clear f1_ f2_ f3_; subst f4_; subst f5_))
   obtain ⟨Ao18, co18, eo18⟩ := Kd.R_slice HO471.out
   (first | subst eo18 | (injection eo18 with f1_ f2_ f3_; have f4_ := f1_.symm; have f5_ := f3_.symm; clear f1_ f2_ f3_; subst f4_; subst f5_))
   refine hK.out _ _ ⟨bc BK455 0, bc BK455 1, bc BK455 2, bc BK456 0, bc BK456 1, bc BK456 2⟩ (fun hHeld => ?_)
   clear hK K
   refine norm_ (a' := ?_) ?_ ?_
   rotate_left
   ·show Act.put _ (some 21) _ = _
    simp only [Act.put, List.setIfInBounds_toArray, List.set_cons_zero, List.set_cons_succ, i64_w, i32_w]
    rfl
   refine one_ (i := 4) (N := some 22) (ba 11 287) rfl rfl (one_of HT_.out (by kernel_rfl)) (by decide) (fun K hK => ?_)
   refine gC Tryd.func15 #[.agg #[.int .i64 t458, .slice Ao15 t459.length co15, .slice Ao16 t462.length co16], .agg #[.int .i64 t465, .slice Ao17 t466.length co17, .slice Ao18 t469.length co18]] ?_
   with_reducible refine (curves_Plus.calls k t458 _ _ t459 _ _ t462 t465 _ _ t466 _ _ t469 t472 t473 t476 t479 _ ?side1 ?side2 ?side3 ?side4 ?side5 ?side6 ?side7 ?side8 A6.out).mono ?_
   (case side1 => exact kD (Kd.R_reads' HO461.out).2.2)
   (case side2 => exact (Kd.R_reads' HO461.out).2.1)
   (case side3 => exact kD (Kd.R_reads' HO464.out).2.2)
   (case side4 => exact (Kd.R_reads' HO464.out).2.1)
   (case side5 => exact kD (Kd.R_reads' HO468.out).2.2)
   (case side6 => exact (Kd.R_reads' HO468.out).2.1)
   (case side7 => exact kD (Kd.R_reads' HO471.out).2.2)
   (case side8 => exact (Kd.R_reads' HO471.out).2.1)
   rintro e w19 ⟨v474, v477, rfl, ho0, ho1, hb⟩
   refine ⟨_, rfl, ?_⟩
   have HO475 := ak (Kd.R_lower (Kd.R_new' (Kd.R_new' (Kd.R_new' (Kd.R_new' ho0 (Kd.R_lt (rC HO461))) (Kd.R_lt (rC HO464))) (Kd.R_lt (rC HO468))) (Kd.R_lt (rC HO471))) (below_size (hbC _)))
   have HO478 := ak (Kd.R_lower (Kd.R_new' (Kd.R_new' (Kd.R_new' (Kd.R_new' ho1 (Kd.R_lt (rC HO461))) (Kd.R_lt (rC HO464))) (Kd.R_lt (rC HO468))) (Kd.R_lt (rC HO471))) (below_size (hbC _)))
   replace HO461 := kT HO461 hb ho0 ho1
   replace HO464 := kT HO464 hb ho0 ho1
   replace HO468 := kT HO468 hb ho0 ho1
   replace HO471 := kT HO471 hb ho0 ho1
   replace BK455 := kB BK455 hb
   replace BK456 := kB BK456 hb
   replace BK457 := kB BK457 hb
   replace BK480 := kB BK480 hb
   replace HB := kH _ hb
   (try clear hb)
   (try clear hb2)
   (try clear hk)
   (try clear hi)
   (try clear ho0)
   (try clear ho1)
   refine hK.out _ _ ⟨bc BK455 0, bc BK455 1, bc BK455 2, bc BK456 0, bc BK456 1, bc BK456 2⟩ (fun hHeld => ?_)
   clear hK K
   refine norm_ (a' := ?_) ?_ ?_
   rotate_left
   ·show Act.put _ (some 22) _ = _
    simp only [Act.put, List.setIfInBounds_toArray, List.set_cons_zero, List.set_cons_succ, i64_w, i32_w]
    rfl
   refine pS 5 17 11 319 ?_
   refine pS 6 23 11 383 ?_
   refine pS 7 24 11 511 ?_
   exact norm_ (by simp only [putAll, Act.put, List.setIfInBounds_toArray, List.set_cons_zero, List.set_cons_succ]) (hCont (.slice Ao15 t459.length co15, .slice Ao16 t462.length co16, .slice Ao17 t466.length co17, .slice Ao18 t469.length co18, v474, v477, gb480) _ ⟨hHeld, (rD (kM HO461)), (rD (kM HO464)), (rD (Kd.R_mono HO468.out (fun _ hk => ⟨hk.1.1.1.2, ⟨hk.1.1.2, ⟨hk.1.1.1.1, ⟨hk.1.2, hk.2⟩⟩⟩⟩))), (rD (Kd.R_mono HO471.out (fun _ hk => ⟨hk.1.1.1.2, ⟨hk.1.1.2, ⟨hk.1.1.1.1, ⟨hk.1.2, hk.2⟩⟩⟩⟩))), (rD (Kd.R_mono HO475.out (fun _ hk => ⟨hk.1.1.1.2, ⟨hk.1.1.2, ⟨hk.1.2, ⟨hk.2, hk.1.1.1.1⟩⟩⟩⟩))), (rD (Kd.R_mono HO478.out (fun _ hk => ⟨hk.1.1.1.2, ⟨hk.1.1.2, ⟨hk.1.2, ⟨hk.2, hk.1.1.1.1⟩⟩⟩⟩))), (bkC BK455), (bkC BK456), (bkC BK457), (bkC BK480), GW480.out, GE480.out, NB455_480.out, NB480_455.out, NB456_480.out, NB480_456.out, NB457_480.out, NB480_457.out, (hbC _)⟩)
 rintro ⟨v460, v463, v467, v470, v474, v477, gb480⟩ w20 ⟨hS_, h0_, h1_, h2_, h3_, h4_, h5_, h6_, h7_, h8_, h9_, h10_, h11_, h12_, h13_, h14_, h15_, h16_, h17_, h18_⟩
 have n0_ : Aside0 (Kd.R (Kd.int .i64) 3 w20 w.heap.size (fun k_ => nb k_ v463 ∧ nb k_ v467 ∧ nb k_ v470 ∧ nb k_ v474 ∧ nb k_ v477) v460 t459) := ⟨h0_⟩
 have n1_ : Aside0 (Kd.R (Kd.int .i64) 3 w20 w.heap.size (fun k_ => nb k_ v460 ∧ nb k_ v467 ∧ nb k_ v470 ∧ nb k_ v474 ∧ nb k_ v477) v463 t462) := ⟨h1_⟩
 have n2_ : Aside0 (Kd.R (Kd.int .i64) 3 w20 w.heap.size (fun k_ => nb k_ v460 ∧ nb k_ v463 ∧ nb k_ v470 ∧ nb k_ v474 ∧ nb k_ v477) v467 t466) := ⟨h2_⟩
 have n3_ : Aside0 (Kd.R (Kd.int .i64) 3 w20 w.heap.size (fun k_ => nb k_ v460 ∧ nb k_ v463 ∧ nb k_ v467 ∧ nb k_ v474 ∧ nb k_ v477) v470 t469) := ⟨h3_⟩
 have n4_ : Aside0 (Kd.R (Kd.int .i64) 3 w20 w.heap.size (fun k_ => nb k_ v460 ∧ nb k_ v463 ∧ nb k_ v467 ∧ nb k_ v470 ∧ nb k_ v477) v474 t473) := ⟨h4_⟩
 have n5_ : Aside0 (Kd.R (Kd.int .i64) 3 w20 w.heap.size (fun k_ => nb k_ v460 ∧ nb k_ v463 ∧ nb k_ v467 ∧ nb k_ v470 ∧ nb k_ v474) v477 t476) := ⟨h5_⟩
 have n6_ : Aside0 (w20.heap[gb455]? = some (.cells #[.int .i64 a0_0, .slice A0_1 l0_1.length c0_1, .slice A0_2 l0_2.length c0_2] 24 (0, 0))) := ⟨h6_⟩
 have n7_ : Aside0 (w20.heap[gb456]? = some (.cells #[.int .i64 a1_0, .slice A1_1 l1_1.length c1_1, .slice A1_2 l1_2.length c1_2] 24 (0, 0))) := ⟨h7_⟩
 have n8_ : Aside0 (w20.heap[gb457]? = some (.cells #[.int .i64 a2_0, .int .i64 a2_1] 26 (0, 0))) := ⟨h8_⟩
 have n9_ : Aside0 (w20.heap[gb480]? = some (.cells #[.int .i64 0, .slice none 0 0, .slice none 0 0] 31 (0, 0))) := ⟨h9_⟩
 have n10_ : Aside0 (w.heap.size ≤ gb480) := ⟨h10_⟩
 have n11_ : Aside0 (w.heap.size ≤ gb480) := ⟨h11_⟩
 have n12_ : Aside0 (gb455 ≠ gb480) := ⟨h12_⟩
 have n13_ : Aside0 (gb480 ≠ gb455) := ⟨h13_⟩
 have n14_ : Aside0 (gb456 ≠ gb480) := ⟨h14_⟩
 have n15_ : Aside0 (gb480 ≠ gb456) := ⟨h15_⟩
 have n16_ : Aside0 (gb457 ≠ gb480) := ⟨h16_⟩
 have n17_ : Aside0 (gb480 ≠ gb457) := ⟨h17_⟩
 have n18_ : Aside0 (Below w.heap.size w w20) := ⟨h18_⟩
 clear BK455
 clear BK456
 clear BK457
 clear HB
 clear h0_ h1_ h2_ h3_ h4_ h5_ h6_ h7_ h8_ h9_ h10_ h11_ h12_ h13_ h14_ h15_ h16_ h17_ h18_
 have HO461 := n0_
 have HO464 := n1_
 have HO468 := n2_
 have HO471 := n3_
 have HO475 := n4_
 have HO478 := n5_
 have BK455 := n6_
 have BK456 := n7_
 have BK457 := n8_
 have BK480 := n9_
 have GW480 := n10_
 have GE480 := n11_
 have NB455_480 := n12_
 have NB480_455 := n13_
 have NB456_480 := n14_
 have NB480_456 := n15_
 have NB457_480 := n16_
 have NB480_457 := n17_
 have HB := n18_
 clear n0_ n1_ n2_ n3_ n4_ n5_ n6_ n7_ n8_ n9_ n10_ n11_ n12_ n13_ n14_ n15_ n16_ n17_ n18_
 have hHeld : w20.cell? ⟨gb455, 0, none⟩ = some (.int .i64 a0_0) ∧ w20.cell? ⟨gb455, 1, none⟩ = some (.slice A0_1 l0_1.length c0_1) ∧ w20.cell? ⟨gb455, 2, none⟩ = some (.slice A0_2 l0_2.length c0_2) ∧ w20.cell? ⟨gb456, 0, none⟩ = some (.int .i64 a1_0) ∧ w20.cell? ⟨gb456, 1, none⟩ = some (.slice A1_1 l1_1.length c1_1) ∧ w20.cell? ⟨gb456, 2, none⟩ = some (.slice A1_2 l1_2.length c1_2) := hS_
 obtain ⟨Ao22, co22, eo22⟩ := Kd.R_slice HO475.out
 (first | subst eo22 | (injection eo22 with f1_ f2_ f3_; have f4_ := f1_.symm; have f5_ := f3_.symm; clear f1_ f2_ f3_; subst f4_; subst f5_))
 obtain ⟨Ao24, co24, eo24⟩ := Kd.R_slice HO478.out
 (first | subst eo24 | (injection eo24 with f1_ f2_ f3_; have f4_ := f1_.symm; have f5_ := f3_.symm; clear f1_ f2_ f3_; subst f4_; subst f5_))
 refine norm_ (a' := ?_) ?_ ?_
 rotate_left
 ·simp only [putAll, Act.put, List.setIfInBounds_toArray, List.set_cons_zero, List.set_cons_succ]
  rfl
 refine one_ (i := 9) (N := none) (ba 11 1023) rfl rfl (one_of HT_.out (by kernel_rfl)) (by decide) (fun K hK => ?_)
 have hs21 : w20.cell? ⟨gb480, 0, none⟩ = some (.int .i64 0) := bc BK480 0
 have hfs21 := fz BK480 0
 have hns21_0 := NB455_480.out
 have hns21_1 := NB456_480.out
 have hns21_2 := NB457_480.out
 have hms21_0 := NB480_455.out
 have hms21_1 := NB480_456.out
 have hms21_2 := NB480_457.out
 have hs23 : w20.cell? ⟨gb480, 1, none⟩ = some (.slice none 0 0) := bc BK480 1
 have hfs23 := fz BK480 1
 have hns23_0 := NB455_480.out
 have hns23_1 := NB456_480.out
 have hns23_2 := NB457_480.out
 have hms23_0 := NB480_455.out
 have hms23_1 := NB480_456.out
 have hms23_2 := NB480_457.out
 have hs25 : w20.cell? ⟨gb480, 2, none⟩ = some (.slice none 0 0) := bc BK480 2
 have hfs25 := fz BK480 2
 have hns25_0 := NB455_480.out
 have hns25_1 := NB456_480.out
 have hns25_2 := NB457_480.out
 have hms25_0 := NB480_455.out
 have hms25_1 := NB480_456.out
 have hms25_2 := NB480_457.out
 refine skip_ (w1 := ?_) (by rfl) rfl ?_ ?_
 rotate_left
 ·go_simp
  rfl
 refine hK.out _ _ ⟨((cell_far (p := ⟨gb480, _, none⟩) NB455_480.out _).trans (((cell_far (p := ⟨gb480, _, none⟩) NB455_480.out _).trans (((cell_far (p := ⟨gb480, _, none⟩) NB455_480.out _).trans (hHeld.1)))))), ((cell_far (p := ⟨gb480, _, none⟩) NB455_480.out _).trans (((cell_far (p := ⟨gb480, _, none⟩) NB455_480.out _).trans (((cell_far (p := ⟨gb480, _, none⟩) NB455_480.out _).trans (hHeld.2.1)))))), ((cell_far (p := ⟨gb480, _, none⟩) NB455_480.out _).trans (((cell_far (p := ⟨gb480, _, none⟩) NB455_480.out _).trans (((cell_far (p := ⟨gb480, _, none⟩) NB455_480.out _).trans (hHeld.2.2.1)))))), ((cell_far (p := ⟨gb480, _, none⟩) NB456_480.out _).trans (((cell_far (p := ⟨gb480, _, none⟩) NB456_480.out _).trans (((cell_far (p := ⟨gb480, _, none⟩) NB456_480.out _).trans (hHeld.2.2.2.1)))))), ((cell_far (p := ⟨gb480, _, none⟩) NB456_480.out _).trans (((cell_far (p := ⟨gb480, _, none⟩) NB456_480.out _).trans (((cell_far (p := ⟨gb480, _, none⟩) NB456_480.out _).trans (hHeld.2.2.2.2.1)))))), ((cell_far (p := ⟨gb480, _, none⟩) NB456_480.out _).trans (((cell_far (p := ⟨gb480, _, none⟩) NB456_480.out _).trans (((cell_far (p := ⟨gb480, _, none⟩) NB456_480.out _).trans (hHeld.2.2.2.2.2))))))⟩ (fun hHeld => ?_)
 clear hK K
 refine pS 10 8 11 2047 ?_
 refine done_ (done_of HT_.out (by kernel_rfl)) ?_
 go_upto_region 2 with (fail)
 go_cut [43] (fun v43 wc => ∃ (kq : Nat) (x43_6 : Bool), v43 = .bool x43_6 ∧ Aside0 (congoulaw04_CurvesSum.j0 kq t479 x43_6 a0_0 l0_1 l0_2 a1_0 l1_1 l1_2 a2_0 a2_1 t472 t473 t476 = some r) ∧ Aside0 (kq ≤ k) ∧ Aside0 (Kd.R (Kd.int .i64) 3 wc w.heap.size (fun k_ => some k_ ≠ ((.slice Ao24 t476.length co24) : Value).ownBlock) (.slice Ao22 t473.length co22) t473) ∧ Aside0 (Kd.R (Kd.int .i64) 3 wc w.heap.size (fun k_ => some k_ ≠ ((.slice Ao22 t473.length co22) : Value).ownBlock) (.slice Ao24 t476.length co24) t476) ∧ Aside0 (wc.heap[gb455]? = some (.cells #[.int .i64 a0_0, (.slice A0_1 l0_1.length c0_1), (.slice A0_2 l0_2.length c0_2)] 24 (0, 0))) ∧ Aside0 (wc.heap[gb456]? = some (.cells #[.int .i64 a1_0, (.slice A1_1 l1_1.length c1_1), (.slice A1_2 l1_2.length c1_2)] 24 (0, 0))) ∧ Aside0 (wc.heap[gb457]? = some (.cells #[.int .i64 a2_0, .int .i64 a2_1] 26 (0, 0))) ∧ Aside0 (wc.heap[gb480]? = some (.cells #[.int .i64 t472, (.slice Ao22 t473.length co22), (.slice Ao24 t476.length co24)] 31 (0, 0))) ∧ Aside0 (Below w.heap.size w wc))
 case first =>
  have H := HC7.out
  clear HC7
  by_cases c26 : t479 = 0
  rotate_left
  ·rw [if_neg c26] at H
   have c26b0 : (t479 == 0) = false := beq_eq_false_iff_ne.mpr c26
   have c26b1 : (t479 != 0) = true := bne_iff_ne.mpr c26
   (first | rw [c26b0] | (simp only [i64_w, i32_w]; rw [c26b0]) | skip)
   have H' := Aside0.mk H
   clear H
   go_wp2
   go_meet
   case rel => exact ⟨_, (true), (by first | rfl | (simp; done) | (simp [*]; done)), H', ⟨by first | omega | exact Nat.le_refl _⟩, ⟨rD (Kd.R_mono (Kd.R_far (p := ⟨gb480, 2, none⟩) (Kd.R_far (p := ⟨gb480, 1, none⟩) (Kd.R_far (p := ⟨gb480, 0, none⟩) (Kd.R_types HO475.out BK480.out (by decide)) (fun _ hk => hk.2) (.int .i64 t472)) (fun _ hk => hk.2) (.slice Ao22 t473.length co22)) (fun _ hk => hk.2) (.slice Ao24 t476.length co24)) (fun _ hk => hk.1.2.2.2.2))⟩, ⟨rD (Kd.R_mono (Kd.R_far (p := ⟨gb480, 2, none⟩) (Kd.R_far (p := ⟨gb480, 1, none⟩) (Kd.R_far (p := ⟨gb480, 0, none⟩) (Kd.R_types HO478.out BK480.out (by decide)) (fun _ hk => hk.2) (.int .i64 t472)) (fun _ hk => hk.2) (.slice Ao22 t473.length co22)) (fun _ hk => hk.2) (.slice Ao24 t476.length co24)) (fun _ hk => hk.1.2.2.2.2))⟩, ⟨bF BK455⟩, ⟨bF BK456⟩, ⟨bF BK457⟩, ⟨by (with_reducible repeat (first | refine blk_drewN ?_ _ | refine blk_drew ?_ | refine blk_alloc ?_ _)); refine blk_put (cs := #[.int .i64 t472, .slice Ao22 t473.length co22, .slice none 0 0]) ?_ 2 _ rfl; (with_reducible repeat (first | refine blk_drewN ?_ _ | refine blk_drew ?_ | refine blk_alloc ?_ _)); refine blk_put (cs := #[.int .i64 t472, .slice none 0 0, .slice none 0 0]) ?_ 1 _ rfl; (with_reducible repeat (first | refine blk_drewN ?_ _ | refine blk_drew ?_ | refine blk_alloc ?_ _)); refine blk_put (cs := #[.int .i64 0, .slice none 0 0, .slice none 0 0]) ?_ 0 _ rfl; (with_reducible repeat (first | refine blk_drewN ?_ _ | refine blk_drew ?_ | refine blk_alloc ?_ _)); exact BK480.out⟩, ⟨hbC _⟩⟩
  rw [if_pos c26] at H
  have c26b0 : (t479 == 0) = true := beq_iff_eq.mpr c26
  have c26b1 : (t479 != 0) = false := bne_eq_false_iff_eq.mpr c26
  clear c26
  (first | rw [c26b0] | (simp only [i64_w, i32_w]; rw [c26b0]) | skip)
  replace H := Option.bind_eq_some_iff.mp H
  obtain ⟨t481, A270, H⟩ := H
  replace H : (if t481 = true then ((congouref04_Valid.f k a1_0 l1_1 l1_2).bind fun t482 => (if t482 = true then ((congouref04_Like.f k a0_0 l0_1 l0_2 a1_0 l1_1 l1_2).bind fun t483 => (congoulaw04_CurvesSum.j0 k t479 (!t483) a0_0 l0_1 l0_2 a1_0 l1_1 l1_2 a2_0 a2_1 t472 t473 t476)) else (congoulaw04_CurvesSum.j0 k t479 true a0_0 l0_1 l0_2 a1_0 l1_1 l1_2 a2_0 a2_1 t472 t473 t476))) else (congoulaw04_CurvesSum.j0 k t479 true a0_0 l0_1 l0_2 a1_0 l1_1 l1_2 a2_0 a2_1 t472 t473 t476)) = some r := H
  have A27 := Aside0.mk A270
  clear A270
  by_cases c28 : t481 = true
  rotate_left
  ·replace c28 := Bool.eq_false_iff.mpr c28
   subst c28
   have H1 : (congoulaw04_CurvesSum.j0 k t479 true a0_0 l0_1 l0_2 a1_0 l1_1 l1_2 a2_0 a2_1 t472 t473 t476) = some r := by rw [if_neg (show ¬ (false = true) by decide)] at H; exact H
   clear H
   have H := H1
   clear H1
   have H' := Aside0.mk H
   clear H
   have hnb57 := NB455_456.out
   have hnc57 := NB456_455.out
   have hnb58 := NB455_457.out
   have hnc58 := NB457_455.out
   have hnb59 := NB455_480.out
   have hnc59 := NB480_455.out
   have hcz60_0 : w20.cell? ⟨gb455, 0, none⟩ = some (.int .i64 a0_0) := bc BK455 0
   have hcz60_1 : w20.cell? ⟨gb455, 1, none⟩ = some (.slice A0_1 l0_1.length c0_1) := bc BK455 1
   have hcz60_2 : w20.cell? ⟨gb455, 2, none⟩ = some (.slice A0_2 l0_2.length c0_2) := bc BK455 2
   have hfz60_0 := fz BK455 0
   have hfz60_1 := fz BK455 1
   have hfz60_2 := fz BK455 2
   have hnb61 := NB457_456.out
   have hnc61 := NB456_457.out
   have hnb62 := NB457_480.out
   have hnc62 := NB480_457.out
   have hcz63_0 : w20.cell? ⟨gb457, 0, none⟩ = some (.int .i64 a2_0) := bc BK457 0
   have hcz63_1 : w20.cell? ⟨gb457, 1, none⟩ = some (.int .i64 a2_1) := bc BK457 1
   have hfz63_0 := fz BK457 0
   have hfz63_1 := fz BK457 1
   go_wp2_with (first | (go_at_call 8; (with_reducible refine (congoulaw04_fine.calls k a0_0 _ _ l0_1 _ _ l0_2 a2_0 a2_1 false _ ?side1 ?side2 ?side3 ?side4 A27.out).mono ?_); (case side1 => exact Kd.C_below HR0_1.out (hbC _)); (case side2 => exact HC0_1.out); (case side3 => exact Kd.C_below HR0_2.out (hbC _)); (case side4 => exact HC0_2.out); rintro e w64 ⟨rfl, hb⟩; replace HO461 := ak (Kd.R_below (rD ((Kd.R_mono (Kd.R_far (p := ⟨gb480, 2, none⟩) (Kd.R_far (p := ⟨gb480, 1, none⟩) (Kd.R_far (p := ⟨gb480, 0, none⟩) (Kd.R_types HO461.out BK480.out (by decide)) (fun _ hk => hk.2) (.int .i64 t472)) (fun _ hk => hk.2) (.slice Ao22 t473.length co22)) (fun _ hk => hk.2) (.slice Ao24 t476.length co24)) (fun _ h_ => h_.1)))) hb); replace HO464 := ak (Kd.R_below (rD ((Kd.R_mono (Kd.R_far (p := ⟨gb480, 2, none⟩) (Kd.R_far (p := ⟨gb480, 1, none⟩) (Kd.R_far (p := ⟨gb480, 0, none⟩) (Kd.R_types HO464.out BK480.out (by decide)) (fun _ hk => hk.2) (.int .i64 t472)) (fun _ hk => hk.2) (.slice Ao22 t473.length co22)) (fun _ hk => hk.2) (.slice Ao24 t476.length co24)) (fun _ h_ => h_.1)))) hb); replace HO468 := ak (Kd.R_below (rD ((Kd.R_mono (Kd.R_far (p := ⟨gb480, 2, none⟩) (Kd.R_far (p := ⟨gb480, 1, none⟩) (Kd.R_far (p := ⟨gb480, 0, none⟩) (Kd.R_types HO468.out BK480.out (by decide)) (fun _ hk => hk.2) (.int .i64 t472)) (fun _ hk => hk.2) (.slice Ao22 t473.length co22)) (fun _ hk => hk.2) (.slice Ao24 t476.length co24)) (fun _ h_ => h_.1)))) hb); replace HO471 := ak (Kd.R_below (rD ((Kd.R_mono (Kd.R_far (p := ⟨gb480, 2, none⟩) (Kd.R_far (p := ⟨gb480, 1, none⟩) (Kd.R_far (p := ⟨gb480, 0, none⟩) (Kd.R_types HO471.out BK480.out (by decide)) (fun _ hk => hk.2) (.int .i64 t472)) (fun _ hk => hk.2) (.slice Ao22 t473.length co22)) (fun _ hk => hk.2) (.slice Ao24 t476.length co24)) (fun _ h_ => h_.1)))) hb); replace HO475 := ak (Kd.R_below (rD ((Kd.R_mono (Kd.R_far (p := ⟨gb480, 2, none⟩) (Kd.R_far (p := ⟨gb480, 1, none⟩) (Kd.R_far (p := ⟨gb480, 0, none⟩) (Kd.R_types HO475.out BK480.out (by decide)) (fun _ hk => hk.2) (.int .i64 t472)) (fun _ hk => hk.2) (.slice Ao22 t473.length co22)) (fun _ hk => hk.2) (.slice Ao24 t476.length co24)) (fun _ h_ => h_.1)))) hb); replace HO478 := ak (Kd.R_below (rD ((Kd.R_mono (Kd.R_far (p := ⟨gb480, 2, none⟩) (Kd.R_far (p := ⟨gb480, 1, none⟩) (Kd.R_far (p := ⟨gb480, 0, none⟩) (Kd.R_types HO478.out BK480.out (by decide)) (fun _ hk => hk.2) (.int .i64 t472)) (fun _ hk => hk.2) (.slice Ao22 t473.length co22)) (fun _ hk => hk.2) (.slice Ao24 t476.length co24)) (fun _ h_ => h_.1)))) hb); replace BK455 := ak (blk_below (g := gb455) (o := .cells #[.int .i64 a0_0, .slice A0_1 l0_1.length c0_1, .slice A0_2 l0_2.length c0_2] 24 (0, 0)) (bF BK455) hb); replace BK456 := ak (blk_below (g := gb456) (o := .cells #[.int .i64 a1_0, .slice A1_1 l1_1.length c1_1, .slice A1_2 l1_2.length c1_2] 24 (0, 0)) (bF BK456) hb); replace BK457 := ak (blk_below (g := gb457) (o := .cells #[.int .i64 a2_0, .int .i64 a2_1] 26 (0, 0)) (bF BK457) hb); replace BK480 := ak (blk_below (g := gb480) (o := .cells #[.int .i64 t472, .slice Ao22 t473.length co22, .slice Ao24 t476.length co24] 31 (0, 0)) (by (with_reducible repeat (first | refine blk_drewN ?_ _ | refine blk_drew ?_ | refine blk_alloc ?_ _)); refine blk_put (cs := #[.int .i64 t472, .slice Ao22 t473.length co22, .slice none 0 0]) ?_ 2 _ rfl; (with_reducible repeat (first | refine blk_drewN ?_ _ | refine blk_drew ?_ | refine blk_alloc ?_ _)); refine blk_put (cs := #[.int .i64 t472, .slice none 0 0, .slice none 0 0]) ?_ 1 _ rfl; (with_reducible repeat (first | refine blk_drewN ?_ _ | refine blk_drew ?_ | refine blk_alloc ?_ _)); refine blk_put (cs := #[.int .i64 0, .slice none 0 0, .slice none 0 0]) ?_ 0 _ rfl; (with_reducible repeat (first | refine blk_drewN ?_ _ | refine blk_drew ?_ | refine blk_alloc ?_ _)); exact BK480.out) hb); replace HB := kH _ hb; (try clear hb); (try clear hb2); (try clear hk); (try clear hi)))
   go_meet
   case rel => exact ⟨_, (true), (by first | rfl | (simp; done) | (simp [*]; done)), H', ⟨by first | omega | exact Nat.le_refl _⟩, ⟨rD (Kd.R_mono HO475.out (fun _ hk => hk.2.2.2.2))⟩, ⟨rD (Kd.R_mono HO478.out (fun _ hk => hk.2.2.2.2))⟩, ⟨bkC BK455⟩, ⟨bkC BK456⟩, ⟨bkC BK457⟩, ⟨bkC BK480⟩, ⟨hbC _⟩⟩
  subst c28
  have H1 : ((congouref04_Valid.f k a1_0 l1_1 l1_2).bind fun t482 => (if t482 = true then ((congouref04_Like.f k a0_0 l0_1 l0_2 a1_0 l1_1 l1_2).bind fun t483 => (congoulaw04_CurvesSum.j0 k t479 (!t483) a0_0 l0_1 l0_2 a1_0 l1_1 l1_2 a2_0 a2_1 t472 t473 t476)) else (congoulaw04_CurvesSum.j0 k t479 true a0_0 l0_1 l0_2 a1_0 l1_1 l1_2 a2_0 a2_1 t472 t473 t476))) = some r := by rw [if_pos rfl] at H; exact H
  clear H
  have H := H1
  clear H1
  replace H := Option.bind_eq_some_iff.mp H
  obtain ⟨t482, A290, H⟩ := H
  replace H : (if t482 = true then ((congouref04_Like.f k a0_0 l0_1 l0_2 a1_0 l1_1 l1_2).bind fun t483 => (congoulaw04_CurvesSum.j0 k t479 (!t483) a0_0 l0_1 l0_2 a1_0 l1_1 l1_2 a2_0 a2_1 t472 t473 t476)) else (congoulaw04_CurvesSum.j0 k t479 true a0_0 l0_1 l0_2 a1_0 l1_1 l1_2 a2_0 a2_1 t472 t473 t476)) = some r := H
  have A29 := Aside0.mk A290
  clear A290
  by_cases c30 : t482 = true
  rotate_left
  ·replace c30 := Bool.eq_false_iff.mpr c30
   subst c30
   have H1 : (congoulaw04_CurvesSum.j0 k t479 true a0_0 l0_1 l0_2 a1_0 l1_1 l1_2 a2_0 a2_1 t472 t473 t476) = some r := by rw [if_neg (show ¬ (false = true) by decide)] at H; exact H
   clear H
   have H := H1
   clear H1
   have H' := Aside0.mk H
   clear H
   have hnb46 := NB455_456.out
   have hnc46 := NB456_455.out
   have hnb47 := NB455_457.out
   have hnc47 := NB457_455.out
   have hnb48 := NB455_480.out
   have hnc48 := NB480_455.out
   have hcz49_0 : w20.cell? ⟨gb455, 0, none⟩ = some (.int .i64 a0_0) := bc BK455 0
   have hcz49_1 : w20.cell? ⟨gb455, 1, none⟩ = some (.slice A0_1 l0_1.length c0_1) := bc BK455 1
   have hcz49_2 : w20.cell? ⟨gb455, 2, none⟩ = some (.slice A0_2 l0_2.length c0_2) := bc BK455 2
   have hfz49_0 := fz BK455 0
   have hfz49_1 := fz BK455 1
   have hfz49_2 := fz BK455 2
   have hnb50 := NB457_456.out
   have hnc50 := NB456_457.out
   have hnb51 := NB457_480.out
   have hnc51 := NB480_457.out
   have hcz52_0 : w20.cell? ⟨gb457, 0, none⟩ = some (.int .i64 a2_0) := bc BK457 0
   have hcz52_1 : w20.cell? ⟨gb457, 1, none⟩ = some (.int .i64 a2_1) := bc BK457 1
   have hfz52_0 := fz BK457 0
   have hfz52_1 := fz BK457 1
   go_wp2_with (first | (go_at_call 8; (with_reducible refine (congoulaw04_fine.calls k a0_0 _ _ l0_1 _ _ l0_2 a2_0 a2_1 true _ ?side1 ?side2 ?side3 ?side4 A27.out).mono ?_); (case side1 => exact Kd.C_below HR0_1.out (hbC _)); (case side2 => exact HC0_1.out); (case side3 => exact Kd.C_below HR0_2.out (hbC _)); (case side4 => exact HC0_2.out); rintro e w53 ⟨rfl, hb⟩; replace HO461 := ak (Kd.R_below (rD ((Kd.R_mono (Kd.R_far (p := ⟨gb480, 2, none⟩) (Kd.R_far (p := ⟨gb480, 1, none⟩) (Kd.R_far (p := ⟨gb480, 0, none⟩) (Kd.R_types HO461.out BK480.out (by decide)) (fun _ hk => hk.2) (.int .i64 t472)) (fun _ hk => hk.2) (.slice Ao22 t473.length co22)) (fun _ hk => hk.2) (.slice Ao24 t476.length co24)) (fun _ h_ => h_.1)))) hb); replace HO464 := ak (Kd.R_below (rD ((Kd.R_mono (Kd.R_far (p := ⟨gb480, 2, none⟩) (Kd.R_far (p := ⟨gb480, 1, none⟩) (Kd.R_far (p := ⟨gb480, 0, none⟩) (Kd.R_types HO464.out BK480.out (by decide)) (fun _ hk => hk.2) (.int .i64 t472)) (fun _ hk => hk.2) (.slice Ao22 t473.length co22)) (fun _ hk => hk.2) (.slice Ao24 t476.length co24)) (fun _ h_ => h_.1)))) hb); replace HO468 := ak (Kd.R_below (rD ((Kd.R_mono (Kd.R_far (p := ⟨gb480, 2, none⟩) (Kd.R_far (p := ⟨gb480, 1, none⟩) (Kd.R_far (p := ⟨gb480, 0, none⟩) (Kd.R_types HO468.out BK480.out (by decide)) (fun _ hk => hk.2) (.int .i64 t472)) (fun _ hk => hk.2) (.slice Ao22 t473.length co22)) (fun _ hk => hk.2) (.slice Ao24 t476.length co24)) (fun _ h_ => h_.1)))) hb); replace HO471 := ak (Kd.R_below (rD ((Kd.R_mono (Kd.R_far (p := ⟨gb480, 2, none⟩) (Kd.R_far (p := ⟨gb480, 1, none⟩) (Kd.R_far (p := ⟨gb480, 0, none⟩) (Kd.R_types HO471.out BK480.out (by decide)) (fun _ hk => hk.2) (.int .i64 t472)) (fun _ hk => hk.2) (.slice Ao22 t473.length co22)) (fun _ hk => hk.2) (.slice Ao24 t476.length co24)) (fun _ h_ => h_.1)))) hb); replace HO475 := ak (Kd.R_below (rD ((Kd.R_mono (Kd.R_far (p := ⟨gb480, 2, none⟩) (Kd.R_far (p := ⟨gb480, 1, none⟩) (Kd.R_far (p := ⟨gb480, 0, none⟩) (Kd.R_types HO475.out BK480.out (by decide)) (fun _ hk => hk.2) (.int .i64 t472)) (fun _ hk => hk.2) (.slice Ao22 t473.length co22)) (fun _ hk => hk.2) (.slice Ao24 t476.length co24)) (fun _ h_ => h_.1)))) hb); replace HO478 := ak (Kd.R_below (rD ((Kd.R_mono (Kd.R_far (p := ⟨gb480, 2, none⟩) (Kd.R_far (p := ⟨gb480, 1, none⟩) (Kd.R_far (p := ⟨gb480, 0, none⟩) (Kd.R_types HO478.out BK480.out (by decide)) (fun _ hk => hk.2) (.int .i64 t472)) (fun _ hk => hk.2) (.slice Ao22 t473.length co22)) (fun _ hk => hk.2) (.slice Ao24 t476.length co24)) (fun _ h_ => h_.1)))) hb); replace BK455 := ak (blk_below (g := gb455) (o := .cells #[.int .i64 a0_0, .slice A0_1 l0_1.length c0_1, .slice A0_2 l0_2.length c0_2] 24 (0, 0)) (bF BK455) hb); replace BK456 := ak (blk_below (g := gb456) (o := .cells #[.int .i64 a1_0, .slice A1_1 l1_1.length c1_1, .slice A1_2 l1_2.length c1_2] 24 (0, 0)) (bF BK456) hb); replace BK457 := ak (blk_below (g := gb457) (o := .cells #[.int .i64 a2_0, .int .i64 a2_1] 26 (0, 0)) (bF BK457) hb); replace BK480 := ak (blk_below (g := gb480) (o := .cells #[.int .i64 t472, .slice Ao22 t473.length co22, .slice Ao24 t476.length co24] 31 (0, 0)) (by (with_reducible repeat (first | refine blk_drewN ?_ _ | refine blk_drew ?_ | refine blk_alloc ?_ _)); refine blk_put (cs := #[.int .i64 t472, .slice Ao22 t473.length co22, .slice none 0 0]) ?_ 2 _ rfl; (with_reducible repeat (first | refine blk_drewN ?_ _ | refine blk_drew ?_ | refine blk_alloc ?_ _)); refine blk_put (cs := #[.int .i64 t472, .slice none 0 0, .slice none 0 0]) ?_ 1 _ rfl; (with_reducible repeat (first | refine blk_drewN ?_ _ | refine blk_drew ?_ | refine blk_alloc ?_ _)); refine blk_put (cs := #[.int .i64 0, .slice none 0 0, .slice none 0 0]) ?_ 0 _ rfl; (with_reducible repeat (first | refine blk_drewN ?_ _ | refine blk_drew ?_ | refine blk_alloc ?_ _)); exact BK480.out) hb); replace HB := kH _ hb; (try clear hb); (try clear hb2); (try clear hk); (try clear hi); have hnb54 := NB456_480.out; have hnc54 := NB480_456.out; have hcz55_0 : w53.cell? ⟨gb456, 0, none⟩ = some (.int .i64 a1_0) := bc BK456 0; have hcz55_1 : w53.cell? ⟨gb456, 1, none⟩ = some (.slice A1_1 l1_1.length c1_1) := bc BK456 1; have hcz55_2 : w53.cell? ⟨gb456, 2, none⟩ = some (.slice A1_2 l1_2.length c1_2) := bc BK456 2; have hfz55_0 := fz BK456 0; have hfz55_1 := fz BK456 1; have hfz55_2 := fz BK456 2) | (go_at_call 12; (with_reducible refine (congouref04_Valid.calls k a1_0 _ _ l1_1 _ _ l1_2 false _ ?side1 ?side2 ?side3 ?side4 A29.out).mono ?_); (case side1 => exact kC HR1_1); (case side2 => exact HC1_1.out); (case side3 => exact kC HR1_2); (case side4 => exact HC1_2.out); rintro e w56 ⟨rfl, hb⟩; replace HO461 := kO HO461 hb; replace HO464 := kO HO464 hb; replace HO468 := kO HO468 hb; replace HO471 := kO HO471 hb; replace HO475 := kO HO475 hb; replace HO478 := kO HO478 hb; replace BK455 := kB BK455 hb; replace BK456 := kB BK456 hb; replace BK457 := kB BK457 hb; replace BK480 := kB BK480 hb; replace HB := kH _ hb; (try clear hb); (try clear hb2); (try clear hk); (try clear hi)))
   go_meet
   case rel => exact ⟨_, (true), (by first | rfl | (simp; done) | (simp [*]; done)), H', ⟨by first | omega | exact Nat.le_refl _⟩, ⟨rD (Kd.R_mono HO475.out (fun _ hk => hk.2.2.2.2))⟩, ⟨rD (Kd.R_mono HO478.out (fun _ hk => hk.2.2.2.2))⟩, ⟨bkC BK455⟩, ⟨bkC BK456⟩, ⟨bkC BK457⟩, ⟨bkC BK480⟩, ⟨hbC _⟩⟩
  subst c30
  have H1 : ((congouref04_Like.f k a0_0 l0_1 l0_2 a1_0 l1_1 l1_2).bind fun t483 => (congoulaw04_CurvesSum.j0 k t479 (!t483) a0_0 l0_1 l0_2 a1_0 l1_1 l1_2 a2_0 a2_1 t472 t473 t476)) = some r := by rw [if_pos rfl] at H; exact H
  clear H
  have H := H1
  clear H1
  replace H := Option.bind_eq_some_iff.mp H
  obtain ⟨t483, A310, H⟩ := H
  replace H : (congoulaw04_CurvesSum.j0 k t479 (!t483) a0_0 l0_1 l0_2 a1_0 l1_1 l1_2 a2_0 a2_1 t472 t473 t476) = some r := H
  have A31 := Aside0.mk A310
  clear A310
  have H' := Aside0.mk H
  clear H
  have hnb32 := NB455_456.out
  have hnc32 := NB456_455.out
  have hnb33 := NB455_457.out
  have hnc33 := NB457_455.out
  have hnb34 := NB455_480.out
  have hnc34 := NB480_455.out
  have hcz35_0 : w20.cell? ⟨gb455, 0, none⟩ = some (.int .i64 a0_0) := bc BK455 0
  have hcz35_1 : w20.cell? ⟨gb455, 1, none⟩ = some (.slice A0_1 l0_1.length c0_1) := bc BK455 1
  have hcz35_2 : w20.cell? ⟨gb455, 2, none⟩ = some (.slice A0_2 l0_2.length c0_2) := bc BK455 2
  have hfz35_0 := fz BK455 0
  have hfz35_1 := fz BK455 1
  have hfz35_2 := fz BK455 2
  have hnb36 := NB457_456.out
  have hnc36 := NB456_457.out
  have hnb37 := NB457_480.out
  have hnc37 := NB480_457.out
  have hcz38_0 : w20.cell? ⟨gb457, 0, none⟩ = some (.int .i64 a2_0) := bc BK457 0
  have hcz38_1 : w20.cell? ⟨gb457, 1, none⟩ = some (.int .i64 a2_1) := bc BK457 1
  have hfz38_0 := fz BK457 0
  have hfz38_1 := fz BK457 1
  go_wp2_with (first | (go_at_call 8; (with_reducible refine (congoulaw04_fine.calls k a0_0 _ _ l0_1 _ _ l0_2 a2_0 a2_1 true _ ?side1 ?side2 ?side3 ?side4 A27.out).mono ?_); (case side1 => exact Kd.C_below HR0_1.out (hbC _)); (case side2 => exact HC0_1.out); (case side3 => exact Kd.C_below HR0_2.out (hbC _)); (case side4 => exact HC0_2.out); rintro e w39 ⟨rfl, hb⟩; replace HO461 := ak (Kd.R_below (rD ((Kd.R_mono (Kd.R_far (p := ⟨gb480, 2, none⟩) (Kd.R_far (p := ⟨gb480, 1, none⟩) (Kd.R_far (p := ⟨gb480, 0, none⟩) (Kd.R_types HO461.out BK480.out (by decide)) (fun _ hk => hk.2) (.int .i64 t472)) (fun _ hk => hk.2) (.slice Ao22 t473.length co22)) (fun _ hk => hk.2) (.slice Ao24 t476.length co24)) (fun _ h_ => h_.1)))) hb); replace HO464 := ak (Kd.R_below (rD ((Kd.R_mono (Kd.R_far (p := ⟨gb480, 2, none⟩) (Kd.R_far (p := ⟨gb480, 1, none⟩) (Kd.R_far (p := ⟨gb480, 0, none⟩) (Kd.R_types HO464.out BK480.out (by decide)) (fun _ hk => hk.2) (.int .i64 t472)) (fun _ hk => hk.2) (.slice Ao22 t473.length co22)) (fun _ hk => hk.2) (.slice Ao24 t476.length co24)) (fun _ h_ => h_.1)))) hb); replace HO468 := ak (Kd.R_below (rD ((Kd.R_mono (Kd.R_far (p := ⟨gb480, 2, none⟩) (Kd.R_far (p := ⟨gb480, 1, none⟩) (Kd.R_far (p := ⟨gb480, 0, none⟩) (Kd.R_types HO468.out BK480.out (by decide)) (fun _ hk => hk.2) (.int .i64 t472)) (fun _ hk => hk.2) (.slice Ao22 t473.length co22)) (fun _ hk => hk.2) (.slice Ao24 t476.length co24)) (fun _ h_ => h_.1)))) hb); replace HO471 := ak (Kd.R_below (rD ((Kd.R_mono (Kd.R_far (p := ⟨gb480, 2, none⟩) (Kd.R_far (p := ⟨gb480, 1, none⟩) (Kd.R_far (p := ⟨gb480, 0, none⟩) (Kd.R_types HO471.out BK480.out (by decide)) (fun _ hk => hk.2) (.int .i64 t472)) (fun _ hk => hk.2) (.slice Ao22 t473.length co22)) (fun _ hk => hk.2) (.slice Ao24 t476.length co24)) (fun _ h_ => h_.1)))) hb); replace HO475 := ak (Kd.R_below (rD ((Kd.R_mono (Kd.R_far (p := ⟨gb480, 2, none⟩) (Kd.R_far (p := ⟨gb480, 1, none⟩) (Kd.R_far (p := ⟨gb480, 0, none⟩) (Kd.R_types HO475.out BK480.out (by decide)) (fun _ hk => hk.2) (.int .i64 t472)) (fun _ hk => hk.2) (.slice Ao22 t473.length co22)) (fun _ hk => hk.2) (.slice Ao24 t476.length co24)) (fun _ h_ => h_.1)))) hb); replace HO478 := ak (Kd.R_below (rD ((Kd.R_mono (Kd.R_far (p := ⟨gb480, 2, none⟩) (Kd.R_far (p := ⟨gb480, 1, none⟩) (Kd.R_far (p := ⟨gb480, 0, none⟩) (Kd.R_types HO478.out BK480.out (by decide)) (fun _ hk => hk.2) (.int .i64 t472)) (fun _ hk => hk.2) (.slice Ao22 t473.length co22)) (fun _ hk => hk.2) (.slice Ao24 t476.length co24)) (fun _ h_ => h_.1)))) hb); replace BK455 := ak (blk_below (g := gb455) (o := .cells #[.int .i64 a0_0, .slice A0_1 l0_1.length c0_1, .slice A0_2 l0_2.length c0_2] 24 (0, 0)) (bF BK455) hb); replace BK456 := ak (blk_below (g := gb456) (o := .cells #[.int .i64 a1_0, .slice A1_1 l1_1.length c1_1, .slice A1_2 l1_2.length c1_2] 24 (0, 0)) (bF BK456) hb); replace BK457 := ak (blk_below (g := gb457) (o := .cells #[.int .i64 a2_0, .int .i64 a2_1] 26 (0, 0)) (bF BK457) hb); replace BK480 := ak (blk_below (g := gb480) (o := .cells #[.int .i64 t472, .slice Ao22 t473.length co22, .slice Ao24 t476.length co24] 31 (0, 0)) (by (with_reducible repeat (first | refine blk_drewN ?_ _ | refine blk_drew ?_ | refine blk_alloc ?_ _)); refine blk_put (cs := #[.int .i64 t472, .slice Ao22 t473.length co22, .slice none 0 0]) ?_ 2 _ rfl; (with_reducible repeat (first | refine blk_drewN ?_ _ | refine blk_drew ?_ | refine blk_alloc ?_ _)); refine blk_put (cs := #[.int .i64 t472, .slice none 0 0, .slice none 0 0]) ?_ 1 _ rfl; (with_reducible repeat (first | refine blk_drewN ?_ _ | refine blk_drew ?_ | refine blk_alloc ?_ _)); refine blk_put (cs := #[.int .i64 0, .slice none 0 0, .slice none 0 0]) ?_ 0 _ rfl; (with_reducible repeat (first | refine blk_drewN ?_ _ | refine blk_drew ?_ | refine blk_alloc ?_ _)); exact BK480.out) hb); replace HB := kH _ hb; (try clear hb); (try clear hb2); (try clear hk); (try clear hi); have hnb40 := NB456_480.out; have hnc40 := NB480_456.out; have hcz41_0 : w39.cell? ⟨gb456, 0, none⟩ = some (.int .i64 a1_0) := bc BK456 0; have hcz41_1 : w39.cell? ⟨gb456, 1, none⟩ = some (.slice A1_1 l1_1.length c1_1) := bc BK456 1; have hcz41_2 : w39.cell? ⟨gb456, 2, none⟩ = some (.slice A1_2 l1_2.length c1_2) := bc BK456 2; have hfz41_0 := fz BK456 0; have hfz41_1 := fz BK456 1; have hfz41_2 := fz BK456 2) | (go_at_call 12; (with_reducible refine (congouref04_Valid.calls k a1_0 _ _ l1_1 _ _ l1_2 true _ ?side1 ?side2 ?side3 ?side4 A29.out).mono ?_); (case side1 => exact kC HR1_1); (case side2 => exact HC1_1.out); (case side3 => exact kC HR1_2); (case side4 => exact HC1_2.out); rintro e w42 ⟨rfl, hb⟩; replace HO461 := kO HO461 hb; replace HO464 := kO HO464 hb; replace HO468 := kO HO468 hb; replace HO471 := kO HO471 hb; replace HO475 := kO HO475 hb; replace HO478 := kO HO478 hb; replace BK455 := kB BK455 hb; replace BK456 := kB BK456 hb; replace BK457 := kB BK457 hb; replace BK480 := kB BK480 hb; replace HB := kH _ hb; (try clear hb); (try clear hb2); (try clear hk); (try clear hi); have hcz43_0 : w42.cell? ⟨gb455, 0, none⟩ = some (.int .i64 a0_0) := bc BK455 0; have hcz43_1 : w42.cell? ⟨gb455, 1, none⟩ = some (.slice A0_1 l0_1.length c0_1) := bc BK455 1; have hcz43_2 : w42.cell? ⟨gb455, 2, none⟩ = some (.slice A0_2 l0_2.length c0_2) := bc BK455 2; have hfz43_0 := fz BK455 0; have hfz43_1 := fz BK455 1; have hfz43_2 := fz BK455 2; have hcz44_0 : w42.cell? ⟨gb456, 0, none⟩ = some (.int .i64 a1_0) := bc BK456 0; have hcz44_1 : w42.cell? ⟨gb456, 1, none⟩ = some (.slice A1_1 l1_1.length c1_1) := bc BK456 1; have hcz44_2 : w42.cell? ⟨gb456, 2, none⟩ = some (.slice A1_2 l1_2.length c1_2) := bc BK456 2; have hfz44_0 := fz BK456 0; have hfz44_1 := fz BK456 1; have hfz44_2 := fz BK456 2) | (go_at_call 16; (with_reducible refine (congouref04_Like.calls k a0_0 _ _ l0_1 _ _ l0_2 a1_0 _ _ l1_1 _ _ l1_2 t483 _ ?side1 ?side2 ?side3 ?side4 ?side5 ?side6 ?side7 ?side8 A31.out).mono ?_); (case side1 => exact kC HR0_1); (case side2 => exact HC0_1.out); (case side3 => exact kC HR0_2); (case side4 => exact HC0_2.out); (case side5 => exact kC HR1_1); (case side6 => exact HC1_1.out); (case side7 => exact kC HR1_2); (case side8 => exact HC1_2.out); rintro e w45 ⟨rfl, hb⟩; replace HO461 := kO HO461 hb; replace HO464 := kO HO464 hb; replace HO468 := kO HO468 hb; replace HO471 := kO HO471 hb; replace HO475 := kO HO475 hb; replace HO478 := kO HO478 hb; replace BK455 := kB BK455 hb; replace BK456 := kB BK456 hb; replace BK457 := kB BK457 hb; replace BK480 := kB BK480 hb; replace HB := kH _ hb; (try clear hb); (try clear hb2); (try clear hk); (try clear hi)))
  go_meet
  case rel => exact ⟨_, (!t483), (by first | rfl | (simp; done) | (simp [*]; done)), H', ⟨by first | omega | exact Nat.le_refl _⟩, ⟨rD (Kd.R_mono HO475.out (fun _ hk => hk.2.2.2.2))⟩, ⟨rD (Kd.R_mono HO478.out (fun _ hk => hk.2.2.2.2))⟩, ⟨bkC BK455⟩, ⟨bkC BK456⟩, ⟨bkC BK457⟩, ⟨bkC BK480⟩, ⟨hbC _⟩⟩
 case rest =>
  clear HC7
  try clear c1
  try clear c2
  try clear p2
  try clear c3
  try clear c4
  try clear c5
  try clear c6
  try clear c7
  try clear c15
  try clear c26
  try clear c26b0
  try clear c26b1
  try clear c28
  try clear c30
  try clear c32
  try clear c33
  try clear c34
  try clear c36
  try clear c37
  try clear c40
  try clear c46
  try clear c47
  try clear c48
  try clear c50
  try clear c51
  try clear c54
  try clear c57
  try clear c58
  try clear c59
  try clear c61
  try clear c62
  try clear hcz35_0
  try clear hcz35_1
  try clear hcz35_2
  try clear hcz38_0
  try clear hcz38_1
  try clear hcz41_0
  try clear hcz41_1
  try clear hcz41_2
  try clear hcz43_0
  try clear hcz43_1
  try clear hcz43_2
  try clear hcz44_0
  try clear hcz44_1
  try clear hcz44_2
  try clear hcz49_0
  try clear hcz49_1
  try clear hcz49_2
  try clear hcz52_0
  try clear hcz52_1
  try clear hcz55_0
  try clear hcz55_1
  try clear hcz55_2
  try clear hcz60_0
  try clear hcz60_1
  try clear hcz60_2
  try clear hcz63_0
  try clear hcz63_1
  try clear hfz35_0
  try clear hfz35_1
  try clear hfz35_2
  try clear hfz38_0
  try clear hfz38_1
  try clear hfz41_0
  try clear hfz41_1
  try clear hfz41_2
  try clear hfz43_0
  try clear hfz43_1
  try clear hfz43_2
  try clear hfz44_0
  try clear hfz44_1
  try clear hfz44_2
  try clear hfz49_0
  try clear hfz49_1
  try clear hfz49_2
  try clear hfz52_0
  try clear hfz52_1
  try clear hfz55_0
  try clear hfz55_1
  try clear hfz55_2
  try clear hfz60_0
  try clear hfz60_1
  try clear hfz60_2
  try clear hfz63_0
  try clear hfz63_1
  obtain ⟨kq, x43_6, rfl, HA, HJ6, HO_481001, HO_481002, BK455, BK456, BK457, BK480, HB⟩ := hcut
  cases kq with
  | zero => exact absurd HA.out (by simp [congoulaw04_CurvesSum.j0])
  | succ kj6 =>
   have H := HA.out
   clear HA
   simp only [congoulaw04_CurvesSum.j0] at H
   by_cases c65 : x43_6 = true
   ·subst c65
    have H1 : (if t479 = 2 then ((congoulaw04_awake.f kj6).bind fun t484 => (some t484)) else (if t479 = 4 then ((congoulaw04_awake.f kj6).bind fun t485 => (some t485)) else (if t479 = 0 then ((congouref04_Valid.f kj6 a0_0 l0_1 l0_2).bind fun t486 => (if t486 = true then ((congouref04_In.f kj6 a0_0 l0_1 l0_2 a2_0 a2_1).bind fun t487 => (if t487 = true then (some false) else ((congoulaw04_awake.f kj6).bind fun t488 => (some t488)))) else (some false))) else (some false)))) = some r := by rw [if_pos rfl] at H; exact H
    clear H
    have H := H1
    clear H1
    by_cases c66 : t479 = 2
    ·rw [if_pos c66] at H
     have c66b0 : (t479 == 2) = true := beq_iff_eq.mpr c66
     have c66b1 : (t479 != 2) = false := bne_eq_false_iff_eq.mpr c66
     clear c66
     replace H := Option.bind_eq_some_iff.mp H
     obtain ⟨t484, A670, H⟩ := H
     replace H : (some t484) = some r := H
     have A67 := Aside0.mk A670
     clear A670
     obtain rfl := Option.some.inj H
     go_wp2_with (first | (go_at_call 9; (with_reducible refine (congoulaw04_awake.calls kj6  t484 _ A67.out).mono ?_); rintro e w68 ⟨rfl, hb⟩; replace HO_481001 := kO HO_481001 hb; replace HO_481002 := kO HO_481002 hb; replace BK455 := kB BK455 hb; replace BK456 := kB BK456 hb; replace BK457 := kB BK457 hb; replace BK480 := kB BK480 hb; replace HB := kH _ hb; (try clear hb); (try clear hb2); (try clear hk); (try clear hi)))
     go_ret
     exact ⟨by first | rfl | (simp [errW_none, errW_some] <;> rfl) | (simp [*, errW_none, errW_some] <;> rfl), hbC _⟩
    rw [if_neg c66] at H
    have c66b0 : (t479 == 2) = false := beq_eq_false_iff_ne.mpr c66
    have c66b1 : (t479 != 2) = true := bne_iff_ne.mpr c66
    by_cases c69 : t479 = 4
    ·rw [if_pos c69] at H
     have c69b0 : (t479 == 4) = true := beq_iff_eq.mpr c69
     have c69b1 : (t479 != 4) = false := bne_eq_false_iff_eq.mpr c69
     clear c69
     replace H := Option.bind_eq_some_iff.mp H
     obtain ⟨t485, A700, H⟩ := H
     replace H : (some t485) = some r := H
     have A70 := Aside0.mk A700
     clear A700
     obtain rfl := Option.some.inj H
     go_wp2_with (first | (go_at_call 9; (with_reducible refine (congoulaw04_awake.calls kj6  t485 _ A70.out).mono ?_); rintro e w71 ⟨rfl, hb⟩; replace HO_481001 := kO HO_481001 hb; replace HO_481002 := kO HO_481002 hb; replace BK455 := kB BK455 hb; replace BK456 := kB BK456 hb; replace BK457 := kB BK457 hb; replace BK480 := kB BK480 hb; replace HB := kH _ hb; (try clear hb); (try clear hb2); (try clear hk); (try clear hi)))
     go_ret
     exact ⟨by first | rfl | (simp [errW_none, errW_some] <;> rfl) | (simp [*, errW_none, errW_some] <;> rfl), hbC _⟩
    rw [if_neg c69] at H
    have c69b0 : (t479 == 4) = false := beq_eq_false_iff_ne.mpr c69
    have c69b1 : (t479 != 4) = true := bne_iff_ne.mpr c69
    by_cases c72 : t479 = 0
    rotate_left
    ·rw [if_neg c72] at H
     have c72b0 : (t479 == 0) = false := beq_eq_false_iff_ne.mpr c72
     have c72b1 : (t479 != 0) = true := bne_iff_ne.mpr c72
     exact absurd (H.trans (congrArg some HRT.out)) (by simp)
    rw [if_pos c72] at H
    have c72b0 : (t479 == 0) = true := beq_iff_eq.mpr c72
    have c72b1 : (t479 != 0) = false := bne_eq_false_iff_eq.mpr c72
    clear c72
    replace H := Option.bind_eq_some_iff.mp H
    obtain ⟨t486, A730, H⟩ := H
    replace H : (if t486 = true then ((congouref04_In.f kj6 a0_0 l0_1 l0_2 a2_0 a2_1).bind fun t487 => (if t487 = true then (some false) else ((congoulaw04_awake.f kj6).bind fun t488 => (some t488)))) else (some false)) = some r := H
    have A73 := Aside0.mk A730
    clear A730
    by_cases c74 : t486 = true
    rotate_left
    ·replace c74 := Bool.eq_false_iff.mpr c74
     subst c74
     have H1 : (some false) = some r := by rw [if_neg (show ¬ (false = true) by decide)] at H; exact H
     clear H
     have H := H1
     clear H1
     exact absurd (H.trans (congrArg some HRT.out)) (by simp)
    subst c74
    have H1 : ((congouref04_In.f kj6 a0_0 l0_1 l0_2 a2_0 a2_1).bind fun t487 => (if t487 = true then (some false) else ((congoulaw04_awake.f kj6).bind fun t488 => (some t488)))) = some r := by rw [if_pos rfl] at H; exact H
    clear H
    have H := H1
    clear H1
    replace H := Option.bind_eq_some_iff.mp H
    obtain ⟨t487, A750, H⟩ := H
    replace H : (if t487 = true then (some false) else ((congoulaw04_awake.f kj6).bind fun t488 => (some t488))) = some r := H
    have A75 := Aside0.mk A750
    clear A750
    by_cases c76 : t487 = true
    ·subst c76
     have H1 : (some false) = some r := by rw [if_pos rfl] at H; exact H
     clear H
     have H := H1
     clear H1
     exact absurd (H.trans (congrArg some HRT.out)) (by simp)
    replace c76 := Bool.eq_false_iff.mpr c76
    subst c76
    have H1 : ((congoulaw04_awake.f kj6).bind fun t488 => (some t488)) = some r := by rw [if_neg (show ¬ (false = true) by decide)] at H; exact H
    clear H
    have H := H1
    clear H1
    replace H := Option.bind_eq_some_iff.mp H
    obtain ⟨t488, A770, H⟩ := H
    replace H : (some t488) = some r := H
    have A77 := Aside0.mk A770
    clear A770
    obtain rfl := Option.some.inj H
    have hnb78 := NB455_456.out
    have hnc78 := NB456_455.out
    have hnb79 := NB455_457.out
    have hnc79 := NB457_455.out
    have hnb80 := NB455_480.out
    have hnc80 := NB480_455.out
    have hcz81_0 : wc.cell? ⟨gb455, 0, none⟩ = some (.int .i64 a0_0) := bc BK455 0
    have hcz81_1 : wc.cell? ⟨gb455, 1, none⟩ = some (.slice A0_1 l0_1.length c0_1) := bc BK455 1
    have hcz81_2 : wc.cell? ⟨gb455, 2, none⟩ = some (.slice A0_2 l0_2.length c0_2) := bc BK455 2
    have hfz81_0 := fz BK455 0
    have hfz81_1 := fz BK455 1
    have hfz81_2 := fz BK455 2
    go_wp2_with (first | (go_at_call 12; (with_reducible refine (congouref04_Valid.calls kj6 a0_0 _ _ l0_1 _ _ l0_2 true _ ?side1 ?side2 ?side3 ?side4 A73.out).mono ?_); (case side1 => exact kC HR0_1); (case side2 => exact HC0_1.out); (case side3 => exact kC HR0_2); (case side4 => exact HC0_2.out); rintro e w82 ⟨rfl, hb⟩; replace HO_481001 := kO HO_481001 hb; replace HO_481002 := kO HO_481002 hb; replace BK455 := kB BK455 hb; replace BK456 := kB BK456 hb; replace BK457 := kB BK457 hb; replace BK480 := kB BK480 hb; replace HB := kH _ hb; (try clear hb); (try clear hb2); (try clear hk); (try clear hi); have hcz83_0 : w82.cell? ⟨gb455, 0, none⟩ = some (.int .i64 a0_0) := bc BK455 0; have hcz83_1 : w82.cell? ⟨gb455, 1, none⟩ = some (.slice A0_1 l0_1.length c0_1) := bc BK455 1; have hcz83_2 : w82.cell? ⟨gb455, 2, none⟩ = some (.slice A0_2 l0_2.length c0_2) := bc BK455 2; have hfz83_0 := fz BK455 0; have hfz83_1 := fz BK455 1; have hfz83_2 := fz BK455 2; have hnb84 := NB457_456.out; have hnc84 := NB456_457.out; have hnb85 := NB457_480.out; have hnc85 := NB480_457.out; have hcz86_0 : w82.cell? ⟨gb457, 0, none⟩ = some (.int .i64 a2_0) := bc BK457 0; have hcz86_1 : w82.cell? ⟨gb457, 1, none⟩ = some (.int .i64 a2_1) := bc BK457 1; have hfz86_0 := fz BK457 0; have hfz86_1 := fz BK457 1) | (go_at_call 13; (with_reducible refine (congouref04_In.calls kj6 a0_0 _ _ l0_1 _ _ l0_2 a2_0 a2_1 false _ ?side1 ?side2 ?side3 ?side4 A75.out).mono ?_); (case side1 => exact kC HR0_1); (case side2 => exact HC0_1.out); (case side3 => exact kC HR0_2); (case side4 => exact HC0_2.out); rintro e w87 ⟨rfl, hb⟩; replace HO_481001 := kO HO_481001 hb; replace HO_481002 := kO HO_481002 hb; replace BK455 := kB BK455 hb; replace BK456 := kB BK456 hb; replace BK457 := kB BK457 hb; replace BK480 := kB BK480 hb; replace HB := kH _ hb; (try clear hb); (try clear hb2); (try clear hk); (try clear hi)) | (go_at_call 9; (with_reducible refine (congoulaw04_awake.calls kj6  t488 _ A77.out).mono ?_); rintro e w88 ⟨rfl, hb⟩; replace HO_481001 := kO HO_481001 hb; replace HO_481002 := kO HO_481002 hb; replace BK455 := kB BK455 hb; replace BK456 := kB BK456 hb; replace BK457 := kB BK457 hb; replace BK480 := kB BK480 hb; replace HB := kH _ hb; (try clear hb); (try clear hb2); (try clear hk); (try clear hi)))
    go_ret
    exact ⟨by first | rfl | (simp [errW_none, errW_some] <;> rfl) | (simp [*, errW_none, errW_some] <;> rfl), hbC _⟩
   replace c65 := Bool.eq_false_iff.mpr c65
   subst c65
   have H1 : ((congoulaw04_Of.f a0_0 l0_1 l0_2).bind fun bt489 => ((curves_Value.f kj6 bt489.1 bt489.2.1 bt489.2.2 a2_0 a2_1).bind fun bt496 => ((congoulaw04_Of.f a1_0 l1_1 l1_2).bind fun bt500 => ((curves_Value.f kj6 bt500.1 bt500.2.1 bt500.2.2 a2_0 a2_1).bind fun bt507 => ((curves_Value.f kj6 t472 t473 t476 a2_0 a2_1).bind fun bt511 => (if bt496.2.2 = 0 then (if bt507.2.2 = 0 then (congoulaw04_CurvesSum.j1 kj6 (bt511.2.2 != 0) bt496.1 bt496.2.1 bt507.1 bt507.2.1 bt511.1 bt511.2.1) else (congoulaw04_CurvesSum.j1 kj6 true bt496.1 bt496.2.1 bt507.1 bt507.2.1 bt511.1 bt511.2.1)) else (congoulaw04_CurvesSum.j1 kj6 true bt496.1 bt496.2.1 bt507.1 bt507.2.1 bt511.1 bt511.2.1))))))) = some r := by rw [if_neg (show ¬ (false = true) by decide)] at H; exact H
   clear H
   have H := H1
   clear H1
   replace H := Option.bind_eq_some_iff.mp H
   obtain ⟨⟨t489, t490, t493⟩, A890, H⟩ := H
   replace H : ((curves_Value.f kj6 t489 t490 t493 a2_0 a2_1).bind fun bt496 => ((congoulaw04_Of.f a1_0 l1_1 l1_2).bind fun bt500 => ((curves_Value.f kj6 bt500.1 bt500.2.1 bt500.2.2 a2_0 a2_1).bind fun bt507 => ((curves_Value.f kj6 t472 t473 t476 a2_0 a2_1).bind fun bt511 => (if bt496.2.2 = 0 then (if bt507.2.2 = 0 then (congoulaw04_CurvesSum.j1 kj6 (bt511.2.2 != 0) bt496.1 bt496.2.1 bt507.1 bt507.2.1 bt511.1 bt511.2.1) else (congoulaw04_CurvesSum.j1 kj6 true bt496.1 bt496.2.1 bt507.1 bt507.2.1 bt511.1 bt511.2.1)) else (congoulaw04_CurvesSum.j1 kj6 true bt496.1 bt496.2.1 bt507.1 bt507.2.1 bt511.1 bt511.2.1)))))) = some r := H
   have A89 := Aside0.mk A890
   clear A890
   replace H := Option.bind_eq_some_iff.mp H
   obtain ⟨⟨t496, t497, t498⟩, A900, H⟩ := H
   replace H : ((congoulaw04_Of.f a1_0 l1_1 l1_2).bind fun bt500 => ((curves_Value.f kj6 bt500.1 bt500.2.1 bt500.2.2 a2_0 a2_1).bind fun bt507 => ((curves_Value.f kj6 t472 t473 t476 a2_0 a2_1).bind fun bt511 => (if t498 = 0 then (if bt507.2.2 = 0 then (congoulaw04_CurvesSum.j1 kj6 (bt511.2.2 != 0) t496 t497 bt507.1 bt507.2.1 bt511.1 bt511.2.1) else (congoulaw04_CurvesSum.j1 kj6 true t496 t497 bt507.1 bt507.2.1 bt511.1 bt511.2.1)) else (congoulaw04_CurvesSum.j1 kj6 true t496 t497 bt507.1 bt507.2.1 bt511.1 bt511.2.1))))) = some r := H
   have A90 := Aside0.mk A900
   clear A900
   replace H := Option.bind_eq_some_iff.mp H
   obtain ⟨⟨t500, t501, t504⟩, A910, H⟩ := H
   replace H : ((curves_Value.f kj6 t500 t501 t504 a2_0 a2_1).bind fun bt507 => ((curves_Value.f kj6 t472 t473 t476 a2_0 a2_1).bind fun bt511 => (if t498 = 0 then (if bt507.2.2 = 0 then (congoulaw04_CurvesSum.j1 kj6 (bt511.2.2 != 0) t496 t497 bt507.1 bt507.2.1 bt511.1 bt511.2.1) else (congoulaw04_CurvesSum.j1 kj6 true t496 t497 bt507.1 bt507.2.1 bt511.1 bt511.2.1)) else (congoulaw04_CurvesSum.j1 kj6 true t496 t497 bt507.1 bt507.2.1 bt511.1 bt511.2.1)))) = some r := H
   have A91 := Aside0.mk A910
   clear A910
   replace H := Option.bind_eq_some_iff.mp H
   obtain ⟨⟨t507, t508, t509⟩, A920, H⟩ := H
   replace H : ((curves_Value.f kj6 t472 t473 t476 a2_0 a2_1).bind fun bt511 => (if t498 = 0 then (if t509 = 0 then (congoulaw04_CurvesSum.j1 kj6 (bt511.2.2 != 0) t496 t497 t507 t508 bt511.1 bt511.2.1) else (congoulaw04_CurvesSum.j1 kj6 true t496 t497 t507 t508 bt511.1 bt511.2.1)) else (congoulaw04_CurvesSum.j1 kj6 true t496 t497 t507 t508 bt511.1 bt511.2.1))) = some r := H
   have A92 := Aside0.mk A920
   clear A920
   replace H := Option.bind_eq_some_iff.mp H
   obtain ⟨⟨t511, t512, t513⟩, A930, H⟩ := H
   replace H : (if t498 = 0 then (if t509 = 0 then (congoulaw04_CurvesSum.j1 kj6 (t513 != 0) t496 t497 t507 t508 t511 t512) else (congoulaw04_CurvesSum.j1 kj6 true t496 t497 t507 t508 t511 t512)) else (congoulaw04_CurvesSum.j1 kj6 true t496 t497 t507 t508 t511 t512)) = some r := H
   have A93 := Aside0.mk A930
   clear A930
   have HC94 := Aside0.mk H
   clear H
   try go_wp2
   replace HO_481001 := ak (Kd.R_drew HO_481001.out)
   replace HO_481002 := ak (Kd.R_drew HO_481002.out)
   replace BK455 := kd BK455
   replace BK456 := kd BK456
   replace BK457 := kd BK457
   replace BK480 := kd BK480
   replace HB := ak (below_drew1 HB.out)
   refine sS (n := 10) (S := fun w' => w'.cell? ⟨gb455, 0, none⟩ = some (.int .i64 a0_0) ∧ w'.cell? ⟨gb455, 1, none⟩ = some (.slice A0_1 l0_1.length c0_1) ∧ w'.cell? ⟨gb455, 2, none⟩ = some (.slice A0_2 l0_2.length c0_2) ∧ w'.cell? ⟨gb457, 0, none⟩ = some (.int .i64 a2_0) ∧ w'.cell? ⟨gb457, 1, none⟩ = some (.int .i64 a2_1)) (ds := []) ⟨bc BK455 0, bc BK455 1, bc BK455 2, bc BK457 0, bc BK457 1⟩ (fun hHeld => ?_); refine with_tabW congoulaw04_CurvesSum.tab4 congoulaw04_CurvesSum.bits4 (fun HT_ HW_ => ?_)
   generalize wc.drew = w95 at HO_481001 HO_481002 BK455 BK456 BK457 BK480 HB hHeld ⊢
   refine tS 0 68 10 1 ?_
   refine tS 2 70 10 5 ?_
   refine join_ (σ := Value × Value × Nat) 2 (ba 10 255) (fun s_ => [(69, .agg #[.int .i64 t489, s_.1, s_.2.1]), (71, .tuple #[.agg #[.int .i64 t496, .int .i64 t497], .int .i64 t498]), (9, .pointer (some ⟨s_.2.2, 0, none⟩)), (67, .tuple #[.agg #[.int .i64 t496, .int .i64 t497], .int .i64 t498]), (72, .agg #[.int .i64 t496, .int .i64 t497]), (73, .int .i64 t498)]) (fun s_ w' => (w'.cell? ⟨gb455, 0, none⟩ = some (.int .i64 a0_0) ∧ w'.cell? ⟨gb455, 1, none⟩ = some (.slice A0_1 l0_1.length c0_1) ∧ w'.cell? ⟨gb455, 2, none⟩ = some (.slice A0_2 l0_2.length c0_2) ∧ w'.cell? ⟨gb457, 0, none⟩ = some (.int .i64 a2_0) ∧ w'.cell? ⟨gb457, 1, none⟩ = some (.int .i64 a2_1)) ∧ (Kd.R (Kd.int .i64) 3 w' w.heap.size (fun k_ => some k_ ≠ (s_.2.1 : Value).ownBlock ∧ nb k_ (.slice Ao22 t473.length co22) ∧ nb k_ (.slice Ao24 t476.length co24)) s_.1 t490) ∧ (Kd.R (Kd.int .i64) 3 w' w.heap.size (fun k_ => some k_ ≠ (s_.1 : Value).ownBlock ∧ nb k_ (.slice Ao22 t473.length co22) ∧ nb k_ (.slice Ao24 t476.length co24)) s_.2.1 t493) ∧ (Kd.R (Kd.int .i64) 3 w' w.heap.size (fun k_ => some k_ ≠ (s_.1 : Value).ownBlock ∧ some k_ ≠ (s_.2.1 : Value).ownBlock ∧ nb k_ (.slice Ao24 t476.length co24)) (.slice Ao22 t473.length co22) t473) ∧ (Kd.R (Kd.int .i64) 3 w' w.heap.size (fun k_ => some k_ ≠ (s_.1 : Value).ownBlock ∧ some k_ ≠ (s_.2.1 : Value).ownBlock ∧ nb k_ (.slice Ao22 t473.length co22)) (.slice Ao24 t476.length co24) t476) ∧ (w'.heap[gb455]? = some (.cells #[.int .i64 a0_0, .slice A0_1 l0_1.length c0_1, .slice A0_2 l0_2.length c0_2] 24 (0, 0))) ∧ (w'.heap[gb456]? = some (.cells #[.int .i64 a1_0, .slice A1_1 l1_1.length c1_1, .slice A1_2 l1_2.length c1_2] 24 (0, 0))) ∧ (w'.heap[gb457]? = some (.cells #[.int .i64 a2_0, .int .i64 a2_1] 26 (0, 0))) ∧ (w'.heap[gb480]? = some (.cells #[.int .i64 t472, .slice Ao22 t473.length co22, .slice Ao24 t476.length co24] 31 (0, 0))) ∧ (w'.heap[s_.2.2]? = some (.cells #[.int .i64 0, .int .i64 0] 26 (0, 0))) ∧ (w.heap.size ≤ s_.2.2) ∧ (w.heap.size ≤ s_.2.2) ∧ (gb455 ≠ s_.2.2) ∧ (s_.2.2 ≠ gb455) ∧ (gb456 ≠ s_.2.2) ∧ (s_.2.2 ≠ gb456) ∧ (gb457 ≠ s_.2.2) ∧ (s_.2.2 ≠ gb457) ∧ (gb480 ≠ s_.2.2) ∧ (s_.2.2 ≠ gb480) ∧ (Below w.heap.size w w')) ?_ ?_
   rotate_left
   ·intro hCont
    refine two_ (i := 1) (j := 7) (Ni := some 69) (Nj := some 9) (ba 10 7) (ba 10 133) rfl rfl rfl rfl (two_of HT_.out (by kernel_rfl)) (by decide) (by decide) (fun K hK => ?_) (fun K hK => ?_)
    ·skip
     refine gC Tryd.func7 #[.agg #[.int .i64 a0_0, .slice A0_1 l0_1.length c0_1, .slice A0_2 l0_2.length c0_2]] ?_
     with_reducible refine (congoulaw04_Of.calls a0_0 _ _ l0_1 _ _ l0_2 t489 t490 t493 _ ?side1 ?side2 ?side3 ?side4 A89.out).mono ?_
     (case side1 => exact kC HR0_1)
     (case side2 => exact HC0_1.out)
     (case side3 => exact kC HR0_2)
     (case side4 => exact HC0_2.out)
     rintro e w96 ⟨v491, v494, rfl, ho0, ho1, hb⟩
     refine ⟨_, rfl, ?_⟩
     have HO492 := ak (Kd.R_lower (Kd.R_new' (Kd.R_new' ho0 (Kd.R_lt (rC HO_481001))) (Kd.R_lt (rC HO_481002))) (below_size (hbC _)))
     have HO495 := ak (Kd.R_lower (Kd.R_new' (Kd.R_new' ho1 (Kd.R_lt (rC HO_481001))) (Kd.R_lt (rC HO_481002))) (below_size (hbC _)))
     replace HO_481001 := kT HO_481001 hb ho0 ho1
     replace HO_481002 := kT HO_481002 hb ho0 ho1
     replace BK455 := kB BK455 hb
     replace BK456 := kB BK456 hb
     replace BK457 := kB BK457 hb
     replace BK480 := kB BK480 hb
     replace HB := kH _ hb
     (try clear hb)
     (try clear hb2)
     (try clear hk)
     (try clear hi)
     (try clear ho0)
     (try clear ho1)
     obtain ⟨Ao97, co97, eo97⟩ := Kd.R_slice HO492.out
     (first | subst eo97 | (injection eo97 with f1_ f2_ f3_; have f4_ := f1_.symm; have f5_ := f3_.symm; clear f1_ f2_ f3_; subst f4_; subst f5_))
     obtain ⟨Ao98, co98, eo98⟩ := Kd.R_slice HO495.out
     (first | subst eo98 | (injection eo98 with f1_ f2_ f3_; have f4_ := f1_.symm; have f5_ := f3_.symm; clear f1_ f2_ f3_; subst f4_; subst f5_))
     refine hK.out _ _ ⟨bc BK455 0, bc BK455 1, bc BK455 2, bc BK457 0, bc BK457 1⟩ (fun hHeld => ?_)
     clear hK K
     refine norm_ (a' := ?_) ?_ ?_
     rotate_left
     ·show Act.put _ (some 69) _ = _
      simp only [Act.put, List.setIfInBounds_toArray, List.set_cons_zero, List.set_cons_succ, i64_w, i32_w]
      rfl
     refine two_ (i := 3) (j := 7) (Ni := some 71) (Nj := some 9) (ba 10 15) (ba 10 135) rfl rfl rfl rfl (two_of HT_.out (by kernel_rfl)) (by decide) (by decide) (fun K hK => ?_) (fun K hK => ?_)
     ·skip
      refine gC Tryd.func14 #[.agg #[.int .i64 t489, .slice Ao97 t490.length co97, .slice Ao98 t493.length co98], .agg #[.int .i64 a2_0, .int .i64 a2_1]] ?_
      with_reducible refine (curves_Value.calls kj6 t489 _ _ t490 _ _ t493 a2_0 a2_1 t496 t497 t498 _ ?side1 ?side2 ?side3 ?side4 A90.out).mono ?_
      (case side1 => exact kD (Kd.R_reads' HO492.out).2.2)
      (case side2 => exact (Kd.R_reads' HO492.out).2.1)
      (case side3 => exact kD (Kd.R_reads' HO495.out).2.2)
      (case side4 => exact (Kd.R_reads' HO495.out).2.1)
      rintro e w99 ⟨rfl, hb⟩
      refine ⟨_, rfl, ?_⟩
      replace HO_481001 := kO HO_481001 hb
      replace HO_481002 := kO HO_481002 hb
      replace HO492 := kO HO492 hb
      replace HO495 := kO HO495 hb
      replace BK455 := kB BK455 hb
      replace BK456 := kB BK456 hb
      replace BK457 := kB BK457 hb
      replace BK480 := kB BK480 hb
      replace HB := kH _ hb
      (try clear hb)
      (try clear hb2)
      (try clear hk)
      (try clear hi)
      refine hK.out _ _ ⟨bc BK455 0, bc BK455 1, bc BK455 2, bc BK457 0, bc BK457 1⟩ (fun hHeld => ?_)
      clear hK K
      refine norm_ (a' := ?_) ?_ ?_
      rotate_left
      ·show Act.put _ (some 71) _ = _
       simp only [Act.put, List.setIfInBounds_toArray, List.set_cons_zero, List.set_cons_succ, i64_w, i32_w]
       rfl
      refine pS 4 67 10 31 ?_
      refine pS 5 72 10 63 ?_
      refine pS 6 73 10 127 ?_
      refine one_ (i := 7) (N := some 9) (ba 10 255) rfl rfl (one_of HT_.out (by kernel_rfl)) (by decide) (fun K hK => ?_)
      refine box_step ?hg (N := 9) ?hd (cs := #[.int .i64 0, .int .i64 0]) (t := 26) ?hr ?_; (case hd => rfl); (case hg => rfl); (case hr => first | (go_simp; done) | (go_simp; rfl))
      intro gb499 hg w100 hbox hb
      replace HO_481001 := kO HO_481001 hb
      replace HO_481002 := kO HO_481002 hb
      replace HO492 := kO HO492 hb
      replace HO495 := kO HO495 hb
      have BK499 := ak (hbox)
      have GW499 := kG w hg
      have GE499 := kG w hg
      replace HB := kH _ hb
      have NB455_499 := kL BK455 hg
      have NB499_455 := kR BK455 hg
      replace BK455 := kB BK455 hb
      have NB456_499 := kL BK456 hg
      have NB499_456 := kR BK456 hg
      replace BK456 := kB BK456 hb
      have NB457_499 := kL BK457 hg
      have NB499_457 := kR BK457 hg
      replace BK457 := kB BK457 hb
      have NB480_499 := kL BK480 hg
      have NB499_480 := kR BK480 hg
      replace BK480 := kB BK480 hb
      clear hb hbox hg
      refine hK.out _ _ ⟨bc BK455 0, bc BK455 1, bc BK455 2, bc BK457 0, bc BK457 1⟩ (fun hHeld => ?_)
      clear hK K
      refine norm_ (a' := ?_) ?_ ?_
      rotate_left
      ·show Act.put _ (some 9) _ = _
       simp only [Act.put, List.setIfInBounds_toArray, List.set_cons_zero, List.set_cons_succ, i64_w, i32_w]
       rfl
      exact norm_ (by simp only [putAll, Act.put, List.setIfInBounds_toArray, List.set_cons_zero, List.set_cons_succ]) (hCont (.slice Ao97 t490.length co97, .slice Ao98 t493.length co98, gb499) _ ⟨hHeld, (rD (Kd.R_mono HO492.out (fun _ hk => ⟨hk.1.1, ⟨hk.1.2, hk.2⟩⟩))), (rD (Kd.R_mono HO495.out (fun _ hk => ⟨hk.1.1, ⟨hk.1.2, hk.2⟩⟩))), (rD (Kd.R_mono HO_481001.out (fun _ hk => ⟨hk.1.2, ⟨hk.2, hk.1.1⟩⟩))), (rD (Kd.R_mono HO_481002.out (fun _ hk => ⟨hk.1.2, ⟨hk.2, hk.1.1⟩⟩))), (bkC BK455), (bkC BK456), (bkC BK457), (bkC BK480), (bkC BK499), GW499.out, GE499.out, NB455_499.out, NB499_455.out, NB456_499.out, NB499_456.out, NB457_499.out, NB499_457.out, NB480_499.out, NB499_480.out, (hbC _)⟩)
     ·skip
      refine box_step ?hg (N := 9) ?hd (cs := #[.int .i64 0, .int .i64 0]) (t := 26) ?hr ?_; (case hd => rfl); (case hg => rfl); (case hr => first | (go_simp; done) | (go_simp; rfl))
      intro gb499 hg w97 hbox hb
      replace HO_481001 := kO HO_481001 hb
      replace HO_481002 := kO HO_481002 hb
      replace HO492 := kO HO492 hb
      replace HO495 := kO HO495 hb
      have BK499 := ak (hbox)
      have GW499 := kG w hg
      have GE499 := kG w hg
      replace HB := kH _ hb
      have NB455_499 := kL BK455 hg
      have NB499_455 := kR BK455 hg
      replace BK455 := kB BK455 hb
      have NB456_499 := kL BK456 hg
      have NB499_456 := kR BK456 hg
      replace BK456 := kB BK456 hb
      have NB457_499 := kL BK457 hg
      have NB499_457 := kR BK457 hg
      replace BK457 := kB BK457 hb
      have NB480_499 := kL BK480 hg
      have NB499_480 := kR BK480 hg
      replace BK480 := kB BK480 hb
      clear hb hbox hg
      obtain ⟨Ao98, co98, eo98⟩ := Kd.R_slice HO492.out
      (first | subst eo98 | (injection eo98 with f1_ f2_ f3_; have f4_ := f1_.symm; have f5_ := f3_.symm; clear f1_ f2_ f3_; subst f4_; subst f5_))
      obtain ⟨Ao99, co99, eo99⟩ := Kd.R_slice HO495.out
      (first | subst eo99 | (injection eo99 with f1_ f2_ f3_; have f4_ := f1_.symm; have f5_ := f3_.symm; clear f1_ f2_ f3_; subst f4_; subst f5_))
      refine hK.out _ _ ⟨bc BK455 0, bc BK455 1, bc BK455 2, bc BK457 0, bc BK457 1⟩ (fun hHeld => ?_)
      clear hK K
      refine norm_ (a' := ?_) ?_ ?_
      rotate_left
      ·show Act.put _ (some 9) _ = _
       simp only [Act.put, List.setIfInBounds_toArray, List.set_cons_zero, List.set_cons_succ, i64_w, i32_w]
       rfl
      refine one_ (i := 3) (N := some 71) (ba 10 143) rfl rfl (one_of HT_.out (by kernel_rfl)) (by decide) (fun K hK => ?_)
      refine gC Tryd.func14 #[.agg #[.int .i64 t489, .slice Ao98 t490.length co98, .slice Ao99 t493.length co99], .agg #[.int .i64 a2_0, .int .i64 a2_1]] ?_
      with_reducible refine (curves_Value.calls kj6 t489 _ _ t490 _ _ t493 a2_0 a2_1 t496 t497 t498 _ ?side1 ?side2 ?side3 ?side4 A90.out).mono ?_
      (case side1 => exact kD (Kd.R_reads' HO492.out).2.2)
      (case side2 => exact (Kd.R_reads' HO492.out).2.1)
      (case side3 => exact kD (Kd.R_reads' HO495.out).2.2)
      (case side4 => exact (Kd.R_reads' HO495.out).2.1)
      rintro e w100 ⟨rfl, hb⟩
      refine ⟨_, rfl, ?_⟩
      replace HO_481001 := kO HO_481001 hb
      replace HO_481002 := kO HO_481002 hb
      replace HO492 := kO HO492 hb
      replace HO495 := kO HO495 hb
      replace BK455 := kB BK455 hb
      replace BK456 := kB BK456 hb
      replace BK457 := kB BK457 hb
      replace BK480 := kB BK480 hb
      replace BK499 := kB BK499 hb
      replace HB := kH _ hb
      (try clear hb)
      (try clear hb2)
      (try clear hk)
      (try clear hi)
      refine hK.out _ _ ⟨bc BK455 0, bc BK455 1, bc BK455 2, bc BK457 0, bc BK457 1⟩ (fun hHeld => ?_)
      clear hK K
      refine norm_ (a' := ?_) ?_ ?_
      rotate_left
      ·show Act.put _ (some 71) _ = _
       simp only [Act.put, List.setIfInBounds_toArray, List.set_cons_zero, List.set_cons_succ, i64_w, i32_w]
       rfl
      refine pS 4 67 10 159 ?_
      refine pS 5 72 10 191 ?_
      refine pS 6 73 10 255 ?_
      exact norm_ (by simp only [putAll, Act.put, List.setIfInBounds_toArray, List.set_cons_zero, List.set_cons_succ]) (hCont (.slice Ao98 t490.length co98, .slice Ao99 t493.length co99, gb499) _ ⟨hHeld, (rD (Kd.R_mono HO492.out (fun _ hk => ⟨hk.1.1, ⟨hk.1.2, hk.2⟩⟩))), (rD (Kd.R_mono HO495.out (fun _ hk => ⟨hk.1.1, ⟨hk.1.2, hk.2⟩⟩))), (rD (Kd.R_mono HO_481001.out (fun _ hk => ⟨hk.1.2, ⟨hk.2, hk.1.1⟩⟩))), (rD (Kd.R_mono HO_481002.out (fun _ hk => ⟨hk.1.2, ⟨hk.2, hk.1.1⟩⟩))), (bkC BK455), (bkC BK456), (bkC BK457), (bkC BK480), (bkC BK499), GW499.out, GE499.out, NB455_499.out, NB499_455.out, NB456_499.out, NB499_456.out, NB457_499.out, NB499_457.out, NB480_499.out, NB499_480.out, (hbC _)⟩)
    ·skip
     refine box_step ?hg (N := 9) ?hd (cs := #[.int .i64 0, .int .i64 0]) (t := 26) ?hr ?_; (case hd => rfl); (case hg => rfl); (case hr => first | (go_simp; done) | (go_simp; rfl))
     intro gb499 hg w96 hbox hb
     replace HO_481001 := kO HO_481001 hb
     replace HO_481002 := kO HO_481002 hb
     have BK499 := ak (hbox)
     have GW499 := kG w hg
     have GE499 := kG w hg
     replace HB := kH _ hb
     have NB455_499 := kL BK455 hg
     have NB499_455 := kR BK455 hg
     replace BK455 := kB BK455 hb
     have NB456_499 := kL BK456 hg
     have NB499_456 := kR BK456 hg
     replace BK456 := kB BK456 hb
     have NB457_499 := kL BK457 hg
     have NB499_457 := kR BK457 hg
     replace BK457 := kB BK457 hb
     have NB480_499 := kL BK480 hg
     have NB499_480 := kR BK480 hg
     replace BK480 := kB BK480 hb
     clear hb hbox hg
     refine hK.out _ _ ⟨bc BK455 0, bc BK455 1, bc BK455 2, bc BK457 0, bc BK457 1⟩ (fun hHeld => ?_)
     clear hK K
     refine norm_ (a' := ?_) ?_ ?_
     rotate_left
     ·show Act.put _ (some 9) _ = _
      simp only [Act.put, List.setIfInBounds_toArray, List.set_cons_zero, List.set_cons_succ, i64_w, i32_w]
      rfl
     refine one_ (i := 1) (N := some 69) (ba 10 135) rfl rfl (one_of HT_.out (by kernel_rfl)) (by decide) (fun K hK => ?_)
     refine gC Tryd.func7 #[.agg #[.int .i64 a0_0, .slice A0_1 l0_1.length c0_1, .slice A0_2 l0_2.length c0_2]] ?_
     with_reducible refine (congoulaw04_Of.calls a0_0 _ _ l0_1 _ _ l0_2 t489 t490 t493 _ ?side1 ?side2 ?side3 ?side4 A89.out).mono ?_
     (case side1 => exact kC HR0_1)
     (case side2 => exact HC0_1.out)
     (case side3 => exact kC HR0_2)
     (case side4 => exact HC0_2.out)
     rintro e w97 ⟨v491, v494, rfl, ho0, ho1, hb⟩
     refine ⟨_, rfl, ?_⟩
     have HO492 := ak (Kd.R_lower (Kd.R_new' (Kd.R_new' ho0 (Kd.R_lt (rC HO_481001))) (Kd.R_lt (rC HO_481002))) (below_size (hbC _)))
     have HO495 := ak (Kd.R_lower (Kd.R_new' (Kd.R_new' ho1 (Kd.R_lt (rC HO_481001))) (Kd.R_lt (rC HO_481002))) (below_size (hbC _)))
     replace HO_481001 := kT HO_481001 hb ho0 ho1
     replace HO_481002 := kT HO_481002 hb ho0 ho1
     replace BK455 := kB BK455 hb
     replace BK456 := kB BK456 hb
     replace BK457 := kB BK457 hb
     replace BK480 := kB BK480 hb
     replace BK499 := kB BK499 hb
     replace HB := kH _ hb
     (try clear hb)
     (try clear hb2)
     (try clear hk)
     (try clear hi)
     (try clear ho0)
     (try clear ho1)
     obtain ⟨Ao98, co98, eo98⟩ := Kd.R_slice HO492.out
     (first | subst eo98 | (injection eo98 with f1_ f2_ f3_; have f4_ := f1_.symm; have f5_ := f3_.symm; clear f1_ f2_ f3_; subst f4_; subst f5_))
     obtain ⟨Ao99, co99, eo99⟩ := Kd.R_slice HO495.out
     (first | subst eo99 | (injection eo99 with f1_ f2_ f3_; have f4_ := f1_.symm; have f5_ := f3_.symm; clear f1_ f2_ f3_; subst f4_; subst f5_))
     refine hK.out _ _ ⟨bc BK455 0, bc BK455 1, bc BK455 2, bc BK457 0, bc BK457 1⟩ (fun hHeld => ?_)
     clear hK K
     refine norm_ (a' := ?_) ?_ ?_
     rotate_left
     ·show Act.put _ (some 69) _ = _
      simp only [Act.put, List.setIfInBounds_toArray, List.set_cons_zero, List.set_cons_succ, i64_w, i32_w]
      rfl
     refine one_ (i := 3) (N := some 71) (ba 10 143) rfl rfl (one_of HT_.out (by kernel_rfl)) (by decide) (fun K hK => ?_)
     refine gC Tryd.func14 #[.agg #[.int .i64 t489, .slice Ao98 t490.length co98, .slice Ao99 t493.length co99], .agg #[.int .i64 a2_0, .int .i64 a2_1]] ?_
     with_reducible refine (curves_Value.calls kj6 t489 _ _ t490 _ _ t493 a2_0 a2_1 t496 t497 t498 _ ?side1 ?side2 ?side3 ?side4 A90.out).mono ?_
     (case side1 => exact kD (Kd.R_reads' HO492.out).2.2)
     (case side2 => exact (Kd.R_reads' HO492.out).2.1)
     (case side3 => exact kD (Kd.R_reads' HO495.out).2.2)
     (case side4 => exact (Kd.R_reads' HO495.out).2.1)
     rintro e w100 ⟨rfl, hb⟩
     refine ⟨_, rfl, ?_⟩
     replace HO_481001 := kO HO_481001 hb
     replace HO_481002 := kO HO_481002 hb
     replace HO492 := kO HO492 hb
     replace HO495 := kO HO495 hb
     replace BK455 := kB BK455 hb
     replace BK456 := kB BK456 hb
     replace BK457 := kB BK457 hb
     replace BK480 := kB BK480 hb
     replace BK499 := kB BK499 hb
     replace HB := kH _ hb
     (try clear hb)
     (try clear hb2)
     (try clear hk)
     (try clear hi)
     refine hK.out _ _ ⟨bc BK455 0, bc BK455 1, bc BK455 2, bc BK457 0, bc BK457 1⟩ (fun hHeld => ?_)
     clear hK K
     refine norm_ (a' := ?_) ?_ ?_
     rotate_left
     ·show Act.put _ (some 71) _ = _
      simp only [Act.put, List.setIfInBounds_toArray, List.set_cons_zero, List.set_cons_succ, i64_w, i32_w]
      rfl
     refine pS 4 67 10 159 ?_
     refine pS 5 72 10 191 ?_
     refine pS 6 73 10 255 ?_
     exact norm_ (by simp only [putAll, Act.put, List.setIfInBounds_toArray, List.set_cons_zero, List.set_cons_succ]) (hCont (.slice Ao98 t490.length co98, .slice Ao99 t493.length co99, gb499) _ ⟨hHeld, (rD (Kd.R_mono HO492.out (fun _ hk => ⟨hk.1.1, ⟨hk.1.2, hk.2⟩⟩))), (rD (Kd.R_mono HO495.out (fun _ hk => ⟨hk.1.1, ⟨hk.1.2, hk.2⟩⟩))), (rD (Kd.R_mono HO_481001.out (fun _ hk => ⟨hk.1.2, ⟨hk.2, hk.1.1⟩⟩))), (rD (Kd.R_mono HO_481002.out (fun _ hk => ⟨hk.1.2, ⟨hk.2, hk.1.1⟩⟩))), (bkC BK455), (bkC BK456), (bkC BK457), (bkC BK480), (bkC BK499), GW499.out, GE499.out, NB455_499.out, NB499_455.out, NB456_499.out, NB499_456.out, NB457_499.out, NB499_457.out, NB480_499.out, NB499_480.out, (hbC _)⟩)
   rintro ⟨v491, v494, gb499⟩ w101 ⟨hS_, h0_, h1_, h2_, h3_, h4_, h5_, h6_, h7_, h8_, h9_, h10_, h11_, h12_, h13_, h14_, h15_, h16_, h17_, h18_, h19_⟩
   have n0_ : Aside0 (Kd.R (Kd.int .i64) 3 w101 w.heap.size (fun k_ => nb k_ v494 ∧ nb k_ (.slice Ao22 t473.length co22) ∧ nb k_ (.slice Ao24 t476.length co24)) v491 t490) := ⟨h0_⟩
   have n1_ : Aside0 (Kd.R (Kd.int .i64) 3 w101 w.heap.size (fun k_ => nb k_ v491 ∧ nb k_ (.slice Ao22 t473.length co22) ∧ nb k_ (.slice Ao24 t476.length co24)) v494 t493) := ⟨h1_⟩
   have n2_ : Aside0 (Kd.R (Kd.int .i64) 3 w101 w.heap.size (fun k_ => nb k_ v491 ∧ nb k_ v494 ∧ nb k_ (.slice Ao24 t476.length co24)) (.slice Ao22 t473.length co22) t473) := ⟨h2_⟩
   have n3_ : Aside0 (Kd.R (Kd.int .i64) 3 w101 w.heap.size (fun k_ => nb k_ v491 ∧ nb k_ v494 ∧ nb k_ (.slice Ao22 t473.length co22)) (.slice Ao24 t476.length co24) t476) := ⟨h3_⟩
   have n4_ : Aside0 (w101.heap[gb455]? = some (.cells #[.int .i64 a0_0, .slice A0_1 l0_1.length c0_1, .slice A0_2 l0_2.length c0_2] 24 (0, 0))) := ⟨h4_⟩
   have n5_ : Aside0 (w101.heap[gb456]? = some (.cells #[.int .i64 a1_0, .slice A1_1 l1_1.length c1_1, .slice A1_2 l1_2.length c1_2] 24 (0, 0))) := ⟨h5_⟩
   have n6_ : Aside0 (w101.heap[gb457]? = some (.cells #[.int .i64 a2_0, .int .i64 a2_1] 26 (0, 0))) := ⟨h6_⟩
   have n7_ : Aside0 (w101.heap[gb480]? = some (.cells #[.int .i64 t472, .slice Ao22 t473.length co22, .slice Ao24 t476.length co24] 31 (0, 0))) := ⟨h7_⟩
   have n8_ : Aside0 (w101.heap[gb499]? = some (.cells #[.int .i64 0, .int .i64 0] 26 (0, 0))) := ⟨h8_⟩
   have n9_ : Aside0 (w.heap.size ≤ gb499) := ⟨h9_⟩
   have n10_ : Aside0 (w.heap.size ≤ gb499) := ⟨h10_⟩
   have n11_ : Aside0 (gb455 ≠ gb499) := ⟨h11_⟩
   have n12_ : Aside0 (gb499 ≠ gb455) := ⟨h12_⟩
   have n13_ : Aside0 (gb456 ≠ gb499) := ⟨h13_⟩
   have n14_ : Aside0 (gb499 ≠ gb456) := ⟨h14_⟩
   have n15_ : Aside0 (gb457 ≠ gb499) := ⟨h15_⟩
   have n16_ : Aside0 (gb499 ≠ gb457) := ⟨h16_⟩
   have n17_ : Aside0 (gb480 ≠ gb499) := ⟨h17_⟩
   have n18_ : Aside0 (gb499 ≠ gb480) := ⟨h18_⟩
   have n19_ : Aside0 (Below w.heap.size w w101) := ⟨h19_⟩
   clear HO_481001
   clear HO_481002
   clear BK455
   clear BK456
   clear BK457
   clear BK480
   clear HB
   clear h0_ h1_ h2_ h3_ h4_ h5_ h6_ h7_ h8_ h9_ h10_ h11_ h12_ h13_ h14_ h15_ h16_ h17_ h18_ h19_
   have HO492 := n0_
   have HO495 := n1_
   have HO_481001 := n2_
   have HO_481002 := n3_
   have BK455 := n4_
   have BK456 := n5_
   have BK457 := n6_
   have BK480 := n7_
   have BK499 := n8_
   have GW499 := n9_
   have GE499 := n10_
   have NB455_499 := n11_
   have NB499_455 := n12_
   have NB456_499 := n13_
   have NB499_456 := n14_
   have NB457_499 := n15_
   have NB499_457 := n16_
   have NB480_499 := n17_
   have NB499_480 := n18_
   have HB := n19_
   clear n0_ n1_ n2_ n3_ n4_ n5_ n6_ n7_ n8_ n9_ n10_ n11_ n12_ n13_ n14_ n15_ n16_ n17_ n18_ n19_
   have hHeld : w101.cell? ⟨gb455, 0, none⟩ = some (.int .i64 a0_0) ∧ w101.cell? ⟨gb455, 1, none⟩ = some (.slice A0_1 l0_1.length c0_1) ∧ w101.cell? ⟨gb455, 2, none⟩ = some (.slice A0_2 l0_2.length c0_2) ∧ w101.cell? ⟨gb457, 0, none⟩ = some (.int .i64 a2_0) ∧ w101.cell? ⟨gb457, 1, none⟩ = some (.int .i64 a2_1) := hS_
   refine norm_ (a' := ?_) ?_ ?_
   rotate_left
   ·simp only [putAll, Act.put, List.setIfInBounds_toArray, List.set_cons_zero, List.set_cons_succ]
    rfl
   refine one_ (i := 8) (N := none) (ba 10 511) rfl rfl (one_of HT_.out (by kernel_rfl)) (by decide) (fun K hK => ?_)
   have hs102 : w101.cell? ⟨gb499, 0, none⟩ = some (.int .i64 0) := bc BK499 0
   have hfs102 := fz BK499 0
   have hns102_0 := NB455_499.out
   have hns102_1 := NB456_499.out
   have hns102_2 := NB457_499.out
   have hns102_3 := NB480_499.out
   have hms102_0 := NB499_455.out
   have hms102_1 := NB499_456.out
   have hms102_2 := NB499_457.out
   have hms102_3 := NB499_480.out
   have hs103 : w101.cell? ⟨gb499, 1, none⟩ = some (.int .i64 0) := bc BK499 1
   have hfs103 := fz BK499 1
   have hns103_0 := NB455_499.out
   have hns103_1 := NB456_499.out
   have hns103_2 := NB457_499.out
   have hns103_3 := NB480_499.out
   have hms103_0 := NB499_455.out
   have hms103_1 := NB499_456.out
   have hms103_2 := NB499_457.out
   have hms103_3 := NB499_480.out
   refine skip_ (w1 := ?_) (by rfl) rfl ?_ ?_
   rotate_left
   ·go_simp
    rfl
   refine hK.out _ _ ⟨((cell_far (p := ⟨gb499, _, none⟩) NB455_499.out _).trans (((cell_far (p := ⟨gb499, _, none⟩) NB455_499.out _).trans (hHeld.1)))), ((cell_far (p := ⟨gb499, _, none⟩) NB455_499.out _).trans (((cell_far (p := ⟨gb499, _, none⟩) NB455_499.out _).trans (hHeld.2.1)))), ((cell_far (p := ⟨gb499, _, none⟩) NB455_499.out _).trans (((cell_far (p := ⟨gb499, _, none⟩) NB455_499.out _).trans (hHeld.2.2.1)))), ((cell_far (p := ⟨gb499, _, none⟩) NB457_499.out _).trans (((cell_far (p := ⟨gb499, _, none⟩) NB457_499.out _).trans (hHeld.2.2.2.1)))), ((cell_far (p := ⟨gb499, _, none⟩) NB457_499.out _).trans (((cell_far (p := ⟨gb499, _, none⟩) NB457_499.out _).trans (hHeld.2.2.2.2))))⟩ (fun hHeld => ?_)
   clear hK K
   refine pS 9 10 10 1023 ?_
   refine done_ (done_of HT_.out (by kernel_rfl)) ?_
   try go_wp2
   have n0_ : Aside0 (Kd.R (Kd.int .i64) 3 ((w101.setCell ⟨gb499, 0, none⟩ (.int .i64 t496)).setCell ⟨gb499, 1, none⟩ (.int .i64 t497)) w.heap.size (fun k_ => nb k_ (.slice Ao24 t476.length co24) ∧ nb k_ v491 ∧ nb k_ v494) (.slice Ao22 t473.length co22) t473) := ⟨rD (Kd.R_mono (Kd.R_far (p := ⟨gb499, 1, none⟩) (Kd.R_far (p := ⟨gb499, 0, none⟩) (Kd.R_types HO_481001.out BK499.out (by decide)) (fun _ hk => hk.2) (.int .i64 t496)) (fun _ hk => hk.2) (.int .i64 t497)) (fun _ hk => ⟨hk.1.2.2, ⟨hk.1.1, hk.1.2.1⟩⟩))⟩
   have n1_ : Aside0 (Kd.R (Kd.int .i64) 3 ((w101.setCell ⟨gb499, 0, none⟩ (.int .i64 t496)).setCell ⟨gb499, 1, none⟩ (.int .i64 t497)) w.heap.size (fun k_ => nb k_ (.slice Ao22 t473.length co22) ∧ nb k_ v491 ∧ nb k_ v494) (.slice Ao24 t476.length co24) t476) := ⟨rD (Kd.R_mono (Kd.R_far (p := ⟨gb499, 1, none⟩) (Kd.R_far (p := ⟨gb499, 0, none⟩) (Kd.R_types HO_481002.out BK499.out (by decide)) (fun _ hk => hk.2) (.int .i64 t496)) (fun _ hk => hk.2) (.int .i64 t497)) (fun _ hk => ⟨hk.1.2.2, ⟨hk.1.1, hk.1.2.1⟩⟩))⟩
   have n2_ : Aside0 (Kd.R (Kd.int .i64) 3 ((w101.setCell ⟨gb499, 0, none⟩ (.int .i64 t496)).setCell ⟨gb499, 1, none⟩ (.int .i64 t497)) w.heap.size (fun k_ => nb k_ (.slice Ao22 t473.length co22) ∧ nb k_ (.slice Ao24 t476.length co24) ∧ nb k_ v494) v491 t490) := ⟨rD (Kd.R_mono (Kd.R_far (p := ⟨gb499, 1, none⟩) (Kd.R_far (p := ⟨gb499, 0, none⟩) (Kd.R_types HO492.out BK499.out (by decide)) (fun _ hk => hk.2) (.int .i64 t496)) (fun _ hk => hk.2) (.int .i64 t497)) (fun _ hk => ⟨hk.1.2.1, ⟨hk.1.2.2, hk.1.1⟩⟩))⟩
   have n3_ : Aside0 (Kd.R (Kd.int .i64) 3 ((w101.setCell ⟨gb499, 0, none⟩ (.int .i64 t496)).setCell ⟨gb499, 1, none⟩ (.int .i64 t497)) w.heap.size (fun k_ => nb k_ (.slice Ao22 t473.length co22) ∧ nb k_ (.slice Ao24 t476.length co24) ∧ nb k_ v491) v494 t493) := ⟨rD (Kd.R_mono (Kd.R_far (p := ⟨gb499, 1, none⟩) (Kd.R_far (p := ⟨gb499, 0, none⟩) (Kd.R_types HO495.out BK499.out (by decide)) (fun _ hk => hk.2) (.int .i64 t496)) (fun _ hk => hk.2) (.int .i64 t497)) (fun _ hk => ⟨hk.1.2.1, ⟨hk.1.2.2, hk.1.1⟩⟩))⟩
   have n4_ : Aside0 (((w101.setCell ⟨gb499, 0, none⟩ (.int .i64 t496)).setCell ⟨gb499, 1, none⟩ (.int .i64 t497)).heap[gb455]? = some (.cells #[.int .i64 a0_0, .slice A0_1 l0_1.length c0_1, .slice A0_2 l0_2.length c0_2] 24 (0, 0))) := ⟨bF BK455⟩
   have n5_ : Aside0 (((w101.setCell ⟨gb499, 0, none⟩ (.int .i64 t496)).setCell ⟨gb499, 1, none⟩ (.int .i64 t497)).heap[gb456]? = some (.cells #[.int .i64 a1_0, .slice A1_1 l1_1.length c1_1, .slice A1_2 l1_2.length c1_2] 24 (0, 0))) := ⟨bF BK456⟩
   have n6_ : Aside0 (((w101.setCell ⟨gb499, 0, none⟩ (.int .i64 t496)).setCell ⟨gb499, 1, none⟩ (.int .i64 t497)).heap[gb457]? = some (.cells #[.int .i64 a2_0, .int .i64 a2_1] 26 (0, 0))) := ⟨bF BK457⟩
   have n7_ : Aside0 (((w101.setCell ⟨gb499, 0, none⟩ (.int .i64 t496)).setCell ⟨gb499, 1, none⟩ (.int .i64 t497)).heap[gb480]? = some (.cells #[.int .i64 t472, .slice Ao22 t473.length co22, .slice Ao24 t476.length co24] 31 (0, 0))) := ⟨bF BK480⟩
   have n8_ : Aside0 (((w101.setCell ⟨gb499, 0, none⟩ (.int .i64 t496)).setCell ⟨gb499, 1, none⟩ (.int .i64 t497)).heap[gb499]? = some (.cells #[.int .i64 t496, .int .i64 t497] 26 (0, 0))) := ⟨by (with_reducible repeat (first | refine blk_drewN ?_ _ | refine blk_drew ?_ | refine blk_alloc ?_ _)); refine blk_put (cs := #[.int .i64 t496, .int .i64 0]) ?_ 1 _ rfl; (with_reducible repeat (first | refine blk_drewN ?_ _ | refine blk_drew ?_ | refine blk_alloc ?_ _)); refine blk_put (cs := #[.int .i64 0, .int .i64 0]) ?_ 0 _ rfl; (with_reducible repeat (first | refine blk_drewN ?_ _ | refine blk_drew ?_ | refine blk_alloc ?_ _)); exact BK499.out⟩
   have n9_ : Aside0 (Below w.heap.size w ((w101.setCell ⟨gb499, 0, none⟩ (.int .i64 t496)).setCell ⟨gb499, 1, none⟩ (.int .i64 t497))) := ⟨hbC _⟩
   (try clear HO_481001)
   (try clear HO_481002)
   (try clear HO492)
   (try clear HO495)
   (try clear BK455)
   (try clear BK456)
   (try clear BK457)
   (try clear BK480)
   (try clear BK499)
   (try clear HB)
   generalize ((w101.setCell ⟨gb499, 0, none⟩ (.int .i64 t496)).setCell ⟨gb499, 1, none⟩ (.int .i64 t497)) = w104 at n0_ n1_ n2_ n3_ n4_ n5_ n6_ n7_ n8_ n9_ ⊢
   have HO_481001 := n0_
   have HO_481002 := n1_
   have HO492 := n2_
   have HO495 := n3_
   have BK455 := n4_
   have BK456 := n5_
   have BK457 := n6_
   have BK480 := n7_
   have BK499 := n8_
   have HB := n9_
   clear n0_ n1_ n2_ n3_ n4_ n5_ n6_ n7_ n8_ n9_
   replace HO_481001 := ak (Kd.R_drew HO_481001.out)
   replace HO_481002 := ak (Kd.R_drew HO_481002.out)
   replace HO492 := ak (Kd.R_drew HO492.out)
   replace HO495 := ak (Kd.R_drew HO495.out)
   replace BK455 := kd BK455
   replace BK456 := kd BK456
   replace BK457 := kd BK457
   replace BK480 := kd BK480
   replace BK499 := kd BK499
   replace HB := ak (below_drew1 HB.out)
   refine sS (n := 10) (S := fun w' => w'.cell? ⟨gb456, 0, none⟩ = some (.int .i64 a1_0) ∧ w'.cell? ⟨gb456, 1, none⟩ = some (.slice A1_1 l1_1.length c1_1) ∧ w'.cell? ⟨gb456, 2, none⟩ = some (.slice A1_2 l1_2.length c1_2) ∧ w'.cell? ⟨gb457, 0, none⟩ = some (.int .i64 a2_0) ∧ w'.cell? ⟨gb457, 1, none⟩ = some (.int .i64 a2_1)) (ds := []) ⟨bc BK456 0, bc BK456 1, bc BK456 2, bc BK457 0, bc BK457 1⟩ (fun hHeld => ?_); refine with_tabW congoulaw04_CurvesSum.tab5 congoulaw04_CurvesSum.bits5 (fun HT_ HW_ => ?_)
   generalize w104.drew = w105 at HO_481001 HO_481002 HO492 HO495 BK455 BK456 BK457 BK480 BK499 HB hHeld ⊢
   refine tS 0 75 10 1 ?_
   refine tS 2 77 10 5 ?_
   refine join_ (σ := Value × Value × Nat) 2 (ba 10 255) (fun s_ => [(76, .agg #[.int .i64 t500, s_.1, s_.2.1]), (78, .tuple #[.agg #[.int .i64 t507, .int .i64 t508], .int .i64 t509]), (11, .pointer (some ⟨s_.2.2, 0, none⟩)), (74, .tuple #[.agg #[.int .i64 t507, .int .i64 t508], .int .i64 t509]), (79, .agg #[.int .i64 t507, .int .i64 t508]), (80, .int .i64 t509)]) (fun s_ w' => (w'.cell? ⟨gb456, 0, none⟩ = some (.int .i64 a1_0) ∧ w'.cell? ⟨gb456, 1, none⟩ = some (.slice A1_1 l1_1.length c1_1) ∧ w'.cell? ⟨gb456, 2, none⟩ = some (.slice A1_2 l1_2.length c1_2) ∧ w'.cell? ⟨gb457, 0, none⟩ = some (.int .i64 a2_0) ∧ w'.cell? ⟨gb457, 1, none⟩ = some (.int .i64 a2_1)) ∧ (Kd.R (Kd.int .i64) 3 w' w.heap.size (fun k_ => nb k_ v494 ∧ some k_ ≠ (s_.1 : Value).ownBlock ∧ some k_ ≠ (s_.2.1 : Value).ownBlock ∧ nb k_ (.slice Ao22 t473.length co22) ∧ nb k_ (.slice Ao24 t476.length co24)) v491 t490) ∧ (Kd.R (Kd.int .i64) 3 w' w.heap.size (fun k_ => nb k_ v491 ∧ some k_ ≠ (s_.1 : Value).ownBlock ∧ some k_ ≠ (s_.2.1 : Value).ownBlock ∧ nb k_ (.slice Ao22 t473.length co22) ∧ nb k_ (.slice Ao24 t476.length co24)) v494 t493) ∧ (Kd.R (Kd.int .i64) 3 w' w.heap.size (fun k_ => nb k_ v491 ∧ nb k_ v494 ∧ some k_ ≠ (s_.2.1 : Value).ownBlock ∧ nb k_ (.slice Ao22 t473.length co22) ∧ nb k_ (.slice Ao24 t476.length co24)) s_.1 t501) ∧ (Kd.R (Kd.int .i64) 3 w' w.heap.size (fun k_ => nb k_ v491 ∧ nb k_ v494 ∧ some k_ ≠ (s_.1 : Value).ownBlock ∧ nb k_ (.slice Ao22 t473.length co22) ∧ nb k_ (.slice Ao24 t476.length co24)) s_.2.1 t504) ∧ (Kd.R (Kd.int .i64) 3 w' w.heap.size (fun k_ => nb k_ v491 ∧ nb k_ v494 ∧ some k_ ≠ (s_.1 : Value).ownBlock ∧ some k_ ≠ (s_.2.1 : Value).ownBlock ∧ nb k_ (.slice Ao24 t476.length co24)) (.slice Ao22 t473.length co22) t473) ∧ (Kd.R (Kd.int .i64) 3 w' w.heap.size (fun k_ => nb k_ v491 ∧ nb k_ v494 ∧ some k_ ≠ (s_.1 : Value).ownBlock ∧ some k_ ≠ (s_.2.1 : Value).ownBlock ∧ nb k_ (.slice Ao22 t473.length co22)) (.slice Ao24 t476.length co24) t476) ∧ (w'.heap[gb455]? = some (.cells #[.int .i64 a0_0, .slice A0_1 l0_1.length c0_1, .slice A0_2 l0_2.length c0_2] 24 (0, 0))) ∧ (w'.heap[gb456]? = some (.cells #[.int .i64 a1_0, .slice A1_1 l1_1.length c1_1, .slice A1_2 l1_2.length c1_2] 24 (0, 0))) ∧ (w'.heap[gb457]? = some (.cells #[.int .i64 a2_0, .int .i64 a2_1] 26 (0, 0))) ∧ (w'.heap[gb480]? = some (.cells #[.int .i64 t472, .slice Ao22 t473.length co22, .slice Ao24 t476.length co24] 31 (0, 0))) ∧ (w'.heap[gb499]? = some (.cells #[.int .i64 t496, .int .i64 t497] 26 (0, 0))) ∧ (w'.heap[s_.2.2]? = some (.cells #[.int .i64 0, .int .i64 0] 26 (0, 0))) ∧ (w.heap.size ≤ s_.2.2) ∧ (w.heap.size ≤ s_.2.2) ∧ (gb455 ≠ s_.2.2) ∧ (s_.2.2 ≠ gb455) ∧ (gb456 ≠ s_.2.2) ∧ (s_.2.2 ≠ gb456) ∧ (gb457 ≠ s_.2.2) ∧ (s_.2.2 ≠ gb457) ∧ (gb480 ≠ s_.2.2) ∧ (s_.2.2 ≠ gb480) ∧ (gb499 ≠ s_.2.2) ∧ (s_.2.2 ≠ gb499) ∧ (Below w.heap.size w w')) ?_ ?_
   rotate_left
   ·intro hCont
    refine two_ (i := 1) (j := 7) (Ni := some 76) (Nj := some 11) (ba 10 7) (ba 10 133) rfl rfl rfl rfl (two_of HT_.out (by kernel_rfl)) (by decide) (by decide) (fun K hK => ?_) (fun K hK => ?_)
    ·skip
     refine gC Tryd.func7 #[.agg #[.int .i64 a1_0, .slice A1_1 l1_1.length c1_1, .slice A1_2 l1_2.length c1_2]] ?_
     with_reducible refine (congoulaw04_Of.calls a1_0 _ _ l1_1 _ _ l1_2 t500 t501 t504 _ ?side1 ?side2 ?side3 ?side4 A91.out).mono ?_
     (case side1 => exact kC HR1_1)
     (case side2 => exact HC1_1.out)
     (case side3 => exact kC HR1_2)
     (case side4 => exact HC1_2.out)
     rintro e w106 ⟨v502, v505, rfl, ho0, ho1, hb⟩
     refine ⟨_, rfl, ?_⟩
     have HO503 := ak (Kd.R_lower (Kd.R_new' (Kd.R_new' (Kd.R_new' (Kd.R_new' ho0 (Kd.R_lt (rC HO_481001))) (Kd.R_lt (rC HO_481002))) (Kd.R_lt (rC HO492))) (Kd.R_lt (rC HO495))) (below_size (hbC _)))
     have HO506 := ak (Kd.R_lower (Kd.R_new' (Kd.R_new' (Kd.R_new' (Kd.R_new' ho1 (Kd.R_lt (rC HO_481001))) (Kd.R_lt (rC HO_481002))) (Kd.R_lt (rC HO492))) (Kd.R_lt (rC HO495))) (below_size (hbC _)))
     replace HO_481001 := kT HO_481001 hb ho0 ho1
     replace HO_481002 := kT HO_481002 hb ho0 ho1
     replace HO492 := kT HO492 hb ho0 ho1
     replace HO495 := kT HO495 hb ho0 ho1
     replace BK455 := kB BK455 hb
     replace BK456 := kB BK456 hb
     replace BK457 := kB BK457 hb
     replace BK480 := kB BK480 hb
     replace BK499 := kB BK499 hb
     replace HB := kH _ hb
     (try clear hb)
     (try clear hb2)
     (try clear hk)
     (try clear hi)
     (try clear ho0)
     (try clear ho1)
     obtain ⟨Ao107, co107, eo107⟩ := Kd.R_slice HO503.out
     (first | subst eo107 | (injection eo107 with f1_ f2_ f3_; have f4_ := f1_.symm; have f5_ := f3_.symm; clear f1_ f2_ f3_; subst f4_; subst f5_))
     obtain ⟨Ao108, co108, eo108⟩ := Kd.R_slice HO506.out
     (first | subst eo108 | (injection eo108 with f1_ f2_ f3_; have f4_ := f1_.symm; have f5_ := f3_.symm; clear f1_ f2_ f3_; subst f4_; subst f5_))
     refine hK.out _ _ ⟨bc BK456 0, bc BK456 1, bc BK456 2, bc BK457 0, bc BK457 1⟩ (fun hHeld => ?_)
     clear hK K
     refine norm_ (a' := ?_) ?_ ?_
     rotate_left
     ·show Act.put _ (some 76) _ = _
      simp only [Act.put, List.setIfInBounds_toArray, List.set_cons_zero, List.set_cons_succ, i64_w, i32_w]
      rfl
     refine two_ (i := 3) (j := 7) (Ni := some 78) (Nj := some 11) (ba 10 15) (ba 10 135) rfl rfl rfl rfl (two_of HT_.out (by kernel_rfl)) (by decide) (by decide) (fun K hK => ?_) (fun K hK => ?_)
     ·skip
      refine gC Tryd.func14 #[.agg #[.int .i64 t500, .slice Ao107 t501.length co107, .slice Ao108 t504.length co108], .agg #[.int .i64 a2_0, .int .i64 a2_1]] ?_
      with_reducible refine (curves_Value.calls kj6 t500 _ _ t501 _ _ t504 a2_0 a2_1 t507 t508 t509 _ ?side1 ?side2 ?side3 ?side4 A92.out).mono ?_
      (case side1 => exact kD (Kd.R_reads' HO503.out).2.2)
      (case side2 => exact (Kd.R_reads' HO503.out).2.1)
      (case side3 => exact kD (Kd.R_reads' HO506.out).2.2)
      (case side4 => exact (Kd.R_reads' HO506.out).2.1)
      rintro e w109 ⟨rfl, hb⟩
      refine ⟨_, rfl, ?_⟩
      replace HO_481001 := kO HO_481001 hb
      replace HO_481002 := kO HO_481002 hb
      replace HO492 := kO HO492 hb
      replace HO495 := kO HO495 hb
      replace HO503 := kO HO503 hb
      replace HO506 := kO HO506 hb
      replace BK455 := kB BK455 hb
      replace BK456 := kB BK456 hb
      replace BK457 := kB BK457 hb
      replace BK480 := kB BK480 hb
      replace BK499 := kB BK499 hb
      replace HB := kH _ hb
      (try clear hb)
      (try clear hb2)
      (try clear hk)
      (try clear hi)
      refine hK.out _ _ ⟨bc BK456 0, bc BK456 1, bc BK456 2, bc BK457 0, bc BK457 1⟩ (fun hHeld => ?_)
      clear hK K
      refine norm_ (a' := ?_) ?_ ?_
      rotate_left
      ·show Act.put _ (some 78) _ = _
       simp only [Act.put, List.setIfInBounds_toArray, List.set_cons_zero, List.set_cons_succ, i64_w, i32_w]
       rfl
      refine pS 4 74 10 31 ?_
      refine pS 5 79 10 63 ?_
      refine pS 6 80 10 127 ?_
      refine one_ (i := 7) (N := some 11) (ba 10 255) rfl rfl (one_of HT_.out (by kernel_rfl)) (by decide) (fun K hK => ?_)
      refine box_step ?hg (N := 11) ?hd (cs := #[.int .i64 0, .int .i64 0]) (t := 26) ?hr ?_; (case hd => rfl); (case hg => rfl); (case hr => first | (go_simp; done) | (go_simp; rfl))
      intro gb510 hg w110 hbox hb
      replace HO_481001 := kO HO_481001 hb
      replace HO_481002 := kO HO_481002 hb
      replace HO492 := kO HO492 hb
      replace HO495 := kO HO495 hb
      replace HO503 := kO HO503 hb
      replace HO506 := kO HO506 hb
      have BK510 := ak (hbox)
      have GW510 := kG w hg
      have GE510 := kG w hg
      replace HB := kH _ hb
      have NB455_510 := kL BK455 hg
      have NB510_455 := kR BK455 hg
      replace BK455 := kB BK455 hb
      have NB456_510 := kL BK456 hg
      have NB510_456 := kR BK456 hg
      replace BK456 := kB BK456 hb
      have NB457_510 := kL BK457 hg
      have NB510_457 := kR BK457 hg
      replace BK457 := kB BK457 hb
      have NB480_510 := kL BK480 hg
      have NB510_480 := kR BK480 hg
      replace BK480 := kB BK480 hb
      have NB499_510 := kL BK499 hg
      have NB510_499 := kR BK499 hg
      replace BK499 := kB BK499 hb
      clear hb hbox hg
      refine hK.out _ _ ⟨bc BK456 0, bc BK456 1, bc BK456 2, bc BK457 0, bc BK457 1⟩ (fun hHeld => ?_)
      clear hK K
      refine norm_ (a' := ?_) ?_ ?_
      rotate_left
      ·show Act.put _ (some 11) _ = _
       simp only [Act.put, List.setIfInBounds_toArray, List.set_cons_zero, List.set_cons_succ, i64_w, i32_w]
       rfl
      exact norm_ (by simp only [putAll, Act.put, List.setIfInBounds_toArray, List.set_cons_zero, List.set_cons_succ]) (hCont (.slice Ao107 t501.length co107, .slice Ao108 t504.length co108, gb510) _ ⟨hHeld, (rD (Kd.R_mono HO492.out (fun _ hk => ⟨hk.1.1.2.2, ⟨hk.1.2, ⟨hk.2, ⟨hk.1.1.1, hk.1.1.2.1⟩⟩⟩⟩))), (rD (Kd.R_mono HO495.out (fun _ hk => ⟨hk.1.1.2.2, ⟨hk.1.2, ⟨hk.2, ⟨hk.1.1.1, hk.1.1.2.1⟩⟩⟩⟩))), (rD (Kd.R_mono HO503.out (fun _ hk => ⟨hk.1.2, ⟨hk.2, ⟨hk.1.1.1.1, ⟨hk.1.1.1.2, hk.1.1.2⟩⟩⟩⟩))), (rD (Kd.R_mono HO506.out (fun _ hk => ⟨hk.1.2, ⟨hk.2, ⟨hk.1.1.1.1, ⟨hk.1.1.1.2, hk.1.1.2⟩⟩⟩⟩))), (rD (Kd.R_mono HO_481001.out (fun _ hk => ⟨hk.1.1.2.1, ⟨hk.1.1.2.2, ⟨hk.1.2, ⟨hk.2, hk.1.1.1⟩⟩⟩⟩))), (rD (Kd.R_mono HO_481002.out (fun _ hk => ⟨hk.1.1.2.1, ⟨hk.1.1.2.2, ⟨hk.1.2, ⟨hk.2, hk.1.1.1⟩⟩⟩⟩))), (bkC BK455), (bkC BK456), (bkC BK457), (bkC BK480), (bkC BK499), (bkC BK510), GW510.out, GE510.out, NB455_510.out, NB510_455.out, NB456_510.out, NB510_456.out, NB457_510.out, NB510_457.out, NB480_510.out, NB510_480.out, NB499_510.out, NB510_499.out, (hbC _)⟩)
     ·skip
      refine box_step ?hg (N := 11) ?hd (cs := #[.int .i64 0, .int .i64 0]) (t := 26) ?hr ?_; (case hd => rfl); (case hg => rfl); (case hr => first | (go_simp; done) | (go_simp; rfl))
      intro gb510 hg w107 hbox hb
      replace HO_481001 := kO HO_481001 hb
      replace HO_481002 := kO HO_481002 hb
      replace HO492 := kO HO492 hb
      replace HO495 := kO HO495 hb
      replace HO503 := kO HO503 hb
      replace HO506 := kO HO506 hb
      have BK510 := ak (hbox)
      have GW510 := kG w hg
      have GE510 := kG w hg
      replace HB := kH _ hb
      have NB455_510 := kL BK455 hg
      have NB510_455 := kR BK455 hg
      replace BK455 := kB BK455 hb
      have NB456_510 := kL BK456 hg
      have NB510_456 := kR BK456 hg
      replace BK456 := kB BK456 hb
      have NB457_510 := kL BK457 hg
      have NB510_457 := kR BK457 hg
      replace BK457 := kB BK457 hb
      have NB480_510 := kL BK480 hg
      have NB510_480 := kR BK480 hg
      replace BK480 := kB BK480 hb
      have NB499_510 := kL BK499 hg
      have NB510_499 := kR BK499 hg
      replace BK499 := kB BK499 hb
      clear hb hbox hg
      obtain ⟨Ao108, co108, eo108⟩ := Kd.R_slice HO503.out
      (first | subst eo108 | (injection eo108 with f1_ f2_ f3_; have f4_ := f1_.symm; have f5_ := f3_.symm; clear f1_ f2_ f3_; subst f4_; subst f5_))
      obtain ⟨Ao109, co109, eo109⟩ := Kd.R_slice HO506.out
      (first | subst eo109 | (injection eo109 with f1_ f2_ f3_; have f4_ := f1_.symm; have f5_ := f3_.symm; clear f1_ f2_ f3_; subst f4_; subst f5_))
      refine hK.out _ _ ⟨bc BK456 0, bc BK456 1, bc BK456 2, bc BK457 0, bc BK457 1⟩ (fun hHeld => ?_)
      clear hK K
      refine norm_ (a' := ?_) ?_ ?_
      rotate_left
      ·show Act.put _ (some 11) _ = _
       simp only [Act.put, List.setIfInBounds_toArray, List.set_cons_zero, List.set_cons_succ, i64_w, i32_w]
       rfl
      refine one_ (i := 3) (N := some 78) (ba 10 143) rfl rfl (one_of HT_.out (by kernel_rfl)) (by decide) (fun K hK => ?_)
      refine gC Tryd.func14 #[.agg #[.int .i64 t500, .slice Ao108 t501.length co108, .slice Ao109 t504.length co109], .agg #[.int .i64 a2_0, .int .i64 a2_1]] ?_
      with_reducible refine (curves_Value.calls kj6 t500 _ _ t501 _ _ t504 a2_0 a2_1 t507 t508 t509 _ ?side1 ?side2 ?side3 ?side4 A92.out).mono ?_
      (case side1 => exact kD (Kd.R_reads' HO503.out).2.2)
      (case side2 => exact (Kd.R_reads' HO503.out).2.1)
      (case side3 => exact kD (Kd.R_reads' HO506.out).2.2)
      (case side4 => exact (Kd.R_reads' HO506.out).2.1)
      rintro e w110 ⟨rfl, hb⟩
      refine ⟨_, rfl, ?_⟩
      replace HO_481001 := kO HO_481001 hb
      replace HO_481002 := kO HO_481002 hb
      replace HO492 := kO HO492 hb
      replace HO495 := kO HO495 hb
      replace HO503 := kO HO503 hb
      replace HO506 := kO HO506 hb
      replace BK455 := kB BK455 hb
      replace BK456 := kB BK456 hb
      replace BK457 := kB BK457 hb
      replace BK480 := kB BK480 hb
      replace BK499 := kB BK499 hb
      replace BK510 := kB BK510 hb
      replace HB := kH _ hb
      (try clear hb)
      (try clear hb2)
      (try clear hk)
      (try clear hi)
      refine hK.out _ _ ⟨bc BK456 0, bc BK456 1, bc BK456 2, bc BK457 0, bc BK457 1⟩ (fun hHeld => ?_)
      clear hK K
      refine norm_ (a' := ?_) ?_ ?_
      rotate_left
      ·show Act.put _ (some 78) _ = _
       simp only [Act.put, List.setIfInBounds_toArray, List.set_cons_zero, List.set_cons_succ, i64_w, i32_w]
       rfl
      refine pS 4 74 10 159 ?_
      refine pS 5 79 10 191 ?_
      refine pS 6 80 10 255 ?_
      exact norm_ (by simp only [putAll, Act.put, List.setIfInBounds_toArray, List.set_cons_zero, List.set_cons_succ]) (hCont (.slice Ao108 t501.length co108, .slice Ao109 t504.length co109, gb510) _ ⟨hHeld, (rD (Kd.R_mono HO492.out (fun _ hk => ⟨hk.1.1.2.2, ⟨hk.1.2, ⟨hk.2, ⟨hk.1.1.1, hk.1.1.2.1⟩⟩⟩⟩))), (rD (Kd.R_mono HO495.out (fun _ hk => ⟨hk.1.1.2.2, ⟨hk.1.2, ⟨hk.2, ⟨hk.1.1.1, hk.1.1.2.1⟩⟩⟩⟩))), (rD (Kd.R_mono HO503.out (fun _ hk => ⟨hk.1.2, ⟨hk.2, ⟨hk.1.1.1.1, ⟨hk.1.1.1.2, hk.1.1.2⟩⟩⟩⟩))), (rD (Kd.R_mono HO506.out (fun _ hk => ⟨hk.1.2, ⟨hk.2, ⟨hk.1.1.1.1, ⟨hk.1.1.1.2, hk.1.1.2⟩⟩⟩⟩))), (rD (Kd.R_mono HO_481001.out (fun _ hk => ⟨hk.1.1.2.1, ⟨hk.1.1.2.2, ⟨hk.1.2, ⟨hk.2, hk.1.1.1⟩⟩⟩⟩))), (rD (Kd.R_mono HO_481002.out (fun _ hk => ⟨hk.1.1.2.1, ⟨hk.1.1.2.2, ⟨hk.1.2, ⟨hk.2, hk.1.1.1⟩⟩⟩⟩))), (bkC BK455), (bkC BK456), (bkC BK457), (bkC BK480), (bkC BK499), (bkC BK510), GW510.out, GE510.out, NB455_510.out, NB510_455.out, NB456_510.out, NB510_456.out, NB457_510.out, NB510_457.out, NB480_510.out, NB510_480.out, NB499_510.out, NB510_499.out, (hbC _)⟩)
    ·skip
     refine box_step ?hg (N := 11) ?hd (cs := #[.int .i64 0, .int .i64 0]) (t := 26) ?hr ?_; (case hd => rfl); (case hg => rfl); (case hr => first | (go_simp; done) | (go_simp; rfl))
     intro gb510 hg w106 hbox hb
     replace HO_481001 := kO HO_481001 hb
     replace HO_481002 := kO HO_481002 hb
     replace HO492 := kO HO492 hb
     replace HO495 := kO HO495 hb
     have BK510 := ak (hbox)
     have GW510 := kG w hg
     have GE510 := kG w hg
     replace HB := kH _ hb
     have NB455_510 := kL BK455 hg
     have NB510_455 := kR BK455 hg
     replace BK455 := kB BK455 hb
     have NB456_510 := kL BK456 hg
     have NB510_456 := kR BK456 hg
     replace BK456 := kB BK456 hb
     have NB457_510 := kL BK457 hg
     have NB510_457 := kR BK457 hg
     replace BK457 := kB BK457 hb
     have NB480_510 := kL BK480 hg
     have NB510_480 := kR BK480 hg
     replace BK480 := kB BK480 hb
     have NB499_510 := kL BK499 hg
     have NB510_499 := kR BK499 hg
     replace BK499 := kB BK499 hb
     clear hb hbox hg
     refine hK.out _ _ ⟨bc BK456 0, bc BK456 1, bc BK456 2, bc BK457 0, bc BK457 1⟩ (fun hHeld => ?_)
     clear hK K
     refine norm_ (a' := ?_) ?_ ?_
     rotate_left
     ·show Act.put _ (some 11) _ = _
      simp only [Act.put, List.setIfInBounds_toArray, List.set_cons_zero, List.set_cons_succ, i64_w, i32_w]
      rfl
     refine one_ (i := 1) (N := some 76) (ba 10 135) rfl rfl (one_of HT_.out (by kernel_rfl)) (by decide) (fun K hK => ?_)
     refine gC Tryd.func7 #[.agg #[.int .i64 a1_0, .slice A1_1 l1_1.length c1_1, .slice A1_2 l1_2.length c1_2]] ?_
     with_reducible refine (congoulaw04_Of.calls a1_0 _ _ l1_1 _ _ l1_2 t500 t501 t504 _ ?side1 ?side2 ?side3 ?side4 A91.out).mono ?_
     (case side1 => exact kC HR1_1)
     (case side2 => exact HC1_1.out)
     (case side3 => exact kC HR1_2)
     (case side4 => exact HC1_2.out)
     rintro e w107 ⟨v502, v505, rfl, ho0, ho1, hb⟩
     refine ⟨_, rfl, ?_⟩
     have HO503 := ak (Kd.R_lower (Kd.R_new' (Kd.R_new' (Kd.R_new' (Kd.R_new' ho0 (Kd.R_lt (rC HO_481001))) (Kd.R_lt (rC HO_481002))) (Kd.R_lt (rC HO492))) (Kd.R_lt (rC HO495))) (below_size (hbC _)))
     have HO506 := ak (Kd.R_lower (Kd.R_new' (Kd.R_new' (Kd.R_new' (Kd.R_new' ho1 (Kd.R_lt (rC HO_481001))) (Kd.R_lt (rC HO_481002))) (Kd.R_lt (rC HO492))) (Kd.R_lt (rC HO495))) (below_size (hbC _)))
     replace HO_481001 := kT HO_481001 hb ho0 ho1
     replace HO_481002 := kT HO_481002 hb ho0 ho1
     replace HO492 := kT HO492 hb ho0 ho1
     replace HO495 := kT HO495 hb ho0 ho1
     replace BK455 := kB BK455 hb
     replace BK456 := kB BK456 hb
     replace BK457 := kB BK457 hb
     replace BK480 := kB BK480 hb
     replace BK499 := kB BK499 hb
     replace BK510 := kB BK510 hb
     replace HB := kH _ hb
     (try clear hb)
     (try clear hb2)
     (try clear hk)
     (try clear hi)
     (try clear ho0)
     (try clear ho1)
     obtain ⟨Ao108, co108, eo108⟩ := Kd.R_slice HO503.out
     (first | subst eo108 | (injection eo108 with f1_ f2_ f3_; have f4_ := f1_.symm; have f5_ := f3_.symm; clear f1_ f2_ f3_; subst f4_; subst f5_))
     obtain ⟨Ao109, co109, eo109⟩ := Kd.R_slice HO506.out
     (first | subst eo109 | (injection eo109 with f1_ f2_ f3_; have f4_ := f1_.symm; have f5_ := f3_.symm; clear f1_ f2_ f3_; subst f4_; subst f5_))
     refine hK.out _ _ ⟨bc BK456 0, bc BK456 1, bc BK456 2, bc BK457 0, bc BK457 1⟩ (fun hHeld => ?_)
     clear hK K
     refine norm_ (a' := ?_) ?_ ?_
     rotate_left
     ·show Act.put _ (some 76) _ = _
      simp only [Act.put, List.setIfInBounds_toArray, List.set_cons_zero, List.set_cons_succ, i64_w, i32_w]
      rfl
     refine one_ (i := 3) (N := some 78) (ba 10 143) rfl rfl (one_of HT_.out (by kernel_rfl)) (by decide) (fun K hK => ?_)
     refine gC Tryd.func14 #[.agg #[.int .i64 t500, .slice Ao108 t501.length co108, .slice Ao109 t504.length co109], .agg #[.int .i64 a2_0, .int .i64 a2_1]] ?_
     with_reducible refine (curves_Value.calls kj6 t500 _ _ t501 _ _ t504 a2_0 a2_1 t507 t508 t509 _ ?side1 ?side2 ?side3 ?side4 A92.out).mono ?_
     (case side1 => exact kD (Kd.R_reads' HO503.out).2.2)
     (case side2 => exact (Kd.R_reads' HO503.out).2.1)
     (case side3 => exact kD (Kd.R_reads' HO506.out).2.2)
     (case side4 => exact (Kd.R_reads' HO506.out).2.1)
     rintro e w110 ⟨rfl, hb⟩
     refine ⟨_, rfl, ?_⟩
     replace HO_481001 := kO HO_481001 hb
     replace HO_481002 := kO HO_481002 hb
     replace HO492 := kO HO492 hb
     replace HO495 := kO HO495 hb
     replace HO503 := kO HO503 hb
     replace HO506 := kO HO506 hb
     replace BK455 := kB BK455 hb
     replace BK456 := kB BK456 hb
     replace BK457 := kB BK457 hb
     replace BK480 := kB BK480 hb
     replace BK499 := kB BK499 hb
     replace BK510 := kB BK510 hb
     replace HB := kH _ hb
     (try clear hb)
     (try clear hb2)
     (try clear hk)
     (try clear hi)
     refine hK.out _ _ ⟨bc BK456 0, bc BK456 1, bc BK456 2, bc BK457 0, bc BK457 1⟩ (fun hHeld => ?_)
     clear hK K
     refine norm_ (a' := ?_) ?_ ?_
     rotate_left
     ·show Act.put _ (some 78) _ = _
      simp only [Act.put, List.setIfInBounds_toArray, List.set_cons_zero, List.set_cons_succ, i64_w, i32_w]
      rfl
     refine pS 4 74 10 159 ?_
     refine pS 5 79 10 191 ?_
     refine pS 6 80 10 255 ?_
     exact norm_ (by simp only [putAll, Act.put, List.setIfInBounds_toArray, List.set_cons_zero, List.set_cons_succ]) (hCont (.slice Ao108 t501.length co108, .slice Ao109 t504.length co109, gb510) _ ⟨hHeld, (rD (Kd.R_mono HO492.out (fun _ hk => ⟨hk.1.1.2.2, ⟨hk.1.2, ⟨hk.2, ⟨hk.1.1.1, hk.1.1.2.1⟩⟩⟩⟩))), (rD (Kd.R_mono HO495.out (fun _ hk => ⟨hk.1.1.2.2, ⟨hk.1.2, ⟨hk.2, ⟨hk.1.1.1, hk.1.1.2.1⟩⟩⟩⟩))), (rD (Kd.R_mono HO503.out (fun _ hk => ⟨hk.1.2, ⟨hk.2, ⟨hk.1.1.1.1, ⟨hk.1.1.1.2, hk.1.1.2⟩⟩⟩⟩))), (rD (Kd.R_mono HO506.out (fun _ hk => ⟨hk.1.2, ⟨hk.2, ⟨hk.1.1.1.1, ⟨hk.1.1.1.2, hk.1.1.2⟩⟩⟩⟩))), (rD (Kd.R_mono HO_481001.out (fun _ hk => ⟨hk.1.1.2.1, ⟨hk.1.1.2.2, ⟨hk.1.2, ⟨hk.2, hk.1.1.1⟩⟩⟩⟩))), (rD (Kd.R_mono HO_481002.out (fun _ hk => ⟨hk.1.1.2.1, ⟨hk.1.1.2.2, ⟨hk.1.2, ⟨hk.2, hk.1.1.1⟩⟩⟩⟩))), (bkC BK455), (bkC BK456), (bkC BK457), (bkC BK480), (bkC BK499), (bkC BK510), GW510.out, GE510.out, NB455_510.out, NB510_455.out, NB456_510.out, NB510_456.out, NB457_510.out, NB510_457.out, NB480_510.out, NB510_480.out, NB499_510.out, NB510_499.out, (hbC _)⟩)
   rintro ⟨v502, v505, gb510⟩ w111 ⟨hS_, h0_, h1_, h2_, h3_, h4_, h5_, h6_, h7_, h8_, h9_, h10_, h11_, h12_, h13_, h14_, h15_, h16_, h17_, h18_, h19_, h20_, h21_, h22_, h23_, h24_⟩
   have n0_ : Aside0 (Kd.R (Kd.int .i64) 3 w111 w.heap.size (fun k_ => nb k_ v494 ∧ nb k_ v502 ∧ nb k_ v505 ∧ nb k_ (.slice Ao22 t473.length co22) ∧ nb k_ (.slice Ao24 t476.length co24)) v491 t490) := ⟨h0_⟩
   have n1_ : Aside0 (Kd.R (Kd.int .i64) 3 w111 w.heap.size (fun k_ => nb k_ v491 ∧ nb k_ v502 ∧ nb k_ v505 ∧ nb k_ (.slice Ao22 t473.length co22) ∧ nb k_ (.slice Ao24 t476.length co24)) v494 t493) := ⟨h1_⟩
   have n2_ : Aside0 (Kd.R (Kd.int .i64) 3 w111 w.heap.size (fun k_ => nb k_ v491 ∧ nb k_ v494 ∧ nb k_ v505 ∧ nb k_ (.slice Ao22 t473.length co22) ∧ nb k_ (.slice Ao24 t476.length co24)) v502 t501) := ⟨h2_⟩
   have n3_ : Aside0 (Kd.R (Kd.int .i64) 3 w111 w.heap.size (fun k_ => nb k_ v491 ∧ nb k_ v494 ∧ nb k_ v502 ∧ nb k_ (.slice Ao22 t473.length co22) ∧ nb k_ (.slice Ao24 t476.length co24)) v505 t504) := ⟨h3_⟩
   have n4_ : Aside0 (Kd.R (Kd.int .i64) 3 w111 w.heap.size (fun k_ => nb k_ v491 ∧ nb k_ v494 ∧ nb k_ v502 ∧ nb k_ v505 ∧ nb k_ (.slice Ao24 t476.length co24)) (.slice Ao22 t473.length co22) t473) := ⟨h4_⟩
   have n5_ : Aside0 (Kd.R (Kd.int .i64) 3 w111 w.heap.size (fun k_ => nb k_ v491 ∧ nb k_ v494 ∧ nb k_ v502 ∧ nb k_ v505 ∧ nb k_ (.slice Ao22 t473.length co22)) (.slice Ao24 t476.length co24) t476) := ⟨h5_⟩
   have n6_ : Aside0 (w111.heap[gb455]? = some (.cells #[.int .i64 a0_0, .slice A0_1 l0_1.length c0_1, .slice A0_2 l0_2.length c0_2] 24 (0, 0))) := ⟨h6_⟩
   have n7_ : Aside0 (w111.heap[gb456]? = some (.cells #[.int .i64 a1_0, .slice A1_1 l1_1.length c1_1, .slice A1_2 l1_2.length c1_2] 24 (0, 0))) := ⟨h7_⟩
   have n8_ : Aside0 (w111.heap[gb457]? = some (.cells #[.int .i64 a2_0, .int .i64 a2_1] 26 (0, 0))) := ⟨h8_⟩
   have n9_ : Aside0 (w111.heap[gb480]? = some (.cells #[.int .i64 t472, .slice Ao22 t473.length co22, .slice Ao24 t476.length co24] 31 (0, 0))) := ⟨h9_⟩
   have n10_ : Aside0 (w111.heap[gb499]? = some (.cells #[.int .i64 t496, .int .i64 t497] 26 (0, 0))) := ⟨h10_⟩
   have n11_ : Aside0 (w111.heap[gb510]? = some (.cells #[.int .i64 0, .int .i64 0] 26 (0, 0))) := ⟨h11_⟩
   have n12_ : Aside0 (w.heap.size ≤ gb510) := ⟨h12_⟩
   have n13_ : Aside0 (w.heap.size ≤ gb510) := ⟨h13_⟩
   have n14_ : Aside0 (gb455 ≠ gb510) := ⟨h14_⟩
   have n15_ : Aside0 (gb510 ≠ gb455) := ⟨h15_⟩
   have n16_ : Aside0 (gb456 ≠ gb510) := ⟨h16_⟩
   have n17_ : Aside0 (gb510 ≠ gb456) := ⟨h17_⟩
   have n18_ : Aside0 (gb457 ≠ gb510) := ⟨h18_⟩
   have n19_ : Aside0 (gb510 ≠ gb457) := ⟨h19_⟩
   have n20_ : Aside0 (gb480 ≠ gb510) := ⟨h20_⟩
   have n21_ : Aside0 (gb510 ≠ gb480) := ⟨h21_⟩
   have n22_ : Aside0 (gb499 ≠ gb510) := ⟨h22_⟩
   have n23_ : Aside0 (gb510 ≠ gb499) := ⟨h23_⟩
   have n24_ : Aside0 (Below w.heap.size w w111) := ⟨h24_⟩
   clear HO_481001
   clear HO_481002
   clear HO492
   clear HO495
   clear BK455
   clear BK456
   clear BK457
   clear BK480
   clear BK499
   clear HB
   clear h0_ h1_ h2_ h3_ h4_ h5_ h6_ h7_ h8_ h9_ h10_ h11_ h12_ h13_ h14_ h15_ h16_ h17_ h18_ h19_ h20_ h21_ h22_ h23_ h24_
   have HO492 := n0_
   have HO495 := n1_
   have HO503 := n2_
   have HO506 := n3_
   have HO_481001 := n4_
   have HO_481002 := n5_
   have BK455 := n6_
   have BK456 := n7_
   have BK457 := n8_
   have BK480 := n9_
   have BK499 := n10_
   have BK510 := n11_
   have GW510 := n12_
   have GE510 := n13_
   have NB455_510 := n14_
   have NB510_455 := n15_
   have NB456_510 := n16_
   have NB510_456 := n17_
   have NB457_510 := n18_
   have NB510_457 := n19_
   have NB480_510 := n20_
   have NB510_480 := n21_
   have NB499_510 := n22_
   have NB510_499 := n23_
   have HB := n24_
   clear n0_ n1_ n2_ n3_ n4_ n5_ n6_ n7_ n8_ n9_ n10_ n11_ n12_ n13_ n14_ n15_ n16_ n17_ n18_ n19_ n20_ n21_ n22_ n23_ n24_
   have hHeld : w111.cell? ⟨gb456, 0, none⟩ = some (.int .i64 a1_0) ∧ w111.cell? ⟨gb456, 1, none⟩ = some (.slice A1_1 l1_1.length c1_1) ∧ w111.cell? ⟨gb456, 2, none⟩ = some (.slice A1_2 l1_2.length c1_2) ∧ w111.cell? ⟨gb457, 0, none⟩ = some (.int .i64 a2_0) ∧ w111.cell? ⟨gb457, 1, none⟩ = some (.int .i64 a2_1) := hS_
   refine norm_ (a' := ?_) ?_ ?_
   rotate_left
   ·simp only [putAll, Act.put, List.setIfInBounds_toArray, List.set_cons_zero, List.set_cons_succ]
    rfl
   refine one_ (i := 8) (N := none) (ba 10 511) rfl rfl (one_of HT_.out (by kernel_rfl)) (by decide) (fun K hK => ?_)
   have hs112 : w111.cell? ⟨gb510, 0, none⟩ = some (.int .i64 0) := bc BK510 0
   have hfs112 := fz BK510 0
   have hns112_0 := NB455_510.out
   have hns112_1 := NB456_510.out
   have hns112_2 := NB457_510.out
   have hns112_3 := NB480_510.out
   have hns112_4 := NB499_510.out
   have hms112_0 := NB510_455.out
   have hms112_1 := NB510_456.out
   have hms112_2 := NB510_457.out
   have hms112_3 := NB510_480.out
   have hms112_4 := NB510_499.out
   have hs113 : w111.cell? ⟨gb510, 1, none⟩ = some (.int .i64 0) := bc BK510 1
   have hfs113 := fz BK510 1
   have hns113_0 := NB455_510.out
   have hns113_1 := NB456_510.out
   have hns113_2 := NB457_510.out
   have hns113_3 := NB480_510.out
   have hns113_4 := NB499_510.out
   have hms113_0 := NB510_455.out
   have hms113_1 := NB510_456.out
   have hms113_2 := NB510_457.out
   have hms113_3 := NB510_480.out
   have hms113_4 := NB510_499.out
   refine skip_ (w1 := ?_) (by rfl) rfl ?_ ?_
   rotate_left
   ·go_simp
    rfl
   refine hK.out _ _ ⟨((cell_far (p := ⟨gb510, _, none⟩) NB456_510.out _).trans (((cell_far (p := ⟨gb510, _, none⟩) NB456_510.out _).trans (hHeld.1)))), ((cell_far (p := ⟨gb510, _, none⟩) NB456_510.out _).trans (((cell_far (p := ⟨gb510, _, none⟩) NB456_510.out _).trans (hHeld.2.1)))), ((cell_far (p := ⟨gb510, _, none⟩) NB456_510.out _).trans (((cell_far (p := ⟨gb510, _, none⟩) NB456_510.out _).trans (hHeld.2.2.1)))), ((cell_far (p := ⟨gb510, _, none⟩) NB457_510.out _).trans (((cell_far (p := ⟨gb510, _, none⟩) NB457_510.out _).trans (hHeld.2.2.2.1)))), ((cell_far (p := ⟨gb510, _, none⟩) NB457_510.out _).trans (((cell_far (p := ⟨gb510, _, none⟩) NB457_510.out _).trans (hHeld.2.2.2.2))))⟩ (fun hHeld => ?_)
   clear hK K
   refine pS 9 12 10 1023 ?_
   refine done_ (done_of HT_.out (by kernel_rfl)) ?_
   have hnb114 := NB480_455.out
   have hnc114 := NB455_480.out
   have hnb115 := NB480_456.out
   have hnc115 := NB456_480.out
   have hnb116 := NB480_457.out
   have hnc116 := NB457_480.out
   have hnb117 := NB480_499.out
   have hnc117 := NB499_480.out
   have hnb118 := NB480_510.out
   have hnc118 := NB510_480.out
   have hcz119_0 : w111.cell? ⟨gb480, 0, none⟩ = some (.int .i64 t472) := bc BK480 0
   have hcz119_1 : w111.cell? ⟨gb480, 1, none⟩ = some (.slice Ao22 t473.length co22) := bc BK480 1
   have hcz119_2 : w111.cell? ⟨gb480, 2, none⟩ = some (.slice Ao24 t476.length co24) := bc BK480 2
   have hfz119_0 := fz BK480 0
   have hfz119_1 := fz BK480 1
   have hfz119_2 := fz BK480 2
   have hnb120 := NB457_455.out
   have hnc120 := NB455_457.out
   have hnb121 := NB457_456.out
   have hnc121 := NB456_457.out
   have hnb122 := NB457_499.out
   have hnc122 := NB499_457.out
   have hnb123 := NB457_510.out
   have hnc123 := NB510_457.out
   have hcz124_0 : w111.cell? ⟨gb457, 0, none⟩ = some (.int .i64 a2_0) := bc BK457 0
   have hcz124_1 : w111.cell? ⟨gb457, 1, none⟩ = some (.int .i64 a2_1) := bc BK457 1
   have hfz124_0 := fz BK457 0
   have hfz124_1 := fz BK457 1
   go_upto_region 7 with (first | ((with_reducible refine gate_callee (f := 14) rfl ?_); refine gL 84 Tryd.func14 #[.agg #[.int .i64 t472, .slice Ao22 t473.length co22, .slice Ao24 t476.length co24], .agg #[.int .i64 a2_0, .int .i64 a2_1]] ?_; (with_reducible refine (curves_Value.calls kj6 t472 _ _ t473 _ _ t476 a2_0 a2_1 t511 t512 t513 _ ?side1 ?side2 ?side3 ?side4 A93.out).mono ?_); (case side1 => refine (Kd.R_reads' (e := 3) (base := w.heap.size) (ok := fun k_ => (nb k_ v491 ∧ (nb k_ v494 ∧ (nb k_ v502 ∧ (nb k_ v505 ∧ nb k_ (.slice Ao24 t476.length co24)))))) (n := t473.length) (c := co22) ?_).2.2; exact (rD ((Kd.R_mono (Kd.R_far (p := ⟨gb510, 1, none⟩) (Kd.R_far (p := ⟨gb510, 0, none⟩) (Kd.R_types HO_481001.out BK510.out (by decide)) (fun _ hk => hk.2) (.int .i64 t507)) (fun _ hk => hk.2) (.int .i64 t508)) (fun _ h_ => h_.1))))); (case side2 => exact (Kd.R_reads' HO_481001.out).2.1); (case side3 => refine (Kd.R_reads' (e := 3) (base := w.heap.size) (ok := fun k_ => (nb k_ v491 ∧ (nb k_ v494 ∧ (nb k_ v502 ∧ (nb k_ v505 ∧ nb k_ (.slice Ao22 t473.length co22)))))) (n := t476.length) (c := co24) ?_).2.2; exact (rD ((Kd.R_mono (Kd.R_far (p := ⟨gb510, 1, none⟩) (Kd.R_far (p := ⟨gb510, 0, none⟩) (Kd.R_types HO_481002.out BK510.out (by decide)) (fun _ hk => hk.2) (.int .i64 t507)) (fun _ hk => hk.2) (.int .i64 t508)) (fun _ h_ => h_.1))))); (case side4 => exact (Kd.R_reads' HO_481002.out).2.1); rintro e w125 ⟨rfl, hb⟩; refine ⟨_, rfl, ?_⟩; replace HO_481001 := ak (Kd.R_below (rD ((Kd.R_mono (Kd.R_far (p := ⟨gb510, 1, none⟩) (Kd.R_far (p := ⟨gb510, 0, none⟩) (Kd.R_types HO_481001.out BK510.out (by decide)) (fun _ hk => hk.2) (.int .i64 t507)) (fun _ hk => hk.2) (.int .i64 t508)) (fun _ h_ => h_.1)))) hb); replace HO_481002 := ak (Kd.R_below (rD ((Kd.R_mono (Kd.R_far (p := ⟨gb510, 1, none⟩) (Kd.R_far (p := ⟨gb510, 0, none⟩) (Kd.R_types HO_481002.out BK510.out (by decide)) (fun _ hk => hk.2) (.int .i64 t507)) (fun _ hk => hk.2) (.int .i64 t508)) (fun _ h_ => h_.1)))) hb); replace HO492 := ak (Kd.R_below (rD ((Kd.R_mono (Kd.R_far (p := ⟨gb510, 1, none⟩) (Kd.R_far (p := ⟨gb510, 0, none⟩) (Kd.R_types HO492.out BK510.out (by decide)) (fun _ hk => hk.2) (.int .i64 t507)) (fun _ hk => hk.2) (.int .i64 t508)) (fun _ h_ => h_.1)))) hb); replace HO495 := ak (Kd.R_below (rD ((Kd.R_mono (Kd.R_far (p := ⟨gb510, 1, none⟩) (Kd.R_far (p := ⟨gb510, 0, none⟩) (Kd.R_types HO495.out BK510.out (by decide)) (fun _ hk => hk.2) (.int .i64 t507)) (fun _ hk => hk.2) (.int .i64 t508)) (fun _ h_ => h_.1)))) hb); replace HO503 := ak (Kd.R_below (rD ((Kd.R_mono (Kd.R_far (p := ⟨gb510, 1, none⟩) (Kd.R_far (p := ⟨gb510, 0, none⟩) (Kd.R_types HO503.out BK510.out (by decide)) (fun _ hk => hk.2) (.int .i64 t507)) (fun _ hk => hk.2) (.int .i64 t508)) (fun _ h_ => h_.1)))) hb); replace HO506 := ak (Kd.R_below (rD ((Kd.R_mono (Kd.R_far (p := ⟨gb510, 1, none⟩) (Kd.R_far (p := ⟨gb510, 0, none⟩) (Kd.R_types HO506.out BK510.out (by decide)) (fun _ hk => hk.2) (.int .i64 t507)) (fun _ hk => hk.2) (.int .i64 t508)) (fun _ h_ => h_.1)))) hb); replace BK455 := ak (blk_below (g := gb455) (o := .cells #[.int .i64 a0_0, .slice A0_1 l0_1.length c0_1, .slice A0_2 l0_2.length c0_2] 24 (0, 0)) (bF BK455) hb); replace BK456 := ak (blk_below (g := gb456) (o := .cells #[.int .i64 a1_0, .slice A1_1 l1_1.length c1_1, .slice A1_2 l1_2.length c1_2] 24 (0, 0)) (bF BK456) hb); replace BK457 := ak (blk_below (g := gb457) (o := .cells #[.int .i64 a2_0, .int .i64 a2_1] 26 (0, 0)) (bF BK457) hb); replace BK480 := ak (blk_below (g := gb480) (o := .cells #[.int .i64 t472, .slice Ao22 t473.length co22, .slice Ao24 t476.length co24] 31 (0, 0)) (bF BK480) hb); replace BK499 := ak (blk_below (g := gb499) (o := .cells #[.int .i64 t496, .int .i64 t497] 26 (0, 0)) (bF BK499) hb); replace BK510 := ak (blk_below (g := gb510) (o := .cells #[.int .i64 t507, .int .i64 t508] 26 (0, 0)) (by (with_reducible repeat (first | refine blk_drewN ?_ _ | refine blk_drew ?_ | refine blk_alloc ?_ _)); refine blk_put (cs := #[.int .i64 t507, .int .i64 0]) ?_ 1 _ rfl; (with_reducible repeat (first | refine blk_drewN ?_ _ | refine blk_drew ?_ | refine blk_alloc ?_ _)); refine blk_put (cs := #[.int .i64 0, .int .i64 0]) ?_ 0 _ rfl; (with_reducible repeat (first | refine blk_drewN ?_ _ | refine blk_drew ?_ | refine blk_alloc ?_ _)); exact BK510.out) hb); replace HB := kH _ hb; (try clear hb); (try clear hb2); (try clear hk); (try clear hi)) | ((with_reducible refine gate_dst (N := 13) rfl ?_); refine bE 13 #[.int .i64 0, .int .i64 0] 26 ?_; intro gb514 hg w126 hbox hb; replace HO_481001 := kO HO_481001 hb; replace HO_481002 := kO HO_481002 hb; replace HO492 := kO HO492 hb; replace HO495 := kO HO495 hb; replace HO503 := kO HO503 hb; replace HO506 := kO HO506 hb; have BK514 := ak (hbox); have GW514 := kG w hg; have GE514 := kG w hg; replace HB := kH _ hb; have NB455_514 := kL BK455 hg; have NB514_455 := kR BK455 hg; replace BK455 := kB BK455 hb; have NB456_514 := kL BK456 hg; have NB514_456 := kR BK456 hg; replace BK456 := kB BK456 hb; have NB457_514 := kL BK457 hg; have NB514_457 := kR BK457 hg; replace BK457 := kB BK457 hb; have NB480_514 := kL BK480 hg; have NB514_480 := kR BK480 hg; replace BK480 := kB BK480 hb; have NB499_514 := kL BK499 hg; have NB514_499 := kR BK499 hg; replace BK499 := kB BK499 hb; have NB510_514 := kL BK510 hg; have NB514_510 := kR BK510 hg; replace BK510 := kB BK510 hb; clear hb hbox hg; have hnb127 := NB514_455.out; have hnc127 := NB455_514.out; have hnb128 := NB514_456.out; have hnc128 := NB456_514.out; have hnb129 := NB514_457.out; have hnc129 := NB457_514.out; have hnb130 := NB514_480.out; have hnc130 := NB480_514.out; have hnb131 := NB514_499.out; have hnc131 := NB499_514.out; have hnb132 := NB514_510.out; have hnc132 := NB510_514.out; have hcz133_0 : w126.cell? ⟨gb514, 0, none⟩ = some (.int .i64 0) := bc BK514 0; have hcz133_1 : w126.cell? ⟨gb514, 1, none⟩ = some (.int .i64 0) := bc BK514 1; have hfz133_0 := fz BK514 0; have hfz133_1 := fz BK514 1))
   (try simp only [Act.put, List.setIfInBounds_toArray, List.set_cons_zero, List.set_cons_succ])
   go_cut [96] (fun v96 wc => ∃ (kq : Nat) (x96_93 : Bool), v96 = .bool x96_93 ∧ Aside0 (congoulaw04_CurvesSum.j1 kq x96_93 t496 t497 t507 t508 t511 t512 = some r) ∧ Aside0 (kq ≤ kj6) ∧ Aside0 (Kd.R (Kd.int .i64) 3 wc w.heap.size (fun k_ => some k_ ≠ ((.slice Ao24 t476.length co24) : Value).ownBlock) (.slice Ao22 t473.length co22) t473) ∧ Aside0 (Kd.R (Kd.int .i64) 3 wc w.heap.size (fun k_ => some k_ ≠ ((.slice Ao22 t473.length co22) : Value).ownBlock) (.slice Ao24 t476.length co24) t476) ∧ Aside0 (wc.heap[gb455]? = some (.cells #[.int .i64 a0_0, (.slice A0_1 l0_1.length c0_1), (.slice A0_2 l0_2.length c0_2)] 24 (0, 0))) ∧ Aside0 (wc.heap[gb456]? = some (.cells #[.int .i64 a1_0, (.slice A1_1 l1_1.length c1_1), (.slice A1_2 l1_2.length c1_2)] 24 (0, 0))) ∧ Aside0 (wc.heap[gb457]? = some (.cells #[.int .i64 a2_0, .int .i64 a2_1] 26 (0, 0))) ∧ Aside0 (wc.heap[gb480]? = some (.cells #[.int .i64 t472, (.slice Ao22 t473.length co22), (.slice Ao24 t476.length co24)] 31 (0, 0))) ∧ Aside0 (wc.heap[gb499]? = some (.cells #[.int .i64 t496, .int .i64 t497] 26 (0, 0))) ∧ Aside0 (wc.heap[gb510]? = some (.cells #[.int .i64 t507, .int .i64 t508] 26 (0, 0))) ∧ Aside0 (wc.heap[gb514]? = some (.cells #[.int .i64 t511, .int .i64 t512] 26 (0, 0))) ∧ Aside0 (Below w.heap.size w wc))
   case first =>
    have H := HC94.out
    clear HC94
    by_cases c134 : t498 = 0
    rotate_left
    ·rw [if_neg c134] at H
     have c134b0 : (t498 == 0) = false := beq_eq_false_iff_ne.mpr c134
     have c134b1 : (t498 != 0) = true := bne_iff_ne.mpr c134
     (first | rw [c134b0] | (simp only [i64_w, i32_w]; rw [c134b0]) | skip)
     have H' := Aside0.mk H
     clear H
     go_wp2
     go_meet
     case rel => exact ⟨_, (true), (by first | rfl | (simp; done) | (simp [*]; done)), H', ⟨by have := HJ6.out; first | omega | exact Nat.le_refl _⟩, ⟨rD (Kd.R_mono (Kd.R_far (p := ⟨gb514, 1, none⟩) (Kd.R_far (p := ⟨gb514, 0, none⟩) (Kd.R_types HO_481001.out BK514.out (by decide)) (fun _ hk => hk.2) (.int .i64 t511)) (fun _ hk => hk.2) (.int .i64 t512)) (fun _ hk => hk.1.2.2.2.2))⟩, ⟨rD (Kd.R_mono (Kd.R_far (p := ⟨gb514, 1, none⟩) (Kd.R_far (p := ⟨gb514, 0, none⟩) (Kd.R_types HO_481002.out BK514.out (by decide)) (fun _ hk => hk.2) (.int .i64 t511)) (fun _ hk => hk.2) (.int .i64 t512)) (fun _ hk => hk.1.2.2.2.2))⟩, ⟨bF BK455⟩, ⟨bF BK456⟩, ⟨bF BK457⟩, ⟨bF BK480⟩, ⟨bF BK499⟩, ⟨bF BK510⟩, ⟨by (with_reducible repeat (first | refine blk_drewN ?_ _ | refine blk_drew ?_ | refine blk_alloc ?_ _)); refine blk_put (cs := #[.int .i64 t511, .int .i64 0]) ?_ 1 _ rfl; (with_reducible repeat (first | refine blk_drewN ?_ _ | refine blk_drew ?_ | refine blk_alloc ?_ _)); refine blk_put (cs := #[.int .i64 0, .int .i64 0]) ?_ 0 _ rfl; (with_reducible repeat (first | refine blk_drewN ?_ _ | refine blk_drew ?_ | refine blk_alloc ?_ _)); exact BK514.out⟩, ⟨hbC _⟩⟩
    rw [if_pos c134] at H
    have c134b0 : (t498 == 0) = true := beq_iff_eq.mpr c134
    have c134b1 : (t498 != 0) = false := bne_eq_false_iff_eq.mpr c134
    clear c134
    (first | rw [c134b0] | (simp only [i64_w, i32_w]; rw [c134b0]) | skip)
    by_cases c135 : t509 = 0
    rotate_left
    ·rw [if_neg c135] at H
     have c135b0 : (t509 == 0) = false := beq_eq_false_iff_ne.mpr c135
     have c135b1 : (t509 != 0) = true := bne_iff_ne.mpr c135
     have H' := Aside0.mk H
     clear H
     go_wp2
     go_meet
     case rel => exact ⟨_, (true), (by first | rfl | (simp; done) | (simp [*]; done)), H', ⟨by have := HJ6.out; first | omega | exact Nat.le_refl _⟩, ⟨rD (Kd.R_mono (Kd.R_far (p := ⟨gb514, 1, none⟩) (Kd.R_far (p := ⟨gb514, 0, none⟩) (Kd.R_types HO_481001.out BK514.out (by decide)) (fun _ hk => hk.2) (.int .i64 t511)) (fun _ hk => hk.2) (.int .i64 t512)) (fun _ hk => hk.1.2.2.2.2))⟩, ⟨rD (Kd.R_mono (Kd.R_far (p := ⟨gb514, 1, none⟩) (Kd.R_far (p := ⟨gb514, 0, none⟩) (Kd.R_types HO_481002.out BK514.out (by decide)) (fun _ hk => hk.2) (.int .i64 t511)) (fun _ hk => hk.2) (.int .i64 t512)) (fun _ hk => hk.1.2.2.2.2))⟩, ⟨bF BK455⟩, ⟨bF BK456⟩, ⟨bF BK457⟩, ⟨bF BK480⟩, ⟨bF BK499⟩, ⟨bF BK510⟩, ⟨by (with_reducible repeat (first | refine blk_drewN ?_ _ | refine blk_drew ?_ | refine blk_alloc ?_ _)); refine blk_put (cs := #[.int .i64 t511, .int .i64 0]) ?_ 1 _ rfl; (with_reducible repeat (first | refine blk_drewN ?_ _ | refine blk_drew ?_ | refine blk_alloc ?_ _)); refine blk_put (cs := #[.int .i64 0, .int .i64 0]) ?_ 0 _ rfl; (with_reducible repeat (first | refine blk_drewN ?_ _ | refine blk_drew ?_ | refine blk_alloc ?_ _)); exact BK514.out⟩, ⟨hbC _⟩⟩
    rw [if_pos c135] at H
    have c135b0 : (t509 == 0) = true := beq_iff_eq.mpr c135
    have c135b1 : (t509 != 0) = false := bne_eq_false_iff_eq.mpr c135
    clear c135
    have H' := Aside0.mk H
    clear H
    go_wp2
    go_meet
    case rel => exact ⟨_, ((t513 != 0)), (by first | rfl | (simp; done) | (simp [*]; done)), H', ⟨by have := HJ6.out; first | omega | exact Nat.le_refl _⟩, ⟨rD (Kd.R_mono (Kd.R_far (p := ⟨gb514, 1, none⟩) (Kd.R_far (p := ⟨gb514, 0, none⟩) (Kd.R_types HO_481001.out BK514.out (by decide)) (fun _ hk => hk.2) (.int .i64 t511)) (fun _ hk => hk.2) (.int .i64 t512)) (fun _ hk => hk.1.2.2.2.2))⟩, ⟨rD (Kd.R_mono (Kd.R_far (p := ⟨gb514, 1, none⟩) (Kd.R_far (p := ⟨gb514, 0, none⟩) (Kd.R_types HO_481002.out BK514.out (by decide)) (fun _ hk => hk.2) (.int .i64 t511)) (fun _ hk => hk.2) (.int .i64 t512)) (fun _ hk => hk.1.2.2.2.2))⟩, ⟨bF BK455⟩, ⟨bF BK456⟩, ⟨bF BK457⟩, ⟨bF BK480⟩, ⟨bF BK499⟩, ⟨bF BK510⟩, ⟨by (with_reducible repeat (first | refine blk_drewN ?_ _ | refine blk_drew ?_ | refine blk_alloc ?_ _)); refine blk_put (cs := #[.int .i64 t511, .int .i64 0]) ?_ 1 _ rfl; (with_reducible repeat (first | refine blk_drewN ?_ _ | refine blk_drew ?_ | refine blk_alloc ?_ _)); refine blk_put (cs := #[.int .i64 0, .int .i64 0]) ?_ 0 _ rfl; (with_reducible repeat (first | refine blk_drewN ?_ _ | refine blk_drew ?_ | refine blk_alloc ?_ _)); exact BK514.out⟩, ⟨hbC _⟩⟩
   case rest =>
    clear HC94
    try clear c1
    try clear p2
    try clear c7
    try clear c11
    try clear c12
    try clear c13
    try clear c14
    try clear c114
    try clear c115
    try clear c116
    try clear c117
    try clear c118
    try clear c120
    try clear c121
    try clear c122
    try clear c123
    try clear c127
    try clear c128
    try clear c129
    try clear c130
    try clear c131
    try clear c132
    try clear c134
    try clear c134b0
    try clear c134b1
    try clear c135
    try clear c135b0
    try clear c135b1
    try clear hcz119_0
    try clear hcz119_1
    try clear hcz119_2
    try clear hcz124_0
    try clear hcz124_1
    try clear hcz133_0
    try clear hcz133_1
    try clear hfz119_0
    try clear hfz119_1
    try clear hfz119_2
    try clear hfz124_0
    try clear hfz124_1
    try clear hfz133_0
    try clear hfz133_1
    obtain ⟨kq, x96_93, rfl, HA, HJ93, HO_481001, HO_481002, BK455, BK456, BK457, BK480, BK499, BK510, BK514, HB⟩ := hcut
    cases kq with
    | zero => exact absurd HA.out (by simp [congoulaw04_CurvesSum.j1])
    | succ kj93 =>
     have H := HA.out
     clear HA
     simp only [congoulaw04_CurvesSum.j1] at H
     by_cases c136 : x96_93 = true
     ·subst c136
      have H1 : (some false) = some r := by rw [if_pos rfl] at H; exact H
      clear H
      have H := H1
      clear H1
      exact absurd (H.trans (congrArg some HRT.out)) (by simp)
     replace c136 := Bool.eq_false_iff.mpr c136
     subst c136
     have H1 : ((congoulaw04_more.f kj93 t496 t497 t507 t508 1 1).bind fun bt515 => (if bt515.2.2 = true then (if (bt515.1 == t511 && (bt515.2.1 == t512)) = true then ((congoulaw04_awake.f kj93).bind fun t519 => (some t519)) else (some false)) else (some false))) = some r := by rw [if_neg (show ¬ (false = true) by decide)] at H; exact H
     clear H
     have H := H1
     clear H1
     replace H := Option.bind_eq_some_iff.mp H
     obtain ⟨⟨t515, t516, t517⟩, A1370, H⟩ := H
     replace H : (if t517 = true then (if (t515 == t511 && (t516 == t512)) = true then ((congoulaw04_awake.f kj93).bind fun t519 => (some t519)) else (some false)) else (some false)) = some r := H
     have A137 := Aside0.mk A1370
     clear A1370
     by_cases c138 : t517 = true
     rotate_left
     ·replace c138 := Bool.eq_false_iff.mpr c138
      subst c138
      have H1 : (some false) = some r := by rw [if_neg (show ¬ (false = true) by decide)] at H; exact H
      clear H
      have H := H1
      clear H1
      exact absurd (H.trans (congrArg some HRT.out)) (by simp)
     subst c138
     have H1 : (if (t515 == t511 && (t516 == t512)) = true then ((congoulaw04_awake.f kj93).bind fun t519 => (some t519)) else (some false)) = some r := by rw [if_pos rfl] at H; exact H
     clear H
     have H := H1
     clear H1
     by_cases c139 : (t515 == t511 && (t516 == t512)) = true
     rotate_left
     ·rw [if_neg c139] at H
      have c139b0 : (t515 == t511 && (t516 == t512)) = false := by simpa using c139
      (try (have c139b1 : decide (t515 = t511 && (t516 == t512)) = false := by simpa using c139))
      (try (have c139b2 : (t515 == t511 && (t516 == t512)) = false := by simpa using c139))
      (try (have c139b3 : ¬ (t515 = t511 && (t516 == t512)) := by simpa using c139))
      clear c139
      exact absurd (H.trans (congrArg some HRT.out)) (by simp)
     rw [if_pos c139] at H
     have c139b0 : (t515 == t511 && (t516 == t512)) = true := c139
     (try (have c139b1 : decide (t515 = t511 && (t516 == t512)) = true := by simpa using c139))
     (try (have c139b2 : (t515 == t511 && (t516 == t512)) = true := by simpa using c139))
     clear c139
     replace H := Option.bind_eq_some_iff.mp H
     obtain ⟨t519, A1400, H⟩ := H
     replace H : (some t519) = some r := H
     have A140 := Aside0.mk A1400
     clear A1400
     obtain rfl := Option.some.inj H
     have hnb141 := NB499_455.out
     have hnc141 := NB455_499.out
     have hnb142 := NB499_456.out
     have hnc142 := NB456_499.out
     have hnb143 := NB499_457.out
     have hnc143 := NB457_499.out
     have hnb144 := NB499_480.out
     have hnc144 := NB480_499.out
     have hnb145 := NB499_510.out
     have hnc145 := NB510_499.out
     have hnb146 := NB499_514.out
     have hnc146 := NB514_499.out
     have hcz147_0 : wc.cell? ⟨gb499, 0, none⟩ = some (.int .i64 t496) := bc BK499 0
     have hcz147_1 : wc.cell? ⟨gb499, 1, none⟩ = some (.int .i64 t497) := bc BK499 1
     have hfz147_0 := fz BK499 0
     have hfz147_1 := fz BK499 1
     have hnb148 := NB510_455.out
     have hnc148 := NB455_510.out
     have hnb149 := NB510_456.out
     have hnc149 := NB456_510.out
     have hnb150 := NB510_457.out
     have hnc150 := NB457_510.out
     have hnb151 := NB510_480.out
     have hnc151 := NB480_510.out
     have hnb152 := NB510_514.out
     have hnc152 := NB514_510.out
     have hcz153_0 : wc.cell? ⟨gb510, 0, none⟩ = some (.int .i64 t507) := bc BK510 0
     have hcz153_1 : wc.cell? ⟨gb510, 1, none⟩ = some (.int .i64 t508) := bc BK510 1
     have hfz153_0 := fz BK510 0
     have hfz153_1 := fz BK510 1
     have hgl_ := hG.out.below HB.out; have hgl0 := hgl_.1; have hgl1 := hgl_.2; clear hgl_
     go_wp2_with (first | ((with_reducible refine gate_callee (f := 10) rfl ?_); refine gL 101 Tryd.func10 #[.agg #[.int .i64 t496, .int .i64 t497], .agg #[.int .i64 t507, .int .i64 t508], .agg #[.int .i64 1, .int .i64 1]] ?_; (with_reducible refine (congoulaw04_more.calls kj93 t496 t497 t507 t508 1 1 t515 t516 true _ A137.out).mono ?_); rintro e w154 ⟨rfl, hb⟩; refine ⟨_, rfl, ?_⟩; replace HO_481001 := kO HO_481001 hb; replace HO_481002 := kO HO_481002 hb; replace BK455 := kB BK455 hb; replace BK456 := kB BK456 hb; replace BK457 := kB BK457 hb; replace BK480 := kB BK480 hb; replace BK499 := kB BK499 hb; replace BK510 := kB BK510 hb; replace BK514 := kB BK514 hb; replace HB := kH _ hb; (try clear hb); (try clear hb2); (try clear hk); (try clear hi)) | ((with_reducible refine gate_dst (N := 15) rfl ?_); refine bE 15 #[.int .i64 0, .int .i64 0] 26 ?_; intro gb518 hg w155 hbox hb; replace HO_481001 := kO HO_481001 hb; replace HO_481002 := kO HO_481002 hb; have BK518 := ak (hbox); have GW518 := kG w hg; have GE518 := kG w hg; replace HB := kH _ hb; have NB455_518 := kL BK455 hg; have NB518_455 := kR BK455 hg; replace BK455 := kB BK455 hb; have NB456_518 := kL BK456 hg; have NB518_456 := kR BK456 hg; replace BK456 := kB BK456 hb; have NB457_518 := kL BK457 hg; have NB518_457 := kR BK457 hg; replace BK457 := kB BK457 hb; have NB480_518 := kL BK480 hg; have NB518_480 := kR BK480 hg; replace BK480 := kB BK480 hb; have NB499_518 := kL BK499 hg; have NB518_499 := kR BK499 hg; replace BK499 := kB BK499 hb; have NB510_518 := kL BK510 hg; have NB518_510 := kR BK510 hg; replace BK510 := kB BK510 hb; have NB514_518 := kL BK514 hg; have NB518_514 := kR BK514 hg; replace BK514 := kB BK514 hb; clear hb hbox hg; have hnb156 := NB518_455.out; have hnc156 := NB455_518.out; have hnb157 := NB518_456.out; have hnc157 := NB456_518.out; have hnb158 := NB518_457.out; have hnc158 := NB457_518.out; have hnb159 := NB518_480.out; have hnc159 := NB480_518.out; have hnb160 := NB518_499.out; have hnc160 := NB499_518.out; have hnb161 := NB518_510.out; have hnc161 := NB510_518.out; have hnb162 := NB518_514.out; have hnc162 := NB514_518.out; have hcz163_0 : w155.cell? ⟨gb518, 0, none⟩ = some (.int .i64 0) := bc BK518 0; have hcz163_1 : w155.cell? ⟨gb518, 1, none⟩ = some (.int .i64 0) := bc BK518 1; have hfz163_0 := fz BK518 0; have hfz163_1 := fz BK518 1; have hnb164 := NB514_455.out; have hnc164 := NB455_514.out; have hnb165 := NB514_456.out; have hnc165 := NB456_514.out; have hnb166 := NB514_457.out; have hnc166 := NB457_514.out; have hnb167 := NB514_480.out; have hnc167 := NB480_514.out; have hcz168_0 : w155.cell? ⟨gb514, 0, none⟩ = some (.int .i64 t511) := bc BK514 0; have hcz168_1 : w155.cell? ⟨gb514, 1, none⟩ = some (.int .i64 t512) := bc BK514 1; have hfz168_0 := fz BK514 0; have hfz168_1 := fz BK514 1) | (go_at_call 9; (with_reducible refine (congoulaw04_awake.calls kj93  t519 _ A140.out).mono ?_); rintro e w169 ⟨rfl, hb⟩; replace HO_481001 := ak (Kd.R_below (rD ((Kd.R_mono (Kd.R_far (p := ⟨gb518, 1, none⟩) (Kd.R_far (p := ⟨gb518, 0, none⟩) (Kd.R_types HO_481001.out BK518.out (by decide)) (fun _ hk => hk.2) (.int .i64 t515)) (fun _ hk => hk.2) (.int .i64 t516)) (fun _ h_ => h_.1)))) hb); replace HO_481002 := ak (Kd.R_below (rD ((Kd.R_mono (Kd.R_far (p := ⟨gb518, 1, none⟩) (Kd.R_far (p := ⟨gb518, 0, none⟩) (Kd.R_types HO_481002.out BK518.out (by decide)) (fun _ hk => hk.2) (.int .i64 t515)) (fun _ hk => hk.2) (.int .i64 t516)) (fun _ h_ => h_.1)))) hb); replace BK455 := ak (blk_below (g := gb455) (o := .cells #[.int .i64 a0_0, .slice A0_1 l0_1.length c0_1, .slice A0_2 l0_2.length c0_2] 24 (0, 0)) (bF BK455) hb); replace BK456 := ak (blk_below (g := gb456) (o := .cells #[.int .i64 a1_0, .slice A1_1 l1_1.length c1_1, .slice A1_2 l1_2.length c1_2] 24 (0, 0)) (bF BK456) hb); replace BK457 := ak (blk_below (g := gb457) (o := .cells #[.int .i64 a2_0, .int .i64 a2_1] 26 (0, 0)) (bF BK457) hb); replace BK480 := ak (blk_below (g := gb480) (o := .cells #[.int .i64 t472, .slice Ao22 t473.length co22, .slice Ao24 t476.length co24] 31 (0, 0)) (bF BK480) hb); replace BK499 := ak (blk_below (g := gb499) (o := .cells #[.int .i64 t496, .int .i64 t497] 26 (0, 0)) (bF BK499) hb); replace BK510 := ak (blk_below (g := gb510) (o := .cells #[.int .i64 t507, .int .i64 t508] 26 (0, 0)) (bF BK510) hb); replace BK514 := ak (blk_below (g := gb514) (o := .cells #[.int .i64 t511, .int .i64 t512] 26 (0, 0)) (bF BK514) hb); replace BK518 := ak (blk_below (g := gb518) (o := .cells #[.int .i64 t515, .int .i64 t516] 26 (0, 0)) (by (with_reducible repeat (first | refine blk_drewN ?_ _ | refine blk_drew ?_ | refine blk_alloc ?_ _)); refine blk_put (cs := #[.int .i64 t515, .int .i64 0]) ?_ 1 _ rfl; (with_reducible repeat (first | refine blk_drewN ?_ _ | refine blk_drew ?_ | refine blk_alloc ?_ _)); refine blk_put (cs := #[.int .i64 0, .int .i64 0]) ?_ 0 _ rfl; (with_reducible repeat (first | refine blk_drewN ?_ _ | refine blk_drew ?_ | refine blk_alloc ?_ _)); exact BK518.out) hb); replace HB := kH _ hb; (try clear hb); (try clear hb2); (try clear hk); (try clear hi)))
     go_ret
     exact ⟨by first | rfl | (simp [errW_none, errW_some] <;> rfl) | (simp [*, errW_none, errW_some] <;> rfl), hbC _⟩

end Go.Proofs.YtpnocmkpeogifaaDoor.X
