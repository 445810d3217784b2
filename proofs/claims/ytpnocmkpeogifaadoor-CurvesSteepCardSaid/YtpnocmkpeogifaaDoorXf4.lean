-- Written by a program of this work (wip/xprint.py, over the kit's printer) out of the translation.
import Derived.Test.YtpnocmkpeogifaaDoorX0
import Derived.Test.YtpnocmkpeogifaaDoorXf10
import Derived.Test.YtpnocmkpeogifaaDoorXf11
import Derived.Test.YtpnocmkpeogifaaDoorXf12
import Derived.Test.YtpnocmkpeogifaaDoorXf13
import Derived.Test.YtpnocmkpeogifaaDoorXf14
import Derived.Test.YtpnocmkpeogifaaDoorXf7
import Derived.Test.YtpnocmkpeogifaaDoorXf9
import Derived.Test.YtpnocmkpeogifaaDoorXq0
import Derived.Test.YtpnocmkpeogifaaDoorEG
namespace Go.Proofs.YtpnocmkpeogifaaDoor.X
open Go.RowKit Go.Proofs.YtpnocmkpeogifaaDoorW.PrintWords Go.Proofs.YtpnocmkpeogifaaDoorW.PrintLast Go.Proofs.YtpnocmkpeogifaaDoorW.PrintMore
attribute [local go_sem] max2_int min2_int max_two min_two max_three min_three max_four min_four   -- for this text's walks alone
set_option linter.unusedVariables false
set_option linter.unusedSimpArgs false

attribute [local go_sem high] eqA26
/-! ### congoulaw04_CurvesSteep: function 4 -/
mutual
def congoulaw04_CurvesSteep.j0 : Nat → Int → Int → List Int → List (S26) → Int → Bool → Int → List Int → List Int → Int → Int → Int → Int → Option (Bool)
 | 0, _, _, _, _, _, _, _, _, _, _, _, _, _ => none
 | k + 1, x1, x9, x10, x11, x12, x36, x374000, x374001, x374002, x375000, x375001, x376000, x376001 => if x36 = true then (if x12 = 2 then ((congoulaw04_awake.f k).bind fun t392 => (some t392)) else (if x12 = 4 then (if x374000 = 0 then ((congoulaw04_awake.f k).bind fun t393 => (some t393)) else (some false)) else (some false))) else (if x9 = (wrap64 (x374000 - 1)) then (if (x10.length : Int) = (wrap64 ((x374001.length : Int) - 2)) then (if (x11.length : Int) = (wrap64 ((x374002.length : Int) - 1)) then (congoulaw04_CurvesSteep.j1 k x1 x11 (x374000 == 0) x374000 x374001 x374002 x375000 x375001 x376000 x376001) else (congoulaw04_CurvesSteep.j1 k x1 x11 true x374000 x374001 x374002 x375000 x375001 x376000 x376001)) else (congoulaw04_CurvesSteep.j1 k x1 x11 true x374000 x374001 x374002 x375000 x375001 x376000 x376001)) else (congoulaw04_CurvesSteep.j1 k x1 x11 true x374000 x374001 x374002 x375000 x375001 x376000 x376001))
def congoulaw04_CurvesSteep.j1 : Nat → Int → List (S26) → Bool → Int → List Int → List Int → Int → Int → Int → Int → Option (Bool)
 | 0, _, _, _, _, _, _, _, _, _, _ => none
 | k + 1, x1, x11, x78, x374000, x374001, x374002, x375000, x375001, x376000, x376001 => if x78 = true then (some false) else (if x374000 = 1 then (if (IntKind.u64.wrap ((x11.length : Int))) = 0 then (none) else (if 0 ≤ (wrap64 ((wrap64 (Int.tmod (IntKind.u64.wrap (x1)) (IntKind.u64.wrap ((x11.length : Int))))) + 1)) then (if (wrap64 ((wrap64 (Int.tmod (IntKind.u64.wrap (x1)) (IntKind.u64.wrap ((x11.length : Int))))) + 1)) < (x374001.length : Int) then (if 0 ≤ (wrap64 ((wrap64 (Int.tmod (IntKind.u64.wrap (x1)) (IntKind.u64.wrap ((x11.length : Int))))) + 2)) then (if (wrap64 ((wrap64 (Int.tmod (IntKind.u64.wrap (x1)) (IntKind.u64.wrap ((x11.length : Int))))) + 2)) < (x374001.length : Int) then ((congouref04_In.f k x374000 x374001 x374002 x375000 x375001).bind fun t397 => (if t397 = true then ((congouref04_In.f k x374000 x374001 x374002 x376000 x376001).bind fun t398 => (if t398 = true then (if x375000 < (wrap64 ((rd x374001 (wrap64 ((wrap64 (Int.tmod (IntKind.u64.wrap (x1)) (IntKind.u64.wrap ((x11.length : Int))))) + 1))) * x375001)) then (congoulaw04_CurvesSteep.j2 k (wrap64 (Int.tmod (IntKind.u64.wrap (x1)) (IntKind.u64.wrap ((x11.length : Int))))) x11 true x374000 x374001 x374002 x375000 x375001 x376000 x376001) else (if x375000 ≥ (wrap64 ((rd x374001 (wrap64 ((wrap64 (Int.tmod (IntKind.u64.wrap (x1)) (IntKind.u64.wrap ((x11.length : Int))))) + 2))) * x375001)) then (congoulaw04_CurvesSteep.j2 k (wrap64 (Int.tmod (IntKind.u64.wrap (x1)) (IntKind.u64.wrap ((x11.length : Int))))) x11 true x374000 x374001 x374002 x375000 x375001 x376000 x376001) else (if x376000 < (wrap64 ((rd x374001 (wrap64 ((wrap64 (Int.tmod (IntKind.u64.wrap (x1)) (IntKind.u64.wrap ((x11.length : Int))))) + 1))) * x376001)) then (congoulaw04_CurvesSteep.j2 k (wrap64 (Int.tmod (IntKind.u64.wrap (x1)) (IntKind.u64.wrap ((x11.length : Int))))) x11 true x374000 x374001 x374002 x375000 x375001 x376000 x376001) else (congoulaw04_CurvesSteep.j2 k (wrap64 (Int.tmod (IntKind.u64.wrap (x1)) (IntKind.u64.wrap ((x11.length : Int))))) x11 (decide (x376000 ≥ (wrap64 ((rd x374001 (wrap64 ((wrap64 (Int.tmod (IntKind.u64.wrap (x1)) (IntKind.u64.wrap ((x11.length : Int))))) + 2))) * x376001)))) x374000 x374001 x374002 x375000 x375001 x376000 x376001)))) else (congoulaw04_CurvesSteep.j2 k (wrap64 (Int.tmod (IntKind.u64.wrap (x1)) (IntKind.u64.wrap ((x11.length : Int))))) x11 true x374000 x374001 x374002 x375000 x375001 x376000 x376001))) else (congoulaw04_CurvesSteep.j2 k (wrap64 (Int.tmod (IntKind.u64.wrap (x1)) (IntKind.u64.wrap ((x11.length : Int))))) x11 true x374000 x374001 x374002 x375000 x375001 x376000 x376001))) else (none)) else (none)) else (none)) else (none))) else ((congoulaw04_awake.f k).bind fun t394 => (some t394)))
def congoulaw04_CurvesSteep.j2 : Nat → Int → List (S26) → Bool → Int → List Int → List Int → Int → Int → Int → Int → Option (Bool)
 | 0, _, _, _, _, _, _, _, _, _, _ => none
 | k + 1, x1, x11, x147, x374000, x374001, x374002, x375000, x375001, x376000, x376001 => if x147 = true then ((congoulaw04_awake.f k).bind fun t399 => (some t399)) else ((congoulaw04_Of.f x374000 x374001 x374002).bind fun bt400 => ((curves_Value.f k bt400.1 bt400.2.1 bt400.2.2 x375000 x375001).bind fun bt407 => ((congoulaw04_Of.f x374000 x374001 x374002).bind fun bt411 => ((curves_Value.f k bt411.1 bt411.2.1 bt411.2.2 x376000 x376001).bind fun bt418 => (if bt407.2.2 = 0 then (congoulaw04_CurvesSteep.j3 k x1 x11 (bt418.2.2 != 0) x375000 x375001 x376000 x376001 bt407.1 bt407.2.1 bt418.1 bt418.2.1) else (congoulaw04_CurvesSteep.j3 k x1 x11 true x375000 x375001 x376000 x376001 bt407.1 bt407.2.1 bt418.1 bt418.2.1))))))
def congoulaw04_CurvesSteep.j3 : Nat → Int → List (S26) → Bool → Int → Int → Int → Int → Int → Int → Int → Int → Option (Bool)
 | 0, _, _, _, _, _, _, _, _, _, _, _ => none
 | k + 1, x1, x11, x168, x375000, x375001, x376000, x376001, x411000, x411001, x422000, x422001 => if x168 = true then (some false) else ((congoulaw04_more.f k x376000 x376001 (wrap64 (-x375000)) x375001 1 1).bind fun bt422 => (if bt422.2.2 = true then (if 0 ≤ x1 then (if x1 < (x11.length : Int) then ((congoulaw04_more.f k x411000 x411001 ((rd_T26 x11 x1).f0) ((rd_T26 x11 x1).f1) bt422.1 bt422.2.1).bind fun bt427 => (if bt427.2.2 = true then (if (bt427.1 == x422000 && (bt427.2.1 == x422001)) = true then ((congoulaw04_awake.f k).bind fun t431 => (some t431)) else (some false)) else (some false))) else (none)) else (none)) else (some false)))
end
def congoulaw04_CurvesSteep.f (k : Nat) (a0_0 : Int) (l0_1 : List Int) (l0_2 : List Int) (a1 : Int) (a2_0 : Int) (a2_1 : Int) (a3_0 : Int) (a3_1 : Int) : Option (Bool) := (congoulaw04_Of.f a0_0 l0_1 l0_2).bind fun bt376 => ((curves_Slope.f k bt376.1 bt376.2.1 bt376.2.2).bind fun bt383 => (if bt383.2.2.2 = 0 then ((congouref04_Valid.f k a0_0 l0_1 l0_2).bind fun t391 => (congoulaw04_CurvesSteep.j0 k a1 bt383.1 bt383.2.1 bt383.2.2.1 bt383.2.2.2 (!t391) a0_0 l0_1 l0_2 a2_0 a2_1 a3_0 a3_1)) else (congoulaw04_CurvesSteep.j0 k a1 bt383.1 bt383.2.1 bt383.2.2.1 bt383.2.2.2 true a0_0 l0_1 l0_2 a2_0 a2_1 a3_0 a3_1)))
theorem congoulaw04_CurvesSteep.mono_l : ∀ k, (∀ y0 y1 y2 y3 y4 y5 y6 y7 y8 y9 y10 y11 y12, LeO (congoulaw04_CurvesSteep.j0 k y0 y1 y2 y3 y4 y5 y6 y7 y8 y9 y10 y11 y12) (congoulaw04_CurvesSteep.j0 (k + 1) y0 y1 y2 y3 y4 y5 y6 y7 y8 y9 y10 y11 y12)) ∧ (∀ y0 y1 y2 y3 y4 y5 y6 y7 y8 y9, LeO (congoulaw04_CurvesSteep.j1 k y0 y1 y2 y3 y4 y5 y6 y7 y8 y9) (congoulaw04_CurvesSteep.j1 (k + 1) y0 y1 y2 y3 y4 y5 y6 y7 y8 y9)) ∧ (∀ y0 y1 y2 y3 y4 y5 y6 y7 y8 y9, LeO (congoulaw04_CurvesSteep.j2 k y0 y1 y2 y3 y4 y5 y6 y7 y8 y9) (congoulaw04_CurvesSteep.j2 (k + 1) y0 y1 y2 y3 y4 y5 y6 y7 y8 y9)) ∧ (∀ y0 y1 y2 y3 y4 y5 y6 y7 y8 y9 y10, LeO (congoulaw04_CurvesSteep.j3 k y0 y1 y2 y3 y4 y5 y6 y7 y8 y9 y10) (congoulaw04_CurvesSteep.j3 (k + 1) y0 y1 y2 y3 y4 y5 y6 y7 y8 y9 y10))
 | 0 => ⟨fun _ _ _ _ _ _ _ _ _ _ _ _ _ r h => by simp [congoulaw04_CurvesSteep.j0] at h, fun _ _ _ _ _ _ _ _ _ _ r h => by simp [congoulaw04_CurvesSteep.j1] at h, fun _ _ _ _ _ _ _ _ _ _ r h => by simp [congoulaw04_CurvesSteep.j2] at h, fun _ _ _ _ _ _ _ _ _ _ _ r h => by simp [congoulaw04_CurvesSteep.j3] at h⟩
 | k + 1 => by
  obtain ⟨ih0, ih1, ih2, ih3⟩ := congoulaw04_CurvesSteep.mono_l k
  refine ⟨?_, ?_, ?_, ?_⟩
  ·intro y0 y1 y2 y3 y4 y5 y6 y7 y8 y9 y10 y11 y12
   unfold congoulaw04_CurvesSteep.j0
   repeat' first
   | (with_reducible exact ih0 _ _ _ _ _ _ _ _ _ _ _ _ _)
   | (with_reducible exact ih1 _ _ _ _ _ _ _ _ _ _)
   | (with_reducible exact ih2 _ _ _ _ _ _ _ _ _ _)
   | (with_reducible exact ih3 _ _ _ _ _ _ _ _ _ _ _)
   | (with_reducible exact congoulaw04_awake.mono _)
   | (with_reducible exact congoulaw04_more.mono _ _ _ _ _ _ _)
   | (with_reducible exact congouref04_In.mono _ _ _ _ _ _)
   | (with_reducible exact congouref04_Valid.mono _ _ _ _)
   | (with_reducible exact curves_Slope.mono _ _ _ _)
   | (with_reducible exact curves_Value.mono _ _ _ _ _ _)
   | (with_reducible exact LeO.refl _)
   | (with_reducible exact LeO.none _)
   | (with_reducible refine LeO.ite ?_ ?_)
   | (with_reducible refine LeO.bind ?_ (fun _ => ?_))
   | exact ih0 _ _ _ _ _ _ _ _ _ _ _ _ _
   | exact ih1 _ _ _ _ _ _ _ _ _ _
   | exact ih2 _ _ _ _ _ _ _ _ _ _
   | exact ih3 _ _ _ _ _ _ _ _ _ _ _
   | exact congoulaw04_awake.mono _
   | exact congoulaw04_more.mono _ _ _ _ _ _ _
   | exact congouref04_In.mono _ _ _ _ _ _
   | exact congouref04_Valid.mono _ _ _ _
   | exact curves_Slope.mono _ _ _ _
   | exact curves_Value.mono _ _ _ _ _ _
   | exact LeO.none _
   | refine LeO.ite ?_ ?_
   | refine LeO.bind ?_ (fun _ => ?_)
  ·intro y0 y1 y2 y3 y4 y5 y6 y7 y8 y9
   unfold congoulaw04_CurvesSteep.j1
   repeat' first
   | (with_reducible exact ih0 _ _ _ _ _ _ _ _ _ _ _ _ _)
   | (with_reducible exact ih1 _ _ _ _ _ _ _ _ _ _)
   | (with_reducible exact ih2 _ _ _ _ _ _ _ _ _ _)
   | (with_reducible exact ih3 _ _ _ _ _ _ _ _ _ _ _)
   | (with_reducible exact congoulaw04_awake.mono _)
   | (with_reducible exact congoulaw04_more.mono _ _ _ _ _ _ _)
   | (with_reducible exact congouref04_In.mono _ _ _ _ _ _)
   | (with_reducible exact congouref04_Valid.mono _ _ _ _)
   | (with_reducible exact curves_Slope.mono _ _ _ _)
   | (with_reducible exact curves_Value.mono _ _ _ _ _ _)
   | (with_reducible exact LeO.refl _)
   | (with_reducible exact LeO.none _)
   | (with_reducible refine LeO.ite ?_ ?_)
   | (with_reducible refine LeO.bind ?_ (fun _ => ?_))
   | exact ih0 _ _ _ _ _ _ _ _ _ _ _ _ _
   | exact ih1 _ _ _ _ _ _ _ _ _ _
   | exact ih2 _ _ _ _ _ _ _ _ _ _
   | exact ih3 _ _ _ _ _ _ _ _ _ _ _
   | exact congoulaw04_awake.mono _
   | exact congoulaw04_more.mono _ _ _ _ _ _ _
   | exact congouref04_In.mono _ _ _ _ _ _
   | exact congouref04_Valid.mono _ _ _ _
   | exact curves_Slope.mono _ _ _ _
   | exact curves_Value.mono _ _ _ _ _ _
   | exact LeO.none _
   | refine LeO.ite ?_ ?_
   | refine LeO.bind ?_ (fun _ => ?_)
  ·intro y0 y1 y2 y3 y4 y5 y6 y7 y8 y9
   unfold congoulaw04_CurvesSteep.j2
   repeat' first
   | (with_reducible exact ih0 _ _ _ _ _ _ _ _ _ _ _ _ _)
   | (with_reducible exact ih1 _ _ _ _ _ _ _ _ _ _)
   | (with_reducible exact ih2 _ _ _ _ _ _ _ _ _ _)
   | (with_reducible exact ih3 _ _ _ _ _ _ _ _ _ _ _)
   | (with_reducible exact congoulaw04_awake.mono _)
   | (with_reducible exact congoulaw04_more.mono _ _ _ _ _ _ _)
   | (with_reducible exact congouref04_In.mono _ _ _ _ _ _)
   | (with_reducible exact congouref04_Valid.mono _ _ _ _)
   | (with_reducible exact curves_Slope.mono _ _ _ _)
   | (with_reducible exact curves_Value.mono _ _ _ _ _ _)
   | (with_reducible exact LeO.refl _)
   | (with_reducible exact LeO.none _)
   | (with_reducible refine LeO.ite ?_ ?_)
   | (with_reducible refine LeO.bind ?_ (fun _ => ?_))
   | exact ih0 _ _ _ _ _ _ _ _ _ _ _ _ _
   | exact ih1 _ _ _ _ _ _ _ _ _ _
   | exact ih2 _ _ _ _ _ _ _ _ _ _
   | exact ih3 _ _ _ _ _ _ _ _ _ _ _
   | exact congoulaw04_awake.mono _
   | exact congoulaw04_more.mono _ _ _ _ _ _ _
   | exact congouref04_In.mono _ _ _ _ _ _
   | exact congouref04_Valid.mono _ _ _ _
   | exact curves_Slope.mono _ _ _ _
   | exact curves_Value.mono _ _ _ _ _ _
   | exact LeO.none _
   | refine LeO.ite ?_ ?_
   | refine LeO.bind ?_ (fun _ => ?_)
  ·intro y0 y1 y2 y3 y4 y5 y6 y7 y8 y9 y10
   unfold congoulaw04_CurvesSteep.j3
   repeat' first
   | (with_reducible exact ih0 _ _ _ _ _ _ _ _ _ _ _ _ _)
   | (with_reducible exact ih1 _ _ _ _ _ _ _ _ _ _)
   | (with_reducible exact ih2 _ _ _ _ _ _ _ _ _ _)
   | (with_reducible exact ih3 _ _ _ _ _ _ _ _ _ _ _)
   | (with_reducible exact congoulaw04_awake.mono _)
   | (with_reducible exact congoulaw04_more.mono _ _ _ _ _ _ _)
   | (with_reducible exact congouref04_In.mono _ _ _ _ _ _)
   | (with_reducible exact congouref04_Valid.mono _ _ _ _)
   | (with_reducible exact curves_Slope.mono _ _ _ _)
   | (with_reducible exact curves_Value.mono _ _ _ _ _ _)
   | (with_reducible exact LeO.refl _)
   | (with_reducible exact LeO.none _)
   | (with_reducible refine LeO.ite ?_ ?_)
   | (with_reducible refine LeO.bind ?_ (fun _ => ?_))
   | exact ih0 _ _ _ _ _ _ _ _ _ _ _ _ _
   | exact ih1 _ _ _ _ _ _ _ _ _ _
   | exact ih2 _ _ _ _ _ _ _ _ _ _
   | exact ih3 _ _ _ _ _ _ _ _ _ _ _
   | exact congoulaw04_awake.mono _
   | exact congoulaw04_more.mono _ _ _ _ _ _ _
   | exact congouref04_In.mono _ _ _ _ _ _
   | exact congouref04_Valid.mono _ _ _ _
   | exact curves_Slope.mono _ _ _ _
   | exact curves_Value.mono _ _ _ _ _ _
   | exact LeO.none _
   | refine LeO.ite ?_ ?_
   | refine LeO.bind ?_ (fun _ => ?_)
theorem congoulaw04_CurvesSteep.mono : ∀ a0 a1 a2 a3 a4 a5 a6 a7 k, LeO (congoulaw04_CurvesSteep.f k a0 a1 a2 a3 a4 a5 a6 a7) (congoulaw04_CurvesSteep.f (k + 1) a0 a1 a2 a3 a4 a5 a6 a7) := by
 intro a0 a1 a2 a3 a4 a5 a6 a7 k
 obtain ⟨ih0, ih1, ih2, ih3⟩ := congoulaw04_CurvesSteep.mono_l k
 unfold congoulaw04_CurvesSteep.f
 repeat' first
   | (with_reducible exact ih0 _ _ _ _ _ _ _ _ _ _ _ _ _)
   | (with_reducible exact ih1 _ _ _ _ _ _ _ _ _ _)
   | (with_reducible exact ih2 _ _ _ _ _ _ _ _ _ _)
   | (with_reducible exact ih3 _ _ _ _ _ _ _ _ _ _ _)
   | (with_reducible exact congoulaw04_awake.mono _)
   | (with_reducible exact congoulaw04_more.mono _ _ _ _ _ _ _)
   | (with_reducible exact congouref04_In.mono _ _ _ _ _ _)
   | (with_reducible exact congouref04_Valid.mono _ _ _ _)
   | (with_reducible exact curves_Slope.mono _ _ _ _)
   | (with_reducible exact curves_Value.mono _ _ _ _ _ _)
   | (with_reducible exact LeO.refl _)
   | (with_reducible exact LeO.none _)
   | (with_reducible refine LeO.ite ?_ ?_)
   | (with_reducible refine LeO.bind ?_ (fun _ => ?_))
   | exact ih0 _ _ _ _ _ _ _ _ _ _ _ _ _
   | exact ih1 _ _ _ _ _ _ _ _ _ _
   | exact ih2 _ _ _ _ _ _ _ _ _ _
   | exact ih3 _ _ _ _ _ _ _ _ _ _ _
   | exact congoulaw04_awake.mono _
   | exact congoulaw04_more.mono _ _ _ _ _ _ _
   | exact congouref04_In.mono _ _ _ _ _ _
   | exact congouref04_Valid.mono _ _ _ _
   | exact curves_Slope.mono _ _ _ _
   | exact curves_Value.mono _ _ _ _ _ _
   | exact LeO.none _
   | refine LeO.ite ?_ ?_
   | refine LeO.bind ?_ (fun _ => ?_)
def congoulaw04_CurvesSteep.T9 : Bool × List (List Nat × List Nat) := (true, [([], []), ([0], [0]), ([], []), ([2], [2]), ([1, 3], [1, 3]), ([4], [4]), ([], []), ([6], [6]), ([], []), ([8], [8]), ([7, 9], [7, 9]), ([10], [10]), ([5, 0, 1, 2, 3, 4, 5], [5]), ([11, 12, 0, 1, 2, 3, 4, 5, 6, 7, 8, 9, 10, 11, 12], [11])])
def congoulaw04_CurvesSteep.B9 : List Nat := [0, 1, 0, 4, 15, 31, 0, 64, 0, 256, 960, 1984, 63, 8191]
theorem congoulaw04_CurvesSteep.tab9 : rtab .any (opsOf Tryd.f4 9) = congoulaw04_CurvesSteep.T9 := by kernel_rfl
theorem congoulaw04_CurvesSteep.bits9 : waitsOk congoulaw04_CurvesSteep.T9.2 congoulaw04_CurvesSteep.B9 = true := by kernel_rfl
def congoulaw04_CurvesSteep.T12 : Bool × List (List Nat × List Nat) := (true, [([], []), ([0], [0]), ([], []), ([1, 2, 1], [1, 2]), ([3], [3]), ([4], [4]), ([4], [4]), ([], []), ([7, 5, 3, 0, 1, 2, 3, 4, 5, 7], [5, 7]), ([6, 8, 0, 1, 2, 3, 4, 5, 6, 7, 8], [6])])
def congoulaw04_CurvesSteep.B12 : List Nat := [0, 1, 0, 7, 15, 31, 31, 0, 191, 511]
theorem congoulaw04_CurvesSteep.tab12 : rtab .any (opsOf Tryd.f4 12) = congoulaw04_CurvesSteep.T12 := by kernel_rfl
theorem congoulaw04_CurvesSteep.bits12 : waitsOk congoulaw04_CurvesSteep.T12.2 congoulaw04_CurvesSteep.B12 = true := by kernel_rfl
def congoulaw04_CurvesSteep.T13 : Bool × List (List Nat × List Nat) := (true, [([], []), ([0], [0]), ([], []), ([1, 2, 1], [1, 2]), ([3], [3]), ([4], [4]), ([4], [4]), ([], []), ([7, 5, 3, 0, 1, 2, 3, 4, 5, 7], [5, 7]), ([6, 8, 0, 1, 2, 3, 4, 5, 6, 7, 8], [6])])
def congoulaw04_CurvesSteep.B13 : List Nat := [0, 1, 0, 7, 15, 31, 31, 0, 191, 511]
theorem congoulaw04_CurvesSteep.tab13 : rtab .any (opsOf Tryd.f4 13) = congoulaw04_CurvesSteep.T13 := by kernel_rfl
theorem congoulaw04_CurvesSteep.bits13 : waitsOk congoulaw04_CurvesSteep.T13.2 congoulaw04_CurvesSteep.B13 = true := by kernel_rfl
def congoulaw04_CurvesSteep.T19 : Bool × List (List Nat × List Nat) := (true, [([], []), ([], []), ([], []), ([1, 2], [1, 2]), ([3], [3]), ([], []), ([0, 4, 5], [0, 4, 5]), ([6], [6]), ([7], [7]), ([7], [7]), ([], []), ([10, 8, 6, 0, 1, 2, 3, 4, 5, 6, 7, 8, 10], [8, 10]), ([9, 11, 0, 1, 2, 3, 4, 5, 6, 7, 8, 9, 10, 11], [9])])
def congoulaw04_CurvesSteep.B19 : List Nat := [0, 0, 0, 6, 14, 0, 63, 127, 255, 255, 0, 1535, 4095]
theorem congoulaw04_CurvesSteep.tab19 : rtab .any (opsOf Tryd.f4 19) = congoulaw04_CurvesSteep.T19 := by kernel_rfl
theorem congoulaw04_CurvesSteep.bits19 : waitsOk congoulaw04_CurvesSteep.T19.2 congoulaw04_CurvesSteep.B19 = true := by kernel_rfl
set_option maxHeartbeats 8000000 in
set_option maxRecDepth 100000 in
theorem congoulaw04_CurvesSteep.calls (k : Nat) (a0_0 : Int) (A0_1 : Option Addr) (c0_1 : Nat) (l0_1 : List Int) (A0_2 : Option Addr) (c0_2 : Nat) (l0_2 : List Int) (a1 : Int) (a2_0 : Int) (a2_1 : Int) (a3_0 : Int) (a3_1 : Int) (r : Bool) (w : World) (hr0_1 : Kd.C (Kd.int .i64) w A0_1 l0_1.length l0_1) (hc0_1 : l0_1.length ≤ c0_1) (hr0_2 : Kd.C (Kd.int .i64) w A0_2 l0_2.length l0_2) (hc0_2 : l0_2.length ≤ c0_2) (hrt : r = true) (h : congoulaw04_CurvesSteep.f k a0_0 l0_1 l0_2 a1 a2_0 a2_1 a3_0 a3_1 = some r) (hG0 : GL w) :
  Calls Tryd.prog 4 #[.agg #[.int .i64 a0_0, .slice A0_1 l0_1.length c0_1, .slice A0_2 l0_2.length c0_2], .int .i64 a1, .agg #[.int .i64 a2_0, .int .i64 a2_1], .agg #[.int .i64 a3_0, .int .i64 a3_1]] w fun e w' => e = .returned (.bool r) ∧ Below w.heap.size w w' := by
 have hG := Aside0.mk hG0
 clear hG0
 have hu24 := Tryd.underlying24
 have hu26 := Tryd.underlying26
 have HR0_1 := Aside0.mk hr0_1
 have HC0_1 := Aside0.mk hc0_1
 clear hr0_1 hc0_1
 have HR0_2 := Aside0.mk hr0_2
 have HC0_2 := Aside0.mk hc0_2
 clear hr0_2 hc0_2
 have HB := ak (Below.refl w.heap.size w)
 have H : ((congoulaw04_Of.f a0_0 l0_1 l0_2).bind fun bt376 => ((curves_Slope.f k bt376.1 bt376.2.1 bt376.2.2).bind fun bt383 => (if bt383.2.2.2 = 0 then ((congouref04_Valid.f k a0_0 l0_1 l0_2).bind fun t391 => (congoulaw04_CurvesSteep.j0 k a1 bt383.1 bt383.2.1 bt383.2.2.1 bt383.2.2.2 (!t391) a0_0 l0_1 l0_2 a2_0 a2_1 a3_0 a3_1)) else (congoulaw04_CurvesSteep.j0 k a1 bt383.1 bt383.2.1 bt383.2.2.1 bt383.2.2.2 true a0_0 l0_1 l0_2 a2_0 a2_1 a3_0 a3_1)))) = some r := h
 clear h
 have HRT := Aside0.mk hrt
 clear hrt
 replace H := Option.bind_eq_some_iff.mp H
 obtain ⟨⟨t376, t377, t380⟩, A50, H⟩ := H
 replace H : ((curves_Slope.f k t376 t377 t380).bind fun bt383 => (if bt383.2.2.2 = 0 then ((congouref04_Valid.f k a0_0 l0_1 l0_2).bind fun t391 => (congoulaw04_CurvesSteep.j0 k a1 bt383.1 bt383.2.1 bt383.2.2.1 bt383.2.2.2 (!t391) a0_0 l0_1 l0_2 a2_0 a2_1 a3_0 a3_1)) else (congoulaw04_CurvesSteep.j0 k a1 bt383.1 bt383.2.1 bt383.2.2.1 bt383.2.2.2 true a0_0 l0_1 l0_2 a2_0 a2_1 a3_0 a3_1))) = some r := H
 have A5 := Aside0.mk A50
 clear A50
 replace H := Option.bind_eq_some_iff.mp H
 obtain ⟨⟨t383, t384, t387, t390⟩, A60, H⟩ := H
 replace H : (if t390 = 0 then ((congouref04_Valid.f k a0_0 l0_1 l0_2).bind fun t391 => (congoulaw04_CurvesSteep.j0 k a1 t383 t384 t387 t390 (!t391) a0_0 l0_1 l0_2 a2_0 a2_1 a3_0 a3_1)) else (congoulaw04_CurvesSteep.j0 k a1 t383 t384 t387 t390 true a0_0 l0_1 l0_2 a2_0 a2_1 a3_0 a3_1)) = some r := H
 have A6 := Aside0.mk A60
 clear A60
 have HC7 := Aside0.mk H
 clear H
 go_enter Tryd.func4, Tryd.ntmps4
 go_upto_region 2 with (first | ((with_reducible refine gate_dst (N := 4) rfl ?_); (try (refine gate_guard (by rfl) ?_; dsimp only)); refine bE 4 #[.int .i64 a0_0, .slice A0_1 l0_1.length c0_1, .slice A0_2 l0_2.length c0_2] 24 ?_; intro gb373 hg w8 hbox hb; have BK373 := ak (hbox); have GW373 := kG w hg; have GE373 := kG w hg; replace HB := kH _ hb; clear hb hbox hg) | ((with_reducible refine gate_dst (N := 6) rfl ?_); (try (refine gate_guard (by rfl) ?_; dsimp only)); refine bE 6 #[.int .i64 a2_0, .int .i64 a2_1] 26 ?_; intro gb374 hg w9 hbox hb; have BK374 := ak (hbox); have GW374 := kG w hg; have GE374 := kG w hg; replace HB := kH _ hb; have NB373_374 := kL BK373 hg; have NB374_373 := kR BK373 hg; replace BK373 := kB BK373 hb; clear hb hbox hg) | ((with_reducible refine gate_dst (N := 7) rfl ?_); (try (refine gate_guard (by rfl) ?_; dsimp only)); refine bE 7 #[.int .i64 a3_0, .int .i64 a3_1] 26 ?_; intro gb375 hg w10 hbox hb; have BK375 := ak (hbox); have GW375 := kG w hg; have GE375 := kG w hg; replace HB := kH _ hb; have NB373_375 := kL BK373 hg; have NB375_373 := kR BK373 hg; replace BK373 := kB BK373 hb; have NB374_375 := kL BK374 hg; have NB375_374 := kR BK374 hg; replace BK374 := kB BK374 hb; clear hb hbox hg; have hnb11 := NB373_374.out; have hnc11 := NB374_373.out; have hnb12 := NB373_375.out; have hnc12 := NB375_373.out; have hcz13_0 : w10.cell? ⟨gb373, 0, none⟩ = some (.int .i64 a0_0) := bc BK373 0; have hcz13_1 : w10.cell? ⟨gb373, 1, none⟩ = some (.slice A0_1 l0_1.length c0_1) := bc BK373 1; have hcz13_2 : w10.cell? ⟨gb373, 2, none⟩ = some (.slice A0_2 l0_2.length c0_2) := bc BK373 2; have hfz13_0 := fz BK373 0; have hfz13_1 := fz BK373 1; have hfz13_2 := fz BK373 2) | ((with_reducible refine gate_callee (f := 7) rfl ?_); refine gL 24 Tryd.func7 #[.agg #[.int .i64 a0_0, .slice A0_1 l0_1.length c0_1, .slice A0_2 l0_2.length c0_2]] ?_; (with_reducible refine (congoulaw04_Of.calls a0_0 _ _ l0_1 _ _ l0_2 t376 t377 t380 _ ?side1 ?side2 ?side3 ?side4 A5.out).mono ?_); (case side1 => exact kC HR0_1); (case side2 => exact HC0_1.out); (case side3 => exact kC HR0_2); (case side4 => exact HC0_2.out); rintro e w14 ⟨v378, v381, rfl, ho0, ho1, hb⟩; refine ⟨_, rfl, ?_⟩; have HO379 := ak (Kd.R_lower ho0 (below_size (hbC _))); have HO382 := ak (Kd.R_lower ho1 (below_size (hbC _))); replace BK373 := kB BK373 hb; replace BK374 := kB BK374 hb; replace BK375 := kB BK375 hb; replace HB := kH _ hb; (try clear hb); (try clear hb2); (try clear hk); (try clear hi); (try clear ho0); (try clear ho1); obtain ⟨Ao15, co15, eo15⟩ := Kd.R_slice HO379.out; subst eo15; obtain ⟨Ao16, co16, eo16⟩ := Kd.R_slice HO382.out; subst eo16) | ((with_reducible refine gate_callee (f := 11) rfl ?_); refine gL 25 Tryd.func11 #[.agg #[.int .i64 t376, .slice Ao15 t377.length co15, .slice Ao16 t380.length co16]] ?_; (with_reducible refine (curves_Slope.calls k t376 _ _ t377 _ _ t380 t383 t384 t387 t390 _ ?side1 ?side2 ?side3 ?side4 A6.out).mono ?_); (case side1 => exact kD (Kd.R_reads' HO379.out).2.2); (case side2 => exact (Kd.R_reads' HO379.out).2.1); (case side3 => exact kD (Kd.R_reads' HO382.out).2.2); (case side4 => exact (Kd.R_reads' HO382.out).2.1); rintro e w17 ⟨v385, v388, rfl, ho0, ho1, hb⟩; refine ⟨_, rfl, ?_⟩; have HO386 := ak (Kd.R_lower (Kd.R_new' (Kd.R_new' ho0 (Kd.R_lt (rC HO379))) (Kd.R_lt (rC HO382))) (below_size (hbC _))); replace HO379 := ak (Kd.R_elder' (rC HO379) (Kd.R_base ho0) hb); replace HO382 := ak (Kd.R_elder' (rC HO382) (Kd.R_base ho0) hb); have HO389 := ak (Kd.R_lower (Kd.R_newB (Kd.R_newB ho1 (g := gb374) (o := .cells #[.int .i64 a2_0, .int .i64 a2_1] 26 (0, 0)) (bkC BK374)) (g := gb375) (o := .cells #[.int .i64 a3_0, .int .i64 a3_1] 26 (0, 0)) (bkC BK375)) (below_size (hbC _))); replace BK373 := kB BK373 hb; replace BK374 := kB BK374 hb; replace BK375 := kB BK375 hb; replace HB := kH _ hb; (try clear hb); (try clear hb2); (try clear hk); (try clear hi); (try clear ho0); (try clear ho1)))
 (try simp only [Act.put, List.setIfInBounds_toArray, List.set_cons_zero, List.set_cons_succ])
 go_cut [36] (fun v36 wc => ∃ (kq : Nat) (x36_6 : Bool), v36 = .bool x36_6 ∧ Aside0 (congoulaw04_CurvesSteep.j0 kq a1 t383 t384 t387 t390 x36_6 a0_0 l0_1 l0_2 a2_0 a2_1 a3_0 a3_1 = some r) ∧ Aside0 (kq ≤ k) ∧ Aside0 (Kd.R (Kd.int .i64) 3 wc w.heap.size (fun _ => True) v385 t384) ∧ Aside0 (Kd.R k26 26 wc w.heap.size (fun k_ => k_ ≠ gb374 ∧ k_ ≠ gb375) v388 t387) ∧ Aside0 (wc.heap[gb373]? = some (.cells #[.int .i64 a0_0, (.slice A0_1 l0_1.length c0_1), (.slice A0_2 l0_2.length c0_2)] 24 (0, 0))) ∧ Aside0 (wc.heap[gb374]? = some (.cells #[.int .i64 a2_0, .int .i64 a2_1] 26 (0, 0))) ∧ Aside0 (wc.heap[gb375]? = some (.cells #[.int .i64 a3_0, .int .i64 a3_1] 26 (0, 0))) ∧ Aside0 (Below w.heap.size w wc))
 case first =>
  as_aux_lemma =>
  have H := HC7.out
  clear HC7
  by_cases c18 : t390 = 0
  rotate_left
  ·rw [if_neg c18] at H
   have c18b0 : (t390 == 0) = false := beq_eq_false_iff_ne.mpr c18
   have c18b1 : (t390 != 0) = true := bne_iff_ne.mpr c18
   (first | rw [c18b0] | (simp only [i64_w, i32_w]; rw [c18b0]) | skip)
   have H' := Aside0.mk H
   clear H
   go_wp2
   go_meet
   case rel => exact ⟨_, (true), (by first | rfl | (simp; done) | (simp [*]; done)), H', ⟨by first | omega | exact Nat.le_refl _⟩, ⟨rD (Kd.R_mono HO386.out (fun _ hk => trivial))⟩, ⟨rD (Kd.R_mono HO389.out (fun _ hk => ⟨hk.1.2, hk.2⟩))⟩, ⟨bkC BK373⟩, ⟨bkC BK374⟩, ⟨bkC BK375⟩, ⟨hbC _⟩⟩
  rw [if_pos c18] at H
  have c18b0 : (t390 == 0) = true := beq_iff_eq.mpr c18
  have c18b1 : (t390 != 0) = false := bne_eq_false_iff_eq.mpr c18
  clear c18
  (first | rw [c18b0] | (simp only [i64_w, i32_w]; rw [c18b0]) | skip)
  replace H := Option.bind_eq_some_iff.mp H
  obtain ⟨t391, A190, H⟩ := H
  replace H : (congoulaw04_CurvesSteep.j0 k a1 t383 t384 t387 t390 (!t391) a0_0 l0_1 l0_2 a2_0 a2_1 a3_0 a3_1) = some r := H
  have A19 := Aside0.mk A190
  clear A190
  have H' := Aside0.mk H
  clear H
  have hnb20 := NB373_374.out
  have hnc20 := NB374_373.out
  have hnb21 := NB373_375.out
  have hnc21 := NB375_373.out
  have hcz22_0 : w17.cell? ⟨gb373, 0, none⟩ = some (.int .i64 a0_0) := bc BK373 0
  have hcz22_1 : w17.cell? ⟨gb373, 1, none⟩ = some (.slice A0_1 l0_1.length c0_1) := bc BK373 1
  have hcz22_2 : w17.cell? ⟨gb373, 2, none⟩ = some (.slice A0_2 l0_2.length c0_2) := bc BK373 2
  have hfz22_0 := fz BK373 0
  have hfz22_1 := fz BK373 1
  have hfz22_2 := fz BK373 2
  go_wp2_with (first | (go_at_call 12; (with_reducible refine (congouref04_Valid.calls k a0_0 _ _ l0_1 _ _ l0_2 t391 _ ?side1 ?side2 ?side3 ?side4 A19.out).mono ?_); (case side1 => exact kC HR0_1); (case side2 => exact HC0_1.out); (case side3 => exact kC HR0_2); (case side4 => exact HC0_2.out); rintro e w23 ⟨rfl, hb⟩; replace HO379 := kO HO379 hb; replace HO382 := kO HO382 hb; replace HO386 := kO HO386 hb; replace HO389 := kO HO389 hb; replace BK373 := kB BK373 hb; replace BK374 := kB BK374 hb; replace BK375 := kB BK375 hb; replace HB := kH _ hb; (try clear hb); (try clear hb2); (try clear hk); (try clear hi)))
  go_meet
  case rel => exact ⟨_, (!t391), (by first | rfl | (simp; done) | (simp [*]; done)), H', ⟨by first | omega | exact Nat.le_refl _⟩, ⟨rD (Kd.R_mono HO386.out (fun _ hk => trivial))⟩, ⟨rD (Kd.R_mono HO389.out (fun _ hk => ⟨hk.1.2, hk.2⟩))⟩, ⟨bkC BK373⟩, ⟨bkC BK374⟩, ⟨bkC BK375⟩, ⟨hbC _⟩⟩
 case rest =>
  as_aux_lemma =>
  clear HC7
  try clear c1
  try clear c2
  try clear p2
  try clear c4
  try clear c7
  try clear c11
  try clear c12
  try clear c18
  try clear c18b0
  try clear c18b1
  try clear c20
  try clear c21
  try clear hcz13_0
  try clear hcz13_1
  try clear hcz13_2
  try clear hcz22_0
  try clear hcz22_1
  try clear hcz22_2
  try clear hfz13_0
  try clear hfz13_1
  try clear hfz13_2
  try clear hfz22_0
  try clear hfz22_1
  try clear hfz22_2
  obtain ⟨kq, x36_6, rfl, HA, HJ6, HO_10, HO_11, BK373, BK374, BK375, HB⟩ := hcut
  cases kq with
  | zero => exact absurd HA.out (by simp [congoulaw04_CurvesSteep.j0])
  | succ kj6 =>
   have H := HA.out
   clear HA
   simp only [congoulaw04_CurvesSteep.j0] at H
   by_cases c24 : x36_6 = true
   ·subst c24
    have H1 : (if t390 = 2 then ((congoulaw04_awake.f kj6).bind fun t392 => (some t392)) else (if t390 = 4 then (if a0_0 = 0 then ((congoulaw04_awake.f kj6).bind fun t393 => (some t393)) else (some false)) else (some false))) = some r := by rw [if_pos rfl] at H; exact H
    clear H
    have H := H1
    clear H1
    by_cases c25 : t390 = 2
    ·rw [if_pos c25] at H
     have c25b0 : (t390 == 2) = true := beq_iff_eq.mpr c25
     have c25b1 : (t390 != 2) = false := bne_eq_false_iff_eq.mpr c25
     clear c25
     replace H := Option.bind_eq_some_iff.mp H
     obtain ⟨t392, A260, H⟩ := H
     replace H : (some t392) = some r := H
     have A26 := Aside0.mk A260
     clear A260
     obtain rfl := Option.some.inj H
     go_wp2_with (first | (go_at_call 9; (with_reducible refine (congoulaw04_awake.calls kj6  t392 _ A26.out).mono ?_); rintro e w27 ⟨rfl, hb⟩; replace HO_10 := kO HO_10 hb; replace HO_11 := kO HO_11 hb; replace BK373 := kB BK373 hb; replace BK374 := kB BK374 hb; replace BK375 := kB BK375 hb; replace HB := kH _ hb; (try clear hb); (try clear hb2); (try clear hk); (try clear hi)))
     go_ret
     exact ⟨by first | rfl | (simp [errW_none, errW_some] <;> rfl) | (simp [*, errW_none, errW_some] <;> rfl), hbC _⟩
    rw [if_neg c25] at H
    have c25b0 : (t390 == 2) = false := beq_eq_false_iff_ne.mpr c25
    have c25b1 : (t390 != 2) = true := bne_iff_ne.mpr c25
    by_cases c28 : t390 = 4
    rotate_left
    ·rw [if_neg c28] at H
     have c28b0 : (t390 == 4) = false := beq_eq_false_iff_ne.mpr c28
     have c28b1 : (t390 != 4) = true := bne_iff_ne.mpr c28
     exact absurd (H.trans (congrArg some HRT.out)) (by simp)
    rw [if_pos c28] at H
    have c28b0 : (t390 == 4) = true := beq_iff_eq.mpr c28
    have c28b1 : (t390 != 4) = false := bne_eq_false_iff_eq.mpr c28
    clear c28
    by_cases c29 : a0_0 = 0
    rotate_left
    ·rw [if_neg c29] at H
     have c29b0 : (a0_0 == 0) = false := beq_eq_false_iff_ne.mpr c29
     have c29b1 : (a0_0 != 0) = true := bne_iff_ne.mpr c29
     exact absurd (H.trans (congrArg some HRT.out)) (by simp)
    rw [if_pos c29] at H
    have c29b0 : (a0_0 == 0) = true := beq_iff_eq.mpr c29
    have c29b1 : (a0_0 != 0) = false := bne_eq_false_iff_eq.mpr c29
    clear c29
    replace H := Option.bind_eq_some_iff.mp H
    obtain ⟨t393, A300, H⟩ := H
    replace H : (some t393) = some r := H
    have A30 := Aside0.mk A300
    clear A300
    obtain rfl := Option.some.inj H
    have hnb31 := NB373_374.out
    have hnc31 := NB374_373.out
    have hnb32 := NB373_375.out
    have hnc32 := NB375_373.out
    have hcz33_0 : wc.cell? ⟨gb373, 0, none⟩ = some (.int .i64 a0_0) := bc BK373 0
    have hcz33_1 : wc.cell? ⟨gb373, 1, none⟩ = some (.slice A0_1 l0_1.length c0_1) := bc BK373 1
    have hcz33_2 : wc.cell? ⟨gb373, 2, none⟩ = some (.slice A0_2 l0_2.length c0_2) := bc BK373 2
    have hfz33_0 := fz BK373 0
    have hfz33_1 := fz BK373 1
    have hfz33_2 := fz BK373 2
    go_wp2_with (first | (go_at_call 9; (with_reducible refine (congoulaw04_awake.calls kj6  t393 _ A30.out).mono ?_); rintro e w34 ⟨rfl, hb⟩; replace HO_10 := kO HO_10 hb; replace HO_11 := kO HO_11 hb; replace BK373 := kB BK373 hb; replace BK374 := kB BK374 hb; replace BK375 := kB BK375 hb; replace HB := kH _ hb; (try clear hb); (try clear hb2); (try clear hk); (try clear hi)))
    go_ret
    exact ⟨by first | rfl | (simp [errW_none, errW_some] <;> rfl) | (simp [*, errW_none, errW_some] <;> rfl), hbC _⟩
   replace c24 := Bool.eq_false_iff.mpr c24
   subst c24
   have H1 : (if t383 = (wrap64 (a0_0 - 1)) then (if (t384.length : Int) = (wrap64 ((l0_1.length : Int) - 2)) then (if (t387.length : Int) = (wrap64 ((l0_2.length : Int) - 1)) then (congoulaw04_CurvesSteep.j1 kj6 a1 t387 (a0_0 == 0) a0_0 l0_1 l0_2 a2_0 a2_1 a3_0 a3_1) else (congoulaw04_CurvesSteep.j1 kj6 a1 t387 true a0_0 l0_1 l0_2 a2_0 a2_1 a3_0 a3_1)) else (congoulaw04_CurvesSteep.j1 kj6 a1 t387 true a0_0 l0_1 l0_2 a2_0 a2_1 a3_0 a3_1)) else (congoulaw04_CurvesSteep.j1 kj6 a1 t387 true a0_0 l0_1 l0_2 a2_0 a2_1 a3_0 a3_1)) = some r := by rw [if_neg (show ¬ (false = true) by decide)] at H; exact H
   clear H
   have H := H1
   clear H1
   have HC35 := Aside0.mk H
   clear H
   go_upto_region 4 with (fail)
   go_cut [78] (fun v78 wc => ∃ (kq : Nat) (x78_34 : Bool), v78 = .bool x78_34 ∧ Aside0 (congoulaw04_CurvesSteep.j1 kq a1 t387 x78_34 a0_0 l0_1 l0_2 a2_0 a2_1 a3_0 a3_1 = some r) ∧ Aside0 (kq ≤ kj6) ∧ Aside0 (Kd.R k26 26 wc w.heap.size (fun k_ => k_ ≠ gb374 ∧ k_ ≠ gb375) v388 t387) ∧ Aside0 (wc.heap[gb373]? = some (.cells #[.int .i64 a0_0, (.slice A0_1 l0_1.length c0_1), (.slice A0_2 l0_2.length c0_2)] 24 (0, 0))) ∧ Aside0 (wc.heap[gb374]? = some (.cells #[.int .i64 a2_0, .int .i64 a2_1] 26 (0, 0))) ∧ Aside0 (wc.heap[gb375]? = some (.cells #[.int .i64 a3_0, .int .i64 a3_1] 26 (0, 0))) ∧ Aside0 (Below w.heap.size w wc))
   case first =>
    as_aux_lemma =>
    have H := HC35.out
    clear HC35
    by_cases c36 : t383 = (wrap64 (a0_0 - 1))
    rotate_left
    ·rw [if_neg c36] at H
     have c36b0 : (t383 == (wrap64 (a0_0 - 1))) = false := beq_eq_false_iff_ne.mpr c36
     have c36b1 : (t383 != (wrap64 (a0_0 - 1))) = true := bne_iff_ne.mpr c36
     (first | rw [c36b0] | (simp only [i64_w, i32_w]; rw [c36b0]) | skip)
     have H' := Aside0.mk H
     clear H
     have hnb53 := NB373_374.out
     have hnc53 := NB374_373.out
     have hnb54 := NB373_375.out
     have hnc54 := NB375_373.out
     have hcz55_0 : wc.cell? ⟨gb373, 0, none⟩ = some (.int .i64 a0_0) := bc BK373 0
     have hcz55_1 : wc.cell? ⟨gb373, 1, none⟩ = some (.slice A0_1 l0_1.length c0_1) := bc BK373 1
     have hcz55_2 : wc.cell? ⟨gb373, 2, none⟩ = some (.slice A0_2 l0_2.length c0_2) := bc BK373 2
     have hfz55_0 := fz BK373 0
     have hfz55_1 := fz BK373 1
     have hfz55_2 := fz BK373 2
     go_wp2
     go_meet
     case rel => exact ⟨_, (true), (by first | rfl | (simp; done) | (simp [*]; done)), H', ⟨by have := HJ6.out; first | omega | exact Nat.le_refl _⟩, ⟨rC HO_11⟩, ⟨bkC BK373⟩, ⟨bkC BK374⟩, ⟨bkC BK375⟩, ⟨hbC _⟩⟩
    rw [if_pos c36] at H
    have c36b0 : (t383 == (wrap64 (a0_0 - 1))) = true := beq_iff_eq.mpr c36
    have c36b1 : (t383 != (wrap64 (a0_0 - 1))) = false := bne_eq_false_iff_eq.mpr c36
    clear c36
    (first | rw [c36b0] | (simp only [i64_w, i32_w]; rw [c36b0]) | skip)
    by_cases c37 : (t384.length : Int) = (wrap64 ((l0_1.length : Int) - 2))
    rotate_left
    ·rw [if_neg c37] at H
     have c37b0 : ((t384.length : Int) == (wrap64 ((l0_1.length : Int) - 2))) = false := beq_eq_false_iff_ne.mpr c37
     have c37b1 : ((t384.length : Int) != (wrap64 ((l0_1.length : Int) - 2))) = true := bne_iff_ne.mpr c37
     have H' := Aside0.mk H
     clear H
     have hnb49 := NB373_374.out
     have hnc49 := NB374_373.out
     have hnb50 := NB373_375.out
     have hnc50 := NB375_373.out
     have hcz51_0 : wc.cell? ⟨gb373, 0, none⟩ = some (.int .i64 a0_0) := bc BK373 0
     have hcz51_1 : wc.cell? ⟨gb373, 1, none⟩ = some (.slice A0_1 l0_1.length c0_1) := bc BK373 1
     have hcz51_2 : wc.cell? ⟨gb373, 2, none⟩ = some (.slice A0_2 l0_2.length c0_2) := bc BK373 2
     have hfz51_0 := fz BK373 0
     have hfz51_1 := fz BK373 1
     have hfz51_2 := fz BK373 2
     obtain ⟨Ao52, co52, eo52⟩ := Kd.R_slice HO_10.out
     subst eo52
     go_wp2
     go_meet
     case rel => exact ⟨_, (true), (by first | rfl | (simp; done) | (simp [*]; done)), H', ⟨by have := HJ6.out; first | omega | exact Nat.le_refl _⟩, ⟨rC HO_11⟩, ⟨bkC BK373⟩, ⟨bkC BK374⟩, ⟨bkC BK375⟩, ⟨hbC _⟩⟩
    rw [if_pos c37] at H
    have c37b0 : ((t384.length : Int) == (wrap64 ((l0_1.length : Int) - 2))) = true := beq_iff_eq.mpr c37
    have c37b1 : ((t384.length : Int) != (wrap64 ((l0_1.length : Int) - 2))) = false := bne_eq_false_iff_eq.mpr c37
    clear c37
    by_cases c38 : (t387.length : Int) = (wrap64 ((l0_2.length : Int) - 1))
    rotate_left
    ·rw [if_neg c38] at H
     have c38b0 : ((t387.length : Int) == (wrap64 ((l0_2.length : Int) - 1))) = false := beq_eq_false_iff_ne.mpr c38
     have c38b1 : ((t387.length : Int) != (wrap64 ((l0_2.length : Int) - 1))) = true := bne_iff_ne.mpr c38
     have H' := Aside0.mk H
     clear H
     have hnb44 := NB373_374.out
     have hnc44 := NB374_373.out
     have hnb45 := NB373_375.out
     have hnc45 := NB375_373.out
     have hcz46_0 : wc.cell? ⟨gb373, 0, none⟩ = some (.int .i64 a0_0) := bc BK373 0
     have hcz46_1 : wc.cell? ⟨gb373, 1, none⟩ = some (.slice A0_1 l0_1.length c0_1) := bc BK373 1
     have hcz46_2 : wc.cell? ⟨gb373, 2, none⟩ = some (.slice A0_2 l0_2.length c0_2) := bc BK373 2
     have hfz46_0 := fz BK373 0
     have hfz46_1 := fz BK373 1
     have hfz46_2 := fz BK373 2
     obtain ⟨Ao47, co47, eo47⟩ := Kd.R_slice HO_10.out
     subst eo47
     obtain ⟨Ao48, co48, eo48⟩ := Kd.R_slice HO_11.out
     subst eo48
     go_wp2
     go_meet
     case rel => exact ⟨_, (true), (by first | rfl | (simp; done) | (simp [*]; done)), H', ⟨by have := HJ6.out; first | omega | exact Nat.le_refl _⟩, ⟨rC HO_11⟩, ⟨bkC BK373⟩, ⟨bkC BK374⟩, ⟨bkC BK375⟩, ⟨hbC _⟩⟩
    rw [if_pos c38] at H
    have c38b0 : ((t387.length : Int) == (wrap64 ((l0_2.length : Int) - 1))) = true := beq_iff_eq.mpr c38
    have c38b1 : ((t387.length : Int) != (wrap64 ((l0_2.length : Int) - 1))) = false := bne_eq_false_iff_eq.mpr c38
    clear c38
    have H' := Aside0.mk H
    clear H
    have hnb39 := NB373_374.out
    have hnc39 := NB374_373.out
    have hnb40 := NB373_375.out
    have hnc40 := NB375_373.out
    have hcz41_0 : wc.cell? ⟨gb373, 0, none⟩ = some (.int .i64 a0_0) := bc BK373 0
    have hcz41_1 : wc.cell? ⟨gb373, 1, none⟩ = some (.slice A0_1 l0_1.length c0_1) := bc BK373 1
    have hcz41_2 : wc.cell? ⟨gb373, 2, none⟩ = some (.slice A0_2 l0_2.length c0_2) := bc BK373 2
    have hfz41_0 := fz BK373 0
    have hfz41_1 := fz BK373 1
    have hfz41_2 := fz BK373 2
    obtain ⟨Ao42, co42, eo42⟩ := Kd.R_slice HO_10.out
    subst eo42
    obtain ⟨Ao43, co43, eo43⟩ := Kd.R_slice HO_11.out
    subst eo43
    go_wp2
    go_meet
    case rel => exact ⟨_, ((a0_0 == 0)), (by first | rfl | (simp; done) | (simp [*]; done)), H', ⟨by have := HJ6.out; first | omega | exact Nat.le_refl _⟩, ⟨rC HO_11⟩, ⟨bkC BK373⟩, ⟨bkC BK374⟩, ⟨bkC BK375⟩, ⟨hbC _⟩⟩
   case rest =>
    as_aux_lemma =>
    clear HC35
    try clear c1
    try clear c2
    try clear p2
    try clear c3
    try clear c4
    try clear c5
    try clear p6
    try clear c7
    try clear c11
    try clear c12
    try clear c18
    try clear c18b0
    try clear c18b1
    try clear c20
    try clear c21
    try clear c24
    try clear c25
    try clear c25b0
    try clear c25b1
    try clear c28
    try clear c28b0
    try clear c28b1
    try clear c29
    try clear c29b0
    try clear c29b1
    try clear c31
    try clear c32
    try clear c36
    try clear c36b0
    try clear c36b1
    try clear c37
    try clear c37b0
    try clear c37b1
    try clear c38
    try clear c38b0
    try clear c38b1
    try clear c39
    try clear c40
    try clear c44
    try clear c45
    try clear c49
    try clear c50
    try clear c53
    try clear c54
    try clear hcz13_0
    try clear hcz13_1
    try clear hcz13_2
    try clear hcz22_0
    try clear hcz22_1
    try clear hcz22_2
    try clear hcz33_0
    try clear hcz33_1
    try clear hcz33_2
    try clear hcz41_0
    try clear hcz41_1
    try clear hcz41_2
    try clear hcz46_0
    try clear hcz46_1
    try clear hcz46_2
    try clear hcz51_0
    try clear hcz51_1
    try clear hcz51_2
    try clear hcz55_0
    try clear hcz55_1
    try clear hcz55_2
    try clear hfz13_0
    try clear hfz13_1
    try clear hfz13_2
    try clear hfz22_0
    try clear hfz22_1
    try clear hfz22_2
    try clear hfz33_0
    try clear hfz33_1
    try clear hfz33_2
    try clear hfz41_0
    try clear hfz41_1
    try clear hfz41_2
    try clear hfz46_0
    try clear hfz46_1
    try clear hfz46_2
    try clear hfz51_0
    try clear hfz51_1
    try clear hfz51_2
    try clear hfz55_0
    try clear hfz55_1
    try clear hfz55_2
    try clear p2
    obtain ⟨kq, x78_34, rfl, HA, HJ34, HO_11, BK373, BK374, BK375, HB⟩ := hcut
    cases kq with
    | zero => exact absurd HA.out (by simp [congoulaw04_CurvesSteep.j1])
    | succ kj34 =>
     have H := HA.out
     clear HA
     simp only [congoulaw04_CurvesSteep.j1] at H
     by_cases c56 : x78_34 = true
     ·subst c56
      have H1 : (some false) = some r := by rw [if_pos rfl] at H; exact H
      clear H
      have H := H1
      clear H1
      exact absurd (H.trans (congrArg some HRT.out)) (by simp)
     replace c56 := Bool.eq_false_iff.mpr c56
     subst c56
     have H1 : (if a0_0 = 1 then (if (IntKind.u64.wrap ((t387.length : Int))) = 0 then (none) else (if 0 ≤ (wrap64 ((wrap64 (Int.tmod (IntKind.u64.wrap (a1)) (IntKind.u64.wrap ((t387.length : Int))))) + 1)) then (if (wrap64 ((wrap64 (Int.tmod (IntKind.u64.wrap (a1)) (IntKind.u64.wrap ((t387.length : Int))))) + 1)) < (l0_1.length : Int) then (if 0 ≤ (wrap64 ((wrap64 (Int.tmod (IntKind.u64.wrap (a1)) (IntKind.u64.wrap ((t387.length : Int))))) + 2)) then (if (wrap64 ((wrap64 (Int.tmod (IntKind.u64.wrap (a1)) (IntKind.u64.wrap ((t387.length : Int))))) + 2)) < (l0_1.length : Int) then ((congouref04_In.f kj34 a0_0 l0_1 l0_2 a2_0 a2_1).bind fun t397 => (if t397 = true then ((congouref04_In.f kj34 a0_0 l0_1 l0_2 a3_0 a3_1).bind fun t398 => (if t398 = true then (if a2_0 < (wrap64 ((rd l0_1 (wrap64 ((wrap64 (Int.tmod (IntKind.u64.wrap (a1)) (IntKind.u64.wrap ((t387.length : Int))))) + 1))) * a2_1)) then (congoulaw04_CurvesSteep.j2 kj34 (wrap64 (Int.tmod (IntKind.u64.wrap (a1)) (IntKind.u64.wrap ((t387.length : Int))))) t387 true a0_0 l0_1 l0_2 a2_0 a2_1 a3_0 a3_1) else (if a2_0 ≥ (wrap64 ((rd l0_1 (wrap64 ((wrap64 (Int.tmod (IntKind.u64.wrap (a1)) (IntKind.u64.wrap ((t387.length : Int))))) + 2))) * a2_1)) then (congoulaw04_CurvesSteep.j2 kj34 (wrap64 (Int.tmod (IntKind.u64.wrap (a1)) (IntKind.u64.wrap ((t387.length : Int))))) t387 true a0_0 l0_1 l0_2 a2_0 a2_1 a3_0 a3_1) else (if a3_0 < (wrap64 ((rd l0_1 (wrap64 ((wrap64 (Int.tmod (IntKind.u64.wrap (a1)) (IntKind.u64.wrap ((t387.length : Int))))) + 1))) * a3_1)) then (congoulaw04_CurvesSteep.j2 kj34 (wrap64 (Int.tmod (IntKind.u64.wrap (a1)) (IntKind.u64.wrap ((t387.length : Int))))) t387 true a0_0 l0_1 l0_2 a2_0 a2_1 a3_0 a3_1) else (congoulaw04_CurvesSteep.j2 kj34 (wrap64 (Int.tmod (IntKind.u64.wrap (a1)) (IntKind.u64.wrap ((t387.length : Int))))) t387 (decide (a3_0 ≥ (wrap64 ((rd l0_1 (wrap64 ((wrap64 (Int.tmod (IntKind.u64.wrap (a1)) (IntKind.u64.wrap ((t387.length : Int))))) + 2))) * a3_1)))) a0_0 l0_1 l0_2 a2_0 a2_1 a3_0 a3_1)))) else (congoulaw04_CurvesSteep.j2 kj34 (wrap64 (Int.tmod (IntKind.u64.wrap (a1)) (IntKind.u64.wrap ((t387.length : Int))))) t387 true a0_0 l0_1 l0_2 a2_0 a2_1 a3_0 a3_1))) else (congoulaw04_CurvesSteep.j2 kj34 (wrap64 (Int.tmod (IntKind.u64.wrap (a1)) (IntKind.u64.wrap ((t387.length : Int))))) t387 true a0_0 l0_1 l0_2 a2_0 a2_1 a3_0 a3_1))) else (none)) else (none)) else (none)) else (none))) else ((congoulaw04_awake.f kj34).bind fun t394 => (some t394))) = some r := by rw [if_neg (show ¬ (false = true) by decide)] at H; exact H
     clear H
     have H := H1
     clear H1
     by_cases c57 : a0_0 = 1
     rotate_left
     ·rw [if_neg c57] at H
      have c57b0 : (a0_0 == 1) = false := beq_eq_false_iff_ne.mpr c57
      have c57b1 : (a0_0 != 1) = true := bne_iff_ne.mpr c57
      replace H := Option.bind_eq_some_iff.mp H
      obtain ⟨t394, A2080, H⟩ := H
      replace H : (some t394) = some r := H
      have A208 := Aside0.mk A2080
      clear A2080
      obtain rfl := Option.some.inj H
      have hnb209 := NB373_374.out
      have hnc209 := NB374_373.out
      have hnb210 := NB373_375.out
      have hnc210 := NB375_373.out
      have hcz211_0 : wc.cell? ⟨gb373, 0, none⟩ = some (.int .i64 a0_0) := bc BK373 0
      have hcz211_1 : wc.cell? ⟨gb373, 1, none⟩ = some (.slice A0_1 l0_1.length c0_1) := bc BK373 1
      have hcz211_2 : wc.cell? ⟨gb373, 2, none⟩ = some (.slice A0_2 l0_2.length c0_2) := bc BK373 2
      have hfz211_0 := fz BK373 0
      have hfz211_1 := fz BK373 1
      have hfz211_2 := fz BK373 2
      go_wp2_with (first | ((with_reducible refine gate_callee (f := 9) rfl ?_); refine gL 82 Tryd.func9 #[] ?_; (with_reducible refine (congoulaw04_awake.calls kj34  t394 _ A208.out).mono ?_); rintro e w212 ⟨rfl, hb⟩; refine ⟨_, rfl, ?_⟩; replace HO_11 := kO HO_11 hb; replace BK373 := kB BK373 hb; replace BK374 := kB BK374 hb; replace BK375 := kB BK375 hb; replace HB := kH _ hb; (try clear hb); (try clear hb2); (try clear hk); (try clear hi)))
      go_ret
      exact ⟨by first | rfl | (simp [errW_none, errW_some] <;> rfl) | (simp [*, errW_none, errW_some] <;> rfl), hbC _⟩
     rw [if_pos c57] at H
     have c57b0 : (a0_0 == 1) = true := beq_iff_eq.mpr c57
     have c57b1 : (a0_0 != 1) = false := bne_eq_false_iff_eq.mpr c57
     clear c57
     by_cases c58 : (IntKind.u64.wrap ((t387.length : Int))) = 0
     ·rw [if_pos c58] at H
      exact absurd H (by simp)
     rw [if_neg c58] at H
     have c58b0 : ((IntKind.u64.wrap ((t387.length : Int))) == 0) = false := beq_eq_false_iff_ne.mpr c58
     have c58b1 : ((IntKind.u64.wrap ((t387.length : Int))) != 0) = true := bne_iff_ne.mpr c58
     obtain ⟨ji59, hji59⟩ : ∃ j_ : Int, (wrap64 ((wrap64 (Int.tmod (IntKind.u64.wrap (a1)) (IntKind.u64.wrap ((t387.length : Int))))) + 1)) = j_ := ⟨_, rfl⟩
     replace H : (if 0 ≤ (ji59) then (if (ji59) < (l0_1.length : Int) then (if 0 ≤ (wrap64 ((wrap64 (Int.tmod (IntKind.u64.wrap (a1)) (IntKind.u64.wrap ((t387.length : Int))))) + 2)) then (if (wrap64 ((wrap64 (Int.tmod (IntKind.u64.wrap (a1)) (IntKind.u64.wrap ((t387.length : Int))))) + 2)) < (l0_1.length : Int) then ((congouref04_In.f kj34 a0_0 l0_1 l0_2 a2_0 a2_1).bind fun t397 => (if t397 = true then ((congouref04_In.f kj34 a0_0 l0_1 l0_2 a3_0 a3_1).bind fun t398 => (if t398 = true then (if a2_0 < (wrap64 ((rd l0_1 (ji59)) * a2_1)) then (congoulaw04_CurvesSteep.j2 kj34 (wrap64 (Int.tmod (IntKind.u64.wrap (a1)) (IntKind.u64.wrap ((t387.length : Int))))) t387 true a0_0 l0_1 l0_2 a2_0 a2_1 a3_0 a3_1) else (if a2_0 ≥ (wrap64 ((rd l0_1 (wrap64 ((wrap64 (Int.tmod (IntKind.u64.wrap (a1)) (IntKind.u64.wrap ((t387.length : Int))))) + 2))) * a2_1)) then (congoulaw04_CurvesSteep.j2 kj34 (wrap64 (Int.tmod (IntKind.u64.wrap (a1)) (IntKind.u64.wrap ((t387.length : Int))))) t387 true a0_0 l0_1 l0_2 a2_0 a2_1 a3_0 a3_1) else (if a3_0 < (wrap64 ((rd l0_1 (ji59)) * a3_1)) then (congoulaw04_CurvesSteep.j2 kj34 (wrap64 (Int.tmod (IntKind.u64.wrap (a1)) (IntKind.u64.wrap ((t387.length : Int))))) t387 true a0_0 l0_1 l0_2 a2_0 a2_1 a3_0 a3_1) else (congoulaw04_CurvesSteep.j2 kj34 (wrap64 (Int.tmod (IntKind.u64.wrap (a1)) (IntKind.u64.wrap ((t387.length : Int))))) t387 (decide (a3_0 ≥ (wrap64 ((rd l0_1 (wrap64 ((wrap64 (Int.tmod (IntKind.u64.wrap (a1)) (IntKind.u64.wrap ((t387.length : Int))))) + 2))) * a3_1)))) a0_0 l0_1 l0_2 a2_0 a2_1 a3_0 a3_1)))) else (congoulaw04_CurvesSteep.j2 kj34 (wrap64 (Int.tmod (IntKind.u64.wrap (a1)) (IntKind.u64.wrap ((t387.length : Int))))) t387 true a0_0 l0_1 l0_2 a2_0 a2_1 a3_0 a3_1))) else (congoulaw04_CurvesSteep.j2 kj34 (wrap64 (Int.tmod (IntKind.u64.wrap (a1)) (IntKind.u64.wrap ((t387.length : Int))))) t387 true a0_0 l0_1 l0_2 a2_0 a2_1 a3_0 a3_1))) else (none)) else (none)) else (none)) else (none)) = some r := by first | (rw [hji59] at H; exact H) | (simp only [hji59] at H ⊢; exact H)
     have hji59w : (IntKind.i64.wrap ((wrap64 (Int.tmod (IntKind.u64.wrap (a1)) (IntKind.u64.wrap ((t387.length : Int))))) + 1)) = ji59 := (i64_w _).trans hji59
     by_cases c60 : 0 ≤ (ji59)
     rotate_left
     ·rw [if_neg c60] at H
      exact absurd H (by simp)
     rw [if_pos c60] at H
     have c60b0 : decide (0 ≤ (ji59)) = true := decide_eq_true c60
     clear c60
     by_cases c61 : (ji59) < (l0_1.length : Int)
     rotate_left
     ·rw [if_neg c61] at H
      exact absurd H (by simp)
     rw [if_pos c61] at H
     have c61b0 : decide ((ji59) < (l0_1.length : Int)) = true := decide_eq_true c61
     clear c61
     obtain ⟨ji62, hji62⟩ : ∃ j_ : Int, (wrap64 ((wrap64 (Int.tmod (IntKind.u64.wrap (a1)) (IntKind.u64.wrap ((t387.length : Int))))) + 2)) = j_ := ⟨_, rfl⟩
     replace H : (if 0 ≤ (ji62) then (if (ji62) < (l0_1.length : Int) then ((congouref04_In.f kj34 a0_0 l0_1 l0_2 a2_0 a2_1).bind fun t397 => (if t397 = true then ((congouref04_In.f kj34 a0_0 l0_1 l0_2 a3_0 a3_1).bind fun t398 => (if t398 = true then (if a2_0 < (wrap64 ((rd l0_1 (ji59)) * a2_1)) then (congoulaw04_CurvesSteep.j2 kj34 (wrap64 (Int.tmod (IntKind.u64.wrap (a1)) (IntKind.u64.wrap ((t387.length : Int))))) t387 true a0_0 l0_1 l0_2 a2_0 a2_1 a3_0 a3_1) else (if a2_0 ≥ (wrap64 ((rd l0_1 (ji62)) * a2_1)) then (congoulaw04_CurvesSteep.j2 kj34 (wrap64 (Int.tmod (IntKind.u64.wrap (a1)) (IntKind.u64.wrap ((t387.length : Int))))) t387 true a0_0 l0_1 l0_2 a2_0 a2_1 a3_0 a3_1) else (if a3_0 < (wrap64 ((rd l0_1 (ji59)) * a3_1)) then (congoulaw04_CurvesSteep.j2 kj34 (wrap64 (Int.tmod (IntKind.u64.wrap (a1)) (IntKind.u64.wrap ((t387.length : Int))))) t387 true a0_0 l0_1 l0_2 a2_0 a2_1 a3_0 a3_1) else (congoulaw04_CurvesSteep.j2 kj34 (wrap64 (Int.tmod (IntKind.u64.wrap (a1)) (IntKind.u64.wrap ((t387.length : Int))))) t387 (decide (a3_0 ≥ (wrap64 ((rd l0_1 (ji62)) * a3_1)))) a0_0 l0_1 l0_2 a2_0 a2_1 a3_0 a3_1)))) else (congoulaw04_CurvesSteep.j2 kj34 (wrap64 (Int.tmod (IntKind.u64.wrap (a1)) (IntKind.u64.wrap ((t387.length : Int))))) t387 true a0_0 l0_1 l0_2 a2_0 a2_1 a3_0 a3_1))) else (congoulaw04_CurvesSteep.j2 kj34 (wrap64 (Int.tmod (IntKind.u64.wrap (a1)) (IntKind.u64.wrap ((t387.length : Int))))) t387 true a0_0 l0_1 l0_2 a2_0 a2_1 a3_0 a3_1))) else (none)) else (none)) = some r := by first | (rw [hji62] at H; exact H) | (simp only [hji62] at H ⊢; exact H)
     have hji62w : (IntKind.i64.wrap ((wrap64 (Int.tmod (IntKind.u64.wrap (a1)) (IntKind.u64.wrap ((t387.length : Int))))) + 2)) = ji62 := (i64_w _).trans hji62
     by_cases c63 : 0 ≤ (ji62)
     rotate_left
     ·rw [if_neg c63] at H
      exact absurd H (by simp)
     rw [if_pos c63] at H
     have c63b0 : decide (0 ≤ (ji62)) = true := decide_eq_true c63
     clear c63
     by_cases c64 : (ji62) < (l0_1.length : Int)
     rotate_left
     ·rw [if_neg c64] at H
      exact absurd H (by simp)
     rw [if_pos c64] at H
     have c64b0 : decide ((ji62) < (l0_1.length : Int)) = true := decide_eq_true c64
     clear c64
     have HC65 := Aside0.mk H
     clear H
     have hnb66 := NB373_374.out
     have hnc66 := NB374_373.out
     have hnb67 := NB373_375.out
     have hnc67 := NB375_373.out
     have hcz68_0 : wc.cell? ⟨gb373, 0, none⟩ = some (.int .i64 a0_0) := bc BK373 0
     have hcz68_1 : wc.cell? ⟨gb373, 1, none⟩ = some (.slice A0_1 l0_1.length c0_1) := bc BK373 1
     have hcz68_2 : wc.cell? ⟨gb373, 2, none⟩ = some (.slice A0_2 l0_2.length c0_2) := bc BK373 2
     have hfz68_0 := fz BK373 0
     have hfz68_1 := fz BK373 1
     have hfz68_2 := fz BK373 2
     obtain ⟨Ao69, co69, eo69⟩ := Kd.R_slice HO_11.out
     subst eo69
     try go_wp2
     replace HO_11 := ak (Kd.R_drew HO_11.out)
     replace BK373 := kd BK373
     replace BK374 := kd BK374
     replace BK375 := kd BK375
     replace HB := ak (below_drew1 HB.out)
     have p395 : 0 ≤ ((ji59) : Int) := dA
     have q395 : (ji59) < (l0_1.length : Int) := dA
     obtain ⟨ad395, e395, hx395_0⟩ := Kd.at_int HR0_1.out (ji59) p395 q395
     have hw395_0 := hx395_0
     cases e395
     try replace hx395_0 := (HB.out.cell (World.block_lt_of_cell? w _ hx395_0)).trans hx395_0
     replace p395 := eq_true p395
     replace q395 := eq_true q395
     have p396 : 0 ≤ ((ji62) : Int) := dA
     have q396 : (ji62) < (l0_1.length : Int) := dA
     obtain ⟨ad396, e396, hx396_0⟩ := Kd.at_int HR0_1.out (ji62) p396 q396
     have hw396_0 := hx396_0
     obtain rfl : ad395 = ad396 := (by injection e396)
     try replace hx396_0 := (HB.out.cell (World.block_lt_of_cell? w _ hx396_0)).trans hx396_0
     replace p396 := eq_true p396
     replace q396 := eq_true q396
     refine sS (n := 14) (S := fun w' => w'.cell? ⟨gb373, 0, none⟩ = some (.int .i64 a0_0) ∧ w'.cell? ⟨gb373, 1, none⟩ = some (.slice (some ad395) l0_1.length c0_1) ∧ w'.cell? ⟨gb373, 2, none⟩ = some (.slice A0_2 l0_2.length c0_2) ∧ w'.cell? (ad395.add ((ji59)).toNat) = some (.int .i64 (rd l0_1 (ji59))) ∧ w'.cell? (ad395.add ((ji62)).toNat) = some (.int .i64 (rd l0_1 (ji62)))) (ds := []) ⟨bc BK373 0, bc BK373 1, bc BK373 2, ((HB.out.cell (World.block_lt_of_cell? w _ hw395_0)).trans hw395_0), ((HB.out.cell (World.block_lt_of_cell? w _ hw396_0)).trans hw396_0)⟩ (fun hHeld => ?_); refine with_tabW congoulaw04_CurvesSteep.tab9 congoulaw04_CurvesSteep.bits9 (fun HT_ HW_ => ?_)
     generalize wc.drew = w70 at HO_11 BK373 BK374 BK375 HB hx395_0 hx396_0 hHeld ⊢
     refine pS 0 90 14 1 ?_
     refine pS 2 92 14 5 ?_
     refine pS 3 93 14 13 ?_
     refine pS 6 96 14 77 ?_
     refine pS 8 98 14 333 ?_
     refine pS 9 99 14 845 ?_
     refine tS 1 91 14 847 ?_
     refine pS 4 94 14 863 ?_
     refine tS 5 95 14 895 ?_
     refine pS 12 13 14 4991 ?_
     refine tS 7 97 14 5119 ?_
     refine pS 10 100 14 6143 ?_
     refine tS 11 101 14 8191 ?_
     refine pS 13 14 14 16383 ?_
     refine done_ (done_of HT_.out (by kernel_rfl)) ?_
     go_upto_region 10 with (fail)
     go_cut [147] (fun v147 wc => ∃ (kq : Nat) (x147_64 : Bool), v147 = .bool x147_64 ∧ Aside0 (congoulaw04_CurvesSteep.j2 kq (wrap64 (Int.tmod (IntKind.u64.wrap (a1)) (IntKind.u64.wrap ((t387.length : Int))))) t387 x147_64 a0_0 l0_1 l0_2 a2_0 a2_1 a3_0 a3_1 = some r) ∧ Aside0 (kq ≤ kj34) ∧ Aside0 (Kd.R k26 26 wc w.heap.size (fun k_ => k_ ≠ gb374 ∧ k_ ≠ gb375) (.slice Ao69 t387.length co69) t387) ∧ Aside0 (wc.heap[gb373]? = some (.cells #[.int .i64 a0_0, (.slice (some ad395) l0_1.length c0_1), (.slice A0_2 l0_2.length c0_2)] 24 (0, 0))) ∧ Aside0 (wc.heap[gb374]? = some (.cells #[.int .i64 a2_0, .int .i64 a2_1] 26 (0, 0))) ∧ Aside0 (wc.heap[gb375]? = some (.cells #[.int .i64 a3_0, .int .i64 a3_1] 26 (0, 0))) ∧ Aside0 (Below w.heap.size w wc))
     case first =>
      as_aux_lemma =>
      have H := HC65.out
      clear HC65
      replace H := Option.bind_eq_some_iff.mp H
      obtain ⟨t397, A710, H⟩ := H
      replace H : (if t397 = true then ((congouref04_In.f kj34 a0_0 l0_1 l0_2 a3_0 a3_1).bind fun t398 => (if t398 = true then (if a2_0 < (wrap64 ((rd l0_1 (ji59)) * a2_1)) then (congoulaw04_CurvesSteep.j2 kj34 (wrap64 (Int.tmod (IntKind.u64.wrap (a1)) (IntKind.u64.wrap ((t387.length : Int))))) t387 true a0_0 l0_1 l0_2 a2_0 a2_1 a3_0 a3_1) else (if a2_0 ≥ (wrap64 ((rd l0_1 (ji62)) * a2_1)) then (congoulaw04_CurvesSteep.j2 kj34 (wrap64 (Int.tmod (IntKind.u64.wrap (a1)) (IntKind.u64.wrap ((t387.length : Int))))) t387 true a0_0 l0_1 l0_2 a2_0 a2_1 a3_0 a3_1) else (if a3_0 < (wrap64 ((rd l0_1 (ji59)) * a3_1)) then (congoulaw04_CurvesSteep.j2 kj34 (wrap64 (Int.tmod (IntKind.u64.wrap (a1)) (IntKind.u64.wrap ((t387.length : Int))))) t387 true a0_0 l0_1 l0_2 a2_0 a2_1 a3_0 a3_1) else (congoulaw04_CurvesSteep.j2 kj34 (wrap64 (Int.tmod (IntKind.u64.wrap (a1)) (IntKind.u64.wrap ((t387.length : Int))))) t387 (decide (a3_0 ≥ (wrap64 ((rd l0_1 (ji62)) * a3_1)))) a0_0 l0_1 l0_2 a2_0 a2_1 a3_0 a3_1)))) else (congoulaw04_CurvesSteep.j2 kj34 (wrap64 (Int.tmod (IntKind.u64.wrap (a1)) (IntKind.u64.wrap ((t387.length : Int))))) t387 true a0_0 l0_1 l0_2 a2_0 a2_1 a3_0 a3_1))) else (congoulaw04_CurvesSteep.j2 kj34 (wrap64 (Int.tmod (IntKind.u64.wrap (a1)) (IntKind.u64.wrap ((t387.length : Int))))) t387 true a0_0 l0_1 l0_2 a2_0 a2_1 a3_0 a3_1)) = some r := H
      have A71 := Aside0.mk A710
      clear A710
      by_cases c72 : t397 = true
      rotate_left
      ·replace c72 := Bool.eq_false_iff.mpr c72
       subst c72
       have H1 : (congoulaw04_CurvesSteep.j2 kj34 (wrap64 (Int.tmod (IntKind.u64.wrap (a1)) (IntKind.u64.wrap ((t387.length : Int))))) t387 true a0_0 l0_1 l0_2 a2_0 a2_1 a3_0 a3_1) = some r := by rw [if_neg (show ¬ (false = true) by decide)] at H; exact H
       clear H
       have H := H1
       clear H1
       have H' := Aside0.mk H
       clear H
       have hnb129 := NB373_374.out
       have hnc129 := NB374_373.out
       have hnb130 := NB373_375.out
       have hnc130 := NB375_373.out
       have hcz131_0 : w70.cell? ⟨gb373, 0, none⟩ = some (.int .i64 a0_0) := bc BK373 0
       have hcz131_1 : w70.cell? ⟨gb373, 1, none⟩ = some (.slice (some ad395) l0_1.length c0_1) := bc BK373 1
       have hcz131_2 : w70.cell? ⟨gb373, 2, none⟩ = some (.slice A0_2 l0_2.length c0_2) := bc BK373 2
       have hfz131_0 := fz BK373 0
       have hfz131_1 := fz BK373 1
       have hfz131_2 := fz BK373 2
       have hnb132 := NB374_375.out
       have hnc132 := NB375_374.out
       have hcz133_0 : w70.cell? ⟨gb374, 0, none⟩ = some (.int .i64 a2_0) := bc BK374 0
       have hcz133_1 : w70.cell? ⟨gb374, 1, none⟩ = some (.int .i64 a2_1) := bc BK374 1
       have hfz133_0 := fz BK374 0
       have hfz133_1 := fz BK374 1
       go_wp2_with (first | ((with_reducible refine gate_callee (f := 13) rfl ?_); refine gL 104 Tryd.func13 #[.agg #[.int .i64 a0_0, .slice (some ad395) l0_1.length c0_1, .slice A0_2 l0_2.length c0_2], .agg #[.int .i64 a2_0, .int .i64 a2_1]] ?_; (with_reducible refine (congouref04_In.calls kj34 a0_0 _ _ l0_1 _ _ l0_2 a2_0 a2_1 false _ ?side1 ?side2 ?side3 ?side4 A71.out).mono ?_); (case side1 => exact kC HR0_1); (case side2 => exact HC0_1.out); (case side3 => exact kC HR0_2); (case side4 => exact HC0_2.out); rintro e w134 ⟨rfl, hb⟩; refine ⟨_, rfl, ?_⟩; replace HO_11 := kO HO_11 hb; replace BK373 := kB BK373 hb; replace BK374 := kB BK374 hb; replace BK375 := kB BK375 hb; replace HB := kH _ hb; (try clear hb); (try clear hb2); (try clear hk); (try clear hi)))
       go_meet
       case rel => exact ⟨_, (true), (by first | rfl | (simp; done) | (simp [*]; done)), H', ⟨by have := HJ6.out; have := HJ34.out; first | omega | exact Nat.le_refl _⟩, ⟨rC HO_11⟩, ⟨bkC BK373⟩, ⟨bkC BK374⟩, ⟨bkC BK375⟩, ⟨hbC _⟩⟩
      subst c72
      have H1 : ((congouref04_In.f kj34 a0_0 l0_1 l0_2 a3_0 a3_1).bind fun t398 => (if t398 = true then (if a2_0 < (wrap64 ((rd l0_1 (ji59)) * a2_1)) then (congoulaw04_CurvesSteep.j2 kj34 (wrap64 (Int.tmod (IntKind.u64.wrap (a1)) (IntKind.u64.wrap ((t387.length : Int))))) t387 true a0_0 l0_1 l0_2 a2_0 a2_1 a3_0 a3_1) else (if a2_0 ≥ (wrap64 ((rd l0_1 (ji62)) * a2_1)) then (congoulaw04_CurvesSteep.j2 kj34 (wrap64 (Int.tmod (IntKind.u64.wrap (a1)) (IntKind.u64.wrap ((t387.length : Int))))) t387 true a0_0 l0_1 l0_2 a2_0 a2_1 a3_0 a3_1) else (if a3_0 < (wrap64 ((rd l0_1 (ji59)) * a3_1)) then (congoulaw04_CurvesSteep.j2 kj34 (wrap64 (Int.tmod (IntKind.u64.wrap (a1)) (IntKind.u64.wrap ((t387.length : Int))))) t387 true a0_0 l0_1 l0_2 a2_0 a2_1 a3_0 a3_1) else (congoulaw04_CurvesSteep.j2 kj34 (wrap64 (Int.tmod (IntKind.u64.wrap (a1)) (IntKind.u64.wrap ((t387.length : Int))))) t387 (decide (a3_0 ≥ (wrap64 ((rd l0_1 (ji62)) * a3_1)))) a0_0 l0_1 l0_2 a2_0 a2_1 a3_0 a3_1)))) else (congoulaw04_CurvesSteep.j2 kj34 (wrap64 (Int.tmod (IntKind.u64.wrap (a1)) (IntKind.u64.wrap ((t387.length : Int))))) t387 true a0_0 l0_1 l0_2 a2_0 a2_1 a3_0 a3_1))) = some r := by rw [if_pos rfl] at H; exact H
      clear H
      have H := H1
      clear H1
      replace H := Option.bind_eq_some_iff.mp H
      obtain ⟨t398, A730, H⟩ := H
      replace H : (if t398 = true then (if a2_0 < (wrap64 ((rd l0_1 (ji59)) * a2_1)) then (congoulaw04_CurvesSteep.j2 kj34 (wrap64 (Int.tmod (IntKind.u64.wrap (a1)) (IntKind.u64.wrap ((t387.length : Int))))) t387 true a0_0 l0_1 l0_2 a2_0 a2_1 a3_0 a3_1) else (if a2_0 ≥ (wrap64 ((rd l0_1 (ji62)) * a2_1)) then (congoulaw04_CurvesSteep.j2 kj34 (wrap64 (Int.tmod (IntKind.u64.wrap (a1)) (IntKind.u64.wrap ((t387.length : Int))))) t387 true a0_0 l0_1 l0_2 a2_0 a2_1 a3_0 a3_1) else (if a3_0 < (wrap64 ((rd l0_1 (ji59)) * a3_1)) then (congoulaw04_CurvesSteep.j2 kj34 (wrap64 (Int.tmod (IntKind.u64.wrap (a1)) (IntKind.u64.wrap ((t387.length : Int))))) t387 true a0_0 l0_1 l0_2 a2_0 a2_1 a3_0 a3_1) else (congoulaw04_CurvesSteep.j2 kj34 (wrap64 (Int.tmod (IntKind.u64.wrap (a1)) (IntKind.u64.wrap ((t387.length : Int))))) t387 (decide (a3_0 ≥ (wrap64 ((rd l0_1 (ji62)) * a3_1)))) a0_0 l0_1 l0_2 a2_0 a2_1 a3_0 a3_1)))) else (congoulaw04_CurvesSteep.j2 kj34 (wrap64 (Int.tmod (IntKind.u64.wrap (a1)) (IntKind.u64.wrap ((t387.length : Int))))) t387 true a0_0 l0_1 l0_2 a2_0 a2_1 a3_0 a3_1)) = some r := H
      have A73 := Aside0.mk A730
      clear A730
      by_cases c74 : t398 = true
      rotate_left
      ·replace c74 := Bool.eq_false_iff.mpr c74
       subst c74
       have H1 : (congoulaw04_CurvesSteep.j2 kj34 (wrap64 (Int.tmod (IntKind.u64.wrap (a1)) (IntKind.u64.wrap ((t387.length : Int))))) t387 true a0_0 l0_1 l0_2 a2_0 a2_1 a3_0 a3_1) = some r := by rw [if_neg (show ¬ (false = true) by decide)] at H; exact H
       clear H
       have H := H1
       clear H1
       have H' := Aside0.mk H
       clear H
       have hnb120 := NB373_374.out
       have hnc120 := NB374_373.out
       have hnb121 := NB373_375.out
       have hnc121 := NB375_373.out
       have hcz122_0 : w70.cell? ⟨gb373, 0, none⟩ = some (.int .i64 a0_0) := bc BK373 0
       have hcz122_1 : w70.cell? ⟨gb373, 1, none⟩ = some (.slice (some ad395) l0_1.length c0_1) := bc BK373 1
       have hcz122_2 : w70.cell? ⟨gb373, 2, none⟩ = some (.slice A0_2 l0_2.length c0_2) := bc BK373 2
       have hfz122_0 := fz BK373 0
       have hfz122_1 := fz BK373 1
       have hfz122_2 := fz BK373 2
       have hnb123 := NB374_375.out
       have hnc123 := NB375_374.out
       have hcz124_0 : w70.cell? ⟨gb374, 0, none⟩ = some (.int .i64 a2_0) := bc BK374 0
       have hcz124_1 : w70.cell? ⟨gb374, 1, none⟩ = some (.int .i64 a2_1) := bc BK374 1
       have hfz124_0 := fz BK374 0
       have hfz124_1 := fz BK374 1
       go_wp2_with (first | ((with_reducible refine gate_callee (f := 13) rfl ?_); refine gL 104 Tryd.func13 #[.agg #[.int .i64 a0_0, .slice (some ad395) l0_1.length c0_1, .slice A0_2 l0_2.length c0_2], .agg #[.int .i64 a2_0, .int .i64 a2_1]] ?_; (with_reducible refine (congouref04_In.calls kj34 a0_0 _ _ l0_1 _ _ l0_2 a2_0 a2_1 true _ ?side1 ?side2 ?side3 ?side4 A71.out).mono ?_); (case side1 => exact kC HR0_1); (case side2 => exact HC0_1.out); (case side3 => exact kC HR0_2); (case side4 => exact HC0_2.out); rintro e w125 ⟨rfl, hb⟩; refine ⟨_, rfl, ?_⟩; replace HO_11 := kO HO_11 hb; replace BK373 := kB BK373 hb; replace BK374 := kB BK374 hb; replace BK375 := kB BK375 hb; replace HB := kH _ hb; (try clear hb); (try clear hb2); (try clear hk); (try clear hi); have hcz126_0 : w125.cell? ⟨gb373, 0, none⟩ = some (.int .i64 a0_0) := bc BK373 0; have hcz126_1 : w125.cell? ⟨gb373, 1, none⟩ = some (.slice (some ad395) l0_1.length c0_1) := bc BK373 1; have hcz126_2 : w125.cell? ⟨gb373, 2, none⟩ = some (.slice A0_2 l0_2.length c0_2) := bc BK373 2; have hfz126_0 := fz BK373 0; have hfz126_1 := fz BK373 1; have hfz126_2 := fz BK373 2; have hcz127_0 : w125.cell? ⟨gb375, 0, none⟩ = some (.int .i64 a3_0) := bc BK375 0; have hcz127_1 : w125.cell? ⟨gb375, 1, none⟩ = some (.int .i64 a3_1) := bc BK375 1; have hfz127_0 := fz BK375 0; have hfz127_1 := fz BK375 1) | (go_at_call 13; (with_reducible refine (congouref04_In.calls kj34 a0_0 _ _ l0_1 _ _ l0_2 a3_0 a3_1 false _ ?side1 ?side2 ?side3 ?side4 A73.out).mono ?_); (case side1 => exact kC HR0_1); (case side2 => exact HC0_1.out); (case side3 => exact kC HR0_2); (case side4 => exact HC0_2.out); rintro e w128 ⟨rfl, hb⟩; replace HO_11 := kO HO_11 hb; replace BK373 := kB BK373 hb; replace BK374 := kB BK374 hb; replace BK375 := kB BK375 hb; replace HB := kH _ hb; (try clear hb); (try clear hb2); (try clear hk); (try clear hi)))
       go_meet
       case rel => exact ⟨_, (true), (by first | rfl | (simp; done) | (simp [*]; done)), H', ⟨by have := HJ6.out; have := HJ34.out; first | omega | exact Nat.le_refl _⟩, ⟨rC HO_11⟩, ⟨bkC BK373⟩, ⟨bkC BK374⟩, ⟨bkC BK375⟩, ⟨hbC _⟩⟩
      subst c74
      have H1 : (if a2_0 < (wrap64 ((rd l0_1 (ji59)) * a2_1)) then (congoulaw04_CurvesSteep.j2 kj34 (wrap64 (Int.tmod (IntKind.u64.wrap (a1)) (IntKind.u64.wrap ((t387.length : Int))))) t387 true a0_0 l0_1 l0_2 a2_0 a2_1 a3_0 a3_1) else (if a2_0 ≥ (wrap64 ((rd l0_1 (ji62)) * a2_1)) then (congoulaw04_CurvesSteep.j2 kj34 (wrap64 (Int.tmod (IntKind.u64.wrap (a1)) (IntKind.u64.wrap ((t387.length : Int))))) t387 true a0_0 l0_1 l0_2 a2_0 a2_1 a3_0 a3_1) else (if a3_0 < (wrap64 ((rd l0_1 (ji59)) * a3_1)) then (congoulaw04_CurvesSteep.j2 kj34 (wrap64 (Int.tmod (IntKind.u64.wrap (a1)) (IntKind.u64.wrap ((t387.length : Int))))) t387 true a0_0 l0_1 l0_2 a2_0 a2_1 a3_0 a3_1) else (congoulaw04_CurvesSteep.j2 kj34 (wrap64 (Int.tmod (IntKind.u64.wrap (a1)) (IntKind.u64.wrap ((t387.length : Int))))) t387 (decide (a3_0 ≥ (wrap64 ((rd l0_1 (ji62)) * a3_1)))) a0_0 l0_1 l0_2 a2_0 a2_1 a3_0 a3_1)))) = some r := by rw [if_pos rfl] at H; exact H
      clear H
      have H := H1
      clear H1
      by_cases c75 : a2_0 < (wrap64 ((rd l0_1 (ji59)) * a2_1))
      ·rw [if_pos c75] at H
       have c75b0 : decide (a2_0 < (wrap64 ((rd l0_1 (ji59)) * a2_1))) = true := decide_eq_true c75
       clear c75
       (first | rw [c75b0] | (simp only [i64_w, i32_w]; rw [c75b0]) | skip)
       have H' := Aside0.mk H
       clear H
       have hnb76 := NB373_374.out
       have hnc76 := NB374_373.out
       have hnb77 := NB373_375.out
       have hnc77 := NB375_373.out
       have hcz78_0 : w70.cell? ⟨gb373, 0, none⟩ = some (.int .i64 a0_0) := bc BK373 0
       have hcz78_1 : w70.cell? ⟨gb373, 1, none⟩ = some (.slice (some ad395) l0_1.length c0_1) := bc BK373 1
       have hcz78_2 : w70.cell? ⟨gb373, 2, none⟩ = some (.slice A0_2 l0_2.length c0_2) := bc BK373 2
       have hfz78_0 := fz BK373 0
       have hfz78_1 := fz BK373 1
       have hfz78_2 := fz BK373 2
       have hnb79 := NB374_375.out
       have hnc79 := NB375_374.out
       have hcz80_0 : w70.cell? ⟨gb374, 0, none⟩ = some (.int .i64 a2_0) := bc BK374 0
       have hcz80_1 : w70.cell? ⟨gb374, 1, none⟩ = some (.int .i64 a2_1) := bc BK374 1
       have hfz80_0 := fz BK374 0
       have hfz80_1 := fz BK374 1
       go_wp2_with (first | ((with_reducible refine gate_callee (f := 13) rfl ?_); refine gL 104 Tryd.func13 #[.agg #[.int .i64 a0_0, .slice (some ad395) l0_1.length c0_1, .slice A0_2 l0_2.length c0_2], .agg #[.int .i64 a2_0, .int .i64 a2_1]] ?_; (with_reducible refine (congouref04_In.calls kj34 a0_0 _ _ l0_1 _ _ l0_2 a2_0 a2_1 true _ ?side1 ?side2 ?side3 ?side4 A71.out).mono ?_); (case side1 => exact kC HR0_1); (case side2 => exact HC0_1.out); (case side3 => exact kC HR0_2); (case side4 => exact HC0_2.out); rintro e w81 ⟨rfl, hb⟩; refine ⟨_, rfl, ?_⟩; replace HO_11 := kO HO_11 hb; replace BK373 := kB BK373 hb; replace BK374 := kB BK374 hb; replace BK375 := kB BK375 hb; replace HB := kH _ hb; (try clear hb); (try clear hb2); (try clear hk); (try clear hi); have hcz82_0 : w81.cell? ⟨gb373, 0, none⟩ = some (.int .i64 a0_0) := bc BK373 0; have hcz82_1 : w81.cell? ⟨gb373, 1, none⟩ = some (.slice (some ad395) l0_1.length c0_1) := bc BK373 1; have hcz82_2 : w81.cell? ⟨gb373, 2, none⟩ = some (.slice A0_2 l0_2.length c0_2) := bc BK373 2; have hfz82_0 := fz BK373 0; have hfz82_1 := fz BK373 1; have hfz82_2 := fz BK373 2; have hcz83_0 : w81.cell? ⟨gb375, 0, none⟩ = some (.int .i64 a3_0) := bc BK375 0; have hcz83_1 : w81.cell? ⟨gb375, 1, none⟩ = some (.int .i64 a3_1) := bc BK375 1; have hfz83_0 := fz BK375 0; have hfz83_1 := fz BK375 1) | (go_at_call 13; (with_reducible refine (congouref04_In.calls kj34 a0_0 _ _ l0_1 _ _ l0_2 a3_0 a3_1 true _ ?side1 ?side2 ?side3 ?side4 A73.out).mono ?_); (case side1 => exact kC HR0_1); (case side2 => exact HC0_1.out); (case side3 => exact kC HR0_2); (case side4 => exact HC0_2.out); rintro e w84 ⟨rfl, hb⟩; replace HO_11 := kO HO_11 hb; replace BK373 := kB BK373 hb; replace BK374 := kB BK374 hb; replace BK375 := kB BK375 hb; replace HB := kH _ hb; (try clear hb); (try clear hb2); (try clear hk); (try clear hi); have hcz85_0 : w84.cell? ⟨gb374, 0, none⟩ = some (.int .i64 a2_0) := bc BK374 0; have hcz85_1 : w84.cell? ⟨gb374, 1, none⟩ = some (.int .i64 a2_1) := bc BK374 1; have hfz85_0 := fz BK374 0; have hfz85_1 := fz BK374 1))
       go_meet
       case rel => exact ⟨_, (true), (by first | rfl | (simp; done) | (simp [*]; done)), H', ⟨by have := HJ6.out; have := HJ34.out; first | omega | exact Nat.le_refl _⟩, ⟨rC HO_11⟩, ⟨bkC BK373⟩, ⟨bkC BK374⟩, ⟨bkC BK375⟩, ⟨hbC _⟩⟩
      rw [if_neg c75] at H
      have c75b0 : decide (a2_0 < (wrap64 ((rd l0_1 (ji59)) * a2_1))) = false := decide_eq_false c75
      clear c75
      (first | rw [c75b0] | (simp only [i64_w, i32_w]; rw [c75b0]) | skip)
      by_cases c86 : a2_0 ≥ (wrap64 ((rd l0_1 (ji62)) * a2_1))
      ·rw [if_pos c86] at H
       have c86b0 : decide ((wrap64 ((rd l0_1 (ji62)) * a2_1)) ≤ a2_0) = true := decide_eq_true c86
       clear c86
       have H' := Aside0.mk H
       clear H
       have hnb87 := NB373_374.out
       have hnc87 := NB374_373.out
       have hnb88 := NB373_375.out
       have hnc88 := NB375_373.out
       have hcz89_0 : w70.cell? ⟨gb373, 0, none⟩ = some (.int .i64 a0_0) := bc BK373 0
       have hcz89_1 : w70.cell? ⟨gb373, 1, none⟩ = some (.slice (some ad395) l0_1.length c0_1) := bc BK373 1
       have hcz89_2 : w70.cell? ⟨gb373, 2, none⟩ = some (.slice A0_2 l0_2.length c0_2) := bc BK373 2
       have hfz89_0 := fz BK373 0
       have hfz89_1 := fz BK373 1
       have hfz89_2 := fz BK373 2
       have hnb90 := NB374_375.out
       have hnc90 := NB375_374.out
       have hcz91_0 : w70.cell? ⟨gb374, 0, none⟩ = some (.int .i64 a2_0) := bc BK374 0
       have hcz91_1 : w70.cell? ⟨gb374, 1, none⟩ = some (.int .i64 a2_1) := bc BK374 1
       have hfz91_0 := fz BK374 0
       have hfz91_1 := fz BK374 1
       go_wp2_with (first | ((with_reducible refine gate_callee (f := 13) rfl ?_); refine gL 104 Tryd.func13 #[.agg #[.int .i64 a0_0, .slice (some ad395) l0_1.length c0_1, .slice A0_2 l0_2.length c0_2], .agg #[.int .i64 a2_0, .int .i64 a2_1]] ?_; (with_reducible refine (congouref04_In.calls kj34 a0_0 _ _ l0_1 _ _ l0_2 a2_0 a2_1 true _ ?side1 ?side2 ?side3 ?side4 A71.out).mono ?_); (case side1 => exact kC HR0_1); (case side2 => exact HC0_1.out); (case side3 => exact kC HR0_2); (case side4 => exact HC0_2.out); rintro e w92 ⟨rfl, hb⟩; refine ⟨_, rfl, ?_⟩; replace HO_11 := kO HO_11 hb; replace BK373 := kB BK373 hb; replace BK374 := kB BK374 hb; replace BK375 := kB BK375 hb; replace HB := kH _ hb; (try clear hb); (try clear hb2); (try clear hk); (try clear hi); have hcz93_0 : w92.cell? ⟨gb373, 0, none⟩ = some (.int .i64 a0_0) := bc BK373 0; have hcz93_1 : w92.cell? ⟨gb373, 1, none⟩ = some (.slice (some ad395) l0_1.length c0_1) := bc BK373 1; have hcz93_2 : w92.cell? ⟨gb373, 2, none⟩ = some (.slice A0_2 l0_2.length c0_2) := bc BK373 2; have hfz93_0 := fz BK373 0; have hfz93_1 := fz BK373 1; have hfz93_2 := fz BK373 2; have hcz94_0 : w92.cell? ⟨gb375, 0, none⟩ = some (.int .i64 a3_0) := bc BK375 0; have hcz94_1 : w92.cell? ⟨gb375, 1, none⟩ = some (.int .i64 a3_1) := bc BK375 1; have hfz94_0 := fz BK375 0; have hfz94_1 := fz BK375 1) | (go_at_call 13; (with_reducible refine (congouref04_In.calls kj34 a0_0 _ _ l0_1 _ _ l0_2 a3_0 a3_1 true _ ?side1 ?side2 ?side3 ?side4 A73.out).mono ?_); (case side1 => exact kC HR0_1); (case side2 => exact HC0_1.out); (case side3 => exact kC HR0_2); (case side4 => exact HC0_2.out); rintro e w95 ⟨rfl, hb⟩; replace HO_11 := kO HO_11 hb; replace BK373 := kB BK373 hb; replace BK374 := kB BK374 hb; replace BK375 := kB BK375 hb; replace HB := kH _ hb; (try clear hb); (try clear hb2); (try clear hk); (try clear hi); have hcz96_0 : w95.cell? ⟨gb374, 0, none⟩ = some (.int .i64 a2_0) := bc BK374 0; have hcz96_1 : w95.cell? ⟨gb374, 1, none⟩ = some (.int .i64 a2_1) := bc BK374 1; have hfz96_0 := fz BK374 0; have hfz96_1 := fz BK374 1))
       go_meet
       case rel => exact ⟨_, (true), (by first | rfl | (simp; done) | (simp [*]; done)), H', ⟨by have := HJ6.out; have := HJ34.out; first | omega | exact Nat.le_refl _⟩, ⟨rC HO_11⟩, ⟨bkC BK373⟩, ⟨bkC BK374⟩, ⟨bkC BK375⟩, ⟨hbC _⟩⟩
      rw [if_neg c86] at H
      have c86b0 : decide ((wrap64 ((rd l0_1 (ji62)) * a2_1)) ≤ a2_0) = false := decide_eq_false c86
      clear c86
      by_cases c97 : a3_0 < (wrap64 ((rd l0_1 (ji59)) * a3_1))
      ·rw [if_pos c97] at H
       have c97b0 : decide (a3_0 < (wrap64 ((rd l0_1 (ji59)) * a3_1))) = true := decide_eq_true c97
       clear c97
       have H' := Aside0.mk H
       clear H
       have hnb98 := NB373_374.out
       have hnc98 := NB374_373.out
       have hnb99 := NB373_375.out
       have hnc99 := NB375_373.out
       have hcz100_0 : w70.cell? ⟨gb373, 0, none⟩ = some (.int .i64 a0_0) := bc BK373 0
       have hcz100_1 : w70.cell? ⟨gb373, 1, none⟩ = some (.slice (some ad395) l0_1.length c0_1) := bc BK373 1
       have hcz100_2 : w70.cell? ⟨gb373, 2, none⟩ = some (.slice A0_2 l0_2.length c0_2) := bc BK373 2
       have hfz100_0 := fz BK373 0
       have hfz100_1 := fz BK373 1
       have hfz100_2 := fz BK373 2
       have hnb101 := NB374_375.out
       have hnc101 := NB375_374.out
       have hcz102_0 : w70.cell? ⟨gb374, 0, none⟩ = some (.int .i64 a2_0) := bc BK374 0
       have hcz102_1 : w70.cell? ⟨gb374, 1, none⟩ = some (.int .i64 a2_1) := bc BK374 1
       have hfz102_0 := fz BK374 0
       have hfz102_1 := fz BK374 1
       go_wp2_with (first | ((with_reducible refine gate_callee (f := 13) rfl ?_); refine gL 104 Tryd.func13 #[.agg #[.int .i64 a0_0, .slice (some ad395) l0_1.length c0_1, .slice A0_2 l0_2.length c0_2], .agg #[.int .i64 a2_0, .int .i64 a2_1]] ?_; (with_reducible refine (congouref04_In.calls kj34 a0_0 _ _ l0_1 _ _ l0_2 a2_0 a2_1 true _ ?side1 ?side2 ?side3 ?side4 A71.out).mono ?_); (case side1 => exact kC HR0_1); (case side2 => exact HC0_1.out); (case side3 => exact kC HR0_2); (case side4 => exact HC0_2.out); rintro e w103 ⟨rfl, hb⟩; refine ⟨_, rfl, ?_⟩; replace HO_11 := kO HO_11 hb; replace BK373 := kB BK373 hb; replace BK374 := kB BK374 hb; replace BK375 := kB BK375 hb; replace HB := kH _ hb; (try clear hb); (try clear hb2); (try clear hk); (try clear hi); have hcz104_0 : w103.cell? ⟨gb373, 0, none⟩ = some (.int .i64 a0_0) := bc BK373 0; have hcz104_1 : w103.cell? ⟨gb373, 1, none⟩ = some (.slice (some ad395) l0_1.length c0_1) := bc BK373 1; have hcz104_2 : w103.cell? ⟨gb373, 2, none⟩ = some (.slice A0_2 l0_2.length c0_2) := bc BK373 2; have hfz104_0 := fz BK373 0; have hfz104_1 := fz BK373 1; have hfz104_2 := fz BK373 2; have hcz105_0 : w103.cell? ⟨gb375, 0, none⟩ = some (.int .i64 a3_0) := bc BK375 0; have hcz105_1 : w103.cell? ⟨gb375, 1, none⟩ = some (.int .i64 a3_1) := bc BK375 1; have hfz105_0 := fz BK375 0; have hfz105_1 := fz BK375 1) | (go_at_call 13; (with_reducible refine (congouref04_In.calls kj34 a0_0 _ _ l0_1 _ _ l0_2 a3_0 a3_1 true _ ?side1 ?side2 ?side3 ?side4 A73.out).mono ?_); (case side1 => exact kC HR0_1); (case side2 => exact HC0_1.out); (case side3 => exact kC HR0_2); (case side4 => exact HC0_2.out); rintro e w106 ⟨rfl, hb⟩; replace HO_11 := kO HO_11 hb; replace BK373 := kB BK373 hb; replace BK374 := kB BK374 hb; replace BK375 := kB BK375 hb; replace HB := kH _ hb; (try clear hb); (try clear hb2); (try clear hk); (try clear hi); have hcz107_0 : w106.cell? ⟨gb374, 0, none⟩ = some (.int .i64 a2_0) := bc BK374 0; have hcz107_1 : w106.cell? ⟨gb374, 1, none⟩ = some (.int .i64 a2_1) := bc BK374 1; have hfz107_0 := fz BK374 0; have hfz107_1 := fz BK374 1; have hcz108_0 : w106.cell? ⟨gb375, 0, none⟩ = some (.int .i64 a3_0) := bc BK375 0; have hcz108_1 : w106.cell? ⟨gb375, 1, none⟩ = some (.int .i64 a3_1) := bc BK375 1; have hfz108_0 := fz BK375 0; have hfz108_1 := fz BK375 1))
       go_meet
       case rel => exact ⟨_, (true), (by first | rfl | (simp; done) | (simp [*]; done)), H', ⟨by have := HJ6.out; have := HJ34.out; first | omega | exact Nat.le_refl _⟩, ⟨rC HO_11⟩, ⟨bkC BK373⟩, ⟨bkC BK374⟩, ⟨bkC BK375⟩, ⟨hbC _⟩⟩
      rw [if_neg c97] at H
      have c97b0 : decide (a3_0 < (wrap64 ((rd l0_1 (ji59)) * a3_1))) = false := decide_eq_false c97
      clear c97
      have H' := Aside0.mk H
      clear H
      have hnb109 := NB373_374.out
      have hnc109 := NB374_373.out
      have hnb110 := NB373_375.out
      have hnc110 := NB375_373.out
      have hcz111_0 : w70.cell? ⟨gb373, 0, none⟩ = some (.int .i64 a0_0) := bc BK373 0
      have hcz111_1 : w70.cell? ⟨gb373, 1, none⟩ = some (.slice (some ad395) l0_1.length c0_1) := bc BK373 1
      have hcz111_2 : w70.cell? ⟨gb373, 2, none⟩ = some (.slice A0_2 l0_2.length c0_2) := bc BK373 2
      have hfz111_0 := fz BK373 0
      have hfz111_1 := fz BK373 1
      have hfz111_2 := fz BK373 2
      have hnb112 := NB374_375.out
      have hnc112 := NB375_374.out
      have hcz113_0 : w70.cell? ⟨gb374, 0, none⟩ = some (.int .i64 a2_0) := bc BK374 0
      have hcz113_1 : w70.cell? ⟨gb374, 1, none⟩ = some (.int .i64 a2_1) := bc BK374 1
      have hfz113_0 := fz BK374 0
      have hfz113_1 := fz BK374 1
      go_wp2_with (first | ((with_reducible refine gate_callee (f := 13) rfl ?_); refine gL 104 Tryd.func13 #[.agg #[.int .i64 a0_0, .slice (some ad395) l0_1.length c0_1, .slice A0_2 l0_2.length c0_2], .agg #[.int .i64 a2_0, .int .i64 a2_1]] ?_; (with_reducible refine (congouref04_In.calls kj34 a0_0 _ _ l0_1 _ _ l0_2 a2_0 a2_1 true _ ?side1 ?side2 ?side3 ?side4 A71.out).mono ?_); (case side1 => exact kC HR0_1); (case side2 => exact HC0_1.out); (case side3 => exact kC HR0_2); (case side4 => exact HC0_2.out); rintro e w114 ⟨rfl, hb⟩; refine ⟨_, rfl, ?_⟩; replace HO_11 := kO HO_11 hb; replace BK373 := kB BK373 hb; replace BK374 := kB BK374 hb; replace BK375 := kB BK375 hb; replace HB := kH _ hb; (try clear hb); (try clear hb2); (try clear hk); (try clear hi); have hcz115_0 : w114.cell? ⟨gb373, 0, none⟩ = some (.int .i64 a0_0) := bc BK373 0; have hcz115_1 : w114.cell? ⟨gb373, 1, none⟩ = some (.slice (some ad395) l0_1.length c0_1) := bc BK373 1; have hcz115_2 : w114.cell? ⟨gb373, 2, none⟩ = some (.slice A0_2 l0_2.length c0_2) := bc BK373 2; have hfz115_0 := fz BK373 0; have hfz115_1 := fz BK373 1; have hfz115_2 := fz BK373 2; have hcz116_0 : w114.cell? ⟨gb375, 0, none⟩ = some (.int .i64 a3_0) := bc BK375 0; have hcz116_1 : w114.cell? ⟨gb375, 1, none⟩ = some (.int .i64 a3_1) := bc BK375 1; have hfz116_0 := fz BK375 0; have hfz116_1 := fz BK375 1) | (go_at_call 13; (with_reducible refine (congouref04_In.calls kj34 a0_0 _ _ l0_1 _ _ l0_2 a3_0 a3_1 true _ ?side1 ?side2 ?side3 ?side4 A73.out).mono ?_); (case side1 => exact kC HR0_1); (case side2 => exact HC0_1.out); (case side3 => exact kC HR0_2); (case side4 => exact HC0_2.out); rintro e w117 ⟨rfl, hb⟩; replace HO_11 := kO HO_11 hb; replace BK373 := kB BK373 hb; replace BK374 := kB BK374 hb; replace BK375 := kB BK375 hb; replace HB := kH _ hb; (try clear hb); (try clear hb2); (try clear hk); (try clear hi); have hcz118_0 : w117.cell? ⟨gb374, 0, none⟩ = some (.int .i64 a2_0) := bc BK374 0; have hcz118_1 : w117.cell? ⟨gb374, 1, none⟩ = some (.int .i64 a2_1) := bc BK374 1; have hfz118_0 := fz BK374 0; have hfz118_1 := fz BK374 1; have hcz119_0 : w117.cell? ⟨gb375, 0, none⟩ = some (.int .i64 a3_0) := bc BK375 0; have hcz119_1 : w117.cell? ⟨gb375, 1, none⟩ = some (.int .i64 a3_1) := bc BK375 1; have hfz119_0 := fz BK375 0; have hfz119_1 := fz BK375 1))
      go_meet
      case rel => exact ⟨_, (decide (a3_0 ≥ (wrap64 ((rd l0_1 (ji62)) * a3_1)))), (by first | rfl | (simp; done) | (simp only [← hji62] <;> (first | rfl | simp)) | (simp [*]; done)), H', ⟨by have := HJ6.out; have := HJ34.out; first | omega | exact Nat.le_refl _⟩, ⟨rC HO_11⟩, ⟨bkC BK373⟩, ⟨bkC BK374⟩, ⟨bkC BK375⟩, ⟨hbC _⟩⟩
     case rest =>
      as_aux_lemma =>
      clear HC65
      try clear c1
      try clear c2
      try clear p2
      try clear c3
      try clear p3
      try clear q3
      try clear hx3
      try clear c4
      try clear c5
      try clear c6
      try clear p6
      try clear c7
      try clear c8
      try clear c9
      try clear c10
      try clear c11
      try clear c12
      try clear c13
      try clear c18
      try clear c18b0
      try clear c18b1
      try clear c20
      try clear c21
      try clear c24
      try clear c25
      try clear c25b0
      try clear c25b1
      try clear c28
      try clear c28b0
      try clear c28b1
      try clear c29
      try clear c29b0
      try clear c29b1
      try clear c31
      try clear c32
      try clear c36
      try clear c36b0
      try clear c36b1
      try clear c37
      try clear c37b0
      try clear c37b1
      try clear c38
      try clear c38b0
      try clear c38b1
      try clear c39
      try clear p39
      try clear q39
      try clear hx39
      try clear c40
      try clear c44
      try clear c45
      try clear c49
      try clear c50
      try clear c53
      try clear c54
      try clear c56
      try clear c57
      try clear c57b0
      try clear c57b1
      try clear c58
      try clear c58b0
      try clear c58b1
      try clear c60
      try clear c60b0
      try clear c61
      try clear c61b0
      try clear c63
      try clear c63b0
      try clear c64
      try clear c64b0
      try clear p64
      try clear c66
      try clear c67
      try clear c72
      try clear c74
      try clear c75
      try clear c75b0
      try clear c76
      try clear c77
      try clear c79
      try clear c86
      try clear c86b0
      try clear c87
      try clear c88
      try clear c90
      try clear c97
      try clear c97b0
      try clear c98
      try clear c99
      try clear c101
      try clear c109
      try clear c110
      try clear c112
      try clear c120
      try clear c121
      try clear c123
      try clear c129
      try clear c130
      try clear c132
      try clear hcz100_0
      try clear hcz100_1
      try clear hcz100_2
      try clear hcz102_0
      try clear hcz102_1
      try clear hcz104_0
      try clear hcz104_1
      try clear hcz104_2
      try clear hcz105_0
      try clear hcz105_1
      try clear hcz107_0
      try clear hcz107_1
      try clear hcz108_0
      try clear hcz108_1
      try clear hcz111_0
      try clear hcz111_1
      try clear hcz111_2
      try clear hcz113_0
      try clear hcz113_1
      try clear hcz115_0
      try clear hcz115_1
      try clear hcz115_2
      try clear hcz116_0
      try clear hcz116_1
      try clear hcz118_0
      try clear hcz118_1
      try clear hcz119_0
      try clear hcz119_1
      try clear hcz122_0
      try clear hcz122_1
      try clear hcz122_2
      try clear hcz124_0
      try clear hcz124_1
      try clear hcz126_0
      try clear hcz126_1
      try clear hcz126_2
      try clear hcz127_0
      try clear hcz127_1
      try clear hcz131_0
      try clear hcz131_1
      try clear hcz131_2
      try clear hcz133_0
      try clear hcz133_1
      try clear hcz13_0
      try clear hcz13_1
      try clear hcz13_2
      try clear hcz22_0
      try clear hcz22_1
      try clear hcz22_2
      try clear hcz33_0
      try clear hcz33_1
      try clear hcz33_2
      try clear hcz41_0
      try clear hcz41_1
      try clear hcz41_2
      try clear hcz46_0
      try clear hcz46_1
      try clear hcz46_2
      try clear hcz51_0
      try clear hcz51_1
      try clear hcz51_2
      try clear hcz55_0
      try clear hcz55_1
      try clear hcz55_2
      try clear hcz68_0
      try clear hcz68_1
      try clear hcz68_2
      try clear hcz78_0
      try clear hcz78_1
      try clear hcz78_2
      try clear hcz80_0
      try clear hcz80_1
      try clear hcz82_0
      try clear hcz82_1
      try clear hcz82_2
      try clear hcz83_0
      try clear hcz83_1
      try clear hcz85_0
      try clear hcz85_1
      try clear hcz89_0
      try clear hcz89_1
      try clear hcz89_2
      try clear hcz91_0
      try clear hcz91_1
      try clear hcz93_0
      try clear hcz93_1
      try clear hcz93_2
      try clear hcz94_0
      try clear hcz94_1
      try clear hcz96_0
      try clear hcz96_1
      try clear hfz100_0
      try clear hfz100_1
      try clear hfz100_2
      try clear hfz102_0
      try clear hfz102_1
      try clear hfz104_0
      try clear hfz104_1
      try clear hfz104_2
      try clear hfz105_0
      try clear hfz105_1
      try clear hfz107_0
      try clear hfz107_1
      try clear hfz108_0
      try clear hfz108_1
      try clear hfz111_0
      try clear hfz111_1
      try clear hfz111_2
      try clear hfz113_0
      try clear hfz113_1
      try clear hfz115_0
      try clear hfz115_1
      try clear hfz115_2
      try clear hfz116_0
      try clear hfz116_1
      try clear hfz118_0
      try clear hfz118_1
      try clear hfz119_0
      try clear hfz119_1
      try clear hfz122_0
      try clear hfz122_1
      try clear hfz122_2
      try clear hfz124_0
      try clear hfz124_1
      try clear hfz126_0
      try clear hfz126_1
      try clear hfz126_2
      try clear hfz127_0
      try clear hfz127_1
      try clear hfz131_0
      try clear hfz131_1
      try clear hfz131_2
      try clear hfz133_0
      try clear hfz133_1
      try clear hfz13_0
      try clear hfz13_1
      try clear hfz13_2
      try clear hfz22_0
      try clear hfz22_1
      try clear hfz22_2
      try clear hfz33_0
      try clear hfz33_1
      try clear hfz33_2
      try clear hfz41_0
      try clear hfz41_1
      try clear hfz41_2
      try clear hfz46_0
      try clear hfz46_1
      try clear hfz46_2
      try clear hfz51_0
      try clear hfz51_1
      try clear hfz51_2
      try clear hfz55_0
      try clear hfz55_1
      try clear hfz55_2
      try clear hfz68_0
      try clear hfz68_1
      try clear hfz68_2
      try clear hfz78_0
      try clear hfz78_1
      try clear hfz78_2
      try clear hfz80_0
      try clear hfz80_1
      try clear hfz82_0
      try clear hfz82_1
      try clear hfz82_2
      try clear hfz83_0
      try clear hfz83_1
      try clear hfz85_0
      try clear hfz85_1
      try clear hfz89_0
      try clear hfz89_1
      try clear hfz89_2
      try clear hfz91_0
      try clear hfz91_1
      try clear hfz93_0
      try clear hfz93_1
      try clear hfz93_2
      try clear hfz94_0
      try clear hfz94_1
      try clear hfz96_0
      try clear hfz96_1
      try clear hx395_0
      try clear hx396_0
      try clear p2
      try clear p395
      try clear p396
      try clear p6
      try clear q395
      try clear q396
      obtain ⟨kq, x147_64, rfl, HA, HJ64, HO_11, BK373, BK374, BK375, HB⟩ := hcut
      cases kq with
      | zero => exact absurd HA.out (by simp [congoulaw04_CurvesSteep.j2])
      | succ kj64 =>
       have H := HA.out
       clear HA
       simp only [congoulaw04_CurvesSteep.j2] at H
       by_cases c135 : x147_64 = true
       ·subst c135
        have H1 : ((congoulaw04_awake.f kj64).bind fun t399 => (some t399)) = some r := by rw [if_pos rfl] at H; exact H
        clear H
        have H := H1
        clear H1
        replace H := Option.bind_eq_some_iff.mp H
        obtain ⟨t399, A1360, H⟩ := H
        replace H : (some t399) = some r := H
        have A136 := Aside0.mk A1360
        clear A1360
        obtain rfl := Option.some.inj H
        go_wp2_with (first | ((with_reducible refine gate_callee (f := 9) rfl ?_); refine gL 148 Tryd.func9 #[] ?_; (with_reducible refine (congoulaw04_awake.calls kj64  t399 _ A136.out).mono ?_); rintro e w137 ⟨rfl, hb⟩; refine ⟨_, rfl, ?_⟩; replace HO_11 := kO HO_11 hb; replace BK373 := kB BK373 hb; replace BK374 := kB BK374 hb; replace BK375 := kB BK375 hb; replace HB := kH _ hb; (try clear hb); (try clear hb2); (try clear hk); (try clear hi)))
        go_ret
        exact ⟨by first | rfl | (simp [errW_none, errW_some] <;> rfl) | (simp only [← hji59, ← hji62]; first | rfl | (simp [errW_none, errW_some] <;> rfl)) | (simp [*, errW_none, errW_some] <;> rfl), hbC _⟩
       replace c135 := Bool.eq_false_iff.mpr c135
       subst c135
       have H1 : ((congoulaw04_Of.f a0_0 l0_1 l0_2).bind fun bt400 => ((curves_Value.f kj64 bt400.1 bt400.2.1 bt400.2.2 a2_0 a2_1).bind fun bt407 => ((congoulaw04_Of.f a0_0 l0_1 l0_2).bind fun bt411 => ((curves_Value.f kj64 bt411.1 bt411.2.1 bt411.2.2 a3_0 a3_1).bind fun bt418 => (if bt407.2.2 = 0 then (congoulaw04_CurvesSteep.j3 kj64 (wrap64 (Int.tmod (IntKind.u64.wrap (a1)) (IntKind.u64.wrap ((t387.length : Int))))) t387 (bt418.2.2 != 0) a2_0 a2_1 a3_0 a3_1 bt407.1 bt407.2.1 bt418.1 bt418.2.1) else (congoulaw04_CurvesSteep.j3 kj64 (wrap64 (Int.tmod (IntKind.u64.wrap (a1)) (IntKind.u64.wrap ((t387.length : Int))))) t387 true a2_0 a2_1 a3_0 a3_1 bt407.1 bt407.2.1 bt418.1 bt418.2.1)))))) = some r := by rw [if_neg (show ¬ (false = true) by decide)] at H; exact H
       clear H
       have H := H1
       clear H1
       replace H := Option.bind_eq_some_iff.mp H
       obtain ⟨⟨t400, t401, t404⟩, A1380, H⟩ := H
       replace H : ((curves_Value.f kj64 t400 t401 t404 a2_0 a2_1).bind fun bt407 => ((congoulaw04_Of.f a0_0 l0_1 l0_2).bind fun bt411 => ((curves_Value.f kj64 bt411.1 bt411.2.1 bt411.2.2 a3_0 a3_1).bind fun bt418 => (if bt407.2.2 = 0 then (congoulaw04_CurvesSteep.j3 kj64 (wrap64 (Int.tmod (IntKind.u64.wrap (a1)) (IntKind.u64.wrap ((t387.length : Int))))) t387 (bt418.2.2 != 0) a2_0 a2_1 a3_0 a3_1 bt407.1 bt407.2.1 bt418.1 bt418.2.1) else (congoulaw04_CurvesSteep.j3 kj64 (wrap64 (Int.tmod (IntKind.u64.wrap (a1)) (IntKind.u64.wrap ((t387.length : Int))))) t387 true a2_0 a2_1 a3_0 a3_1 bt407.1 bt407.2.1 bt418.1 bt418.2.1))))) = some r := H
       have A138 := Aside0.mk A1380
       clear A1380
       replace H := Option.bind_eq_some_iff.mp H
       obtain ⟨⟨t407, t408, t409⟩, A1390, H⟩ := H
       replace H : ((congoulaw04_Of.f a0_0 l0_1 l0_2).bind fun bt411 => ((curves_Value.f kj64 bt411.1 bt411.2.1 bt411.2.2 a3_0 a3_1).bind fun bt418 => (if t409 = 0 then (congoulaw04_CurvesSteep.j3 kj64 (wrap64 (Int.tmod (IntKind.u64.wrap (a1)) (IntKind.u64.wrap ((t387.length : Int))))) t387 (bt418.2.2 != 0) a2_0 a2_1 a3_0 a3_1 t407 t408 bt418.1 bt418.2.1) else (congoulaw04_CurvesSteep.j3 kj64 (wrap64 (Int.tmod (IntKind.u64.wrap (a1)) (IntKind.u64.wrap ((t387.length : Int))))) t387 true a2_0 a2_1 a3_0 a3_1 t407 t408 bt418.1 bt418.2.1)))) = some r := H
       have A139 := Aside0.mk A1390
       clear A1390
       replace H := Option.bind_eq_some_iff.mp H
       obtain ⟨⟨t411, t412, t415⟩, A1400, H⟩ := H
       replace H : ((curves_Value.f kj64 t411 t412 t415 a3_0 a3_1).bind fun bt418 => (if t409 = 0 then (congoulaw04_CurvesSteep.j3 kj64 (wrap64 (Int.tmod (IntKind.u64.wrap (a1)) (IntKind.u64.wrap ((t387.length : Int))))) t387 (bt418.2.2 != 0) a2_0 a2_1 a3_0 a3_1 t407 t408 bt418.1 bt418.2.1) else (congoulaw04_CurvesSteep.j3 kj64 (wrap64 (Int.tmod (IntKind.u64.wrap (a1)) (IntKind.u64.wrap ((t387.length : Int))))) t387 true a2_0 a2_1 a3_0 a3_1 t407 t408 bt418.1 bt418.2.1))) = some r := H
       have A140 := Aside0.mk A1400
       clear A1400
       replace H := Option.bind_eq_some_iff.mp H
       obtain ⟨⟨t418, t419, t420⟩, A1410, H⟩ := H
       replace H : (if t409 = 0 then (congoulaw04_CurvesSteep.j3 kj64 (wrap64 (Int.tmod (IntKind.u64.wrap (a1)) (IntKind.u64.wrap ((t387.length : Int))))) t387 (t420 != 0) a2_0 a2_1 a3_0 a3_1 t407 t408 t418 t419) else (congoulaw04_CurvesSteep.j3 kj64 (wrap64 (Int.tmod (IntKind.u64.wrap (a1)) (IntKind.u64.wrap ((t387.length : Int))))) t387 true a2_0 a2_1 a3_0 a3_1 t407 t408 t418 t419)) = some r := H
       have A141 := Aside0.mk A1410
       clear A1410
       have HC142 := Aside0.mk H
       clear H
       try go_wp2
       replace HO_11 := ak (Kd.R_drew HO_11.out)
       replace BK373 := kd BK373
       replace BK374 := kd BK374
       replace BK375 := kd BK375
       replace HB := ak (below_drew1 HB.out)
       refine sS (n := 10) (S := fun w' => w'.cell? ⟨gb373, 0, none⟩ = some (.int .i64 a0_0) ∧ w'.cell? ⟨gb373, 1, none⟩ = some (.slice (some ad395) l0_1.length c0_1) ∧ w'.cell? ⟨gb373, 2, none⟩ = some (.slice A0_2 l0_2.length c0_2) ∧ w'.cell? ⟨gb374, 0, none⟩ = some (.int .i64 a2_0) ∧ w'.cell? ⟨gb374, 1, none⟩ = some (.int .i64 a2_1)) (ds := []) ⟨bc BK373 0, bc BK373 1, bc BK373 2, bc BK374 0, bc BK374 1⟩ (fun hHeld => ?_); refine with_tabW congoulaw04_CurvesSteep.tab12 congoulaw04_CurvesSteep.bits12 (fun HT_ HW_ => ?_)
       generalize wc.drew = w143 at HO_11 BK373 BK374 BK375 HB hHeld ⊢
       refine tS 0 150 10 1 ?_
       refine tS 2 152 10 5 ?_
       refine join_ (σ := Value × Value × Nat) 2 (ba 10 255) (fun s_ => [(151, .agg #[.int .i64 t400, s_.1, s_.2.1]), (153, .tuple #[.agg #[.int .i64 t407, .int .i64 t408], .int .i64 t409]), (15, .pointer (some ⟨s_.2.2, 0, none⟩)), (149, .tuple #[.agg #[.int .i64 t407, .int .i64 t408], .int .i64 t409]), (154, .agg #[.int .i64 t407, .int .i64 t408]), (155, .int .i64 t409)]) (fun s_ w' => (w'.cell? ⟨gb373, 0, none⟩ = some (.int .i64 a0_0) ∧ w'.cell? ⟨gb373, 1, none⟩ = some (.slice (some ad395) l0_1.length c0_1) ∧ w'.cell? ⟨gb373, 2, none⟩ = some (.slice A0_2 l0_2.length c0_2) ∧ w'.cell? ⟨gb374, 0, none⟩ = some (.int .i64 a2_0) ∧ w'.cell? ⟨gb374, 1, none⟩ = some (.int .i64 a2_1)) ∧ (Kd.R (Kd.int .i64) 3 w' w.heap.size (fun k_ => some k_ ≠ (s_.2.1 : Value).ownBlock) s_.1 t401) ∧ (Kd.R (Kd.int .i64) 3 w' w.heap.size (fun k_ => some k_ ≠ (s_.1 : Value).ownBlock) s_.2.1 t404) ∧ (Kd.R k26 26 w' w.heap.size (fun k_ => k_ ≠ gb374 ∧ k_ ≠ gb375 ∧ k_ ≠ s_.2.2) (.slice Ao69 t387.length co69) t387) ∧ (w'.heap[gb373]? = some (.cells #[.int .i64 a0_0, .slice (some ad395) l0_1.length c0_1, .slice A0_2 l0_2.length c0_2] 24 (0, 0))) ∧ (w'.heap[gb374]? = some (.cells #[.int .i64 a2_0, .int .i64 a2_1] 26 (0, 0))) ∧ (w'.heap[gb375]? = some (.cells #[.int .i64 a3_0, .int .i64 a3_1] 26 (0, 0))) ∧ (w'.heap[s_.2.2]? = some (.cells #[.int .i64 0, .int .i64 0] 26 (0, 0))) ∧ (w.heap.size ≤ s_.2.2) ∧ (w.heap.size ≤ s_.2.2) ∧ (gb373 ≠ s_.2.2) ∧ (s_.2.2 ≠ gb373) ∧ (gb374 ≠ s_.2.2) ∧ (s_.2.2 ≠ gb374) ∧ (gb375 ≠ s_.2.2) ∧ (s_.2.2 ≠ gb375) ∧ (Below w.heap.size w w')) ?_ ?_
       rotate_left
       ·intro hCont
        refine two_ (i := 1) (j := 7) (Ni := some 151) (Nj := some 15) (ba 10 7) (ba 10 133) rfl rfl rfl rfl (two_of HT_.out (by kernel_rfl)) (by decide) (by decide) (fun K hK => ?_) (fun K hK => ?_)
        ·skip
         refine gC Tryd.func7 #[.agg #[.int .i64 a0_0, .slice (some ad395) l0_1.length c0_1, .slice A0_2 l0_2.length c0_2]] ?_
         with_reducible refine (congoulaw04_Of.calls a0_0 _ _ l0_1 _ _ l0_2 t400 t401 t404 _ ?side1 ?side2 ?side3 ?side4 A138.out).mono ?_
         (case side1 => exact kC HR0_1)
         (case side2 => exact HC0_1.out)
         (case side3 => exact kC HR0_2)
         (case side4 => exact HC0_2.out)
         rintro e w144 ⟨v402, v405, rfl, ho0, ho1, hb⟩
         refine ⟨_, rfl, ?_⟩
         replace HO_11 := kO HO_11 hb
         have HO403 := ak (Kd.R_lower ho0 (below_size (hbC _)))
         have HO406 := ak (Kd.R_lower ho1 (below_size (hbC _)))
         replace BK373 := kB BK373 hb
         replace BK374 := kB BK374 hb
         replace BK375 := kB BK375 hb
         replace HB := kH _ hb
         (try clear hb)
         (try clear hb2)
         (try clear hk)
         (try clear hi)
         (try clear ho0)
         (try clear ho1)
         obtain ⟨Ao145, co145, eo145⟩ := Kd.R_slice HO403.out
         (first | subst eo145 | (injection eo145 with f1_ f2_ f3_; have f4_ := f1_.symm; have f5_ := f3_.symm; clear f1_ f2_ f3_; subst f4_; subst f5_))
         obtain ⟨Ao146, co146, eo146⟩ := Kd.R_slice HO406.out
         (first | subst eo146 | (injection eo146 with f1_ f2_ f3_; have f4_ := f1_.symm; have f5_ := f3_.symm; clear f1_ f2_ f3_; subst f4_; subst f5_))
         refine hK.out _ _ ⟨bc BK373 0, bc BK373 1, bc BK373 2, bc BK374 0, bc BK374 1⟩ (fun hHeld => ?_)
         clear hK K
         refine norm_ (a' := ?_) ?_ ?_
         rotate_left
         ·show Act.put _ (some 151) _ = _
          simp only [Act.put, List.setIfInBounds_toArray, List.set_cons_zero, List.set_cons_succ, i64_w, i32_w]
          rfl
         refine two_ (i := 3) (j := 7) (Ni := some 153) (Nj := some 15) (ba 10 15) (ba 10 135) rfl rfl rfl rfl (two_of HT_.out (by kernel_rfl)) (by decide) (by decide) (fun K hK => ?_) (fun K hK => ?_)
         ·skip
          refine gC Tryd.func14 #[.agg #[.int .i64 t400, .slice Ao145 t401.length co145, .slice Ao146 t404.length co146], .agg #[.int .i64 a2_0, .int .i64 a2_1]] ?_
          with_reducible refine (curves_Value.calls kj64 t400 _ _ t401 _ _ t404 a2_0 a2_1 t407 t408 t409 _ ?side1 ?side2 ?side3 ?side4 A139.out).mono ?_
          (case side1 => exact kD (Kd.R_reads' HO403.out).2.2)
          (case side2 => exact (Kd.R_reads' HO403.out).2.1)
          (case side3 => exact kD (Kd.R_reads' HO406.out).2.2)
          (case side4 => exact (Kd.R_reads' HO406.out).2.1)
          rintro e w147 ⟨rfl, hb⟩
          refine ⟨_, rfl, ?_⟩
          replace HO_11 := kO HO_11 hb
          replace HO403 := kO HO403 hb
          replace HO406 := kO HO406 hb
          replace BK373 := kB BK373 hb
          replace BK374 := kB BK374 hb
          replace BK375 := kB BK375 hb
          replace HB := kH _ hb
          (try clear hb)
          (try clear hb2)
          (try clear hk)
          (try clear hi)
          refine hK.out _ _ ⟨bc BK373 0, bc BK373 1, bc BK373 2, bc BK374 0, bc BK374 1⟩ (fun hHeld => ?_)
          clear hK K
          refine norm_ (a' := ?_) ?_ ?_
          rotate_left
          ·show Act.put _ (some 153) _ = _
           simp only [Act.put, List.setIfInBounds_toArray, List.set_cons_zero, List.set_cons_succ, i64_w, i32_w]
           rfl
          refine pS 4 149 10 31 ?_
          refine pS 5 154 10 63 ?_
          refine pS 6 155 10 127 ?_
          refine one_ (i := 7) (N := some 15) (ba 10 255) rfl rfl (one_of HT_.out (by kernel_rfl)) (by decide) (fun K hK => ?_)
          refine box_step ?hg (N := 15) ?hd (cs := #[.int .i64 0, .int .i64 0]) (t := 26) ?hr ?_; (case hd => rfl); (case hg => rfl); (case hr => first | (go_simp; done) | (go_simp; rfl))
          intro gb410 hg w148 hbox hb
          replace HO_11 := ak (Kd.R_below (Kd.R_elderB (rC HO_11) gb410 (Nat.le_of_eq hg.symm)) hb)
          replace HO403 := kO HO403 hb
          replace HO406 := kO HO406 hb
          have BK410 := ak (hbox)
          have GW410 := kG w hg
          have GE410 := kG w hg
          replace HB := kH _ hb
          have NB373_410 := kL BK373 hg
          have NB410_373 := kR BK373 hg
          replace BK373 := kB BK373 hb
          have NB374_410 := kL BK374 hg
          have NB410_374 := kR BK374 hg
          replace BK374 := kB BK374 hb
          have NB375_410 := kL BK375 hg
          have NB410_375 := kR BK375 hg
          replace BK375 := kB BK375 hb
          clear hb hbox hg
          refine hK.out _ _ ⟨bc BK373 0, bc BK373 1, bc BK373 2, bc BK374 0, bc BK374 1⟩ (fun hHeld => ?_)
          clear hK K
          refine norm_ (a' := ?_) ?_ ?_
          rotate_left
          ·show Act.put _ (some 15) _ = _
           simp only [Act.put, List.setIfInBounds_toArray, List.set_cons_zero, List.set_cons_succ, i64_w, i32_w]
           rfl
          exact norm_ (by simp only [putAll, Act.put, List.setIfInBounds_toArray, List.set_cons_zero, List.set_cons_succ]) (hCont (.slice Ao145 t401.length co145, .slice Ao146 t404.length co146, gb410) _ ⟨hHeld, (rC HO403), (rC HO406), (rD (Kd.R_mono HO_11.out (fun _ hk => ⟨hk.1.1, ⟨hk.1.2, hk.2⟩⟩))), (bkC BK373), (bkC BK374), (bkC BK375), (bkC BK410), GW410.out, GE410.out, NB373_410.out, NB410_373.out, NB374_410.out, NB410_374.out, NB375_410.out, NB410_375.out, (hbC _)⟩)
         ·skip
          refine box_step ?hg (N := 15) ?hd (cs := #[.int .i64 0, .int .i64 0]) (t := 26) ?hr ?_; (case hd => rfl); (case hg => rfl); (case hr => first | (go_simp; done) | (go_simp; rfl))
          intro gb410 hg w145 hbox hb
          replace HO_11 := ak (Kd.R_below (Kd.R_elderB (rC HO_11) gb410 (Nat.le_of_eq hg.symm)) hb)
          replace HO403 := kO HO403 hb
          replace HO406 := kO HO406 hb
          have BK410 := ak (hbox)
          have GW410 := kG w hg
          have GE410 := kG w hg
          replace HB := kH _ hb
          have NB373_410 := kL BK373 hg
          have NB410_373 := kR BK373 hg
          replace BK373 := kB BK373 hb
          have NB374_410 := kL BK374 hg
          have NB410_374 := kR BK374 hg
          replace BK374 := kB BK374 hb
          have NB375_410 := kL BK375 hg
          have NB410_375 := kR BK375 hg
          replace BK375 := kB BK375 hb
          clear hb hbox hg
          obtain ⟨Ao146, co146, eo146⟩ := Kd.R_slice HO403.out
          (first | subst eo146 | (injection eo146 with f1_ f2_ f3_; have f4_ := f1_.symm; have f5_ := f3_.symm; clear f1_ f2_ f3_; subst f4_; subst f5_))
          obtain ⟨Ao147, co147, eo147⟩ := Kd.R_slice HO406.out
          (first | subst eo147 | (injection eo147 with f1_ f2_ f3_; have f4_ := f1_.symm; have f5_ := f3_.symm; clear f1_ f2_ f3_; subst f4_; subst f5_))
          refine hK.out _ _ ⟨bc BK373 0, bc BK373 1, bc BK373 2, bc BK374 0, bc BK374 1⟩ (fun hHeld => ?_)
          clear hK K
          refine norm_ (a' := ?_) ?_ ?_
          rotate_left
          ·show Act.put _ (some 15) _ = _
           simp only [Act.put, List.setIfInBounds_toArray, List.set_cons_zero, List.set_cons_succ, i64_w, i32_w]
           rfl
          refine one_ (i := 3) (N := some 153) (ba 10 143) rfl rfl (one_of HT_.out (by kernel_rfl)) (by decide) (fun K hK => ?_)
          refine gC Tryd.func14 #[.agg #[.int .i64 t400, .slice Ao146 t401.length co146, .slice Ao147 t404.length co147], .agg #[.int .i64 a2_0, .int .i64 a2_1]] ?_
          with_reducible refine (curves_Value.calls kj64 t400 _ _ t401 _ _ t404 a2_0 a2_1 t407 t408 t409 _ ?side1 ?side2 ?side3 ?side4 A139.out).mono ?_
          (case side1 => exact kD (Kd.R_reads' HO403.out).2.2)
          (case side2 => exact (Kd.R_reads' HO403.out).2.1)
          (case side3 => exact kD (Kd.R_reads' HO406.out).2.2)
          (case side4 => exact (Kd.R_reads' HO406.out).2.1)
          rintro e w148 ⟨rfl, hb⟩
          refine ⟨_, rfl, ?_⟩
          replace HO_11 := kO HO_11 hb
          replace HO403 := kO HO403 hb
          replace HO406 := kO HO406 hb
          replace BK373 := kB BK373 hb
          replace BK374 := kB BK374 hb
          replace BK375 := kB BK375 hb
          replace BK410 := kB BK410 hb
          replace HB := kH _ hb
          (try clear hb)
          (try clear hb2)
          (try clear hk)
          (try clear hi)
          refine hK.out _ _ ⟨bc BK373 0, bc BK373 1, bc BK373 2, bc BK374 0, bc BK374 1⟩ (fun hHeld => ?_)
          clear hK K
          refine norm_ (a' := ?_) ?_ ?_
          rotate_left
          ·show Act.put _ (some 153) _ = _
           simp only [Act.put, List.setIfInBounds_toArray, List.set_cons_zero, List.set_cons_succ, i64_w, i32_w]
           rfl
          refine pS 4 149 10 159 ?_
          refine pS 5 154 10 191 ?_
          refine pS 6 155 10 255 ?_
          exact norm_ (by simp only [putAll, Act.put, List.setIfInBounds_toArray, List.set_cons_zero, List.set_cons_succ]) (hCont (.slice Ao146 t401.length co146, .slice Ao147 t404.length co147, gb410) _ ⟨hHeld, (rC HO403), (rC HO406), (rD (Kd.R_mono HO_11.out (fun _ hk => ⟨hk.1.1, ⟨hk.1.2, hk.2⟩⟩))), (bkC BK373), (bkC BK374), (bkC BK375), (bkC BK410), GW410.out, GE410.out, NB373_410.out, NB410_373.out, NB374_410.out, NB410_374.out, NB375_410.out, NB410_375.out, (hbC _)⟩)
        ·skip
         refine box_step ?hg (N := 15) ?hd (cs := #[.int .i64 0, .int .i64 0]) (t := 26) ?hr ?_; (case hd => rfl); (case hg => rfl); (case hr => first | (go_simp; done) | (go_simp; rfl))
         intro gb410 hg w144 hbox hb
         replace HO_11 := ak (Kd.R_below (Kd.R_elderB (rC HO_11) gb410 (Nat.le_of_eq hg.symm)) hb)
         have BK410 := ak (hbox)
         have GW410 := kG w hg
         have GE410 := kG w hg
         replace HB := kH _ hb
         have NB373_410 := kL BK373 hg
         have NB410_373 := kR BK373 hg
         replace BK373 := kB BK373 hb
         have NB374_410 := kL BK374 hg
         have NB410_374 := kR BK374 hg
         replace BK374 := kB BK374 hb
         have NB375_410 := kL BK375 hg
         have NB410_375 := kR BK375 hg
         replace BK375 := kB BK375 hb
         clear hb hbox hg
         refine hK.out _ _ ⟨bc BK373 0, bc BK373 1, bc BK373 2, bc BK374 0, bc BK374 1⟩ (fun hHeld => ?_)
         clear hK K
         refine norm_ (a' := ?_) ?_ ?_
         rotate_left
         ·show Act.put _ (some 15) _ = _
          simp only [Act.put, List.setIfInBounds_toArray, List.set_cons_zero, List.set_cons_succ, i64_w, i32_w]
          rfl
         refine one_ (i := 1) (N := some 151) (ba 10 135) rfl rfl (one_of HT_.out (by kernel_rfl)) (by decide) (fun K hK => ?_)
         refine gC Tryd.func7 #[.agg #[.int .i64 a0_0, .slice (some ad395) l0_1.length c0_1, .slice A0_2 l0_2.length c0_2]] ?_
         with_reducible refine (congoulaw04_Of.calls a0_0 _ _ l0_1 _ _ l0_2 t400 t401 t404 _ ?side1 ?side2 ?side3 ?side4 A138.out).mono ?_
         (case side1 => exact kC HR0_1)
         (case side2 => exact HC0_1.out)
         (case side3 => exact kC HR0_2)
         (case side4 => exact HC0_2.out)
         rintro e w145 ⟨v402, v405, rfl, ho0, ho1, hb⟩
         refine ⟨_, rfl, ?_⟩
         replace HO_11 := kO HO_11 hb
         have HO403 := ak (Kd.R_lower ho0 (below_size (hbC _)))
         have HO406 := ak (Kd.R_lower ho1 (below_size (hbC _)))
         replace BK373 := kB BK373 hb
         replace BK374 := kB BK374 hb
         replace BK375 := kB BK375 hb
         replace BK410 := kB BK410 hb
         replace HB := kH _ hb
         (try clear hb)
         (try clear hb2)
         (try clear hk)
         (try clear hi)
         (try clear ho0)
         (try clear ho1)
         obtain ⟨Ao146, co146, eo146⟩ := Kd.R_slice HO403.out
         (first | subst eo146 | (injection eo146 with f1_ f2_ f3_; have f4_ := f1_.symm; have f5_ := f3_.symm; clear f1_ f2_ f3_; subst f4_; subst f5_))
         obtain ⟨Ao147, co147, eo147⟩ := Kd.R_slice HO406.out
         (first | subst eo147 | (injection eo147 with f1_ f2_ f3_; have f4_ := f1_.symm; have f5_ := f3_.symm; clear f1_ f2_ f3_; subst f4_; subst f5_))
         refine hK.out _ _ ⟨bc BK373 0, bc BK373 1, bc BK373 2, bc BK374 0, bc BK374 1⟩ (fun hHeld => ?_)
         clear hK K
         refine norm_ (a' := ?_) ?_ ?_
         rotate_left
         ·show Act.put _ (some 151) _ = _
          simp only [Act.put, List.setIfInBounds_toArray, List.set_cons_zero, List.set_cons_succ, i64_w, i32_w]
          rfl
         refine one_ (i := 3) (N := some 153) (ba 10 143) rfl rfl (one_of HT_.out (by kernel_rfl)) (by decide) (fun K hK => ?_)
         refine gC Tryd.func14 #[.agg #[.int .i64 t400, .slice Ao146 t401.length co146, .slice Ao147 t404.length co147], .agg #[.int .i64 a2_0, .int .i64 a2_1]] ?_
         with_reducible refine (curves_Value.calls kj64 t400 _ _ t401 _ _ t404 a2_0 a2_1 t407 t408 t409 _ ?side1 ?side2 ?side3 ?side4 A139.out).mono ?_
         (case side1 => exact kD (Kd.R_reads' HO403.out).2.2)
         (case side2 => exact (Kd.R_reads' HO403.out).2.1)
         (case side3 => exact kD (Kd.R_reads' HO406.out).2.2)
         (case side4 => exact (Kd.R_reads' HO406.out).2.1)
         rintro e w148 ⟨rfl, hb⟩
         refine ⟨_, rfl, ?_⟩
         replace HO_11 := kO HO_11 hb
         replace HO403 := kO HO403 hb
         replace HO406 := kO HO406 hb
         replace BK373 := kB BK373 hb
         replace BK374 := kB BK374 hb
         replace BK375 := kB BK375 hb
         replace BK410 := kB BK410 hb
         replace HB := kH _ hb
         (try clear hb)
         (try clear hb2)
         (try clear hk)
         (try clear hi)
         refine hK.out _ _ ⟨bc BK373 0, bc BK373 1, bc BK373 2, bc BK374 0, bc BK374 1⟩ (fun hHeld => ?_)
         clear hK K
         refine norm_ (a' := ?_) ?_ ?_
         rotate_left
         ·show Act.put _ (some 153) _ = _
          simp only [Act.put, List.setIfInBounds_toArray, List.set_cons_zero, List.set_cons_succ, i64_w, i32_w]
          rfl
         refine pS 4 149 10 159 ?_
         refine pS 5 154 10 191 ?_
         refine pS 6 155 10 255 ?_
         exact norm_ (by simp only [putAll, Act.put, List.setIfInBounds_toArray, List.set_cons_zero, List.set_cons_succ]) (hCont (.slice Ao146 t401.length co146, .slice Ao147 t404.length co147, gb410) _ ⟨hHeld, (rC HO403), (rC HO406), (rD (Kd.R_mono HO_11.out (fun _ hk => ⟨hk.1.1, ⟨hk.1.2, hk.2⟩⟩))), (bkC BK373), (bkC BK374), (bkC BK375), (bkC BK410), GW410.out, GE410.out, NB373_410.out, NB410_373.out, NB374_410.out, NB410_374.out, NB375_410.out, NB410_375.out, (hbC _)⟩)
       rintro ⟨v402, v405, gb410⟩ w149 ⟨hS_, h0_, h1_, h2_, h3_, h4_, h5_, h6_, h7_, h8_, h9_, h10_, h11_, h12_, h13_, h14_, h15_⟩
       have n0_ : Aside0 (Kd.R (Kd.int .i64) 3 w149 w.heap.size (fun k_ => nb k_ v405) v402 t401) := ⟨h0_⟩
       have n1_ : Aside0 (Kd.R (Kd.int .i64) 3 w149 w.heap.size (fun k_ => nb k_ v402) v405 t404) := ⟨h1_⟩
       have n2_ : Aside0 (Kd.R k26 26 w149 w.heap.size (fun k_ => k_ ≠ gb374 ∧ k_ ≠ gb375 ∧ k_ ≠ gb410) (.slice Ao69 t387.length co69) t387) := ⟨h2_⟩
       have n3_ : Aside0 (w149.heap[gb373]? = some (.cells #[.int .i64 a0_0, .slice (some ad395) l0_1.length c0_1, .slice A0_2 l0_2.length c0_2] 24 (0, 0))) := ⟨h3_⟩
       have n4_ : Aside0 (w149.heap[gb374]? = some (.cells #[.int .i64 a2_0, .int .i64 a2_1] 26 (0, 0))) := ⟨h4_⟩
       have n5_ : Aside0 (w149.heap[gb375]? = some (.cells #[.int .i64 a3_0, .int .i64 a3_1] 26 (0, 0))) := ⟨h5_⟩
       have n6_ : Aside0 (w149.heap[gb410]? = some (.cells #[.int .i64 0, .int .i64 0] 26 (0, 0))) := ⟨h6_⟩
       have n7_ : Aside0 (w.heap.size ≤ gb410) := ⟨h7_⟩
       have n8_ : Aside0 (w.heap.size ≤ gb410) := ⟨h8_⟩
       have n9_ : Aside0 (gb373 ≠ gb410) := ⟨h9_⟩
       have n10_ : Aside0 (gb410 ≠ gb373) := ⟨h10_⟩
       have n11_ : Aside0 (gb374 ≠ gb410) := ⟨h11_⟩
       have n12_ : Aside0 (gb410 ≠ gb374) := ⟨h12_⟩
       have n13_ : Aside0 (gb375 ≠ gb410) := ⟨h13_⟩
       have n14_ : Aside0 (gb410 ≠ gb375) := ⟨h14_⟩
       have n15_ : Aside0 (Below w.heap.size w w149) := ⟨h15_⟩
       clear HO_11
       clear BK373
       clear BK374
       clear BK375
       clear HB
       clear h0_ h1_ h2_ h3_ h4_ h5_ h6_ h7_ h8_ h9_ h10_ h11_ h12_ h13_ h14_ h15_
       have HO403 := n0_
       have HO406 := n1_
       have HO_11 := n2_
       have BK373 := n3_
       have BK374 := n4_
       have BK375 := n5_
       have BK410 := n6_
       have GW410 := n7_
       have GE410 := n8_
       have NB373_410 := n9_
       have NB410_373 := n10_
       have NB374_410 := n11_
       have NB410_374 := n12_
       have NB375_410 := n13_
       have NB410_375 := n14_
       have HB := n15_
       clear n0_ n1_ n2_ n3_ n4_ n5_ n6_ n7_ n8_ n9_ n10_ n11_ n12_ n13_ n14_ n15_
       have hHeld : w149.cell? ⟨gb373, 0, none⟩ = some (.int .i64 a0_0) ∧ w149.cell? ⟨gb373, 1, none⟩ = some (.slice (some ad395) l0_1.length c0_1) ∧ w149.cell? ⟨gb373, 2, none⟩ = some (.slice A0_2 l0_2.length c0_2) ∧ w149.cell? ⟨gb374, 0, none⟩ = some (.int .i64 a2_0) ∧ w149.cell? ⟨gb374, 1, none⟩ = some (.int .i64 a2_1) := hS_
       refine norm_ (a' := ?_) ?_ ?_
       rotate_left
       ·simp only [putAll, Act.put, List.setIfInBounds_toArray, List.set_cons_zero, List.set_cons_succ]
        rfl
       refine one_ (i := 8) (N := none) (ba 10 511) rfl rfl (one_of HT_.out (by kernel_rfl)) (by decide) (fun K hK => ?_)
       have hs150 : w149.cell? ⟨gb410, 0, none⟩ = some (.int .i64 0) := bc BK410 0
       have hfs150 := fz BK410 0
       have hns150_0 := NB373_410.out
       have hns150_1 := NB374_410.out
       have hns150_2 := NB375_410.out
       have hms150_0 := NB410_373.out
       have hms150_1 := NB410_374.out
       have hms150_2 := NB410_375.out
       have hs151 : w149.cell? ⟨gb410, 1, none⟩ = some (.int .i64 0) := bc BK410 1
       have hfs151 := fz BK410 1
       have hns151_0 := NB373_410.out
       have hns151_1 := NB374_410.out
       have hns151_2 := NB375_410.out
       have hms151_0 := NB410_373.out
       have hms151_1 := NB410_374.out
       have hms151_2 := NB410_375.out
       refine skip_ (w1 := ?_) (by rfl) rfl ?_ ?_
       rotate_left
       ·go_simp
        rfl
       refine hK.out _ _ ⟨((cell_far (p := ⟨gb410, _, none⟩) NB373_410.out _).trans (((cell_far (p := ⟨gb410, _, none⟩) NB373_410.out _).trans (hHeld.1)))), ((cell_far (p := ⟨gb410, _, none⟩) NB373_410.out _).trans (((cell_far (p := ⟨gb410, _, none⟩) NB373_410.out _).trans (hHeld.2.1)))), ((cell_far (p := ⟨gb410, _, none⟩) NB373_410.out _).trans (((cell_far (p := ⟨gb410, _, none⟩) NB373_410.out _).trans (hHeld.2.2.1)))), ((cell_far (p := ⟨gb410, _, none⟩) NB374_410.out _).trans (((cell_far (p := ⟨gb410, _, none⟩) NB374_410.out _).trans (hHeld.2.2.2.1)))), ((cell_far (p := ⟨gb410, _, none⟩) NB374_410.out _).trans (((cell_far (p := ⟨gb410, _, none⟩) NB374_410.out _).trans (hHeld.2.2.2.2))))⟩ (fun hHeld => ?_)
       clear hK K
       refine pS 9 16 10 1023 ?_
       refine done_ (done_of HT_.out (by kernel_rfl)) ?_
       try go_wp2
       have n0_ : Aside0 (Kd.R k26 26 ((w149.setCell ⟨gb410, 0, none⟩ (.int .i64 t407)).setCell ⟨gb410, 1, none⟩ (.int .i64 t408)) w.heap.size (fun k_ => k_ ≠ gb374 ∧ k_ ≠ gb375 ∧ k_ ≠ gb410) (.slice Ao69 t387.length co69) t387) := ⟨rD (Kd.R_mono (Kd.R_far (p := ⟨gb410, 1, none⟩) (Kd.R_far (p := ⟨gb410, 0, none⟩) (Kd.R_mono HO_11.out (fun k_ hk => (⟨hk, hk.2.2⟩ : _ ∧ k_ ≠ gb410))) (fun _ hk => hk.2) (.int .i64 t407)) (fun _ hk => hk.2) (.int .i64 t408)) (fun _ hk => ⟨hk.1.1, ⟨hk.1.2.1, hk.1.2.2⟩⟩))⟩
       have n1_ : Aside0 (Kd.R (Kd.int .i64) 3 ((w149.setCell ⟨gb410, 0, none⟩ (.int .i64 t407)).setCell ⟨gb410, 1, none⟩ (.int .i64 t408)) w.heap.size (fun k_ => nb k_ v405) v402 t401) := ⟨rD (Kd.R_mono (Kd.R_far (p := ⟨gb410, 1, none⟩) (Kd.R_far (p := ⟨gb410, 0, none⟩) (Kd.R_types HO403.out BK410.out (by decide)) (fun _ hk => hk.2) (.int .i64 t407)) (fun _ hk => hk.2) (.int .i64 t408)) (fun _ hk => hk.1))⟩
       have n2_ : Aside0 (Kd.R (Kd.int .i64) 3 ((w149.setCell ⟨gb410, 0, none⟩ (.int .i64 t407)).setCell ⟨gb410, 1, none⟩ (.int .i64 t408)) w.heap.size (fun k_ => nb k_ v402) v405 t404) := ⟨rD (Kd.R_mono (Kd.R_far (p := ⟨gb410, 1, none⟩) (Kd.R_far (p := ⟨gb410, 0, none⟩) (Kd.R_types HO406.out BK410.out (by decide)) (fun _ hk => hk.2) (.int .i64 t407)) (fun _ hk => hk.2) (.int .i64 t408)) (fun _ hk => hk.1))⟩
       have n3_ : Aside0 (((w149.setCell ⟨gb410, 0, none⟩ (.int .i64 t407)).setCell ⟨gb410, 1, none⟩ (.int .i64 t408)).heap[gb373]? = some (.cells #[.int .i64 a0_0, .slice (some ad395) l0_1.length c0_1, .slice A0_2 l0_2.length c0_2] 24 (0, 0))) := ⟨bF BK373⟩
       have n4_ : Aside0 (((w149.setCell ⟨gb410, 0, none⟩ (.int .i64 t407)).setCell ⟨gb410, 1, none⟩ (.int .i64 t408)).heap[gb374]? = some (.cells #[.int .i64 a2_0, .int .i64 a2_1] 26 (0, 0))) := ⟨bF BK374⟩
       have n5_ : Aside0 (((w149.setCell ⟨gb410, 0, none⟩ (.int .i64 t407)).setCell ⟨gb410, 1, none⟩ (.int .i64 t408)).heap[gb375]? = some (.cells #[.int .i64 a3_0, .int .i64 a3_1] 26 (0, 0))) := ⟨bF BK375⟩
       have n6_ : Aside0 (((w149.setCell ⟨gb410, 0, none⟩ (.int .i64 t407)).setCell ⟨gb410, 1, none⟩ (.int .i64 t408)).heap[gb410]? = some (.cells #[.int .i64 t407, .int .i64 t408] 26 (0, 0))) := ⟨by (with_reducible repeat (first | refine blk_drewN ?_ _ | refine blk_drew ?_ | refine blk_alloc ?_ _)); refine blk_put (cs := #[.int .i64 t407, .int .i64 0]) ?_ 1 _ rfl; (with_reducible repeat (first | refine blk_drewN ?_ _ | refine blk_drew ?_ | refine blk_alloc ?_ _)); refine blk_put (cs := #[.int .i64 0, .int .i64 0]) ?_ 0 _ rfl; (with_reducible repeat (first | refine blk_drewN ?_ _ | refine blk_drew ?_ | refine blk_alloc ?_ _)); exact BK410.out⟩
       have n7_ : Aside0 (Below w.heap.size w ((w149.setCell ⟨gb410, 0, none⟩ (.int .i64 t407)).setCell ⟨gb410, 1, none⟩ (.int .i64 t408))) := ⟨hbC _⟩
       (try clear HO_11)
       (try clear HO403)
       (try clear HO406)
       (try clear BK373)
       (try clear BK374)
       (try clear BK375)
       (try clear BK410)
       (try clear HB)
       generalize ((w149.setCell ⟨gb410, 0, none⟩ (.int .i64 t407)).setCell ⟨gb410, 1, none⟩ (.int .i64 t408)) = w152 at n0_ n1_ n2_ n3_ n4_ n5_ n6_ n7_ ⊢
       have HO_11 := n0_
       have HO403 := n1_
       have HO406 := n2_
       have BK373 := n3_
       have BK374 := n4_
       have BK375 := n5_
       have BK410 := n6_
       have HB := n7_
       clear n0_ n1_ n2_ n3_ n4_ n5_ n6_ n7_
       replace HO_11 := ak (Kd.R_drew HO_11.out)
       replace HO403 := ak (Kd.R_drew HO403.out)
       replace HO406 := ak (Kd.R_drew HO406.out)
       replace BK373 := kd BK373
       replace BK374 := kd BK374
       replace BK375 := kd BK375
       replace BK410 := kd BK410
       replace HB := ak (below_drew1 HB.out)
       refine sS (n := 10) (S := fun w' => w'.cell? ⟨gb373, 0, none⟩ = some (.int .i64 a0_0) ∧ w'.cell? ⟨gb373, 1, none⟩ = some (.slice (some ad395) l0_1.length c0_1) ∧ w'.cell? ⟨gb373, 2, none⟩ = some (.slice A0_2 l0_2.length c0_2) ∧ w'.cell? ⟨gb375, 0, none⟩ = some (.int .i64 a3_0) ∧ w'.cell? ⟨gb375, 1, none⟩ = some (.int .i64 a3_1)) (ds := []) ⟨bc BK373 0, bc BK373 1, bc BK373 2, bc BK375 0, bc BK375 1⟩ (fun hHeld => ?_); refine with_tabW congoulaw04_CurvesSteep.tab13 congoulaw04_CurvesSteep.bits13 (fun HT_ HW_ => ?_)
       generalize w152.drew = w153 at HO_11 HO403 HO406 BK373 BK374 BK375 BK410 HB hHeld ⊢
       refine tS 0 157 10 1 ?_
       refine tS 2 159 10 5 ?_
       refine join_ (σ := Value × Value × Nat) 2 (ba 10 255) (fun s_ => [(158, .agg #[.int .i64 t411, s_.1, s_.2.1]), (160, .tuple #[.agg #[.int .i64 t418, .int .i64 t419], .int .i64 t420]), (17, .pointer (some ⟨s_.2.2, 0, none⟩)), (156, .tuple #[.agg #[.int .i64 t418, .int .i64 t419], .int .i64 t420]), (161, .agg #[.int .i64 t418, .int .i64 t419]), (162, .int .i64 t420)]) (fun s_ w' => (w'.cell? ⟨gb373, 0, none⟩ = some (.int .i64 a0_0) ∧ w'.cell? ⟨gb373, 1, none⟩ = some (.slice (some ad395) l0_1.length c0_1) ∧ w'.cell? ⟨gb373, 2, none⟩ = some (.slice A0_2 l0_2.length c0_2) ∧ w'.cell? ⟨gb375, 0, none⟩ = some (.int .i64 a3_0) ∧ w'.cell? ⟨gb375, 1, none⟩ = some (.int .i64 a3_1)) ∧ (Kd.R (Kd.int .i64) 3 w' w.heap.size (fun k_ => nb k_ v405 ∧ some k_ ≠ (s_.1 : Value).ownBlock ∧ some k_ ≠ (s_.2.1 : Value).ownBlock) v402 t401) ∧ (Kd.R (Kd.int .i64) 3 w' w.heap.size (fun k_ => nb k_ v402 ∧ some k_ ≠ (s_.1 : Value).ownBlock ∧ some k_ ≠ (s_.2.1 : Value).ownBlock) v405 t404) ∧ (Kd.R (Kd.int .i64) 3 w' w.heap.size (fun k_ => nb k_ v402 ∧ nb k_ v405 ∧ some k_ ≠ (s_.2.1 : Value).ownBlock) s_.1 t412) ∧ (Kd.R (Kd.int .i64) 3 w' w.heap.size (fun k_ => nb k_ v402 ∧ nb k_ v405 ∧ some k_ ≠ (s_.1 : Value).ownBlock) s_.2.1 t415) ∧ (Kd.R k26 26 w' w.heap.size (fun k_ => k_ ≠ gb374 ∧ k_ ≠ gb375 ∧ k_ ≠ gb410 ∧ k_ ≠ s_.2.2) (.slice Ao69 t387.length co69) t387) ∧ (w'.heap[gb373]? = some (.cells #[.int .i64 a0_0, .slice (some ad395) l0_1.length c0_1, .slice A0_2 l0_2.length c0_2] 24 (0, 0))) ∧ (w'.heap[gb374]? = some (.cells #[.int .i64 a2_0, .int .i64 a2_1] 26 (0, 0))) ∧ (w'.heap[gb375]? = some (.cells #[.int .i64 a3_0, .int .i64 a3_1] 26 (0, 0))) ∧ (w'.heap[gb410]? = some (.cells #[.int .i64 t407, .int .i64 t408] 26 (0, 0))) ∧ (w'.heap[s_.2.2]? = some (.cells #[.int .i64 0, .int .i64 0] 26 (0, 0))) ∧ (w.heap.size ≤ s_.2.2) ∧ (w.heap.size ≤ s_.2.2) ∧ (gb373 ≠ s_.2.2) ∧ (s_.2.2 ≠ gb373) ∧ (gb374 ≠ s_.2.2) ∧ (s_.2.2 ≠ gb374) ∧ (gb375 ≠ s_.2.2) ∧ (s_.2.2 ≠ gb375) ∧ (gb410 ≠ s_.2.2) ∧ (s_.2.2 ≠ gb410) ∧ (Below w.heap.size w w')) ?_ ?_
       rotate_left
       ·intro hCont
        refine two_ (i := 1) (j := 7) (Ni := some 158) (Nj := some 17) (ba 10 7) (ba 10 133) rfl rfl rfl rfl (two_of HT_.out (by kernel_rfl)) (by decide) (by decide) (fun K hK => ?_) (fun K hK => ?_)
        ·skip
         refine gC Tryd.func7 #[.agg #[.int .i64 a0_0, .slice (some ad395) l0_1.length c0_1, .slice A0_2 l0_2.length c0_2]] ?_
         with_reducible refine (congoulaw04_Of.calls a0_0 _ _ l0_1 _ _ l0_2 t411 t412 t415 _ ?side1 ?side2 ?side3 ?side4 A140.out).mono ?_
         (case side1 => exact kC HR0_1)
         (case side2 => exact HC0_1.out)
         (case side3 => exact kC HR0_2)
         (case side4 => exact HC0_2.out)
         rintro e w154 ⟨v413, v416, rfl, ho0, ho1, hb⟩
         refine ⟨_, rfl, ?_⟩
         replace HO_11 := kO HO_11 hb
         have HO414 := ak (Kd.R_lower (Kd.R_new' (Kd.R_new' ho0 (Kd.R_lt (rC HO403))) (Kd.R_lt (rC HO406))) (below_size (hbC _)))
         have HO417 := ak (Kd.R_lower (Kd.R_new' (Kd.R_new' ho1 (Kd.R_lt (rC HO403))) (Kd.R_lt (rC HO406))) (below_size (hbC _)))
         replace HO403 := kT HO403 hb ho0 ho1
         replace HO406 := kT HO406 hb ho0 ho1
         replace BK373 := kB BK373 hb
         replace BK374 := kB BK374 hb
         replace BK375 := kB BK375 hb
         replace BK410 := kB BK410 hb
         replace HB := kH _ hb
         (try clear hb)
         (try clear hb2)
         (try clear hk)
         (try clear hi)
         (try clear ho0)
         (try clear ho1)
         obtain ⟨Ao155, co155, eo155⟩ := Kd.R_slice HO414.out
         (first | subst eo155 | (injection eo155 with f1_ f2_ f3_; have f4_ := f1_.symm; have f5_ := f3_.symm; clear f1_ f2_ f3_; subst f4_; subst f5_))
         obtain ⟨Ao156, co156, eo156⟩ := Kd.R_slice HO417.out
         (first | subst eo156 | (injection eo156 with f1_ f2_ f3_; have f4_ := f1_.symm; have f5_ := f3_.symm; clear f1_ f2_ f3_; subst f4_; subst f5_))
         refine hK.out _ _ ⟨bc BK373 0, bc BK373 1, bc BK373 2, bc BK375 0, bc BK375 1⟩ (fun hHeld => ?_)
         clear hK K
         refine norm_ (a' := ?_) ?_ ?_
         rotate_left
         ·show Act.put _ (some 158) _ = _
          simp only [Act.put, List.setIfInBounds_toArray, List.set_cons_zero, List.set_cons_succ, i64_w, i32_w]
          rfl
         refine two_ (i := 3) (j := 7) (Ni := some 160) (Nj := some 17) (ba 10 15) (ba 10 135) rfl rfl rfl rfl (two_of HT_.out (by kernel_rfl)) (by decide) (by decide) (fun K hK => ?_) (fun K hK => ?_)
         ·skip
          refine gC Tryd.func14 #[.agg #[.int .i64 t411, .slice Ao155 t412.length co155, .slice Ao156 t415.length co156], .agg #[.int .i64 a3_0, .int .i64 a3_1]] ?_
          with_reducible refine (curves_Value.calls kj64 t411 _ _ t412 _ _ t415 a3_0 a3_1 t418 t419 t420 _ ?side1 ?side2 ?side3 ?side4 A141.out).mono ?_
          (case side1 => exact kD (Kd.R_reads' HO414.out).2.2)
          (case side2 => exact (Kd.R_reads' HO414.out).2.1)
          (case side3 => exact kD (Kd.R_reads' HO417.out).2.2)
          (case side4 => exact (Kd.R_reads' HO417.out).2.1)
          rintro e w157 ⟨rfl, hb⟩
          refine ⟨_, rfl, ?_⟩
          replace HO_11 := kO HO_11 hb
          replace HO403 := kO HO403 hb
          replace HO406 := kO HO406 hb
          replace HO414 := kO HO414 hb
          replace HO417 := kO HO417 hb
          replace BK373 := kB BK373 hb
          replace BK374 := kB BK374 hb
          replace BK375 := kB BK375 hb
          replace BK410 := kB BK410 hb
          replace HB := kH _ hb
          (try clear hb)
          (try clear hb2)
          (try clear hk)
          (try clear hi)
          refine hK.out _ _ ⟨bc BK373 0, bc BK373 1, bc BK373 2, bc BK375 0, bc BK375 1⟩ (fun hHeld => ?_)
          clear hK K
          refine norm_ (a' := ?_) ?_ ?_
          rotate_left
          ·show Act.put _ (some 160) _ = _
           simp only [Act.put, List.setIfInBounds_toArray, List.set_cons_zero, List.set_cons_succ, i64_w, i32_w]
           rfl
          refine pS 4 156 10 31 ?_
          refine pS 5 161 10 63 ?_
          refine pS 6 162 10 127 ?_
          refine one_ (i := 7) (N := some 17) (ba 10 255) rfl rfl (one_of HT_.out (by kernel_rfl)) (by decide) (fun K hK => ?_)
          refine box_step ?hg (N := 17) ?hd (cs := #[.int .i64 0, .int .i64 0]) (t := 26) ?hr ?_; (case hd => rfl); (case hg => rfl); (case hr => first | (go_simp; done) | (go_simp; rfl))
          intro gb421 hg w158 hbox hb
          replace HO_11 := ak (Kd.R_below (Kd.R_elderB (rC HO_11) gb421 (Nat.le_of_eq hg.symm)) hb)
          replace HO403 := kO HO403 hb
          replace HO406 := kO HO406 hb
          replace HO414 := kO HO414 hb
          replace HO417 := kO HO417 hb
          have BK421 := ak (hbox)
          have GW421 := kG w hg
          have GE421 := kG w hg
          replace HB := kH _ hb
          have NB373_421 := kL BK373 hg
          have NB421_373 := kR BK373 hg
          replace BK373 := kB BK373 hb
          have NB374_421 := kL BK374 hg
          have NB421_374 := kR BK374 hg
          replace BK374 := kB BK374 hb
          have NB375_421 := kL BK375 hg
          have NB421_375 := kR BK375 hg
          replace BK375 := kB BK375 hb
          have NB410_421 := kL BK410 hg
          have NB421_410 := kR BK410 hg
          replace BK410 := kB BK410 hb
          clear hb hbox hg
          refine hK.out _ _ ⟨bc BK373 0, bc BK373 1, bc BK373 2, bc BK375 0, bc BK375 1⟩ (fun hHeld => ?_)
          clear hK K
          refine norm_ (a' := ?_) ?_ ?_
          rotate_left
          ·show Act.put _ (some 17) _ = _
           simp only [Act.put, List.setIfInBounds_toArray, List.set_cons_zero, List.set_cons_succ, i64_w, i32_w]
           rfl
          exact norm_ (by simp only [putAll, Act.put, List.setIfInBounds_toArray, List.set_cons_zero, List.set_cons_succ]) (hCont (.slice Ao155 t412.length co155, .slice Ao156 t415.length co156, gb421) _ ⟨hHeld, (rD (Kd.R_mono HO403.out (fun _ hk => ⟨hk.1.1, ⟨hk.1.2, hk.2⟩⟩))), (rD (Kd.R_mono HO406.out (fun _ hk => ⟨hk.1.1, ⟨hk.1.2, hk.2⟩⟩))), (rD (Kd.R_mono HO414.out (fun _ hk => ⟨hk.1.2, ⟨hk.2, hk.1.1⟩⟩))), (rD (Kd.R_mono HO417.out (fun _ hk => ⟨hk.1.2, ⟨hk.2, hk.1.1⟩⟩))), (rD (Kd.R_mono HO_11.out (fun _ hk => ⟨hk.1.1, ⟨hk.1.2.1, ⟨hk.1.2.2, hk.2⟩⟩⟩))), (bkC BK373), (bkC BK374), (bkC BK375), (bkC BK410), (bkC BK421), GW421.out, GE421.out, NB373_421.out, NB421_373.out, NB374_421.out, NB421_374.out, NB375_421.out, NB421_375.out, NB410_421.out, NB421_410.out, (hbC _)⟩)
         ·skip
          refine box_step ?hg (N := 17) ?hd (cs := #[.int .i64 0, .int .i64 0]) (t := 26) ?hr ?_; (case hd => rfl); (case hg => rfl); (case hr => first | (go_simp; done) | (go_simp; rfl))
          intro gb421 hg w155 hbox hb
          replace HO_11 := ak (Kd.R_below (Kd.R_elderB (rC HO_11) gb421 (Nat.le_of_eq hg.symm)) hb)
          replace HO403 := kO HO403 hb
          replace HO406 := kO HO406 hb
          replace HO414 := kO HO414 hb
          replace HO417 := kO HO417 hb
          have BK421 := ak (hbox)
          have GW421 := kG w hg
          have GE421 := kG w hg
          replace HB := kH _ hb
          have NB373_421 := kL BK373 hg
          have NB421_373 := kR BK373 hg
          replace BK373 := kB BK373 hb
          have NB374_421 := kL BK374 hg
          have NB421_374 := kR BK374 hg
          replace BK374 := kB BK374 hb
          have NB375_421 := kL BK375 hg
          have NB421_375 := kR BK375 hg
          replace BK375 := kB BK375 hb
          have NB410_421 := kL BK410 hg
          have NB421_410 := kR BK410 hg
          replace BK410 := kB BK410 hb
          clear hb hbox hg
          obtain ⟨Ao156, co156, eo156⟩ := Kd.R_slice HO414.out
          (first | subst eo156 | (injection eo156 with f1_ f2_ f3_; have f4_ := f1_.symm; have f5_ := f3_.symm; clear f1_ f2_ f3_; subst f4_; subst f5_))
          obtain ⟨Ao157, co157, eo157⟩ := Kd.R_slice HO417.out
          (first | subst eo157 | (injection eo157 with f1_ f2_ f3_; have f4_ := f1_.symm; have f5_ := f3_.symm; clear f1_ f2_ f3_; subst f4_; subst f5_))
          refine hK.out _ _ ⟨bc BK373 0, bc BK373 1, bc BK373 2, bc BK375 0, bc BK375 1⟩ (fun hHeld => ?_)
          clear hK K
          refine norm_ (a' := ?_) ?_ ?_
          rotate_left
          ·show Act.put _ (some 17) _ = _
           simp only [Act.put, List.setIfInBounds_toArray, List.set_cons_zero, List.set_cons_succ, i64_w, i32_w]
           rfl
          refine one_ (i := 3) (N := some 160) (ba 10 143) rfl rfl (one_of HT_.out (by kernel_rfl)) (by decide) (fun K hK => ?_)
          refine gC Tryd.func14 #[.agg #[.int .i64 t411, .slice Ao156 t412.length co156, .slice Ao157 t415.length co157], .agg #[.int .i64 a3_0, .int .i64 a3_1]] ?_
          with_reducible refine (curves_Value.calls kj64 t411 _ _ t412 _ _ t415 a3_0 a3_1 t418 t419 t420 _ ?side1 ?side2 ?side3 ?side4 A141.out).mono ?_
          (case side1 => exact kD (Kd.R_reads' HO414.out).2.2)
          (case side2 => exact (Kd.R_reads' HO414.out).2.1)
          (case side3 => exact kD (Kd.R_reads' HO417.out).2.2)
          (case side4 => exact (Kd.R_reads' HO417.out).2.1)
          rintro e w158 ⟨rfl, hb⟩
          refine ⟨_, rfl, ?_⟩
          replace HO_11 := kO HO_11 hb
          replace HO403 := kO HO403 hb
          replace HO406 := kO HO406 hb
          replace HO414 := kO HO414 hb
          replace HO417 := kO HO417 hb
          replace BK373 := kB BK373 hb
          replace BK374 := kB BK374 hb
          replace BK375 := kB BK375 hb
          replace BK410 := kB BK410 hb
          replace BK421 := kB BK421 hb
          replace HB := kH _ hb
          (try clear hb)
          (try clear hb2)
          (try clear hk)
          (try clear hi)
          refine hK.out _ _ ⟨bc BK373 0, bc BK373 1, bc BK373 2, bc BK375 0, bc BK375 1⟩ (fun hHeld => ?_)
          clear hK K
          refine norm_ (a' := ?_) ?_ ?_
          rotate_left
          ·show Act.put _ (some 160) _ = _
           simp only [Act.put, List.setIfInBounds_toArray, List.set_cons_zero, List.set_cons_succ, i64_w, i32_w]
           rfl
          refine pS 4 156 10 159 ?_
          refine pS 5 161 10 191 ?_
          refine pS 6 162 10 255 ?_
          exact norm_ (by simp only [putAll, Act.put, List.setIfInBounds_toArray, List.set_cons_zero, List.set_cons_succ]) (hCont (.slice Ao156 t412.length co156, .slice Ao157 t415.length co157, gb421) _ ⟨hHeld, (rD (Kd.R_mono HO403.out (fun _ hk => ⟨hk.1.1, ⟨hk.1.2, hk.2⟩⟩))), (rD (Kd.R_mono HO406.out (fun _ hk => ⟨hk.1.1, ⟨hk.1.2, hk.2⟩⟩))), (rD (Kd.R_mono HO414.out (fun _ hk => ⟨hk.1.2, ⟨hk.2, hk.1.1⟩⟩))), (rD (Kd.R_mono HO417.out (fun _ hk => ⟨hk.1.2, ⟨hk.2, hk.1.1⟩⟩))), (rD (Kd.R_mono HO_11.out (fun _ hk => ⟨hk.1.1, ⟨hk.1.2.1, ⟨hk.1.2.2, hk.2⟩⟩⟩))), (bkC BK373), (bkC BK374), (bkC BK375), (bkC BK410), (bkC BK421), GW421.out, GE421.out, NB373_421.out, NB421_373.out, NB374_421.out, NB421_374.out, NB375_421.out, NB421_375.out, NB410_421.out, NB421_410.out, (hbC _)⟩)
        ·skip
         refine box_step ?hg (N := 17) ?hd (cs := #[.int .i64 0, .int .i64 0]) (t := 26) ?hr ?_; (case hd => rfl); (case hg => rfl); (case hr => first | (go_simp; done) | (go_simp; rfl))
         intro gb421 hg w154 hbox hb
         replace HO_11 := ak (Kd.R_below (Kd.R_elderB (rC HO_11) gb421 (Nat.le_of_eq hg.symm)) hb)
         replace HO403 := kO HO403 hb
         replace HO406 := kO HO406 hb
         have BK421 := ak (hbox)
         have GW421 := kG w hg
         have GE421 := kG w hg
         replace HB := kH _ hb
         have NB373_421 := kL BK373 hg
         have NB421_373 := kR BK373 hg
         replace BK373 := kB BK373 hb
         have NB374_421 := kL BK374 hg
         have NB421_374 := kR BK374 hg
         replace BK374 := kB BK374 hb
         have NB375_421 := kL BK375 hg
         have NB421_375 := kR BK375 hg
         replace BK375 := kB BK375 hb
         have NB410_421 := kL BK410 hg
         have NB421_410 := kR BK410 hg
         replace BK410 := kB BK410 hb
         clear hb hbox hg
         refine hK.out _ _ ⟨bc BK373 0, bc BK373 1, bc BK373 2, bc BK375 0, bc BK375 1⟩ (fun hHeld => ?_)
         clear hK K
         refine norm_ (a' := ?_) ?_ ?_
         rotate_left
         ·show Act.put _ (some 17) _ = _
          simp only [Act.put, List.setIfInBounds_toArray, List.set_cons_zero, List.set_cons_succ, i64_w, i32_w]
          rfl
         refine one_ (i := 1) (N := some 158) (ba 10 135) rfl rfl (one_of HT_.out (by kernel_rfl)) (by decide) (fun K hK => ?_)
         refine gC Tryd.func7 #[.agg #[.int .i64 a0_0, .slice (some ad395) l0_1.length c0_1, .slice A0_2 l0_2.length c0_2]] ?_
         with_reducible refine (congoulaw04_Of.calls a0_0 _ _ l0_1 _ _ l0_2 t411 t412 t415 _ ?side1 ?side2 ?side3 ?side4 A140.out).mono ?_
         (case side1 => exact kC HR0_1)
         (case side2 => exact HC0_1.out)
         (case side3 => exact kC HR0_2)
         (case side4 => exact HC0_2.out)
         rintro e w155 ⟨v413, v416, rfl, ho0, ho1, hb⟩
         refine ⟨_, rfl, ?_⟩
         replace HO_11 := kO HO_11 hb
         have HO414 := ak (Kd.R_lower (Kd.R_new' (Kd.R_new' ho0 (Kd.R_lt (rC HO403))) (Kd.R_lt (rC HO406))) (below_size (hbC _)))
         have HO417 := ak (Kd.R_lower (Kd.R_new' (Kd.R_new' ho1 (Kd.R_lt (rC HO403))) (Kd.R_lt (rC HO406))) (below_size (hbC _)))
         replace HO403 := kT HO403 hb ho0 ho1
         replace HO406 := kT HO406 hb ho0 ho1
         replace BK373 := kB BK373 hb
         replace BK374 := kB BK374 hb
         replace BK375 := kB BK375 hb
         replace BK410 := kB BK410 hb
         replace BK421 := kB BK421 hb
         replace HB := kH _ hb
         (try clear hb)
         (try clear hb2)
         (try clear hk)
         (try clear hi)
         (try clear ho0)
         (try clear ho1)
         obtain ⟨Ao156, co156, eo156⟩ := Kd.R_slice HO414.out
         (first | subst eo156 | (injection eo156 with f1_ f2_ f3_; have f4_ := f1_.symm; have f5_ := f3_.symm; clear f1_ f2_ f3_; subst f4_; subst f5_))
         obtain ⟨Ao157, co157, eo157⟩ := Kd.R_slice HO417.out
         (first | subst eo157 | (injection eo157 with f1_ f2_ f3_; have f4_ := f1_.symm; have f5_ := f3_.symm; clear f1_ f2_ f3_; subst f4_; subst f5_))
         refine hK.out _ _ ⟨bc BK373 0, bc BK373 1, bc BK373 2, bc BK375 0, bc BK375 1⟩ (fun hHeld => ?_)
         clear hK K
         refine norm_ (a' := ?_) ?_ ?_
         rotate_left
         ·show Act.put _ (some 158) _ = _
          simp only [Act.put, List.setIfInBounds_toArray, List.set_cons_zero, List.set_cons_succ, i64_w, i32_w]
          rfl
         refine one_ (i := 3) (N := some 160) (ba 10 143) rfl rfl (one_of HT_.out (by kernel_rfl)) (by decide) (fun K hK => ?_)
         refine gC Tryd.func14 #[.agg #[.int .i64 t411, .slice Ao156 t412.length co156, .slice Ao157 t415.length co157], .agg #[.int .i64 a3_0, .int .i64 a3_1]] ?_
         with_reducible refine (curves_Value.calls kj64 t411 _ _ t412 _ _ t415 a3_0 a3_1 t418 t419 t420 _ ?side1 ?side2 ?side3 ?side4 A141.out).mono ?_
         (case side1 => exact kD (Kd.R_reads' HO414.out).2.2)
         (case side2 => exact (Kd.R_reads' HO414.out).2.1)
         (case side3 => exact kD (Kd.R_reads' HO417.out).2.2)
         (case side4 => exact (Kd.R_reads' HO417.out).2.1)
         rintro e w158 ⟨rfl, hb⟩
         refine ⟨_, rfl, ?_⟩
         replace HO_11 := kO HO_11 hb
         replace HO403 := kO HO403 hb
         replace HO406 := kO HO406 hb
         replace HO414 := kO HO414 hb
         replace HO417 := kO HO417 hb
         replace BK373 := kB BK373 hb
         replace BK374 := kB BK374 hb
         replace BK375 := kB BK375 hb
         replace BK410 := kB BK410 hb
         replace BK421 := kB BK421 hb
         replace HB := kH _ hb
         (try clear hb)
         (try clear hb2)
         (try clear hk)
         (try clear hi)
         refine hK.out _ _ ⟨bc BK373 0, bc BK373 1, bc BK373 2, bc BK375 0, bc BK375 1⟩ (fun hHeld => ?_)
         clear hK K
         refine norm_ (a' := ?_) ?_ ?_
         rotate_left
         ·show Act.put _ (some 160) _ = _
          simp only [Act.put, List.setIfInBounds_toArray, List.set_cons_zero, List.set_cons_succ, i64_w, i32_w]
          rfl
         refine pS 4 156 10 159 ?_
         refine pS 5 161 10 191 ?_
         refine pS 6 162 10 255 ?_
         exact norm_ (by simp only [putAll, Act.put, List.setIfInBounds_toArray, List.set_cons_zero, List.set_cons_succ]) (hCont (.slice Ao156 t412.length co156, .slice Ao157 t415.length co157, gb421) _ ⟨hHeld, (rD (Kd.R_mono HO403.out (fun _ hk => ⟨hk.1.1, ⟨hk.1.2, hk.2⟩⟩))), (rD (Kd.R_mono HO406.out (fun _ hk => ⟨hk.1.1, ⟨hk.1.2, hk.2⟩⟩))), (rD (Kd.R_mono HO414.out (fun _ hk => ⟨hk.1.2, ⟨hk.2, hk.1.1⟩⟩))), (rD (Kd.R_mono HO417.out (fun _ hk => ⟨hk.1.2, ⟨hk.2, hk.1.1⟩⟩))), (rD (Kd.R_mono HO_11.out (fun _ hk => ⟨hk.1.1, ⟨hk.1.2.1, ⟨hk.1.2.2, hk.2⟩⟩⟩))), (bkC BK373), (bkC BK374), (bkC BK375), (bkC BK410), (bkC BK421), GW421.out, GE421.out, NB373_421.out, NB421_373.out, NB374_421.out, NB421_374.out, NB375_421.out, NB421_375.out, NB410_421.out, NB421_410.out, (hbC _)⟩)
       rintro ⟨v413, v416, gb421⟩ w159 ⟨hS_, h0_, h1_, h2_, h3_, h4_, h5_, h6_, h7_, h8_, h9_, h10_, h11_, h12_, h13_, h14_, h15_, h16_, h17_, h18_, h19_, h20_⟩
       have n0_ : Aside0 (Kd.R (Kd.int .i64) 3 w159 w.heap.size (fun k_ => nb k_ v405 ∧ nb k_ v413 ∧ nb k_ v416) v402 t401) := ⟨h0_⟩
       have n1_ : Aside0 (Kd.R (Kd.int .i64) 3 w159 w.heap.size (fun k_ => nb k_ v402 ∧ nb k_ v413 ∧ nb k_ v416) v405 t404) := ⟨h1_⟩
       have n2_ : Aside0 (Kd.R (Kd.int .i64) 3 w159 w.heap.size (fun k_ => nb k_ v402 ∧ nb k_ v405 ∧ nb k_ v416) v413 t412) := ⟨h2_⟩
       have n3_ : Aside0 (Kd.R (Kd.int .i64) 3 w159 w.heap.size (fun k_ => nb k_ v402 ∧ nb k_ v405 ∧ nb k_ v413) v416 t415) := ⟨h3_⟩
       have n4_ : Aside0 (Kd.R k26 26 w159 w.heap.size (fun k_ => k_ ≠ gb374 ∧ k_ ≠ gb375 ∧ k_ ≠ gb410 ∧ k_ ≠ gb421) (.slice Ao69 t387.length co69) t387) := ⟨h4_⟩
       have n5_ : Aside0 (w159.heap[gb373]? = some (.cells #[.int .i64 a0_0, .slice (some ad395) l0_1.length c0_1, .slice A0_2 l0_2.length c0_2] 24 (0, 0))) := ⟨h5_⟩
       have n6_ : Aside0 (w159.heap[gb374]? = some (.cells #[.int .i64 a2_0, .int .i64 a2_1] 26 (0, 0))) := ⟨h6_⟩
       have n7_ : Aside0 (w159.heap[gb375]? = some (.cells #[.int .i64 a3_0, .int .i64 a3_1] 26 (0, 0))) := ⟨h7_⟩
       have n8_ : Aside0 (w159.heap[gb410]? = some (.cells #[.int .i64 t407, .int .i64 t408] 26 (0, 0))) := ⟨h8_⟩
       have n9_ : Aside0 (w159.heap[gb421]? = some (.cells #[.int .i64 0, .int .i64 0] 26 (0, 0))) := ⟨h9_⟩
       have n10_ : Aside0 (w.heap.size ≤ gb421) := ⟨h10_⟩
       have n11_ : Aside0 (w.heap.size ≤ gb421) := ⟨h11_⟩
       have n12_ : Aside0 (gb373 ≠ gb421) := ⟨h12_⟩
       have n13_ : Aside0 (gb421 ≠ gb373) := ⟨h13_⟩
       have n14_ : Aside0 (gb374 ≠ gb421) := ⟨h14_⟩
       have n15_ : Aside0 (gb421 ≠ gb374) := ⟨h15_⟩
       have n16_ : Aside0 (gb375 ≠ gb421) := ⟨h16_⟩
       have n17_ : Aside0 (gb421 ≠ gb375) := ⟨h17_⟩
       have n18_ : Aside0 (gb410 ≠ gb421) := ⟨h18_⟩
       have n19_ : Aside0 (gb421 ≠ gb410) := ⟨h19_⟩
       have n20_ : Aside0 (Below w.heap.size w w159) := ⟨h20_⟩
       clear HO_11
       clear HO403
       clear HO406
       clear BK373
       clear BK374
       clear BK375
       clear BK410
       clear HB
       clear h0_ h1_ h2_ h3_ h4_ h5_ h6_ h7_ h8_ h9_ h10_ h11_ h12_ h13_ h14_ h15_ h16_ h17_ h18_ h19_ h20_
       have HO403 := n0_
       have HO406 := n1_
       have HO414 := n2_
       have HO417 := n3_
       have HO_11 := n4_
       have BK373 := n5_
       have BK374 := n6_
       have BK375 := n7_
       have BK410 := n8_
       have BK421 := n9_
       have GW421 := n10_
       have GE421 := n11_
       have NB373_421 := n12_
       have NB421_373 := n13_
       have NB374_421 := n14_
       have NB421_374 := n15_
       have NB375_421 := n16_
       have NB421_375 := n17_
       have NB410_421 := n18_
       have NB421_410 := n19_
       have HB := n20_
       clear n0_ n1_ n2_ n3_ n4_ n5_ n6_ n7_ n8_ n9_ n10_ n11_ n12_ n13_ n14_ n15_ n16_ n17_ n18_ n19_ n20_
       have hHeld : w159.cell? ⟨gb373, 0, none⟩ = some (.int .i64 a0_0) ∧ w159.cell? ⟨gb373, 1, none⟩ = some (.slice (some ad395) l0_1.length c0_1) ∧ w159.cell? ⟨gb373, 2, none⟩ = some (.slice A0_2 l0_2.length c0_2) ∧ w159.cell? ⟨gb375, 0, none⟩ = some (.int .i64 a3_0) ∧ w159.cell? ⟨gb375, 1, none⟩ = some (.int .i64 a3_1) := hS_
       refine norm_ (a' := ?_) ?_ ?_
       rotate_left
       ·simp only [putAll, Act.put, List.setIfInBounds_toArray, List.set_cons_zero, List.set_cons_succ]
        rfl
       refine one_ (i := 8) (N := none) (ba 10 511) rfl rfl (one_of HT_.out (by kernel_rfl)) (by decide) (fun K hK => ?_)
       have hs160 : w159.cell? ⟨gb421, 0, none⟩ = some (.int .i64 0) := bc BK421 0
       have hfs160 := fz BK421 0
       have hns160_0 := NB373_421.out
       have hns160_1 := NB374_421.out
       have hns160_2 := NB375_421.out
       have hns160_3 := NB410_421.out
       have hms160_0 := NB421_373.out
       have hms160_1 := NB421_374.out
       have hms160_2 := NB421_375.out
       have hms160_3 := NB421_410.out
       have hs161 : w159.cell? ⟨gb421, 1, none⟩ = some (.int .i64 0) := bc BK421 1
       have hfs161 := fz BK421 1
       have hns161_0 := NB373_421.out
       have hns161_1 := NB374_421.out
       have hns161_2 := NB375_421.out
       have hns161_3 := NB410_421.out
       have hms161_0 := NB421_373.out
       have hms161_1 := NB421_374.out
       have hms161_2 := NB421_375.out
       have hms161_3 := NB421_410.out
       refine skip_ (w1 := ?_) (by rfl) rfl ?_ ?_
       rotate_left
       ·go_simp
        rfl
       refine hK.out _ _ ⟨((cell_far (p := ⟨gb421, _, none⟩) NB373_421.out _).trans (((cell_far (p := ⟨gb421, _, none⟩) NB373_421.out _).trans (hHeld.1)))), ((cell_far (p := ⟨gb421, _, none⟩) NB373_421.out _).trans (((cell_far (p := ⟨gb421, _, none⟩) NB373_421.out _).trans (hHeld.2.1)))), ((cell_far (p := ⟨gb421, _, none⟩) NB373_421.out _).trans (((cell_far (p := ⟨gb421, _, none⟩) NB373_421.out _).trans (hHeld.2.2.1)))), ((cell_far (p := ⟨gb421, _, none⟩) NB375_421.out _).trans (((cell_far (p := ⟨gb421, _, none⟩) NB375_421.out _).trans (hHeld.2.2.2.1)))), ((cell_far (p := ⟨gb421, _, none⟩) NB375_421.out _).trans (((cell_far (p := ⟨gb421, _, none⟩) NB375_421.out _).trans (hHeld.2.2.2.2))))⟩ (fun hHeld => ?_)
       clear hK K
       refine pS 9 18 10 1023 ?_
       refine done_ (done_of HT_.out (by kernel_rfl)) ?_
       go_upto_region 14 with (fail)
       go_cut [168] (fun v168 wc => ∃ (kq : Nat) (x168_141 : Bool), v168 = .bool x168_141 ∧ Aside0 (congoulaw04_CurvesSteep.j3 kq (wrap64 (Int.tmod (IntKind.u64.wrap (a1)) (IntKind.u64.wrap ((t387.length : Int))))) t387 x168_141 a2_0 a2_1 a3_0 a3_1 t407 t408 t418 t419 = some r) ∧ Aside0 (kq ≤ kj64) ∧ Aside0 (Kd.R k26 26 wc w.heap.size (fun k_ => k_ ≠ gb374 ∧ k_ ≠ gb375 ∧ k_ ≠ gb410 ∧ k_ ≠ gb421) (.slice Ao69 t387.length co69) t387) ∧ Aside0 (wc.heap[gb373]? = some (.cells #[.int .i64 a0_0, (.slice (some ad395) l0_1.length c0_1), (.slice A0_2 l0_2.length c0_2)] 24 (0, 0))) ∧ Aside0 (wc.heap[gb374]? = some (.cells #[.int .i64 a2_0, .int .i64 a2_1] 26 (0, 0))) ∧ Aside0 (wc.heap[gb375]? = some (.cells #[.int .i64 a3_0, .int .i64 a3_1] 26 (0, 0))) ∧ Aside0 (wc.heap[gb410]? = some (.cells #[.int .i64 t407, .int .i64 t408] 26 (0, 0))) ∧ Aside0 (wc.heap[gb421]? = some (.cells #[.int .i64 t418, .int .i64 t419] 26 (0, 0))) ∧ Aside0 (Below w.heap.size w wc))
       case first =>
        as_aux_lemma =>
        have H := HC142.out
        clear HC142
        by_cases c162 : t409 = 0
        rotate_left
        ·rw [if_neg c162] at H
         have c162b0 : (t409 == 0) = false := beq_eq_false_iff_ne.mpr c162
         have c162b1 : (t409 != 0) = true := bne_iff_ne.mpr c162
         (first | rw [c162b0] | (simp only [i64_w, i32_w]; rw [c162b0]) | skip)
         have H' := Aside0.mk H
         clear H
         go_wp2
         go_meet
         case rel => exact ⟨_, (true), (by first | rfl | (simp; done) | (simp [*]; done)), H', ⟨by have := HJ6.out; have := HJ34.out; have := HJ64.out; first | omega | exact Nat.le_refl _⟩, ⟨rD (Kd.R_mono (Kd.R_far (p := ⟨gb421, 1, none⟩) (Kd.R_far (p := ⟨gb421, 0, none⟩) (Kd.R_mono HO_11.out (fun k_ hk => (⟨hk, hk.2.2.2⟩ : _ ∧ k_ ≠ gb421))) (fun _ hk => hk.2) (.int .i64 t418)) (fun _ hk => hk.2) (.int .i64 t419)) (fun _ hk => ⟨hk.1.1, ⟨hk.1.2.1, ⟨hk.1.2.2.1, hk.1.2.2.2⟩⟩⟩))⟩, ⟨bF BK373⟩, ⟨bF BK374⟩, ⟨bF BK375⟩, ⟨bF BK410⟩, ⟨by (with_reducible repeat (first | refine blk_drewN ?_ _ | refine blk_drew ?_ | refine blk_alloc ?_ _)); refine blk_put (cs := #[.int .i64 t418, .int .i64 0]) ?_ 1 _ rfl; (with_reducible repeat (first | refine blk_drewN ?_ _ | refine blk_drew ?_ | refine blk_alloc ?_ _)); refine blk_put (cs := #[.int .i64 0, .int .i64 0]) ?_ 0 _ rfl; (with_reducible repeat (first | refine blk_drewN ?_ _ | refine blk_drew ?_ | refine blk_alloc ?_ _)); exact BK421.out⟩, ⟨hbC _⟩⟩
        rw [if_pos c162] at H
        have c162b0 : (t409 == 0) = true := beq_iff_eq.mpr c162
        have c162b1 : (t409 != 0) = false := bne_eq_false_iff_eq.mpr c162
        clear c162
        (first | rw [c162b0] | (simp only [i64_w, i32_w]; rw [c162b0]) | skip)
        have H' := Aside0.mk H
        clear H
        go_wp2
        go_meet
        case rel => exact ⟨_, ((t420 != 0)), (by first | rfl | (simp; done) | (simp [*]; done)), H', ⟨by have := HJ6.out; have := HJ34.out; have := HJ64.out; first | omega | exact Nat.le_refl _⟩, ⟨rD (Kd.R_mono (Kd.R_far (p := ⟨gb421, 1, none⟩) (Kd.R_far (p := ⟨gb421, 0, none⟩) (Kd.R_mono HO_11.out (fun k_ hk => (⟨hk, hk.2.2.2⟩ : _ ∧ k_ ≠ gb421))) (fun _ hk => hk.2) (.int .i64 t418)) (fun _ hk => hk.2) (.int .i64 t419)) (fun _ hk => ⟨hk.1.1, ⟨hk.1.2.1, ⟨hk.1.2.2.1, hk.1.2.2.2⟩⟩⟩))⟩, ⟨bF BK373⟩, ⟨bF BK374⟩, ⟨bF BK375⟩, ⟨bF BK410⟩, ⟨by (with_reducible repeat (first | refine blk_drewN ?_ _ | refine blk_drew ?_ | refine blk_alloc ?_ _)); refine blk_put (cs := #[.int .i64 t418, .int .i64 0]) ?_ 1 _ rfl; (with_reducible repeat (first | refine blk_drewN ?_ _ | refine blk_drew ?_ | refine blk_alloc ?_ _)); refine blk_put (cs := #[.int .i64 0, .int .i64 0]) ?_ 0 _ rfl; (with_reducible repeat (first | refine blk_drewN ?_ _ | refine blk_drew ?_ | refine blk_alloc ?_ _)); exact BK421.out⟩, ⟨hbC _⟩⟩
       case rest =>
        as_aux_lemma =>
        clear HC142
        try clear c1
        try clear p2
        try clear p6
        try clear c7
        try clear c14
        try clear c16
        try clear p64
        try clear c162
        try clear c162b0
        try clear c162b1
        obtain ⟨kq, x168_141, rfl, HA, HJ141, HO_11, BK373, BK374, BK375, BK410, BK421, HB⟩ := hcut
        cases kq with
        | zero => exact absurd HA.out (by simp [congoulaw04_CurvesSteep.j3])
        | succ kj141 =>
         have H := HA.out
         clear HA
         simp only [congoulaw04_CurvesSteep.j3] at H
         by_cases c163 : x168_141 = true
         ·subst c163
          have H1 : (some false) = some r := by rw [if_pos rfl] at H; exact H
          clear H
          have H := H1
          clear H1
          exact absurd (H.trans (congrArg some HRT.out)) (by simp)
         replace c163 := Bool.eq_false_iff.mpr c163
         subst c163
         have H1 : ((congoulaw04_more.f kj141 a3_0 a3_1 (wrap64 (-a2_0)) a2_1 1 1).bind fun bt422 => (if bt422.2.2 = true then (if 0 ≤ (wrap64 (Int.tmod (IntKind.u64.wrap (a1)) (IntKind.u64.wrap ((t387.length : Int))))) then (if (wrap64 (Int.tmod (IntKind.u64.wrap (a1)) (IntKind.u64.wrap ((t387.length : Int))))) < (t387.length : Int) then ((congoulaw04_more.f kj141 t407 t408 ((rd_T26 t387 (wrap64 (Int.tmod (IntKind.u64.wrap (a1)) (IntKind.u64.wrap ((t387.length : Int)))))).f0) ((rd_T26 t387 (wrap64 (Int.tmod (IntKind.u64.wrap (a1)) (IntKind.u64.wrap ((t387.length : Int)))))).f1) bt422.1 bt422.2.1).bind fun bt427 => (if bt427.2.2 = true then (if (bt427.1 == t418 && (bt427.2.1 == t419)) = true then ((congoulaw04_awake.f kj141).bind fun t431 => (some t431)) else (some false)) else (some false))) else (none)) else (none)) else (some false))) = some r := by rw [if_neg (show ¬ (false = true) by decide)] at H; exact H
         clear H
         have H := H1
         clear H1
         replace H := Option.bind_eq_some_iff.mp H
         obtain ⟨⟨t422, t423, t424⟩, A1640, H⟩ := H
         replace H : (if t424 = true then (if 0 ≤ (wrap64 (Int.tmod (IntKind.u64.wrap (a1)) (IntKind.u64.wrap ((t387.length : Int))))) then (if (wrap64 (Int.tmod (IntKind.u64.wrap (a1)) (IntKind.u64.wrap ((t387.length : Int))))) < (t387.length : Int) then ((congoulaw04_more.f kj141 t407 t408 ((rd_T26 t387 (wrap64 (Int.tmod (IntKind.u64.wrap (a1)) (IntKind.u64.wrap ((t387.length : Int)))))).f0) ((rd_T26 t387 (wrap64 (Int.tmod (IntKind.u64.wrap (a1)) (IntKind.u64.wrap ((t387.length : Int)))))).f1) t422 t423).bind fun bt427 => (if bt427.2.2 = true then (if (bt427.1 == t418 && (bt427.2.1 == t419)) = true then ((congoulaw04_awake.f kj141).bind fun t431 => (some t431)) else (some false)) else (some false))) else (none)) else (none)) else (some false)) = some r := H
         have A164 := Aside0.mk A1640
         clear A1640
         by_cases c165 : t424 = true
         rotate_left
         ·replace c165 := Bool.eq_false_iff.mpr c165
          subst c165
          have H1 : (some false) = some r := by rw [if_neg (show ¬ (false = true) by decide)] at H; exact H
          clear H
          have H := H1
          clear H1
          exact absurd (H.trans (congrArg some HRT.out)) (by simp)
         subst c165
         have H1 : (if 0 ≤ (wrap64 (Int.tmod (IntKind.u64.wrap (a1)) (IntKind.u64.wrap ((t387.length : Int))))) then (if (wrap64 (Int.tmod (IntKind.u64.wrap (a1)) (IntKind.u64.wrap ((t387.length : Int))))) < (t387.length : Int) then ((congoulaw04_more.f kj141 t407 t408 ((rd_T26 t387 (wrap64 (Int.tmod (IntKind.u64.wrap (a1)) (IntKind.u64.wrap ((t387.length : Int)))))).f0) ((rd_T26 t387 (wrap64 (Int.tmod (IntKind.u64.wrap (a1)) (IntKind.u64.wrap ((t387.length : Int)))))).f1) t422 t423).bind fun bt427 => (if bt427.2.2 = true then (if (bt427.1 == t418 && (bt427.2.1 == t419)) = true then ((congoulaw04_awake.f kj141).bind fun t431 => (some t431)) else (some false)) else (some false))) else (none)) else (none)) = some r := by rw [if_pos rfl] at H; exact H
         clear H
         have H := H1
         clear H1
         obtain ⟨ji166, hji166⟩ : ∃ j_ : Int, (wrap64 (Int.tmod (IntKind.u64.wrap (a1)) (IntKind.u64.wrap ((t387.length : Int))))) = j_ := ⟨_, rfl⟩
         replace H : (if 0 ≤ (ji166) then (if (ji166) < (t387.length : Int) then ((congoulaw04_more.f kj141 t407 t408 ((rd_T26 t387 (ji166)).f0) ((rd_T26 t387 (ji166)).f1) t422 t423).bind fun bt427 => (if bt427.2.2 = true then (if (bt427.1 == t418 && (bt427.2.1 == t419)) = true then ((congoulaw04_awake.f kj141).bind fun t431 => (some t431)) else (some false)) else (some false))) else (none)) else (none)) = some r := by first | (rw [hji166] at H; exact H) | (simp only [hji166] at H ⊢; exact H)
         (try rw [hji166] at A164)
         have hji166w : (IntKind.i64.wrap (Int.tmod (IntKind.u64.wrap (a1)) (IntKind.u64.wrap ((t387.length : Int))))) = ji166 := (i64_w _).trans hji166
         by_cases c167 : 0 ≤ (ji166)
         rotate_left
         ·rw [if_neg c167] at H
          exact absurd H (by simp)
         rw [if_pos c167] at H
         have c167b0 : decide (0 ≤ (ji166)) = true := decide_eq_true c167
         clear c167
         by_cases c168 : (ji166) < (t387.length : Int)
         rotate_left
         ·rw [if_neg c168] at H
          exact absurd H (by simp)
         rw [if_pos c168] at H
         have c168b0 : decide ((ji166) < (t387.length : Int)) = true := decide_eq_true c168
         clear c168
         replace H := Option.bind_eq_some_iff.mp H
         obtain ⟨⟨t427, t428, t429⟩, A1690, H⟩ := H
         replace H : (if t429 = true then (if (t427 == t418 && (t428 == t419)) = true then ((congoulaw04_awake.f kj141).bind fun t431 => (some t431)) else (some false)) else (some false)) = some r := H
         have A169 := Aside0.mk A1690
         clear A1690
         by_cases c170 : t429 = true
         rotate_left
         ·replace c170 := Bool.eq_false_iff.mpr c170
          subst c170
          have H1 : (some false) = some r := by rw [if_neg (show ¬ (false = true) by decide)] at H; exact H
          clear H
          have H := H1
          clear H1
          exact absurd (H.trans (congrArg some HRT.out)) (by simp)
         subst c170
         have H1 : (if (t427 == t418 && (t428 == t419)) = true then ((congoulaw04_awake.f kj141).bind fun t431 => (some t431)) else (some false)) = some r := by rw [if_pos rfl] at H; exact H
         clear H
         have H := H1
         clear H1
         by_cases c171 : (t427 == t418 && (t428 == t419)) = true
         rotate_left
         ·rw [if_neg c171] at H
          have c171b0 : (t427 == t418 && (t428 == t419)) = false := by simpa using c171
          (try (have c171b1 : decide (t427 = t418 && (t428 == t419)) = false := by simpa using c171))
          (try (have c171b2 : (t427 == t418 && (t428 == t419)) = false := by simpa using c171))
          (try (have c171b3 : ¬ (t427 = t418 && (t428 == t419)) := by simpa using c171))
          clear c171
          exact absurd (H.trans (congrArg some HRT.out)) (by simp)
         rw [if_pos c171] at H
         have c171b0 : (t427 == t418 && (t428 == t419)) = true := c171
         (try (have c171b1 : decide (t427 = t418 && (t428 == t419)) = true := by simpa using c171))
         (try (have c171b2 : (t427 == t418 && (t428 == t419)) = true := by simpa using c171))
         clear c171
         replace H := Option.bind_eq_some_iff.mp H
         obtain ⟨t431, A1720, H⟩ := H
         replace H : (some t431) = some r := H
         have A172 := Aside0.mk A1720
         clear A1720
         obtain rfl := Option.some.inj H
         have hnb173 := NB375_373.out
         have hnc173 := NB373_375.out
         have hnb174 := NB375_374.out
         have hnc174 := NB374_375.out
         have hnb175 := NB375_410.out
         have hnc175 := NB410_375.out
         have hnb176 := NB375_421.out
         have hnc176 := NB421_375.out
         have hcz177_0 : wc.cell? ⟨gb375, 0, none⟩ = some (.int .i64 a3_0) := bc BK375 0
         have hcz177_1 : wc.cell? ⟨gb375, 1, none⟩ = some (.int .i64 a3_1) := bc BK375 1
         have hfz177_0 := fz BK375 0
         have hfz177_1 := fz BK375 1
         have hnb178 := NB374_373.out
         have hnc178 := NB373_374.out
         have hnb179 := NB374_410.out
         have hnc179 := NB410_374.out
         have hnb180 := NB374_421.out
         have hnc180 := NB421_374.out
         have hcz181_0 : wc.cell? ⟨gb374, 0, none⟩ = some (.int .i64 a2_0) := bc BK374 0
         have hcz181_1 : wc.cell? ⟨gb374, 1, none⟩ = some (.int .i64 a2_1) := bc BK374 1
         have hfz181_0 := fz BK374 0
         have hfz181_1 := fz BK374 1
         have hgl_ := hG.out.below HB.out; have hgl0 := hgl_.1; have hgl1 := hgl_.2; clear hgl_
         try go_wp2_with (first | ((with_reducible refine gate_callee (f := 10) rfl ?_); refine gL 178 Tryd.func10 #[.agg #[.int .i64 a3_0, .int .i64 a3_1], .agg #[.int .i64 (wrap64 (-a2_0)), .int .i64 a2_1], .agg #[.int .i64 1, .int .i64 1]] ?_; (with_reducible refine (congoulaw04_more.calls kj141 a3_0 a3_1 (wrap64 (-a2_0)) a2_1 1 1 t422 t423 true _ A164.out).mono ?_); rintro e w182 ⟨rfl, hb⟩; refine ⟨_, rfl, ?_⟩; replace HO_11 := kO HO_11 hb; replace BK373 := kB BK373 hb; replace BK374 := kB BK374 hb; replace BK375 := kB BK375 hb; replace BK410 := kB BK410 hb; replace BK421 := kB BK421 hb; replace HB := kH _ hb; (try clear hb); (try clear hb2); (try clear hk); (try clear hi)) | ((with_reducible refine gate_dst (N := 19) rfl ?_); (try (refine gate_guard (by rfl) ?_; dsimp only)); refine bE 19 #[.int .i64 0, .int .i64 0] 26 ?_; intro gb425 hg w183 hbox hb; replace HO_11 := ak (Kd.R_below (Kd.R_elderB (rC HO_11) gb425 (Nat.le_of_eq hg.symm)) hb); have BK425 := ak (hbox); have GW425 := kG w hg; have GE425 := kG w hg; replace HB := kH _ hb; have NB373_425 := kL BK373 hg; have NB425_373 := kR BK373 hg; replace BK373 := kB BK373 hb; have NB374_425 := kL BK374 hg; have NB425_374 := kR BK374 hg; replace BK374 := kB BK374 hb; have NB375_425 := kL BK375 hg; have NB425_375 := kR BK375 hg; replace BK375 := kB BK375 hb; have NB410_425 := kL BK410 hg; have NB425_410 := kR BK410 hg; replace BK410 := kB BK410 hb; have NB421_425 := kL BK421 hg; have NB425_421 := kR BK421 hg; replace BK421 := kB BK421 hb; clear hb hbox hg; have hnb184 := NB425_373.out; have hnc184 := NB373_425.out; have hnb185 := NB425_374.out; have hnc185 := NB374_425.out; have hnb186 := NB425_375.out; have hnc186 := NB375_425.out; have hnb187 := NB425_410.out; have hnc187 := NB410_425.out; have hnb188 := NB425_421.out; have hnc188 := NB421_425.out; have hcz189_0 : w183.cell? ⟨gb425, 0, none⟩ = some (.int .i64 0) := bc BK425 0; have hcz189_1 : w183.cell? ⟨gb425, 1, none⟩ = some (.int .i64 0) := bc BK425 1; have hfz189_0 := fz BK425 0; have hfz189_1 := fz BK425 1))
         have n0_ : Aside0 (Kd.R k26 26 ((w183.setCell ⟨gb425, 0, none⟩ (.int .i64 t422)).setCell ⟨gb425, 1, none⟩ (.int .i64 t423)) w.heap.size (fun k_ => k_ ≠ gb374 ∧ k_ ≠ gb375 ∧ k_ ≠ gb410 ∧ k_ ≠ gb421 ∧ k_ ≠ gb425) (.slice Ao69 t387.length co69) t387) := ⟨rD (Kd.R_mono (Kd.R_far (p := ⟨gb425, 1, none⟩) (Kd.R_far (p := ⟨gb425, 0, none⟩) (Kd.R_mono HO_11.out (fun k_ hk => (⟨hk, hk.2⟩ : _ ∧ k_ ≠ gb425))) (fun _ hk => hk.2) (.int .i64 t422)) (fun _ hk => hk.2) (.int .i64 t423)) (fun _ hk => ⟨hk.1.1.1, ⟨hk.1.1.2.1, ⟨hk.1.1.2.2.1, ⟨hk.1.1.2.2.2, hk.1.2⟩⟩⟩⟩))⟩
         have n1_ : Aside0 (((w183.setCell ⟨gb425, 0, none⟩ (.int .i64 t422)).setCell ⟨gb425, 1, none⟩ (.int .i64 t423)).heap[gb373]? = some (.cells #[.int .i64 a0_0, .slice (some ad395) l0_1.length c0_1, .slice A0_2 l0_2.length c0_2] 24 (0, 0))) := ⟨bF BK373⟩
         have n2_ : Aside0 (((w183.setCell ⟨gb425, 0, none⟩ (.int .i64 t422)).setCell ⟨gb425, 1, none⟩ (.int .i64 t423)).heap[gb374]? = some (.cells #[.int .i64 a2_0, .int .i64 a2_1] 26 (0, 0))) := ⟨bF BK374⟩
         have n3_ : Aside0 (((w183.setCell ⟨gb425, 0, none⟩ (.int .i64 t422)).setCell ⟨gb425, 1, none⟩ (.int .i64 t423)).heap[gb375]? = some (.cells #[.int .i64 a3_0, .int .i64 a3_1] 26 (0, 0))) := ⟨bF BK375⟩
         have n4_ : Aside0 (((w183.setCell ⟨gb425, 0, none⟩ (.int .i64 t422)).setCell ⟨gb425, 1, none⟩ (.int .i64 t423)).heap[gb410]? = some (.cells #[.int .i64 t407, .int .i64 t408] 26 (0, 0))) := ⟨bF BK410⟩
         have n5_ : Aside0 (((w183.setCell ⟨gb425, 0, none⟩ (.int .i64 t422)).setCell ⟨gb425, 1, none⟩ (.int .i64 t423)).heap[gb421]? = some (.cells #[.int .i64 t418, .int .i64 t419] 26 (0, 0))) := ⟨bF BK421⟩
         have n6_ : Aside0 (((w183.setCell ⟨gb425, 0, none⟩ (.int .i64 t422)).setCell ⟨gb425, 1, none⟩ (.int .i64 t423)).heap[gb425]? = some (.cells #[.int .i64 t422, .int .i64 t423] 26 (0, 0))) := ⟨by (with_reducible repeat (first | refine blk_drewN ?_ _ | refine blk_drew ?_ | refine blk_alloc ?_ _)); refine blk_put (cs := #[.int .i64 t422, .int .i64 0]) ?_ 1 _ rfl; (with_reducible repeat (first | refine blk_drewN ?_ _ | refine blk_drew ?_ | refine blk_alloc ?_ _)); refine blk_put (cs := #[.int .i64 0, .int .i64 0]) ?_ 0 _ rfl; (with_reducible repeat (first | refine blk_drewN ?_ _ | refine blk_drew ?_ | refine blk_alloc ?_ _)); exact BK425.out⟩
         have n7_ : Aside0 (Below w.heap.size w ((w183.setCell ⟨gb425, 0, none⟩ (.int .i64 t422)).setCell ⟨gb425, 1, none⟩ (.int .i64 t423))) := ⟨hbC _⟩
         (try clear HO_11)
         (try clear BK373)
         (try clear BK374)
         (try clear BK375)
         (try clear BK410)
         (try clear BK421)
         (try clear BK425)
         (try clear HB)
         generalize ((w183.setCell ⟨gb425, 0, none⟩ (.int .i64 t422)).setCell ⟨gb425, 1, none⟩ (.int .i64 t423)) = w190 at n0_ n1_ n2_ n3_ n4_ n5_ n6_ n7_ ⊢
         have HO_11 := n0_
         have BK373 := n1_
         have BK374 := n2_
         have BK375 := n3_
         have BK410 := n4_
         have BK421 := n5_
         have BK425 := n6_
         have HB := n7_
         clear n0_ n1_ n2_ n3_ n4_ n5_ n6_ n7_
         replace HO_11 := ak (Kd.R_drew HO_11.out)
         replace BK373 := kd BK373
         replace BK374 := kd BK374
         replace BK375 := kd BK375
         replace BK410 := kd BK410
         replace BK421 := kd BK421
         replace BK425 := kd BK425
         replace HB := ak (below_drew1 HB.out)
         have p426 : 0 ≤ ((ji166) : Int) := dA
         have q426 : (ji166) < (t387.length : Int) := dA
         obtain ⟨ad426, e426, hx426_0, hx426_1⟩ := at_T26 (Kd.R_reads' HO_11.out).2.2 (ji166) p426 q426
         cases e426
         replace p426 := eq_true p426
         replace q426 := eq_true q426
         refine sS (n := 13) (S := fun w' => w'.cell? ⟨gb410, 0, none⟩ = some (.int .i64 t407) ∧ w'.cell? ⟨gb410, 1, none⟩ = some (.int .i64 t408) ∧ w'.cell? ⟨gb425, 0, none⟩ = some (.int .i64 t422) ∧ w'.cell? ⟨gb425, 1, none⟩ = some (.int .i64 t423) ∧ w'.cell? (ad426.add (((ji166)).toNat * 2)) = some (.int .i64 ((rd_T26 t387 (ji166)).f0)) ∧ w'.cell? ⟨(ad426.add (((ji166)).toNat * 2)).block, (ad426.add (((ji166)).toNat * 2)).off + 1, none⟩ = some (.int .i64 ((rd_T26 t387 (ji166)).f1))) (ds := []) ⟨bc BK410 0, bc BK410 1, bc BK425 0, bc BK425 1, hx426_0, hx426_1⟩ (fun hHeld => ?_); refine with_tabW congoulaw04_CurvesSteep.tab19 congoulaw04_CurvesSteep.bits19 (fun HT_ HW_ => ?_)
         generalize w190.drew = w191 at HO_11 BK373 BK374 BK375 BK410 BK421 BK425 HB hx426_0 hx426_1 hHeld ⊢
         refine pS 1 185 13 2 ?_
         refine pS 2 186 13 6 ?_
         refine pS 3 187 13 14 ?_
         refine tS 0 184 13 15 ?_
         refine tS 4 188 13 31 ?_
         refine tS 5 189 13 63 ?_
         refine join_ (σ := Nat) 2 (ba 13 2047) (fun s_ => [(190, .tuple #[.agg #[.int .i64 t427, .int .i64 t428], .bool true]), (21, .pointer (some ⟨s_, 0, none⟩)), (183, .tuple #[.agg #[.int .i64 t427, .int .i64 t428], .bool true]), (191, .agg #[.int .i64 t427, .int .i64 t428]), (192, .bool true)]) (fun s_ w' => (w'.cell? ⟨gb410, 0, none⟩ = some (.int .i64 t407) ∧ w'.cell? ⟨gb410, 1, none⟩ = some (.int .i64 t408) ∧ w'.cell? ⟨gb425, 0, none⟩ = some (.int .i64 t422) ∧ w'.cell? ⟨gb425, 1, none⟩ = some (.int .i64 t423) ∧ w'.cell? (ad426.add (((ji166)).toNat * 2)) = some (.int .i64 ((rd_T26 t387 (ji166)).f0)) ∧ w'.cell? ⟨(ad426.add (((ji166)).toNat * 2)).block, (ad426.add (((ji166)).toNat * 2)).off + 1, none⟩ = some (.int .i64 ((rd_T26 t387 (ji166)).f1))) ∧ (Kd.R k26 26 w' w.heap.size (fun k_ => k_ ≠ gb374 ∧ k_ ≠ gb375 ∧ k_ ≠ gb410 ∧ k_ ≠ gb421 ∧ k_ ≠ gb425 ∧ k_ ≠ s_) (.slice (some ad426) t387.length co69) t387) ∧ (w'.heap[gb373]? = some (.cells #[.int .i64 a0_0, .slice (some ad395) l0_1.length c0_1, .slice A0_2 l0_2.length c0_2] 24 (0, 0))) ∧ (w'.heap[gb374]? = some (.cells #[.int .i64 a2_0, .int .i64 a2_1] 26 (0, 0))) ∧ (w'.heap[gb375]? = some (.cells #[.int .i64 a3_0, .int .i64 a3_1] 26 (0, 0))) ∧ (w'.heap[gb410]? = some (.cells #[.int .i64 t407, .int .i64 t408] 26 (0, 0))) ∧ (w'.heap[gb421]? = some (.cells #[.int .i64 t418, .int .i64 t419] 26 (0, 0))) ∧ (w'.heap[gb425]? = some (.cells #[.int .i64 t422, .int .i64 t423] 26 (0, 0))) ∧ (w'.heap[s_]? = some (.cells #[.int .i64 0, .int .i64 0] 26 (0, 0))) ∧ (w.heap.size ≤ s_) ∧ (w.heap.size ≤ s_) ∧ (gb373 ≠ s_) ∧ (s_ ≠ gb373) ∧ (gb374 ≠ s_) ∧ (s_ ≠ gb374) ∧ (gb375 ≠ s_) ∧ (s_ ≠ gb375) ∧ (gb410 ≠ s_) ∧ (s_ ≠ gb410) ∧ (gb421 ≠ s_) ∧ (s_ ≠ gb421) ∧ (gb425 ≠ s_) ∧ (s_ ≠ gb425) ∧ (Below w.heap.size w w')) ?_ ?_
         rotate_left
         ·intro hCont
          refine two_ (i := 6) (j := 10) (Ni := some 190) (Nj := some 21) (ba 13 127) (ba 13 1087) rfl rfl rfl rfl (two_of HT_.out (by kernel_rfl)) (by decide) (by decide) (fun K hK => ?_) (fun K hK => ?_)
          ·skip
           refine goes_ Tryd.func10 (by kernel_rfl) rfl #[.agg #[.int .i64 t407, .int .i64 t408], .agg #[.int .i64 ((rd_T26 t387 (ji166)).f0), .int .i64 ((rd_T26 t387 (ji166)).f1)], .agg #[.int .i64 t422, .int .i64 t423]] (by rfl) rfl rfl (by (try simp only [List.map_toArray, List.map_cons, List.map_nil]); first | done | (simp only [hji166]; rfl) | rfl | (simp only [List.length_drop, List.length_take]; rfl)) ?_
           with_reducible refine (congoulaw04_more.calls kj141 t407 t408 ((rd_T26 t387 (ji166)).f0) ((rd_T26 t387 (ji166)).f1) t422 t423 t427 t428 true _ A169.out).mono ?_
           rintro e w192 ⟨rfl, hb⟩
           have HS4_ := (hb.cell (World.block_lt_of_cell? _ _ (hHeld.2.2.2.2.1))).trans (hHeld.2.2.2.2.1)
           have HS5_ := (hb.cell (World.block_lt_of_cell? _ _ (hHeld.2.2.2.2.2))).trans (hHeld.2.2.2.2.2)
           refine ⟨_, rfl, ?_⟩
           replace HO_11 := kO HO_11 hb
           replace BK373 := kB BK373 hb
           replace BK374 := kB BK374 hb
           replace BK375 := kB BK375 hb
           replace BK410 := kB BK410 hb
           replace BK421 := kB BK421 hb
           replace BK425 := kB BK425 hb
           replace HB := kH _ hb
           (try clear hb)
           (try clear hb2)
           (try clear hk)
           (try clear hi)
           refine hK.out _ _ ⟨bc BK410 0, bc BK410 1, bc BK425 0, bc BK425 1, HS4_, HS5_⟩ (fun hHeld => ?_)
           clear hK K
           refine norm_ (a' := ?_) ?_ ?_
           rotate_left
           ·show Act.put _ (some 190) _ = _
            simp only [Act.put, List.setIfInBounds_toArray, List.set_cons_zero, List.set_cons_succ, i64_w, i32_w]
            rfl
           refine pS 7 183 13 255 ?_
           refine pS 8 191 13 511 ?_
           refine pS 9 192 13 1023 ?_
           refine one_ (i := 10) (N := some 21) (ba 13 2047) rfl rfl (one_of HT_.out (by kernel_rfl)) (by decide) (fun K hK => ?_)
           refine box_step ?hg (N := 21) ?hd (cs := #[.int .i64 0, .int .i64 0]) (t := 26) ?hr ?_; (case hd => rfl); (case hg => rfl); (case hr => first | (go_simp; done) | (go_simp; rfl))
           intro gb430 hg w193 hbox hb
           have HS4_ := (hb.cell (World.block_lt_of_cell? _ _ (hHeld.2.2.2.2.1))).trans (hHeld.2.2.2.2.1)
           have HS5_ := (hb.cell (World.block_lt_of_cell? _ _ (hHeld.2.2.2.2.2))).trans (hHeld.2.2.2.2.2)
           replace HO_11 := ak (Kd.R_below (Kd.R_elderB (rC HO_11) gb430 (Nat.le_of_eq hg.symm)) hb)
           have BK430 := ak (hbox)
           have GW430 := kG w hg
           have GE430 := kG w hg
           replace HB := kH _ hb
           have NB373_430 := kL BK373 hg
           have NB430_373 := kR BK373 hg
           replace BK373 := kB BK373 hb
           have NB374_430 := kL BK374 hg
           have NB430_374 := kR BK374 hg
           replace BK374 := kB BK374 hb
           have NB375_430 := kL BK375 hg
           have NB430_375 := kR BK375 hg
           replace BK375 := kB BK375 hb
           have NB410_430 := kL BK410 hg
           have NB430_410 := kR BK410 hg
           replace BK410 := kB BK410 hb
           have NB421_430 := kL BK421 hg
           have NB430_421 := kR BK421 hg
           replace BK421 := kB BK421 hb
           have NB425_430 := kL BK425 hg
           have NB430_425 := kR BK425 hg
           replace BK425 := kB BK425 hb
           clear hb hbox hg
           refine hK.out _ _ ⟨bc BK410 0, bc BK410 1, bc BK425 0, bc BK425 1, HS4_, HS5_⟩ (fun hHeld => ?_)
           clear hK K
           refine norm_ (a' := ?_) ?_ ?_
           rotate_left
           ·show Act.put _ (some 21) _ = _
            simp only [Act.put, List.setIfInBounds_toArray, List.set_cons_zero, List.set_cons_succ, i64_w, i32_w]
            rfl
           exact norm_ (by simp only [putAll, Act.put, List.setIfInBounds_toArray, List.set_cons_zero, List.set_cons_succ]) (hCont (gb430) _ ⟨hHeld, (rD (kM HO_11)), (bkC BK373), (bkC BK374), (bkC BK375), (bkC BK410), (bkC BK421), (bkC BK425), (bkC BK430), GW430.out, GE430.out, NB373_430.out, NB430_373.out, NB374_430.out, NB430_374.out, NB375_430.out, NB430_375.out, NB410_430.out, NB430_410.out, NB421_430.out, NB430_421.out, NB425_430.out, NB430_425.out, (hbC _)⟩)
          ·skip
           refine box_step ?hg (N := 21) ?hd (cs := #[.int .i64 0, .int .i64 0]) (t := 26) ?hr ?_; (case hd => rfl); (case hg => rfl); (case hr => first | (go_simp; done) | (go_simp; rfl))
           intro gb430 hg w192 hbox hb
           have HS4_ := (hb.cell (World.block_lt_of_cell? _ _ (hHeld.2.2.2.2.1))).trans (hHeld.2.2.2.2.1)
           have HS5_ := (hb.cell (World.block_lt_of_cell? _ _ (hHeld.2.2.2.2.2))).trans (hHeld.2.2.2.2.2)
           replace HO_11 := ak (Kd.R_below (Kd.R_elderB (rC HO_11) gb430 (Nat.le_of_eq hg.symm)) hb)
           have BK430 := ak (hbox)
           have GW430 := kG w hg
           have GE430 := kG w hg
           replace HB := kH _ hb
           have NB373_430 := kL BK373 hg
           have NB430_373 := kR BK373 hg
           replace BK373 := kB BK373 hb
           have NB374_430 := kL BK374 hg
           have NB430_374 := kR BK374 hg
           replace BK374 := kB BK374 hb
           have NB375_430 := kL BK375 hg
           have NB430_375 := kR BK375 hg
           replace BK375 := kB BK375 hb
           have NB410_430 := kL BK410 hg
           have NB430_410 := kR BK410 hg
           replace BK410 := kB BK410 hb
           have NB421_430 := kL BK421 hg
           have NB430_421 := kR BK421 hg
           replace BK421 := kB BK421 hb
           have NB425_430 := kL BK425 hg
           have NB430_425 := kR BK425 hg
           replace BK425 := kB BK425 hb
           clear hb hbox hg
           refine hK.out _ _ ⟨bc BK410 0, bc BK410 1, bc BK425 0, bc BK425 1, HS4_, HS5_⟩ (fun hHeld => ?_)
           clear hK K
           refine norm_ (a' := ?_) ?_ ?_
           rotate_left
           ·show Act.put _ (some 21) _ = _
            simp only [Act.put, List.setIfInBounds_toArray, List.set_cons_zero, List.set_cons_succ, i64_w, i32_w]
            rfl
           refine one_ (i := 6) (N := some 190) (ba 13 1151) rfl rfl (one_of HT_.out (by kernel_rfl)) (by decide) (fun K hK => ?_)
           refine goes_ Tryd.func10 (by kernel_rfl) rfl #[.agg #[.int .i64 t407, .int .i64 t408], .agg #[.int .i64 ((rd_T26 t387 (ji166)).f0), .int .i64 ((rd_T26 t387 (ji166)).f1)], .agg #[.int .i64 t422, .int .i64 t423]] (by rfl) rfl rfl (by (try simp only [List.map_toArray, List.map_cons, List.map_nil]); first | done | (simp only [hji166]; rfl) | rfl | (simp only [List.length_drop, List.length_take]; rfl)) ?_
           with_reducible refine (congoulaw04_more.calls kj141 t407 t408 ((rd_T26 t387 (ji166)).f0) ((rd_T26 t387 (ji166)).f1) t422 t423 t427 t428 true _ A169.out).mono ?_
           rintro e w193 ⟨rfl, hb⟩
           have HS4_ := (hb.cell (World.block_lt_of_cell? _ _ (hHeld.2.2.2.2.1))).trans (hHeld.2.2.2.2.1)
           have HS5_ := (hb.cell (World.block_lt_of_cell? _ _ (hHeld.2.2.2.2.2))).trans (hHeld.2.2.2.2.2)
           refine ⟨_, rfl, ?_⟩
           replace HO_11 := kO HO_11 hb
           replace BK373 := kB BK373 hb
           replace BK374 := kB BK374 hb
           replace BK375 := kB BK375 hb
           replace BK410 := kB BK410 hb
           replace BK421 := kB BK421 hb
           replace BK425 := kB BK425 hb
           replace BK430 := kB BK430 hb
           replace HB := kH _ hb
           (try clear hb)
           (try clear hb2)
           (try clear hk)
           (try clear hi)
           refine hK.out _ _ ⟨bc BK410 0, bc BK410 1, bc BK425 0, bc BK425 1, HS4_, HS5_⟩ (fun hHeld => ?_)
           clear hK K
           refine norm_ (a' := ?_) ?_ ?_
           rotate_left
           ·show Act.put _ (some 190) _ = _
            simp only [Act.put, List.setIfInBounds_toArray, List.set_cons_zero, List.set_cons_succ, i64_w, i32_w]
            rfl
           refine pS 7 183 13 1279 ?_
           refine pS 8 191 13 1535 ?_
           refine pS 9 192 13 2047 ?_
           exact norm_ (by simp only [putAll, Act.put, List.setIfInBounds_toArray, List.set_cons_zero, List.set_cons_succ]) (hCont (gb430) _ ⟨hHeld, (rD (kM HO_11)), (bkC BK373), (bkC BK374), (bkC BK375), (bkC BK410), (bkC BK421), (bkC BK425), (bkC BK430), GW430.out, GE430.out, NB373_430.out, NB430_373.out, NB374_430.out, NB430_374.out, NB375_430.out, NB430_375.out, NB410_430.out, NB430_410.out, NB421_430.out, NB430_421.out, NB425_430.out, NB430_425.out, (hbC _)⟩)
         rintro gb430 w194 ⟨hS_, h0_, h1_, h2_, h3_, h4_, h5_, h6_, h7_, h8_, h9_, h10_, h11_, h12_, h13_, h14_, h15_, h16_, h17_, h18_, h19_, h20_, h21_, h22_⟩
         have n0_ : Aside0 (Kd.R k26 26 w194 w.heap.size (fun k_ => k_ ≠ gb374 ∧ k_ ≠ gb375 ∧ k_ ≠ gb410 ∧ k_ ≠ gb421 ∧ k_ ≠ gb425 ∧ k_ ≠ gb430) (.slice (some ad426) t387.length co69) t387) := ⟨h0_⟩
         have n1_ : Aside0 (w194.heap[gb373]? = some (.cells #[.int .i64 a0_0, .slice (some ad395) l0_1.length c0_1, .slice A0_2 l0_2.length c0_2] 24 (0, 0))) := ⟨h1_⟩
         have n2_ : Aside0 (w194.heap[gb374]? = some (.cells #[.int .i64 a2_0, .int .i64 a2_1] 26 (0, 0))) := ⟨h2_⟩
         have n3_ : Aside0 (w194.heap[gb375]? = some (.cells #[.int .i64 a3_0, .int .i64 a3_1] 26 (0, 0))) := ⟨h3_⟩
         have n4_ : Aside0 (w194.heap[gb410]? = some (.cells #[.int .i64 t407, .int .i64 t408] 26 (0, 0))) := ⟨h4_⟩
         have n5_ : Aside0 (w194.heap[gb421]? = some (.cells #[.int .i64 t418, .int .i64 t419] 26 (0, 0))) := ⟨h5_⟩
         have n6_ : Aside0 (w194.heap[gb425]? = some (.cells #[.int .i64 t422, .int .i64 t423] 26 (0, 0))) := ⟨h6_⟩
         have n7_ : Aside0 (w194.heap[gb430]? = some (.cells #[.int .i64 0, .int .i64 0] 26 (0, 0))) := ⟨h7_⟩
         have n8_ : Aside0 (w.heap.size ≤ gb430) := ⟨h8_⟩
         have n9_ : Aside0 (w.heap.size ≤ gb430) := ⟨h9_⟩
         have n10_ : Aside0 (gb373 ≠ gb430) := ⟨h10_⟩
         have n11_ : Aside0 (gb430 ≠ gb373) := ⟨h11_⟩
         have n12_ : Aside0 (gb374 ≠ gb430) := ⟨h12_⟩
         have n13_ : Aside0 (gb430 ≠ gb374) := ⟨h13_⟩
         have n14_ : Aside0 (gb375 ≠ gb430) := ⟨h14_⟩
         have n15_ : Aside0 (gb430 ≠ gb375) := ⟨h15_⟩
         have n16_ : Aside0 (gb410 ≠ gb430) := ⟨h16_⟩
         have n17_ : Aside0 (gb430 ≠ gb410) := ⟨h17_⟩
         have n18_ : Aside0 (gb421 ≠ gb430) := ⟨h18_⟩
         have n19_ : Aside0 (gb430 ≠ gb421) := ⟨h19_⟩
         have n20_ : Aside0 (gb425 ≠ gb430) := ⟨h20_⟩
         have n21_ : Aside0 (gb430 ≠ gb425) := ⟨h21_⟩
         have n22_ : Aside0 (Below w.heap.size w w194) := ⟨h22_⟩
         clear HO_11
         clear BK373
         clear BK374
         clear BK375
         clear BK410
         clear BK421
         clear BK425
         clear HB
         clear h0_ h1_ h2_ h3_ h4_ h5_ h6_ h7_ h8_ h9_ h10_ h11_ h12_ h13_ h14_ h15_ h16_ h17_ h18_ h19_ h20_ h21_ h22_
         have HO_11 := n0_
         have BK373 := n1_
         have BK374 := n2_
         have BK375 := n3_
         have BK410 := n4_
         have BK421 := n5_
         have BK425 := n6_
         have BK430 := n7_
         have GW430 := n8_
         have GE430 := n9_
         have NB373_430 := n10_
         have NB430_373 := n11_
         have NB374_430 := n12_
         have NB430_374 := n13_
         have NB375_430 := n14_
         have NB430_375 := n15_
         have NB410_430 := n16_
         have NB430_410 := n17_
         have NB421_430 := n18_
         have NB430_421 := n19_
         have NB425_430 := n20_
         have NB430_425 := n21_
         have HB := n22_
         clear n0_ n1_ n2_ n3_ n4_ n5_ n6_ n7_ n8_ n9_ n10_ n11_ n12_ n13_ n14_ n15_ n16_ n17_ n18_ n19_ n20_ n21_ n22_
         have hHeld : w194.cell? ⟨gb410, 0, none⟩ = some (.int .i64 t407) ∧ w194.cell? ⟨gb410, 1, none⟩ = some (.int .i64 t408) ∧ w194.cell? ⟨gb425, 0, none⟩ = some (.int .i64 t422) ∧ w194.cell? ⟨gb425, 1, none⟩ = some (.int .i64 t423) ∧ w194.cell? (ad426.add (((ji166)).toNat * 2)) = some (.int .i64 ((rd_T26 t387 (ji166)).f0)) ∧ w194.cell? ⟨(ad426.add (((ji166)).toNat * 2)).block, (ad426.add (((ji166)).toNat * 2)).off + 1, none⟩ = some (.int .i64 ((rd_T26 t387 (ji166)).f1)) := hS_
         refine norm_ (a' := ?_) ?_ ?_
         rotate_left
         ·simp only [putAll, Act.put, List.setIfInBounds_toArray, List.set_cons_zero, List.set_cons_succ]
          rfl
         refine one_ (i := 11) (N := none) (ba 13 4095) rfl rfl (one_of HT_.out (by kernel_rfl)) (by decide) (fun K hK => ?_)
         have hs195 : w194.cell? ⟨gb430, 0, none⟩ = some (.int .i64 0) := bc BK430 0
         have hfs195 := fz BK430 0
         have hns195_0 := NB373_430.out
         have hns195_1 := NB374_430.out
         have hns195_2 := NB375_430.out
         have hns195_3 := NB410_430.out
         have hns195_4 := NB421_430.out
         have hns195_5 := NB425_430.out
         have hms195_0 := NB430_373.out
         have hms195_1 := NB430_374.out
         have hms195_2 := NB430_375.out
         have hms195_3 := NB430_410.out
         have hms195_4 := NB430_421.out
         have hms195_5 := NB430_425.out
         have hs196 : w194.cell? ⟨gb430, 1, none⟩ = some (.int .i64 0) := bc BK430 1
         have hfs196 := fz BK430 1
         have hns196_0 := NB373_430.out
         have hns196_1 := NB374_430.out
         have hns196_2 := NB375_430.out
         have hns196_3 := NB410_430.out
         have hns196_4 := NB421_430.out
         have hns196_5 := NB425_430.out
         have hms196_0 := NB430_373.out
         have hms196_1 := NB430_374.out
         have hms196_2 := NB430_375.out
         have hms196_3 := NB430_410.out
         have hms196_4 := NB430_421.out
         have hms196_5 := NB430_425.out
         refine skip_ (w1 := ?_) (by rfl) rfl ?_ ?_
         rotate_left
         ·go_simp
          rfl
         refine hK.out _ _ ⟨((cell_far (p := ⟨gb430, _, none⟩) NB410_430.out _).trans (((cell_far (p := ⟨gb430, _, none⟩) NB410_430.out _).trans (hHeld.1)))), ((cell_far (p := ⟨gb430, _, none⟩) NB410_430.out _).trans (((cell_far (p := ⟨gb430, _, none⟩) NB410_430.out _).trans (hHeld.2.1)))), ((cell_far (p := ⟨gb430, _, none⟩) NB425_430.out _).trans (((cell_far (p := ⟨gb430, _, none⟩) NB425_430.out _).trans (hHeld.2.2.1)))), ((cell_far (p := ⟨gb430, _, none⟩) NB425_430.out _).trans (((cell_far (p := ⟨gb430, _, none⟩) NB425_430.out _).trans (hHeld.2.2.2.1)))), ((cell_far (p := ⟨gb430, _, none⟩) (by first | exact Kd.own_blk (Kd.R_away HO_11.out (fun _ hk => hk.2.2.2.2.2)) | (rw [add_block]; exact Kd.own_blk (Kd.R_away HO_11.out (fun _ hk => hk.2.2.2.2.2))) | (show (Addr.add _ _).block ≠ _; rw [add_block]; exact Kd.own_blk (Kd.R_away HO_11.out (fun _ hk => hk.2.2.2.2.2))) | (dsimp only; exact Kd.own_blk (Kd.R_away HO_11.out (fun _ hk => hk.2.2.2.2.2)))) _).trans (((cell_far (p := ⟨gb430, _, none⟩) (by first | exact Kd.own_blk (Kd.R_away HO_11.out (fun _ hk => hk.2.2.2.2.2)) | (rw [add_block]; exact Kd.own_blk (Kd.R_away HO_11.out (fun _ hk => hk.2.2.2.2.2))) | (show (Addr.add _ _).block ≠ _; rw [add_block]; exact Kd.own_blk (Kd.R_away HO_11.out (fun _ hk => hk.2.2.2.2.2))) | (dsimp only; exact Kd.own_blk (Kd.R_away HO_11.out (fun _ hk => hk.2.2.2.2.2)))) _).trans (hHeld.2.2.2.2.1)))), ((cell_far (p := ⟨gb430, _, none⟩) (by first | exact Kd.own_blk (Kd.R_away HO_11.out (fun _ hk => hk.2.2.2.2.2)) | (rw [add_block]; exact Kd.own_blk (Kd.R_away HO_11.out (fun _ hk => hk.2.2.2.2.2))) | (show (Addr.add _ _).block ≠ _; rw [add_block]; exact Kd.own_blk (Kd.R_away HO_11.out (fun _ hk => hk.2.2.2.2.2))) | (dsimp only; exact Kd.own_blk (Kd.R_away HO_11.out (fun _ hk => hk.2.2.2.2.2)))) _).trans (((cell_far (p := ⟨gb430, _, none⟩) (by first | exact Kd.own_blk (Kd.R_away HO_11.out (fun _ hk => hk.2.2.2.2.2)) | (rw [add_block]; exact Kd.own_blk (Kd.R_away HO_11.out (fun _ hk => hk.2.2.2.2.2))) | (show (Addr.add _ _).block ≠ _; rw [add_block]; exact Kd.own_blk (Kd.R_away HO_11.out (fun _ hk => hk.2.2.2.2.2))) | (dsimp only; exact Kd.own_blk (Kd.R_away HO_11.out (fun _ hk => hk.2.2.2.2.2)))) _).trans (hHeld.2.2.2.2.2))))⟩ (fun hHeld => ?_)
         clear hK K
         refine pS 12 20 13 8191 ?_
         refine done_ (done_of HT_.out (by kernel_rfl)) ?_
         have hnb197 := NB430_373.out
         have hnc197 := NB373_430.out
         have hnb198 := NB430_374.out
         have hnc198 := NB374_430.out
         have hnb199 := NB430_375.out
         have hnc199 := NB375_430.out
         have hnb200 := NB430_410.out
         have hnc200 := NB410_430.out
         have hnb201 := NB430_421.out
         have hnc201 := NB421_430.out
         have hnb202 := NB430_425.out
         have hnc202 := NB425_430.out
         have hcz203_0 : w194.cell? ⟨gb430, 0, none⟩ = some (.int .i64 0) := bc BK430 0
         have hcz203_1 : w194.cell? ⟨gb430, 1, none⟩ = some (.int .i64 0) := bc BK430 1
         have hfz203_0 := fz BK430 0
         have hfz203_1 := fz BK430 1
         have hnb204 := NB421_373.out
         have hnc204 := NB373_421.out
         have hnb205 := NB421_410.out
         have hnc205 := NB410_421.out
         have hcz206_0 : w194.cell? ⟨gb421, 0, none⟩ = some (.int .i64 t418) := bc BK421 0
         have hcz206_1 : w194.cell? ⟨gb421, 1, none⟩ = some (.int .i64 t419) := bc BK421 1
         have hfz206_0 := fz BK421 0
         have hfz206_1 := fz BK421 1
         try go_wp2_with (first | (go_at_call 9; (with_reducible refine (congoulaw04_awake.calls kj141  t431 _ A172.out).mono ?_); rintro e w207 ⟨rfl, hb⟩; replace HO_11 := ak (Kd.R_below (rD ((Kd.R_mono (Kd.R_far (p := ⟨gb430, 1, none⟩) (Kd.R_far (p := ⟨gb430, 0, none⟩) (Kd.R_mono HO_11.out (fun k_ hk => (⟨hk, hk.2.2.2.2.2⟩ : _ ∧ k_ ≠ gb430))) (fun _ hk => hk.2) (.int .i64 t427)) (fun _ hk => hk.2) (.int .i64 t428)) (fun _ h_ => h_.1)))) hb); replace BK373 := ak (blk_below (g := gb373) (o := .cells #[.int .i64 a0_0, .slice (some ad395) l0_1.length c0_1, .slice A0_2 l0_2.length c0_2] 24 (0, 0)) (bF BK373) hb); replace BK374 := ak (blk_below (g := gb374) (o := .cells #[.int .i64 a2_0, .int .i64 a2_1] 26 (0, 0)) (bF BK374) hb); replace BK375 := ak (blk_below (g := gb375) (o := .cells #[.int .i64 a3_0, .int .i64 a3_1] 26 (0, 0)) (bF BK375) hb); replace BK410 := ak (blk_below (g := gb410) (o := .cells #[.int .i64 t407, .int .i64 t408] 26 (0, 0)) (bF BK410) hb); replace BK421 := ak (blk_below (g := gb421) (o := .cells #[.int .i64 t418, .int .i64 t419] 26 (0, 0)) (bF BK421) hb); replace BK425 := ak (blk_below (g := gb425) (o := .cells #[.int .i64 t422, .int .i64 t423] 26 (0, 0)) (bF BK425) hb); replace BK430 := ak (blk_below (g := gb430) (o := .cells #[.int .i64 t427, .int .i64 t428] 26 (0, 0)) (by (with_reducible repeat (first | refine blk_drewN ?_ _ | refine blk_drew ?_ | refine blk_alloc ?_ _)); refine blk_put (cs := #[.int .i64 t427, .int .i64 0]) ?_ 1 _ rfl; (with_reducible repeat (first | refine blk_drewN ?_ _ | refine blk_drew ?_ | refine blk_alloc ?_ _)); refine blk_put (cs := #[.int .i64 0, .int .i64 0]) ?_ 0 _ rfl; (with_reducible repeat (first | refine blk_drewN ?_ _ | refine blk_drew ?_ | refine blk_alloc ?_ _)); exact BK430.out) hb); replace HB := kH _ hb; (try clear hb); (try clear hb2); (try clear hk); (try clear hi)))
         go_ret
         exact ⟨by first | rfl | (simp [errW_none, errW_some] <;> rfl) | (simp only [← hji59, ← hji62, ← hji166]; first | rfl | (simp [errW_none, errW_some] <;> rfl)) | (simp [*, errW_none, errW_some] <;> rfl), hbC _⟩

end Go.Proofs.YtpnocmkpeogifaaDoor.X
