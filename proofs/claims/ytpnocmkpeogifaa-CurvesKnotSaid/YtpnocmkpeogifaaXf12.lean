-- Written by a program of this work (wip/xprint.py, over the kit's printer) out of the translation.
import Derived.Test.YtpnocmkpeogifaaX0
import Derived.Test.YtpnocmkpeogifaaXG4a
import Derived.Test.YtpnocmkpeogifaaXf14
import Derived.Test.YtpnocmkpeogifaaXf15
import Derived.Test.YtpnocmkpeogifaaXf17
import Derived.Test.YtpnocmkpeogifaaXf18
import Derived.Test.YtpnocmkpeogifaaXf19
import Derived.Test.YtpnocmkpeogifaaXf29
import Derived.Test.YtpnocmkpeogifaaXf32
import Derived.Test.YtpnocmkpeogifaaXf44
import Derived.Test.YtpnocmkpeogifaaXf45
import Derived.Test.YtpnocmkpeogifaaXq0
namespace Go.Proofs.Ytpnocmkpeogifaa.X
open Go.RowKit Go.Proofs.YtpnocmkpeogifaaW.PrintWords Go.Proofs.YtpnocmkpeogifaaW.PrintLast Go.Proofs.YtpnocmkpeogifaaW.PrintMore
attribute [local go_sem] max2_int min2_int max_two min_two max_three min_three max_four min_four   -- for this text's walks alone
set_option linter.unusedVariables false
set_option linter.unusedSimpArgs false

attribute [local go_sem high] eqA26
/-! ### congoulaw04_CurvesKnot: function 12 -/
mutual
def congoulaw04_CurvesKnot.j0 : Nat → Int → List (S26) → Int → Bool → Int → List Int → List Int → Int → Int → Option (Bool)
 | 0, _, _, _, _, _, _, _, _, _ => none
 | k + 1, x1, x7, x8, x32, x1045000, x1045001, x1045002, x1046000, x1046001 => if x32 = true then (if x8 = 2 then ((congoulaw04_awake.f k).bind fun t1058 => (some t1058)) else (if x8 = 6 then ((congoulaw04_awake.f k).bind fun t1059 => (some t1059)) else (if x8 = 4 then ((congoulaw04_awake.f k).bind fun t1060 => (some t1060)) else (if x8 = 0 then ((congouref04_Valid.f k x1045000 x1045001 x1045002).bind fun t1061 => (if t1061 = true then ((congouref04_In.f k x1045000 x1045001 x1045002 x1046000 x1046001).bind fun t1062 => (if t1062 = true then (some false) else ((congoulaw04_awake.f k).bind fun t1063 => (some t1063)))) else (some false))) else (some false))))) else ((congouref04_Longer.f k x1045000 x1045001 x1045002 x1).bind fun t1064 => (if 0 ≤ (wrap64 ((x1045002.length : Int) + 1)) then (if (wrap64 ((x1045002.length : Int) + 1) : Int).toNat ≤ 35184372088832 then ((some (List.replicate (wrap64 ((x1045002.length : Int) + 1) : Int).toNat 0 : List Int)).bind fun y1067 => ((congoulaw04_Of.f x1045000 x1045001 x1045002).bind fun bt1071 => ((curves_Value.f k bt1071.1 bt1071.2.1 bt1071.2.2 x1046000 x1046001).bind fun bt1078 => ((congoulaw04_Of.f x1045000 t1064 y1067).bind fun bt1082 => ((curves_Basic.f k bt1082.1 bt1082.2.1 bt1082.2.2 x1046000 x1046001).bind fun bt1089 => (if bt1078.2.2 = 0 then (if bt1089.2 = 0 then ((congouref04_Valid.f k x1045000 t1064 y1067).bind fun t1093 => (if t1093 = true then (if (bt1089.1.length : Int) = (y1067.length : Int) then (congoulaw04_CurvesKnot.j1 k x7 bt1089.1 ((x7.length : Int) != (bt1089.1.length : Int)) bt1078.1 bt1078.2.1) else (congoulaw04_CurvesKnot.j1 k x7 bt1089.1 true bt1078.1 bt1078.2.1)) else (congoulaw04_CurvesKnot.j1 k x7 bt1089.1 true bt1078.1 bt1078.2.1))) else (congoulaw04_CurvesKnot.j1 k x7 bt1089.1 true bt1078.1 bt1078.2.1)) else (congoulaw04_CurvesKnot.j1 k x7 bt1089.1 true bt1078.1 bt1078.2.1))))))) else (none)) else (none)))
def congoulaw04_CurvesKnot.j1 : Nat → List (S26) → List (S26) → Bool → Int → Int → Option (Bool)
 | 0, _, _, _, _, _ => none
 | k + 1, x7, x12, x110, x1082000, x1082001 => if x110 = true then (some false) else (congoulaw04_CurvesKnot.l0 k x12 x7 (x7.length : Int) 0 x1082000 x1082001 0 1)
def congoulaw04_CurvesKnot.l0 : Nat → List (S26) → List (S26) → Int → Int → Int → Int → Int → Int → Option (Bool)
 | 0, _, _, _, _, _, _, _, _ => none
 | k + 1, x12, x112, x113, x114, x1082000, x1082001, x1095000, x1095001 => if x114 < x113 then (if 0 ≤ x114 then (if x114 < (x112.length : Int) then (if x114 < (x12.length : Int) then ((congoulaw04_more.f k x1095000 x1095001 ((rd_T26 x112 x114).f0) ((rd_T26 x112 x114).f1) ((rd_T26 x12 x114).f0) ((rd_T26 x12 x114).f1)).bind fun bt1098 => (if bt1098.2.2 = true then (congoulaw04_CurvesKnot.l0 k x12 x112 x113 (wrap64 (x114 + 1)) x1082000 x1082001 bt1098.1 bt1098.2.1) else (some false))) else (none)) else (none)) else (none)) else (if (x1095000 == x1082000 && (x1095001 == x1082001)) = true then ((congoulaw04_awake.f k).bind fun t1101 => (some t1101)) else (some false))
end
def congoulaw04_CurvesKnot.f (k : Nat) (a0_0 : Int) (l0_1 : List Int) (l0_2 : List Int) (a1 : Int) (a2_0 : Int) (a2_1 : Int) : Option (Bool) := (congoulaw04_Of.f a0_0 l0_1 l0_2).bind fun bt1046 => ((curves_Insert.f k bt1046.1 bt1046.2.1 bt1046.2.2 a1).bind fun bt1053 => (if bt1053.2 = 0 then ((congoulaw04_fine.f k a0_0 l0_1 l0_2 a2_0 a2_1).bind fun t1057 => (congoulaw04_CurvesKnot.j0 k a1 bt1053.1 bt1053.2 (!t1057) a0_0 l0_1 l0_2 a2_0 a2_1)) else (congoulaw04_CurvesKnot.j0 k a1 bt1053.1 bt1053.2 true a0_0 l0_1 l0_2 a2_0 a2_1)))
theorem congoulaw04_CurvesKnot.mono_l : ∀ k, (∀ y0 y1 y2 y3 y4 y5 y6 y7 y8, LeO (congoulaw04_CurvesKnot.j0 k y0 y1 y2 y3 y4 y5 y6 y7 y8) (congoulaw04_CurvesKnot.j0 (k + 1) y0 y1 y2 y3 y4 y5 y6 y7 y8)) ∧ (∀ y0 y1 y2 y3 y4, LeO (congoulaw04_CurvesKnot.j1 k y0 y1 y2 y3 y4) (congoulaw04_CurvesKnot.j1 (k + 1) y0 y1 y2 y3 y4)) ∧ (∀ y0 y1 y2 y3 y4 y5 y6 y7, LeO (congoulaw04_CurvesKnot.l0 k y0 y1 y2 y3 y4 y5 y6 y7) (congoulaw04_CurvesKnot.l0 (k + 1) y0 y1 y2 y3 y4 y5 y6 y7))
 | 0 => ⟨fun _ _ _ _ _ _ _ _ _ r h => by simp [congoulaw04_CurvesKnot.j0] at h, fun _ _ _ _ _ r h => by simp [congoulaw04_CurvesKnot.j1] at h, fun _ _ _ _ _ _ _ _ r h => by simp [congoulaw04_CurvesKnot.l0] at h⟩
 | k + 1 => by
  obtain ⟨ih0, ih1, ih2⟩ := congoulaw04_CurvesKnot.mono_l k
  refine ⟨?_, ?_, ?_⟩
  ·intro y0 y1 y2 y3 y4 y5 y6 y7 y8
   unfold congoulaw04_CurvesKnot.j0
   repeat' first
   | (with_reducible exact ih0 _ _ _ _ _ _ _ _ _)
   | (with_reducible exact ih1 _ _ _ _ _)
   | (with_reducible exact ih2 _ _ _ _ _ _ _ _)
   | (with_reducible exact congoulaw04_awake.mono _)
   | (with_reducible exact congoulaw04_fine.mono _ _ _ _ _ _)
   | (with_reducible exact congoulaw04_more.mono _ _ _ _ _ _ _)
   | (with_reducible exact congouref04_In.mono _ _ _ _ _ _)
   | (with_reducible exact congouref04_Longer.mono _ _ _ _ _)
   | (with_reducible exact congouref04_Valid.mono _ _ _ _)
   | (with_reducible exact curves_Basic.mono _ _ _ _ _ _)
   | (with_reducible exact curves_Insert.mono _ _ _ _ _)
   | (with_reducible exact curves_Value.mono _ _ _ _ _ _)
   | (with_reducible exact LeO.refl _)
   | (with_reducible exact LeO.none _)
   | (with_reducible refine LeO.ite ?_ ?_)
   | (with_reducible refine LeO.bind ?_ (fun _ => ?_))
   | exact ih0 _ _ _ _ _ _ _ _ _
   | exact ih1 _ _ _ _ _
   | exact ih2 _ _ _ _ _ _ _ _
   | exact congoulaw04_awake.mono _
   | exact congoulaw04_fine.mono _ _ _ _ _ _
   | exact congoulaw04_more.mono _ _ _ _ _ _ _
   | exact congouref04_In.mono _ _ _ _ _ _
   | exact congouref04_Longer.mono _ _ _ _ _
   | exact congouref04_Valid.mono _ _ _ _
   | exact curves_Basic.mono _ _ _ _ _ _
   | exact curves_Insert.mono _ _ _ _ _
   | exact curves_Value.mono _ _ _ _ _ _
   | exact LeO.none _
   | refine LeO.ite ?_ ?_
   | refine LeO.bind ?_ (fun _ => ?_)
  ·intro y0 y1 y2 y3 y4
   unfold congoulaw04_CurvesKnot.j1
   repeat' first
   | (with_reducible exact ih0 _ _ _ _ _ _ _ _ _)
   | (with_reducible exact ih1 _ _ _ _ _)
   | (with_reducible exact ih2 _ _ _ _ _ _ _ _)
   | (with_reducible exact congoulaw04_awake.mono _)
   | (with_reducible exact congoulaw04_fine.mono _ _ _ _ _ _)
   | (with_reducible exact congoulaw04_more.mono _ _ _ _ _ _ _)
   | (with_reducible exact congouref04_In.mono _ _ _ _ _ _)
   | (with_reducible exact congouref04_Longer.mono _ _ _ _ _)
   | (with_reducible exact congouref04_Valid.mono _ _ _ _)
   | (with_reducible exact curves_Basic.mono _ _ _ _ _ _)
   | (with_reducible exact curves_Insert.mono _ _ _ _ _)
   | (with_reducible exact curves_Value.mono _ _ _ _ _ _)
   | (with_reducible exact LeO.refl _)
   | (with_reducible exact LeO.none _)
   | (with_reducible refine LeO.ite ?_ ?_)
   | (with_reducible refine LeO.bind ?_ (fun _ => ?_))
   | exact ih0 _ _ _ _ _ _ _ _ _
   | exact ih1 _ _ _ _ _
   | exact ih2 _ _ _ _ _ _ _ _
   | exact congoulaw04_awake.mono _
   | exact congoulaw04_fine.mono _ _ _ _ _ _
   | exact congoulaw04_more.mono _ _ _ _ _ _ _
   | exact congouref04_In.mono _ _ _ _ _ _
   | exact congouref04_Longer.mono _ _ _ _ _
   | exact congouref04_Valid.mono _ _ _ _
   | exact curves_Basic.mono _ _ _ _ _ _
   | exact curves_Insert.mono _ _ _ _ _
   | exact curves_Value.mono _ _ _ _ _ _
   | exact LeO.none _
   | refine LeO.ite ?_ ?_
   | refine LeO.bind ?_ (fun _ => ?_)
  ·intro y0 y1 y2 y3 y4 y5 y6 y7
   unfold congoulaw04_CurvesKnot.l0
   repeat' first
   | (with_reducible exact ih0 _ _ _ _ _ _ _ _ _)
   | (with_reducible exact ih1 _ _ _ _ _)
   | (with_reducible exact ih2 _ _ _ _ _ _ _ _)
   | (with_reducible exact congoulaw04_awake.mono _)
   | (with_reducible exact congoulaw04_fine.mono _ _ _ _ _ _)
   | (with_reducible exact congoulaw04_more.mono _ _ _ _ _ _ _)
   | (with_reducible exact congouref04_In.mono _ _ _ _ _ _)
   | (with_reducible exact congouref04_Longer.mono _ _ _ _ _)
   | (with_reducible exact congouref04_Valid.mono _ _ _ _)
   | (with_reducible exact curves_Basic.mono _ _ _ _ _ _)
   | (with_reducible exact curves_Insert.mono _ _ _ _ _)
   | (with_reducible exact curves_Value.mono _ _ _ _ _ _)
   | (with_reducible exact LeO.refl _)
   | (with_reducible exact LeO.none _)
   | (with_reducible refine LeO.ite ?_ ?_)
   | (with_reducible refine LeO.bind ?_ (fun _ => ?_))
   | exact ih0 _ _ _ _ _ _ _ _ _
   | exact ih1 _ _ _ _ _
   | exact ih2 _ _ _ _ _ _ _ _
   | exact congoulaw04_awake.mono _
   | exact congoulaw04_fine.mono _ _ _ _ _ _
   | exact congoulaw04_more.mono _ _ _ _ _ _ _
   | exact congouref04_In.mono _ _ _ _ _ _
   | exact congouref04_Longer.mono _ _ _ _ _
   | exact congouref04_Valid.mono _ _ _ _
   | exact curves_Basic.mono _ _ _ _ _ _
   | exact curves_Insert.mono _ _ _ _ _
   | exact curves_Value.mono _ _ _ _ _ _
   | exact LeO.none _
   | refine LeO.ite ?_ ?_
   | refine LeO.bind ?_ (fun _ => ?_)
theorem congoulaw04_CurvesKnot.mono : ∀ a0 a1 a2 a3 a4 a5 k, LeO (congoulaw04_CurvesKnot.f k a0 a1 a2 a3 a4 a5) (congoulaw04_CurvesKnot.f (k + 1) a0 a1 a2 a3 a4 a5) := by
 intro a0 a1 a2 a3 a4 a5 k
 obtain ⟨ih0, ih1, ih2⟩ := congoulaw04_CurvesKnot.mono_l k
 unfold congoulaw04_CurvesKnot.f
 repeat' first
   | (with_reducible exact ih0 _ _ _ _ _ _ _ _ _)
   | (with_reducible exact ih1 _ _ _ _ _)
   | (with_reducible exact ih2 _ _ _ _ _ _ _ _)
   | (with_reducible exact congoulaw04_awake.mono _)
   | (with_reducible exact congoulaw04_fine.mono _ _ _ _ _ _)
   | (with_reducible exact congoulaw04_more.mono _ _ _ _ _ _ _)
   | (with_reducible exact congouref04_In.mono _ _ _ _ _ _)
   | (with_reducible exact congouref04_Longer.mono _ _ _ _ _)
   | (with_reducible exact congouref04_Valid.mono _ _ _ _)
   | (with_reducible exact curves_Basic.mono _ _ _ _ _ _)
   | (with_reducible exact curves_Insert.mono _ _ _ _ _)
   | (with_reducible exact curves_Value.mono _ _ _ _ _ _)
   | (with_reducible exact LeO.refl _)
   | (with_reducible exact LeO.none _)
   | (with_reducible refine LeO.ite ?_ ?_)
   | (with_reducible refine LeO.bind ?_ (fun _ => ?_))
   | exact ih0 _ _ _ _ _ _ _ _ _
   | exact ih1 _ _ _ _ _
   | exact ih2 _ _ _ _ _ _ _ _
   | exact congoulaw04_awake.mono _
   | exact congoulaw04_fine.mono _ _ _ _ _ _
   | exact congoulaw04_more.mono _ _ _ _ _ _ _
   | exact congouref04_In.mono _ _ _ _ _ _
   | exact congouref04_Longer.mono _ _ _ _ _
   | exact congouref04_Valid.mono _ _ _ _
   | exact curves_Basic.mono _ _ _ _ _ _
   | exact curves_Insert.mono _ _ _ _ _
   | exact curves_Value.mono _ _ _ _ _ _
   | exact LeO.none _
   | refine LeO.ite ?_ ?_
   | refine LeO.bind ?_ (fun _ => ?_)
def congoulaw04_CurvesKnot.T4 : Bool × List (List Nat × List Nat) := (true, [([], []), ([0], [0]), ([], []), ([], []), ([2, 3], [2, 3]), ([], []), ([5], [5]), ([6], [6]), ([7], [7]), ([8, 8], [8]), ([1, 4, 9], [1, 4, 9]), ([], []), ([11, 10, 4, 0, 1, 2, 3, 4, 5, 6, 7, 8, 9, 10, 11], [10, 11])])
def congoulaw04_CurvesKnot.B4 : List Nat := [0, 1, 0, 0, 12, 0, 32, 96, 224, 480, 1023, 0, 4095]
theorem congoulaw04_CurvesKnot.tab4 : rtab .any (opsOf Try.f12 4) = congoulaw04_CurvesKnot.T4 := by kernel_rfl
theorem congoulaw04_CurvesKnot.bits4 : waitsOk congoulaw04_CurvesKnot.T4.2 congoulaw04_CurvesKnot.B4 = true := by kernel_rfl
def congoulaw04_CurvesKnot.T5 : Bool × List (List Nat × List Nat) := (true, [([], []), ([0], [0]), ([], []), ([1, 2, 1], [1, 2]), ([3], [3]), ([4], [4]), ([4], [4]), ([], []), ([7, 5, 3, 0, 1, 2, 3, 4, 5, 7], [5, 7]), ([6, 8, 0, 1, 2, 3, 4, 5, 6, 7, 8], [6])])
def congoulaw04_CurvesKnot.B5 : List Nat := [0, 1, 0, 7, 15, 31, 31, 0, 191, 511]
theorem congoulaw04_CurvesKnot.tab5 : rtab .any (opsOf Try.f12 5) = congoulaw04_CurvesKnot.T5 := by kernel_rfl
theorem congoulaw04_CurvesKnot.bits5 : waitsOk congoulaw04_CurvesKnot.T5.2 congoulaw04_CurvesKnot.B5 = true := by kernel_rfl
def congoulaw04_CurvesKnot.T6 : Bool × List (List Nat × List Nat) := (true, [([], []), ([0], [0]), ([], []), ([1, 2, 1], [1, 2]), ([3], [3]), ([4], [4]), ([4], [4]), ([5, 3, 0, 1, 2, 3, 4, 5], [5]), ([6, 7, 0, 1, 2, 3, 4, 5, 6, 7], [6])])
def congoulaw04_CurvesKnot.B6 : List Nat := [0, 1, 0, 7, 15, 31, 31, 63, 255]
theorem congoulaw04_CurvesKnot.tab6 : rtab .any (opsOf Try.f12 6) = congoulaw04_CurvesKnot.T6 := by kernel_rfl
theorem congoulaw04_CurvesKnot.bits6 : waitsOk congoulaw04_CurvesKnot.T6.2 congoulaw04_CurvesKnot.B6 = true := by kernel_rfl
def congoulaw04_CurvesKnot.T14 : Bool × List (List Nat × List Nat) := (true, [([], []), ([], []), ([], []), ([], []), ([2, 3], [2, 3]), ([4], [4]), ([0, 1, 5], [0, 1, 5]), ([6], [6]), ([7], [7]), ([7], [7]), ([8, 6, 0, 1, 2, 3, 4, 5, 6, 7, 8], [8]), ([9, 10, 0, 1, 2, 3, 4, 5, 6, 7, 8, 9, 10], [9])])
def congoulaw04_CurvesKnot.B14 : List Nat := [0, 0, 0, 0, 12, 28, 63, 127, 255, 255, 511, 2047]
theorem congoulaw04_CurvesKnot.tab14 : rtab .any (opsOf Try.f12 14) = congoulaw04_CurvesKnot.T14 := by kernel_rfl
theorem congoulaw04_CurvesKnot.bits14 : waitsOk congoulaw04_CurvesKnot.T14.2 congoulaw04_CurvesKnot.B14 = true := by kernel_rfl
set_option maxHeartbeats 8000000 in
set_option maxRecDepth 100000 in
theorem congoulaw04_CurvesKnot.calls (k : Nat) (a0_0 : Int) (A0_1 : Option Addr) (c0_1 : Nat) (l0_1 : List Int) (A0_2 : Option Addr) (c0_2 : Nat) (l0_2 : List Int) (a1 : Int) (a2_0 : Int) (a2_1 : Int) (r : Bool) (w : World) (hr0_1 : Kd.C (Kd.int .i64) w A0_1 l0_1.length l0_1) (hc0_1 : l0_1.length ≤ c0_1) (hr0_2 : Kd.C (Kd.int .i64) w A0_2 l0_2.length l0_2) (hc0_2 : l0_2.length ≤ c0_2) (hrt : r = true) (h : congoulaw04_CurvesKnot.f k a0_0 l0_1 l0_2 a1 a2_0 a2_1 = some r) :
  Calls Try.prog 12 #[.agg #[.int .i64 a0_0, .slice A0_1 l0_1.length c0_1, .slice A0_2 l0_2.length c0_2], .int .i64 a1, .agg #[.int .i64 a2_0, .int .i64 a2_1]] w fun e w' => e = .returned (.bool r) ∧ Below w.heap.size w w' := by
 have hu24 := Try.underlying24
 have hu26 := Try.underlying26
 have HR0_1 := Aside0.mk hr0_1
 have HC0_1 := Aside0.mk hc0_1
 clear hr0_1 hc0_1
 have HR0_2 := Aside0.mk hr0_2
 have HC0_2 := Aside0.mk hc0_2
 clear hr0_2 hc0_2
 have HB := ak (Below.refl w.heap.size w)
 have H : ((congoulaw04_Of.f a0_0 l0_1 l0_2).bind fun bt1046 => ((curves_Insert.f k bt1046.1 bt1046.2.1 bt1046.2.2 a1).bind fun bt1053 => (if bt1053.2 = 0 then ((congoulaw04_fine.f k a0_0 l0_1 l0_2 a2_0 a2_1).bind fun t1057 => (congoulaw04_CurvesKnot.j0 k a1 bt1053.1 bt1053.2 (!t1057) a0_0 l0_1 l0_2 a2_0 a2_1)) else (congoulaw04_CurvesKnot.j0 k a1 bt1053.1 bt1053.2 true a0_0 l0_1 l0_2 a2_0 a2_1)))) = some r := h
 clear h
 have HRT := Aside0.mk hrt
 clear hrt
 replace H := Option.bind_eq_some_iff.mp H
 obtain ⟨⟨t1046, t1047, t1050⟩, A40, H⟩ := H
 replace H : ((curves_Insert.f k t1046 t1047 t1050 a1).bind fun bt1053 => (if bt1053.2 = 0 then ((congoulaw04_fine.f k a0_0 l0_1 l0_2 a2_0 a2_1).bind fun t1057 => (congoulaw04_CurvesKnot.j0 k a1 bt1053.1 bt1053.2 (!t1057) a0_0 l0_1 l0_2 a2_0 a2_1)) else (congoulaw04_CurvesKnot.j0 k a1 bt1053.1 bt1053.2 true a0_0 l0_1 l0_2 a2_0 a2_1))) = some r := H
 have A4 := Aside0.mk A40
 clear A40
 replace H := Option.bind_eq_some_iff.mp H
 obtain ⟨⟨t1053, t1056⟩, A50, H⟩ := H
 replace H : (if t1056 = 0 then ((congoulaw04_fine.f k a0_0 l0_1 l0_2 a2_0 a2_1).bind fun t1057 => (congoulaw04_CurvesKnot.j0 k a1 t1053 t1056 (!t1057) a0_0 l0_1 l0_2 a2_0 a2_1)) else (congoulaw04_CurvesKnot.j0 k a1 t1053 t1056 true a0_0 l0_1 l0_2 a2_0 a2_1)) = some r := H
 have A5 := Aside0.mk A50
 clear A50
 have HC6 := Aside0.mk H
 clear H
 go_enter Try.func12, Try.ntmps12
 go_upto_region 2 with (first | ((with_reducible refine gate_dst (N := 3) rfl ?_); (try (refine gate_guard (by rfl) ?_; dsimp only)); refine bE 3 #[.int .i64 a0_0, .slice A0_1 l0_1.length c0_1, .slice A0_2 l0_2.length c0_2] 24 ?_; intro gb1044 hg w7 hbox hb; have BK1044 := ak (hbox); have GW1044 := kG w hg; have GE1044 := kG w hg; replace HB := kH _ hb; clear hb hbox hg) | ((with_reducible refine gate_dst (N := 5) rfl ?_); (try (refine gate_guard (by rfl) ?_; dsimp only)); refine bE 5 #[.int .i64 a2_0, .int .i64 a2_1] 26 ?_; intro gb1045 hg w8 hbox hb; have BK1045 := ak (hbox); have GW1045 := kG w hg; have GE1045 := kG w hg; replace HB := kH _ hb; have NB1044_1045 := kL BK1044 hg; have NB1045_1044 := kR BK1044 hg; replace BK1044 := kB BK1044 hb; clear hb hbox hg; have hnb9 := NB1044_1045.out; have hnc9 := NB1045_1044.out; have hcz10_0 : w8.cell? ⟨gb1044, 0, none⟩ = some (.int .i64 a0_0) := bc BK1044 0; have hcz10_1 : w8.cell? ⟨gb1044, 1, none⟩ = some (.slice A0_1 l0_1.length c0_1) := bc BK1044 1; have hcz10_2 : w8.cell? ⟨gb1044, 2, none⟩ = some (.slice A0_2 l0_2.length c0_2) := bc BK1044 2; have hfz10_0 := fz BK1044 0; have hfz10_1 := fz BK1044 1; have hfz10_2 := fz BK1044 2) | ((with_reducible refine gate_callee (f := 15) rfl ?_); refine gL 20 Try.func15 #[.agg #[.int .i64 a0_0, .slice A0_1 l0_1.length c0_1, .slice A0_2 l0_2.length c0_2]] ?_; (with_reducible refine (congoulaw04_Of.calls a0_0 _ _ l0_1 _ _ l0_2 t1046 t1047 t1050 _ ?side1 ?side2 ?side3 ?side4 A4.out).mono ?_); (case side1 => exact kC HR0_1); (case side2 => exact HC0_1.out); (case side3 => exact kC HR0_2); (case side4 => exact HC0_2.out); rintro e w11 ⟨v1048, v1051, rfl, ho0, ho1, hb⟩; refine ⟨_, rfl, ?_⟩; have HO1049 := ak (Kd.R_lower ho0 (below_size (hbC _))); have HO1052 := ak (Kd.R_lower ho1 (below_size (hbC _))); replace BK1044 := kB BK1044 hb; replace BK1045 := kB BK1045 hb; replace HB := kH _ hb; (try clear hb); (try clear hb2); (try clear hk); (try clear hi); (try clear ho0); (try clear ho1); obtain ⟨Ao12, co12, eo12⟩ := Kd.R_slice HO1049.out; subst eo12; obtain ⟨Ao13, co13, eo13⟩ := Kd.R_slice HO1052.out; subst eo13) | ((with_reducible refine gate_callee (f := 44) rfl ?_); refine gL 22 Try.func44 #[.agg #[.int .i64 t1046, .slice Ao12 t1047.length co12, .slice Ao13 t1050.length co13], .int .i64 a1] ?_; (with_reducible refine (curves_Insert.calls k t1046 _ _ t1047 _ _ t1050 a1 t1053 t1056 _ ?side1 ?side2 ?side3 ?side4 A5.out).mono ?_); (case side1 => exact kD (Kd.R_reads' HO1049.out).2.2); (case side2 => exact (Kd.R_reads' HO1049.out).2.1); (case side3 => exact kD (Kd.R_reads' HO1052.out).2.2); (case side4 => exact (Kd.R_reads' HO1052.out).2.1); rintro e w14 ⟨v1054, rfl, ho0, hb⟩; refine ⟨_, rfl, ?_⟩; replace HO1049 := kO HO1049 hb; replace HO1052 := kO HO1052 hb; have HO1055 := ak (Kd.R_lower (Kd.R_newB ho0 (g := gb1045) (o := .cells #[.int .i64 a2_0, .int .i64 a2_1] 26 (0, 0)) (bkC BK1045)) (below_size (hbC _))); replace BK1044 := kB BK1044 hb; replace BK1045 := kB BK1045 hb; replace HB := kH _ hb; (try clear hb); (try clear hb2); (try clear hk); (try clear hi); (try clear ho0)))
 (try simp only [Act.put, List.setIfInBounds_toArray, List.set_cons_zero, List.set_cons_succ])
 go_cut [32] (fun v32 wc => ∃ (kq : Nat) (x32_5 : Bool), v32 = .bool x32_5 ∧ Aside0 (congoulaw04_CurvesKnot.j0 kq a1 t1053 t1056 x32_5 a0_0 l0_1 l0_2 a2_0 a2_1 = some r) ∧ Aside0 (kq ≤ k) ∧ Aside0 (Kd.R k26 26 wc w.heap.size (fun k_ => k_ ≠ gb1045) v1054 t1053) ∧ Aside0 (wc.heap[gb1044]? = some (.cells #[.int .i64 a0_0, (.slice A0_1 l0_1.length c0_1), (.slice A0_2 l0_2.length c0_2)] 24 (0, 0))) ∧ Aside0 (wc.heap[gb1045]? = some (.cells #[.int .i64 a2_0, .int .i64 a2_1] 26 (0, 0))) ∧ Aside0 (Below w.heap.size w wc))
 case first =>
  have H := HC6.out
  clear HC6
  by_cases c15 : t1056 = 0
  rotate_left
  ·rw [if_neg c15] at H
   have c15b0 : (t1056 == 0) = false := beq_eq_false_iff_ne.mpr c15
   have c15b1 : (t1056 != 0) = true := bne_iff_ne.mpr c15
   (first | rw [c15b0] | (simp only [i64_w, i32_w]; rw [c15b0]) | skip)
   have H' := Aside0.mk H
   clear H
   go_wp2
   go_meet
   case rel => exact ⟨_, (true), (by first | rfl | (simp; done) | (simp [*]; done)), H', ⟨by first | omega | exact Nat.le_refl _⟩, ⟨rD (Kd.R_mono HO1055.out (fun _ hk => hk.2))⟩, ⟨bkC BK1044⟩, ⟨bkC BK1045⟩, ⟨hbC _⟩⟩
  rw [if_pos c15] at H
  have c15b0 : (t1056 == 0) = true := beq_iff_eq.mpr c15
  have c15b1 : (t1056 != 0) = false := bne_eq_false_iff_eq.mpr c15
  clear c15
  (first | rw [c15b0] | (simp only [i64_w, i32_w]; rw [c15b0]) | skip)
  replace H := Option.bind_eq_some_iff.mp H
  obtain ⟨t1057, A160, H⟩ := H
  replace H : (congoulaw04_CurvesKnot.j0 k a1 t1053 t1056 (!t1057) a0_0 l0_1 l0_2 a2_0 a2_1) = some r := H
  have A16 := Aside0.mk A160
  clear A160
  have H' := Aside0.mk H
  clear H
  have hnb17 := NB1044_1045.out
  have hnc17 := NB1045_1044.out
  have hcz18_0 : w14.cell? ⟨gb1044, 0, none⟩ = some (.int .i64 a0_0) := bc BK1044 0
  have hcz18_1 : w14.cell? ⟨gb1044, 1, none⟩ = some (.slice A0_1 l0_1.length c0_1) := bc BK1044 1
  have hcz18_2 : w14.cell? ⟨gb1044, 2, none⟩ = some (.slice A0_2 l0_2.length c0_2) := bc BK1044 2
  have hfz18_0 := fz BK1044 0
  have hfz18_1 := fz BK1044 1
  have hfz18_2 := fz BK1044 2
  have hcz19_0 : w14.cell? ⟨gb1045, 0, none⟩ = some (.int .i64 a2_0) := bc BK1045 0
  have hcz19_1 : w14.cell? ⟨gb1045, 1, none⟩ = some (.int .i64 a2_1) := bc BK1045 1
  have hfz19_0 := fz BK1045 0
  have hfz19_1 := fz BK1045 1
  go_wp2_with (first | (go_at_call 16; (with_reducible refine (congoulaw04_fine.calls k a0_0 _ _ l0_1 _ _ l0_2 a2_0 a2_1 t1057 _ ?side1 ?side2 ?side3 ?side4 A16.out).mono ?_); (case side1 => exact kC HR0_1); (case side2 => exact HC0_1.out); (case side3 => exact kC HR0_2); (case side4 => exact HC0_2.out); rintro e w20 ⟨rfl, hb⟩; replace HO1049 := kO HO1049 hb; replace HO1052 := kO HO1052 hb; replace HO1055 := kO HO1055 hb; replace BK1044 := kB BK1044 hb; replace BK1045 := kB BK1045 hb; replace HB := kH _ hb; (try clear hb); (try clear hb2); (try clear hk); (try clear hi)))
  go_meet
  case rel => exact ⟨_, (!t1057), (by first | rfl | (simp; done) | (simp [*]; done)), H', ⟨by first | omega | exact Nat.le_refl _⟩, ⟨rD (Kd.R_mono HO1055.out (fun _ hk => hk.2))⟩, ⟨bkC BK1044⟩, ⟨bkC BK1045⟩, ⟨hbC _⟩⟩
 case rest =>
  clear HC6
  try clear c1
  try clear p2
  try clear c4
  try clear c9
  try clear c12
  try clear c15
  try clear c15b0
  try clear c15b1
  try clear c17
  try clear hcz10_0
  try clear hcz10_1
  try clear hcz10_2
  try clear hcz18_0
  try clear hcz18_1
  try clear hcz18_2
  try clear hcz19_0
  try clear hcz19_1
  try clear hfz10_0
  try clear hfz10_1
  try clear hfz10_2
  try clear hfz18_0
  try clear hfz18_1
  try clear hfz18_2
  try clear hfz19_0
  try clear hfz19_1
  obtain ⟨kq, x32_5, rfl, HA, HJ5, HO_7, BK1044, BK1045, HB⟩ := hcut
  cases kq with
  | zero => exact absurd HA.out (by simp [congoulaw04_CurvesKnot.j0])
  | succ kj5 =>
   have H := HA.out
   clear HA
   simp only [congoulaw04_CurvesKnot.j0] at H
   by_cases c21 : x32_5 = true
   ·subst c21
    have H1 : (if t1056 = 2 then ((congoulaw04_awake.f kj5).bind fun t1058 => (some t1058)) else (if t1056 = 6 then ((congoulaw04_awake.f kj5).bind fun t1059 => (some t1059)) else (if t1056 = 4 then ((congoulaw04_awake.f kj5).bind fun t1060 => (some t1060)) else (if t1056 = 0 then ((congouref04_Valid.f kj5 a0_0 l0_1 l0_2).bind fun t1061 => (if t1061 = true then ((congouref04_In.f kj5 a0_0 l0_1 l0_2 a2_0 a2_1).bind fun t1062 => (if t1062 = true then (some false) else ((congoulaw04_awake.f kj5).bind fun t1063 => (some t1063)))) else (some false))) else (some false))))) = some r := by rw [if_pos rfl] at H; exact H
    clear H
    have H := H1
    clear H1
    by_cases c22 : t1056 = 2
    ·rw [if_pos c22] at H
     have c22b0 : (t1056 == 2) = true := beq_iff_eq.mpr c22
     have c22b1 : (t1056 != 2) = false := bne_eq_false_iff_eq.mpr c22
     clear c22
     replace H := Option.bind_eq_some_iff.mp H
     obtain ⟨t1058, A230, H⟩ := H
     replace H : (some t1058) = some r := H
     have A23 := Aside0.mk A230
     clear A230
     obtain rfl := Option.some.inj H
     go_wp2_with (first | (go_at_call 17; (with_reducible refine (congoulaw04_awake.calls kj5  t1058 _ A23.out).mono ?_); rintro e w24 ⟨rfl, hb⟩; replace HO_7 := kO HO_7 hb; replace BK1044 := kB BK1044 hb; replace BK1045 := kB BK1045 hb; replace HB := kH _ hb; (try clear hb); (try clear hb2); (try clear hk); (try clear hi)))
     go_ret
     exact ⟨by first | rfl | (simp [errW_none, errW_some] <;> rfl) | (simp [*, errW_none, errW_some] <;> rfl), hbC _⟩
    rw [if_neg c22] at H
    have c22b0 : (t1056 == 2) = false := beq_eq_false_iff_ne.mpr c22
    have c22b1 : (t1056 != 2) = true := bne_iff_ne.mpr c22
    by_cases c25 : t1056 = 6
    ·rw [if_pos c25] at H
     have c25b0 : (t1056 == 6) = true := beq_iff_eq.mpr c25
     have c25b1 : (t1056 != 6) = false := bne_eq_false_iff_eq.mpr c25
     clear c25
     replace H := Option.bind_eq_some_iff.mp H
     obtain ⟨t1059, A260, H⟩ := H
     replace H : (some t1059) = some r := H
     have A26 := Aside0.mk A260
     clear A260
     obtain rfl := Option.some.inj H
     go_wp2_with (first | (go_at_call 17; (with_reducible refine (congoulaw04_awake.calls kj5  t1059 _ A26.out).mono ?_); rintro e w27 ⟨rfl, hb⟩; replace HO_7 := kO HO_7 hb; replace BK1044 := kB BK1044 hb; replace BK1045 := kB BK1045 hb; replace HB := kH _ hb; (try clear hb); (try clear hb2); (try clear hk); (try clear hi)))
     go_ret
     exact ⟨by first | rfl | (simp [errW_none, errW_some] <;> rfl) | (simp [*, errW_none, errW_some] <;> rfl), hbC _⟩
    rw [if_neg c25] at H
    have c25b0 : (t1056 == 6) = false := beq_eq_false_iff_ne.mpr c25
    have c25b1 : (t1056 != 6) = true := bne_iff_ne.mpr c25
    by_cases c28 : t1056 = 4
    ·rw [if_pos c28] at H
     have c28b0 : (t1056 == 4) = true := beq_iff_eq.mpr c28
     have c28b1 : (t1056 != 4) = false := bne_eq_false_iff_eq.mpr c28
     clear c28
     replace H := Option.bind_eq_some_iff.mp H
     obtain ⟨t1060, A290, H⟩ := H
     replace H : (some t1060) = some r := H
     have A29 := Aside0.mk A290
     clear A290
     obtain rfl := Option.some.inj H
     go_wp2_with (first | (go_at_call 17; (with_reducible refine (congoulaw04_awake.calls kj5  t1060 _ A29.out).mono ?_); rintro e w30 ⟨rfl, hb⟩; replace HO_7 := kO HO_7 hb; replace BK1044 := kB BK1044 hb; replace BK1045 := kB BK1045 hb; replace HB := kH _ hb; (try clear hb); (try clear hb2); (try clear hk); (try clear hi)))
     go_ret
     exact ⟨by first | rfl | (simp [errW_none, errW_some] <;> rfl) | (simp [*, errW_none, errW_some] <;> rfl), hbC _⟩
    rw [if_neg c28] at H
    have c28b0 : (t1056 == 4) = false := beq_eq_false_iff_ne.mpr c28
    have c28b1 : (t1056 != 4) = true := bne_iff_ne.mpr c28
    by_cases c31 : t1056 = 0
    rotate_left
    ·rw [if_neg c31] at H
     have c31b0 : (t1056 == 0) = false := beq_eq_false_iff_ne.mpr c31
     have c31b1 : (t1056 != 0) = true := bne_iff_ne.mpr c31
     exact absurd (H.trans (congrArg some HRT.out)) (by simp)
    rw [if_pos c31] at H
    have c31b0 : (t1056 == 0) = true := beq_iff_eq.mpr c31
    have c31b1 : (t1056 != 0) = false := bne_eq_false_iff_eq.mpr c31
    clear c31
    replace H := Option.bind_eq_some_iff.mp H
    obtain ⟨t1061, A320, H⟩ := H
    replace H : (if t1061 = true then ((congouref04_In.f kj5 a0_0 l0_1 l0_2 a2_0 a2_1).bind fun t1062 => (if t1062 = true then (some false) else ((congoulaw04_awake.f kj5).bind fun t1063 => (some t1063)))) else (some false)) = some r := H
    have A32 := Aside0.mk A320
    clear A320
    by_cases c33 : t1061 = true
    rotate_left
    ·replace c33 := Bool.eq_false_iff.mpr c33
     subst c33
     have H1 : (some false) = some r := by rw [if_neg (show ¬ (false = true) by decide)] at H; exact H
     clear H
     have H := H1
     clear H1
     exact absurd (H.trans (congrArg some HRT.out)) (by simp)
    subst c33
    have H1 : ((congouref04_In.f kj5 a0_0 l0_1 l0_2 a2_0 a2_1).bind fun t1062 => (if t1062 = true then (some false) else ((congoulaw04_awake.f kj5).bind fun t1063 => (some t1063)))) = some r := by rw [if_pos rfl] at H; exact H
    clear H
    have H := H1
    clear H1
    replace H := Option.bind_eq_some_iff.mp H
    obtain ⟨t1062, A340, H⟩ := H
    replace H : (if t1062 = true then (some false) else ((congoulaw04_awake.f kj5).bind fun t1063 => (some t1063))) = some r := H
    have A34 := Aside0.mk A340
    clear A340
    by_cases c35 : t1062 = true
    ·subst c35
     have H1 : (some false) = some r := by rw [if_pos rfl] at H; exact H
     clear H
     have H := H1
     clear H1
     exact absurd (H.trans (congrArg some HRT.out)) (by simp)
    replace c35 := Bool.eq_false_iff.mpr c35
    subst c35
    have H1 : ((congoulaw04_awake.f kj5).bind fun t1063 => (some t1063)) = some r := by rw [if_neg (show ¬ (false = true) by decide)] at H; exact H
    clear H
    have H := H1
    clear H1
    replace H := Option.bind_eq_some_iff.mp H
    obtain ⟨t1063, A360, H⟩ := H
    replace H : (some t1063) = some r := H
    have A36 := Aside0.mk A360
    clear A360
    obtain rfl := Option.some.inj H
    have hnb37 := NB1044_1045.out
    have hnc37 := NB1045_1044.out
    have hcz38_0 : wc.cell? ⟨gb1044, 0, none⟩ = some (.int .i64 a0_0) := bc BK1044 0
    have hcz38_1 : wc.cell? ⟨gb1044, 1, none⟩ = some (.slice A0_1 l0_1.length c0_1) := bc BK1044 1
    have hcz38_2 : wc.cell? ⟨gb1044, 2, none⟩ = some (.slice A0_2 l0_2.length c0_2) := bc BK1044 2
    have hfz38_0 := fz BK1044 0
    have hfz38_1 := fz BK1044 1
    have hfz38_2 := fz BK1044 2
    go_wp2_with (first | (go_at_call 29; (with_reducible refine (congouref04_Valid.calls kj5 a0_0 _ _ l0_1 _ _ l0_2 true _ ?side1 ?side2 ?side3 ?side4 A32.out).mono ?_); (case side1 => exact kC HR0_1); (case side2 => exact HC0_1.out); (case side3 => exact kC HR0_2); (case side4 => exact HC0_2.out); rintro e w39 ⟨rfl, hb⟩; replace HO_7 := kO HO_7 hb; replace BK1044 := kB BK1044 hb; replace BK1045 := kB BK1045 hb; replace HB := kH _ hb; (try clear hb); (try clear hb2); (try clear hk); (try clear hi); have hcz40_0 : w39.cell? ⟨gb1044, 0, none⟩ = some (.int .i64 a0_0) := bc BK1044 0; have hcz40_1 : w39.cell? ⟨gb1044, 1, none⟩ = some (.slice A0_1 l0_1.length c0_1) := bc BK1044 1; have hcz40_2 : w39.cell? ⟨gb1044, 2, none⟩ = some (.slice A0_2 l0_2.length c0_2) := bc BK1044 2; have hfz40_0 := fz BK1044 0; have hfz40_1 := fz BK1044 1; have hfz40_2 := fz BK1044 2; have hcz41_0 : w39.cell? ⟨gb1045, 0, none⟩ = some (.int .i64 a2_0) := bc BK1045 0; have hcz41_1 : w39.cell? ⟨gb1045, 1, none⟩ = some (.int .i64 a2_1) := bc BK1045 1; have hfz41_0 := fz BK1045 0; have hfz41_1 := fz BK1045 1) | (go_at_call 32; (with_reducible refine (congouref04_In.calls kj5 a0_0 _ _ l0_1 _ _ l0_2 a2_0 a2_1 false _ ?side1 ?side2 ?side3 ?side4 A34.out).mono ?_); (case side1 => exact kC HR0_1); (case side2 => exact HC0_1.out); (case side3 => exact kC HR0_2); (case side4 => exact HC0_2.out); rintro e w42 ⟨rfl, hb⟩; replace HO_7 := kO HO_7 hb; replace BK1044 := kB BK1044 hb; replace BK1045 := kB BK1045 hb; replace HB := kH _ hb; (try clear hb); (try clear hb2); (try clear hk); (try clear hi)) | (go_at_call 17; (with_reducible refine (congoulaw04_awake.calls kj5  t1063 _ A36.out).mono ?_); rintro e w43 ⟨rfl, hb⟩; replace HO_7 := kO HO_7 hb; replace BK1044 := kB BK1044 hb; replace BK1045 := kB BK1045 hb; replace HB := kH _ hb; (try clear hb); (try clear hb2); (try clear hk); (try clear hi)))
    go_ret
    exact ⟨by first | rfl | (simp [errW_none, errW_some] <;> rfl) | (simp [*, errW_none, errW_some] <;> rfl), hbC _⟩
   replace c21 := Bool.eq_false_iff.mpr c21
   subst c21
   have H1 : ((congouref04_Longer.f kj5 a0_0 l0_1 l0_2 a1).bind fun t1064 => (if 0 ≤ (wrap64 ((l0_2.length : Int) + 1)) then (if (wrap64 ((l0_2.length : Int) + 1) : Int).toNat ≤ 35184372088832 then ((some (List.replicate (wrap64 ((l0_2.length : Int) + 1) : Int).toNat 0 : List Int)).bind fun y1067 => ((congoulaw04_Of.f a0_0 l0_1 l0_2).bind fun bt1071 => ((curves_Value.f kj5 bt1071.1 bt1071.2.1 bt1071.2.2 a2_0 a2_1).bind fun bt1078 => ((congoulaw04_Of.f a0_0 t1064 y1067).bind fun bt1082 => ((curves_Basic.f kj5 bt1082.1 bt1082.2.1 bt1082.2.2 a2_0 a2_1).bind fun bt1089 => (if bt1078.2.2 = 0 then (if bt1089.2 = 0 then ((congouref04_Valid.f kj5 a0_0 t1064 y1067).bind fun t1093 => (if t1093 = true then (if (bt1089.1.length : Int) = (y1067.length : Int) then (congoulaw04_CurvesKnot.j1 kj5 t1053 bt1089.1 ((t1053.length : Int) != (bt1089.1.length : Int)) bt1078.1 bt1078.2.1) else (congoulaw04_CurvesKnot.j1 kj5 t1053 bt1089.1 true bt1078.1 bt1078.2.1)) else (congoulaw04_CurvesKnot.j1 kj5 t1053 bt1089.1 true bt1078.1 bt1078.2.1))) else (congoulaw04_CurvesKnot.j1 kj5 t1053 bt1089.1 true bt1078.1 bt1078.2.1)) else (congoulaw04_CurvesKnot.j1 kj5 t1053 bt1089.1 true bt1078.1 bt1078.2.1))))))) else (none)) else (none))) = some r := by rw [if_neg (show ¬ (false = true) by decide)] at H; exact H
   clear H
   have H := H1
   clear H1
   replace H := Option.bind_eq_some_iff.mp H
   obtain ⟨t1064, A440, H⟩ := H
   replace H : (if 0 ≤ (wrap64 ((l0_2.length : Int) + 1)) then (if (wrap64 ((l0_2.length : Int) + 1) : Int).toNat ≤ 35184372088832 then ((some (List.replicate (wrap64 ((l0_2.length : Int) + 1) : Int).toNat 0 : List Int)).bind fun y1067 => ((congoulaw04_Of.f a0_0 l0_1 l0_2).bind fun bt1071 => ((curves_Value.f kj5 bt1071.1 bt1071.2.1 bt1071.2.2 a2_0 a2_1).bind fun bt1078 => ((congoulaw04_Of.f a0_0 t1064 y1067).bind fun bt1082 => ((curves_Basic.f kj5 bt1082.1 bt1082.2.1 bt1082.2.2 a2_0 a2_1).bind fun bt1089 => (if bt1078.2.2 = 0 then (if bt1089.2 = 0 then ((congouref04_Valid.f kj5 a0_0 t1064 y1067).bind fun t1093 => (if t1093 = true then (if (bt1089.1.length : Int) = (y1067.length : Int) then (congoulaw04_CurvesKnot.j1 kj5 t1053 bt1089.1 ((t1053.length : Int) != (bt1089.1.length : Int)) bt1078.1 bt1078.2.1) else (congoulaw04_CurvesKnot.j1 kj5 t1053 bt1089.1 true bt1078.1 bt1078.2.1)) else (congoulaw04_CurvesKnot.j1 kj5 t1053 bt1089.1 true bt1078.1 bt1078.2.1))) else (congoulaw04_CurvesKnot.j1 kj5 t1053 bt1089.1 true bt1078.1 bt1078.2.1)) else (congoulaw04_CurvesKnot.j1 kj5 t1053 bt1089.1 true bt1078.1 bt1078.2.1))))))) else (none)) else (none)) = some r := H
   have A44 := Aside0.mk A440
   clear A440
   obtain ⟨ji45, hji45⟩ : ∃ j_ : Int, (wrap64 ((l0_2.length : Int) + 1)) = j_ := ⟨_, rfl⟩
   replace H : (if 0 ≤ (ji45) then (if (ji45 : Int).toNat ≤ 35184372088832 then ((some (List.replicate (ji45 : Int).toNat 0 : List Int)).bind fun y1067 => ((congoulaw04_Of.f a0_0 l0_1 l0_2).bind fun bt1071 => ((curves_Value.f kj5 bt1071.1 bt1071.2.1 bt1071.2.2 a2_0 a2_1).bind fun bt1078 => ((congoulaw04_Of.f a0_0 t1064 y1067).bind fun bt1082 => ((curves_Basic.f kj5 bt1082.1 bt1082.2.1 bt1082.2.2 a2_0 a2_1).bind fun bt1089 => (if bt1078.2.2 = 0 then (if bt1089.2 = 0 then ((congouref04_Valid.f kj5 a0_0 t1064 y1067).bind fun t1093 => (if t1093 = true then (if (bt1089.1.length : Int) = (y1067.length : Int) then (congoulaw04_CurvesKnot.j1 kj5 t1053 bt1089.1 ((t1053.length : Int) != (bt1089.1.length : Int)) bt1078.1 bt1078.2.1) else (congoulaw04_CurvesKnot.j1 kj5 t1053 bt1089.1 true bt1078.1 bt1078.2.1)) else (congoulaw04_CurvesKnot.j1 kj5 t1053 bt1089.1 true bt1078.1 bt1078.2.1))) else (congoulaw04_CurvesKnot.j1 kj5 t1053 bt1089.1 true bt1078.1 bt1078.2.1)) else (congoulaw04_CurvesKnot.j1 kj5 t1053 bt1089.1 true bt1078.1 bt1078.2.1))))))) else (none)) else (none)) = some r := by first | (rw [hji45] at H; exact H) | (simp only [hji45] at H ⊢; exact H)
   (try rw [hji45] at A44)
   have hji45w : (IntKind.i64.wrap ((l0_2.length : Int) + 1)) = ji45 := (i64_w _).trans hji45
   by_cases c46 : 0 ≤ (ji45)
   rotate_left
   ·rw [if_neg c46] at H
    exact absurd H (by simp)
   rw [if_pos c46] at H
   have c46b0 := eq_true c46
   have c46b1 : decide (0 ≤ (ji45)) = true := decide_eq_true c46
   clear c46
   by_cases c47 : (ji45 : Int).toNat ≤ 35184372088832
   rotate_left
   ·rw [if_neg c47] at H
    exact absurd H (by simp)
   rw [if_pos c47] at H
   have c47b0 := eq_true c47
   have c47b1 : decide ((ji45 : Int).toNat ≤ 35184372088832) = true := decide_eq_true c47
   clear c47
   obtain ⟨y1067, hy1067⟩ : ∃ y_ : List Int, y_ = (List.replicate (ji45 : Int).toNat 0) := ⟨_, rfl⟩
   replace H : ((congoulaw04_Of.f a0_0 l0_1 l0_2).bind fun bt1071 => ((curves_Value.f kj5 bt1071.1 bt1071.2.1 bt1071.2.2 a2_0 a2_1).bind fun bt1078 => ((congoulaw04_Of.f a0_0 t1064 y1067).bind fun bt1082 => ((curves_Basic.f kj5 bt1082.1 bt1082.2.1 bt1082.2.2 a2_0 a2_1).bind fun bt1089 => (if bt1078.2.2 = 0 then (if bt1089.2 = 0 then ((congouref04_Valid.f kj5 a0_0 t1064 y1067).bind fun t1093 => (if t1093 = true then (if (bt1089.1.length : Int) = (y1067.length : Int) then (congoulaw04_CurvesKnot.j1 kj5 t1053 bt1089.1 ((t1053.length : Int) != (bt1089.1.length : Int)) bt1078.1 bt1078.2.1) else (congoulaw04_CurvesKnot.j1 kj5 t1053 bt1089.1 true bt1078.1 bt1078.2.1)) else (congoulaw04_CurvesKnot.j1 kj5 t1053 bt1089.1 true bt1078.1 bt1078.2.1))) else (congoulaw04_CurvesKnot.j1 kj5 t1053 bt1089.1 true bt1078.1 bt1078.2.1)) else (congoulaw04_CurvesKnot.j1 kj5 t1053 bt1089.1 true bt1078.1 bt1078.2.1)))))) = some r := by first | (rw [hy1067]; with_reducible exact H) | (have H2_ := (Option.bind_some _ _).symm.trans H; rw [hy1067]; with_reducible exact H2_) | (have H2_ := (Option.bind_some _ _).symm.trans H; with_reducible exact H2_) | with_reducible exact H | (rw [hy1067]; exact H) | exact H
   have Ny1067 := Aside0.mk hy1067
   clear hy1067
   replace H := Option.bind_eq_some_iff.mp H
   obtain ⟨⟨t1071, t1072, t1075⟩, A480, H⟩ := H
   replace H : ((curves_Value.f kj5 t1071 t1072 t1075 a2_0 a2_1).bind fun bt1078 => ((congoulaw04_Of.f a0_0 t1064 y1067).bind fun bt1082 => ((curves_Basic.f kj5 bt1082.1 bt1082.2.1 bt1082.2.2 a2_0 a2_1).bind fun bt1089 => (if bt1078.2.2 = 0 then (if bt1089.2 = 0 then ((congouref04_Valid.f kj5 a0_0 t1064 y1067).bind fun t1093 => (if t1093 = true then (if (bt1089.1.length : Int) = (y1067.length : Int) then (congoulaw04_CurvesKnot.j1 kj5 t1053 bt1089.1 ((t1053.length : Int) != (bt1089.1.length : Int)) bt1078.1 bt1078.2.1) else (congoulaw04_CurvesKnot.j1 kj5 t1053 bt1089.1 true bt1078.1 bt1078.2.1)) else (congoulaw04_CurvesKnot.j1 kj5 t1053 bt1089.1 true bt1078.1 bt1078.2.1))) else (congoulaw04_CurvesKnot.j1 kj5 t1053 bt1089.1 true bt1078.1 bt1078.2.1)) else (congoulaw04_CurvesKnot.j1 kj5 t1053 bt1089.1 true bt1078.1 bt1078.2.1))))) = some r := H
   have A48 := Aside0.mk A480
   clear A480
   replace H := Option.bind_eq_some_iff.mp H
   obtain ⟨⟨t1078, t1079, t1080⟩, A490, H⟩ := H
   replace H : ((congoulaw04_Of.f a0_0 t1064 y1067).bind fun bt1082 => ((curves_Basic.f kj5 bt1082.1 bt1082.2.1 bt1082.2.2 a2_0 a2_1).bind fun bt1089 => (if t1080 = 0 then (if bt1089.2 = 0 then ((congouref04_Valid.f kj5 a0_0 t1064 y1067).bind fun t1093 => (if t1093 = true then (if (bt1089.1.length : Int) = (y1067.length : Int) then (congoulaw04_CurvesKnot.j1 kj5 t1053 bt1089.1 ((t1053.length : Int) != (bt1089.1.length : Int)) t1078 t1079) else (congoulaw04_CurvesKnot.j1 kj5 t1053 bt1089.1 true t1078 t1079)) else (congoulaw04_CurvesKnot.j1 kj5 t1053 bt1089.1 true t1078 t1079))) else (congoulaw04_CurvesKnot.j1 kj5 t1053 bt1089.1 true t1078 t1079)) else (congoulaw04_CurvesKnot.j1 kj5 t1053 bt1089.1 true t1078 t1079)))) = some r := H
   have A49 := Aside0.mk A490
   clear A490
   replace H := Option.bind_eq_some_iff.mp H
   obtain ⟨⟨t1082, t1083, t1086⟩, A500, H⟩ := H
   replace H : ((curves_Basic.f kj5 t1082 t1083 t1086 a2_0 a2_1).bind fun bt1089 => (if t1080 = 0 then (if bt1089.2 = 0 then ((congouref04_Valid.f kj5 a0_0 t1064 y1067).bind fun t1093 => (if t1093 = true then (if (bt1089.1.length : Int) = (y1067.length : Int) then (congoulaw04_CurvesKnot.j1 kj5 t1053 bt1089.1 ((t1053.length : Int) != (bt1089.1.length : Int)) t1078 t1079) else (congoulaw04_CurvesKnot.j1 kj5 t1053 bt1089.1 true t1078 t1079)) else (congoulaw04_CurvesKnot.j1 kj5 t1053 bt1089.1 true t1078 t1079))) else (congoulaw04_CurvesKnot.j1 kj5 t1053 bt1089.1 true t1078 t1079)) else (congoulaw04_CurvesKnot.j1 kj5 t1053 bt1089.1 true t1078 t1079))) = some r := H
   have A50 := Aside0.mk A500
   clear A500
   replace H := Option.bind_eq_some_iff.mp H
   obtain ⟨⟨t1089, t1092⟩, A510, H⟩ := H
   replace H : (if t1080 = 0 then (if t1092 = 0 then ((congouref04_Valid.f kj5 a0_0 t1064 y1067).bind fun t1093 => (if t1093 = true then (if (t1089.length : Int) = (y1067.length : Int) then (congoulaw04_CurvesKnot.j1 kj5 t1053 t1089 ((t1053.length : Int) != (t1089.length : Int)) t1078 t1079) else (congoulaw04_CurvesKnot.j1 kj5 t1053 t1089 true t1078 t1079)) else (congoulaw04_CurvesKnot.j1 kj5 t1053 t1089 true t1078 t1079))) else (congoulaw04_CurvesKnot.j1 kj5 t1053 t1089 true t1078 t1079)) else (congoulaw04_CurvesKnot.j1 kj5 t1053 t1089 true t1078 t1079)) = some r := H
   have A51 := Aside0.mk A510
   clear A510
   have HC52 := Aside0.mk H
   clear H
   try go_wp2
   replace HO_7 := ak (Kd.R_drew HO_7.out)
   replace BK1044 := kd BK1044
   replace BK1045 := kd BK1045
   replace HB := ak (below_drew1 HB.out)
   refine sS (n := 13) (S := fun w' => w'.cell? ⟨gb1044, 0, none⟩ = some (.int .i64 a0_0) ∧ w'.cell? ⟨gb1044, 1, none⟩ = some (.slice A0_1 l0_1.length c0_1) ∧ w'.cell? ⟨gb1044, 2, none⟩ = some (.slice A0_2 l0_2.length c0_2)) (ds := []) ⟨bc BK1044 0, bc BK1044 1, bc BK1044 2⟩ (fun hHeld => ?_); refine with_tabW congoulaw04_CurvesKnot.tab4 congoulaw04_CurvesKnot.bits4 (fun HT_ HW_ => ?_)
   generalize wc.drew = w53 at HO_7 BK1044 BK1045 HB hHeld ⊢
   refine pS 0 60 13 1 ?_
   refine pS 3 63 13 9 ?_
   refine pS 5 65 13 41 ?_
   refine tS 1 61 13 43 ?_
   refine tS 2 62 13 47 ?_
   refine tS 6 66 13 111 ?_
   refine pS 7 67 13 239 ?_
   refine pS 8 68 13 495 ?_
   refine join_ (σ := Value × Value × Nat) 1 (ba 13 4095) (fun s_ => [(64, s_.1), (69, s_.2.1), (9, .pointer (some ⟨s_.2.2, 0, none⟩)), (70, .agg #[.int .i64 a0_0, s_.1, s_.2.1])]) (fun s_ w' => (w'.cell? ⟨gb1044, 0, none⟩ = some (.int .i64 a0_0) ∧ w'.cell? ⟨gb1044, 1, none⟩ = some (.slice A0_1 l0_1.length c0_1) ∧ w'.cell? ⟨gb1044, 2, none⟩ = some (.slice A0_2 l0_2.length c0_2)) ∧ (Kd.R (Kd.int .i64) 3 w' w.heap.size (fun k_ => some k_ ≠ (s_.2.1 : Value).ownBlock) s_.1 t1064) ∧ (Kd.R (Kd.int .i64) 3 w' w.heap.size (fun k_ => some k_ ≠ (s_.1 : Value).ownBlock) s_.2.1 y1067) ∧ (Kd.R k26 26 w' w.heap.size (fun k_ => k_ ≠ gb1045) v1054 t1053) ∧ (w'.heap[gb1044]? = some (.cells #[.int .i64 a0_0, .slice A0_1 l0_1.length c0_1, .slice A0_2 l0_2.length c0_2] 24 (0, 0))) ∧ (w'.heap[gb1045]? = some (.cells #[.int .i64 a2_0, .int .i64 a2_1] 26 (0, 0))) ∧ (w'.heap[s_.2.2]? = some (.cells #[.int .i64 0, .slice none 0 0, .slice none 0 0] 24 (0, 0))) ∧ (w.heap.size ≤ s_.2.2) ∧ (w.heap.size ≤ s_.2.2) ∧ (gb1044 ≠ s_.2.2) ∧ (s_.2.2 ≠ gb1044) ∧ (gb1045 ≠ s_.2.2) ∧ (s_.2.2 ≠ gb1045) ∧ (Below w.heap.size w w')) ?_ ?_
   rotate_left
   ·intro hJ4_9_11
    refine join_ (σ := Value × Value) 2 (ba 13 2047) (fun s_ => [(64, s_.1), (69, s_.2), (70, .agg #[.int .i64 a0_0, s_.1, s_.2])]) (fun s_ w' => (w'.cell? ⟨gb1044, 0, none⟩ = some (.int .i64 a0_0) ∧ w'.cell? ⟨gb1044, 1, none⟩ = some (.slice A0_1 l0_1.length c0_1) ∧ w'.cell? ⟨gb1044, 2, none⟩ = some (.slice A0_2 l0_2.length c0_2)) ∧ (Kd.R (Kd.int .i64) 3 w' w.heap.size (fun k_ => some k_ ≠ (s_.2 : Value).ownBlock) s_.1 t1064) ∧ (Kd.R (Kd.int .i64) 3 w' w.heap.size (fun k_ => some k_ ≠ (s_.1 : Value).ownBlock) s_.2 y1067) ∧ (Kd.R k26 26 w' w.heap.size (fun k_ => k_ ≠ gb1045) v1054 t1053) ∧ (w'.heap[gb1044]? = some (.cells #[.int .i64 a0_0, .slice A0_1 l0_1.length c0_1, .slice A0_2 l0_2.length c0_2] 24 (0, 0))) ∧ (w'.heap[gb1045]? = some (.cells #[.int .i64 a2_0, .int .i64 a2_1] 26 (0, 0))) ∧ (Below w.heap.size w w')) ?_ ?_
    rotate_left
    ·intro hJ4_9
     refine join_ (σ := Value × Nat) 3 (ba 13 2559) (fun s_ => [(64, s_.1), (9, .pointer (some ⟨s_.2, 0, none⟩))]) (fun s_ w' => (w'.cell? ⟨gb1044, 0, none⟩ = some (.int .i64 a0_0) ∧ w'.cell? ⟨gb1044, 1, none⟩ = some (.slice A0_1 l0_1.length c0_1) ∧ w'.cell? ⟨gb1044, 2, none⟩ = some (.slice A0_2 l0_2.length c0_2)) ∧ (Kd.R (Kd.int .i64) 3 w' w.heap.size (fun _ => True) s_.1 t1064) ∧ (Kd.R k26 26 w' w.heap.size (fun k_ => k_ ≠ gb1045) v1054 t1053) ∧ (w'.heap[gb1044]? = some (.cells #[.int .i64 a0_0, .slice A0_1 l0_1.length c0_1, .slice A0_2 l0_2.length c0_2] 24 (0, 0))) ∧ (w'.heap[gb1045]? = some (.cells #[.int .i64 a2_0, .int .i64 a2_1] 26 (0, 0))) ∧ (w'.heap[s_.2]? = some (.cells #[.int .i64 0, .slice none 0 0, .slice none 0 0] 24 (0, 0))) ∧ (w.heap.size ≤ s_.2) ∧ (w.heap.size ≤ s_.2) ∧ (gb1044 ≠ s_.2) ∧ (s_.2 ≠ gb1044) ∧ (gb1045 ≠ s_.2) ∧ (s_.2 ≠ gb1045) ∧ (Below w.heap.size w w')) ?_ ?_
     rotate_left
     ·intro hJ4_11
      refine join_ (σ := Value × Nat) 3 (ba 13 3055) (fun s_ => [(69, s_.1), (9, .pointer (some ⟨s_.2, 0, none⟩))]) (fun s_ w' => (w'.cell? ⟨gb1044, 0, none⟩ = some (.int .i64 a0_0) ∧ w'.cell? ⟨gb1044, 1, none⟩ = some (.slice A0_1 l0_1.length c0_1) ∧ w'.cell? ⟨gb1044, 2, none⟩ = some (.slice A0_2 l0_2.length c0_2)) ∧ (Kd.R (Kd.int .i64) 3 w' w.heap.size (fun _ => True) s_.1 y1067) ∧ (Kd.R k26 26 w' w.heap.size (fun k_ => k_ ≠ gb1045) v1054 t1053) ∧ (w'.heap[gb1044]? = some (.cells #[.int .i64 a0_0, .slice A0_1 l0_1.length c0_1, .slice A0_2 l0_2.length c0_2] 24 (0, 0))) ∧ (w'.heap[gb1045]? = some (.cells #[.int .i64 a2_0, .int .i64 a2_1] 26 (0, 0))) ∧ (w'.heap[s_.2]? = some (.cells #[.int .i64 0, .slice none 0 0, .slice none 0 0] 24 (0, 0))) ∧ (w.heap.size ≤ s_.2) ∧ (w.heap.size ≤ s_.2) ∧ (gb1044 ≠ s_.2) ∧ (s_.2 ≠ gb1044) ∧ (gb1045 ≠ s_.2) ∧ (s_.2 ≠ gb1045) ∧ (Below w.heap.size w w')) ?_ ?_
      rotate_left
      ·intro hJ9_11
       refine join_ (σ := Value) 4 (ba 13 511) (fun s_ => [(64, s_)]) (fun s_ w' => (w'.cell? ⟨gb1044, 0, none⟩ = some (.int .i64 a0_0) ∧ w'.cell? ⟨gb1044, 1, none⟩ = some (.slice A0_1 l0_1.length c0_1) ∧ w'.cell? ⟨gb1044, 2, none⟩ = some (.slice A0_2 l0_2.length c0_2)) ∧ (Kd.R (Kd.int .i64) 3 w' w.heap.size (fun _ => True) s_ t1064) ∧ (Kd.R k26 26 w' w.heap.size (fun k_ => k_ ≠ gb1045) v1054 t1053) ∧ (w'.heap[gb1044]? = some (.cells #[.int .i64 a0_0, .slice A0_1 l0_1.length c0_1, .slice A0_2 l0_2.length c0_2] 24 (0, 0))) ∧ (w'.heap[gb1045]? = some (.cells #[.int .i64 a2_0, .int .i64 a2_1] 26 (0, 0))) ∧ (Below w.heap.size w w')) ?_ ?_
       rotate_left
       ·intro hJ4
        refine join_ (σ := Value) 4 (ba 13 1007) (fun s_ => [(69, s_)]) (fun s_ w' => (w'.cell? ⟨gb1044, 0, none⟩ = some (.int .i64 a0_0) ∧ w'.cell? ⟨gb1044, 1, none⟩ = some (.slice A0_1 l0_1.length c0_1) ∧ w'.cell? ⟨gb1044, 2, none⟩ = some (.slice A0_2 l0_2.length c0_2)) ∧ (Kd.R (Kd.int .i64) 3 w' w.heap.size (fun _ => True) s_ y1067) ∧ (Kd.R k26 26 w' w.heap.size (fun k_ => k_ ≠ gb1045) v1054 t1053) ∧ (w'.heap[gb1044]? = some (.cells #[.int .i64 a0_0, .slice A0_1 l0_1.length c0_1, .slice A0_2 l0_2.length c0_2] 24 (0, 0))) ∧ (w'.heap[gb1045]? = some (.cells #[.int .i64 a2_0, .int .i64 a2_1] 26 (0, 0))) ∧ (Below w.heap.size w w')) ?_ ?_
        rotate_left
        ·intro hJ9
         refine join_ (σ := Nat) 4 (ba 13 2543) (fun s_ => [(9, .pointer (some ⟨s_, 0, none⟩))]) (fun s_ w' => (w'.cell? ⟨gb1044, 0, none⟩ = some (.int .i64 a0_0) ∧ w'.cell? ⟨gb1044, 1, none⟩ = some (.slice A0_1 l0_1.length c0_1) ∧ w'.cell? ⟨gb1044, 2, none⟩ = some (.slice A0_2 l0_2.length c0_2)) ∧ (Kd.R k26 26 w' w.heap.size (fun k_ => k_ ≠ gb1045) v1054 t1053) ∧ (w'.heap[gb1044]? = some (.cells #[.int .i64 a0_0, .slice A0_1 l0_1.length c0_1, .slice A0_2 l0_2.length c0_2] 24 (0, 0))) ∧ (w'.heap[gb1045]? = some (.cells #[.int .i64 a2_0, .int .i64 a2_1] 26 (0, 0))) ∧ (w'.heap[s_]? = some (.cells #[.int .i64 0, .slice none 0 0, .slice none 0 0] 24 (0, 0))) ∧ (w.heap.size ≤ s_) ∧ (w.heap.size ≤ s_) ∧ (gb1044 ≠ s_) ∧ (s_ ≠ gb1044) ∧ (gb1045 ≠ s_) ∧ (s_ ≠ gb1045) ∧ (Below w.heap.size w w')) ?_ ?_
         rotate_left
         ·intro hJ11
          refine three_ (i := 4) (j := 9) (k := 11) (Ni := some 64) (Nj := some 69) (Nk := some 9) (ba 13 511) (ba 13 1007) (ba 13 2543) rfl rfl rfl rfl rfl rfl (three_of HT_.out (by kernel_rfl)) (by decide) (by decide) (by decide) (fun K hK => ?_) (fun K hK => ?_) (fun K hK => ?_)
          ·skip
           refine gC Try.func45 #[.agg #[.int .i64 a0_0, .slice A0_1 l0_1.length c0_1, .slice A0_2 l0_2.length c0_2], .int .i64 a1] ?_
           with_reducible refine (congouref04_Longer.calls kj5 a0_0 _ _ l0_1 _ _ l0_2 a1 t1064 _ ?side1 ?side2 ?side3 ?side4 A44.out).mono ?_
           (case side1 => exact kC HR0_1)
           (case side2 => exact HC0_1.out)
           (case side3 => exact kC HR0_2)
           (case side4 => exact HC0_2.out)
           rintro e w54 ⟨v1065, rfl, ho0, hb⟩
           refine ⟨_, rfl, ?_⟩
           replace HO_7 := kO HO_7 hb
           have HO1066 := ak (Kd.R_lower ho0 (below_size (hbC _)))
           replace BK1044 := kB BK1044 hb
           replace BK1045 := kB BK1045 hb
           replace HB := kH _ hb
           (try clear hb)
           (try clear hb2)
           (try clear hk)
           (try clear hi)
           (try clear ho0)
           refine hK.out _ _ ⟨bc BK1044 0, bc BK1044 1, bc BK1044 2⟩ (fun hHeld => ?_)
           clear hK K
           refine norm_ (a' := ?_) ?_ ?_
           rotate_left
           ·show Act.put _ (some 64) _ = _
            simp only [Act.put, List.setIfInBounds_toArray, List.set_cons_zero, List.set_cons_succ, i64_w, i32_w]
            rfl
           exact norm_ (by first | (simp only [putAll, Act.put, List.setIfInBounds_toArray, List.set_cons_zero, List.set_cons_succ]; done) | (simp only [putAll, Act.put, List.setIfInBounds_toArray, List.set_cons_zero, List.set_cons_succ]; rfl)) (hJ4 (v1065) _ ⟨hHeld, (rC HO1066), (rC HO_7), (bkC BK1044), (bkC BK1045), (hbC _)⟩)
          ·skip
           refine Kd.R_make_step (Kd.int .i64) _ 3 (by rfl) (N := 69) rfl 22 _ _ rfl ji45 rfl rfl Try.underlying22 (.int .i64 0) 8 info3 rfl (by decide) (by omega) 0 (ok := fun _ => True) (okp := fun _ => True) rfl (fun _ hk => hk) trivial (dA) (Nat.le_trans (Nat.mul_le_mul_right _ (dA : ji45.toNat ≤ 35184372088832)) (by omega)) (Below.refl _ _) (Nat.le_refl _) ?_
           intro v1068 w54 ho55 hb hg_ hnew_
           clear hg_ hnew_
           (first | rw [← Ny1067.out] at ho55 | (simp only [Int.reduceToNat] at ho55; rw [← Ny1067.out] at ho55))
           replace HO_7 := kO HO_7 hb
           have HO1069 := ak (Kd.R_lower ho55 (below_size (hbC _)))
           replace BK1044 := kB BK1044 hb
           replace BK1045 := kB BK1045 hb
           replace HB := kH _ hb
           clear hb ho55
           refine hK.out _ _ ⟨bc BK1044 0, bc BK1044 1, bc BK1044 2⟩ (fun hHeld => ?_)
           clear hK K
           refine norm_ (a' := ?_) ?_ ?_
           rotate_left
           ·show Act.put _ (some 69) _ = _
            simp only [Act.put, List.setIfInBounds_toArray, List.set_cons_zero, List.set_cons_succ, i64_w, i32_w]
            rfl
           exact norm_ (by first | (simp only [putAll, Act.put, List.setIfInBounds_toArray, List.set_cons_zero, List.set_cons_succ]; done) | (simp only [putAll, Act.put, List.setIfInBounds_toArray, List.set_cons_zero, List.set_cons_succ]; rfl)) (hJ9 (v1068) _ ⟨hHeld, (rC HO1069), (rC HO_7), (bkC BK1044), (bkC BK1045), (hbC _)⟩)
          ·skip
           refine box_step ?hg (N := 9) ?hd (cs := #[.int .i64 0, .slice none 0 0, .slice none 0 0]) (t := 24) ?hr ?_; (case hd => rfl); (case hg => rfl); (case hr => first | (go_simp; done) | (go_simp; rfl))
           intro gb1070 hg w54 hbox hb
           replace HO_7 := kO HO_7 hb
           have BK1070 := ak (hbox)
           have GW1070 := kG w hg
           have GE1070 := kG w hg
           replace HB := kH _ hb
           have NB1044_1070 := kL BK1044 hg
           have NB1070_1044 := kR BK1044 hg
           replace BK1044 := kB BK1044 hb
           have NB1045_1070 := kL BK1045 hg
           have NB1070_1045 := kR BK1045 hg
           replace BK1045 := kB BK1045 hb
           clear hb hbox hg
           refine hK.out _ _ ⟨bc BK1044 0, bc BK1044 1, bc BK1044 2⟩ (fun hHeld => ?_)
           clear hK K
           refine norm_ (a' := ?_) ?_ ?_
           rotate_left
           ·show Act.put _ (some 9) _ = _
            simp only [Act.put, List.setIfInBounds_toArray, List.set_cons_zero, List.set_cons_succ, i64_w, i32_w]
            rfl
           exact norm_ (by first | (simp only [putAll, Act.put, List.setIfInBounds_toArray, List.set_cons_zero, List.set_cons_succ]; done) | (simp only [putAll, Act.put, List.setIfInBounds_toArray, List.set_cons_zero, List.set_cons_succ]; rfl)) (hJ11 (gb1070) _ ⟨hHeld, (rC HO_7), (bkC BK1044), (bkC BK1045), (bkC BK1070), GW1070.out, GE1070.out, NB1044_1070.out, NB1070_1044.out, NB1045_1070.out, NB1070_1045.out, (hbC _)⟩)
         ·skip
          rintro gb1070 w55 ⟨hS_, h0_, h1_, h2_, h3_, h4_, h5_, h6_, h7_, h8_, h9_, h10_⟩
          have n0_ : Aside0 (Kd.R k26 26 w55 w.heap.size (fun k_ => k_ ≠ gb1045) v1054 t1053) := ⟨h0_⟩
          have n1_ : Aside0 (w55.heap[gb1044]? = some (.cells #[.int .i64 a0_0, .slice A0_1 l0_1.length c0_1, .slice A0_2 l0_2.length c0_2] 24 (0, 0))) := ⟨h1_⟩
          have n2_ : Aside0 (w55.heap[gb1045]? = some (.cells #[.int .i64 a2_0, .int .i64 a2_1] 26 (0, 0))) := ⟨h2_⟩
          have n3_ : Aside0 (w55.heap[gb1070]? = some (.cells #[.int .i64 0, .slice none 0 0, .slice none 0 0] 24 (0, 0))) := ⟨h3_⟩
          have n4_ : Aside0 (w.heap.size ≤ gb1070) := ⟨h4_⟩
          have n5_ : Aside0 (w.heap.size ≤ gb1070) := ⟨h5_⟩
          have n6_ : Aside0 (gb1044 ≠ gb1070) := ⟨h6_⟩
          have n7_ : Aside0 (gb1070 ≠ gb1044) := ⟨h7_⟩
          have n8_ : Aside0 (gb1045 ≠ gb1070) := ⟨h8_⟩
          have n9_ : Aside0 (gb1070 ≠ gb1045) := ⟨h9_⟩
          have n10_ : Aside0 (Below w.heap.size w w55) := ⟨h10_⟩
          clear HO_7
          clear BK1044
          clear BK1045
          clear HB
          clear h0_ h1_ h2_ h3_ h4_ h5_ h6_ h7_ h8_ h9_ h10_
          have HO_7 := n0_
          have BK1044 := n1_
          have BK1045 := n2_
          have BK1070 := n3_
          have GW1070 := n4_
          have GE1070 := n5_
          have NB1044_1070 := n6_
          have NB1070_1044 := n7_
          have NB1045_1070 := n8_
          have NB1070_1045 := n9_
          have HB := n10_
          clear n0_ n1_ n2_ n3_ n4_ n5_ n6_ n7_ n8_ n9_ n10_
          have hHeld : w55.cell? ⟨gb1044, 0, none⟩ = some (.int .i64 a0_0) ∧ w55.cell? ⟨gb1044, 1, none⟩ = some (.slice A0_1 l0_1.length c0_1) ∧ w55.cell? ⟨gb1044, 2, none⟩ = some (.slice A0_2 l0_2.length c0_2) := hS_
          refine norm_ (a' := ?_) ?_ ?_
          rotate_left
          ·simp only [putAll, Act.put, List.setIfInBounds_toArray, List.set_cons_zero, List.set_cons_succ]
           rfl
          refine two_ (i := 4) (j := 9) (Ni := some 64) (Nj := some 69) (ba 13 2559) (ba 13 3055) rfl rfl rfl rfl (two_of HT_.out (by kernel_rfl)) (by decide) (by decide) (fun K hK => ?_) (fun K hK => ?_)
          ·skip
           refine gC Try.func45 #[.agg #[.int .i64 a0_0, .slice A0_1 l0_1.length c0_1, .slice A0_2 l0_2.length c0_2], .int .i64 a1] ?_
           with_reducible refine (congouref04_Longer.calls kj5 a0_0 _ _ l0_1 _ _ l0_2 a1 t1064 _ ?side1 ?side2 ?side3 ?side4 A44.out).mono ?_
           (case side1 => exact kC HR0_1)
           (case side2 => exact HC0_1.out)
           (case side3 => exact kC HR0_2)
           (case side4 => exact HC0_2.out)
           rintro e w56 ⟨v1065, rfl, ho0, hb⟩
           refine ⟨_, rfl, ?_⟩
           replace HO_7 := kO HO_7 hb
           have HO1066 := ak (Kd.R_lower ho0 (below_size (hbC _)))
           replace BK1044 := kB BK1044 hb
           replace BK1045 := kB BK1045 hb
           replace BK1070 := kB BK1070 hb
           replace HB := kH _ hb
           (try clear hb)
           (try clear hb2)
           (try clear hk)
           (try clear hi)
           (try clear ho0)
           refine hK.out _ _ ⟨bc BK1044 0, bc BK1044 1, bc BK1044 2⟩ (fun hHeld => ?_)
           clear hK K
           refine norm_ (a' := ?_) ?_ ?_
           rotate_left
           ·show Act.put _ (some 64) _ = _
            simp only [Act.put, List.setIfInBounds_toArray, List.set_cons_zero, List.set_cons_succ, i64_w, i32_w]
            rfl
           exact norm_ (by first | (simp only [putAll, Act.put, List.setIfInBounds_toArray, List.set_cons_zero, List.set_cons_succ]; done) | (simp only [putAll, Act.put, List.setIfInBounds_toArray, List.set_cons_zero, List.set_cons_succ]; rfl)) (hJ4_11 (v1065, gb1070) _ ⟨hHeld, (rC HO1066), (rC HO_7), (bkC BK1044), (bkC BK1045), (bkC BK1070), GW1070.out, GE1070.out, NB1044_1070.out, NB1070_1044.out, NB1045_1070.out, NB1070_1045.out, (hbC _)⟩)
          ·skip
           refine Kd.R_make_step (Kd.int .i64) _ 3 (by rfl) (N := 69) rfl 22 _ _ rfl ji45 rfl rfl Try.underlying22 (.int .i64 0) 8 info3 rfl (by decide) (by omega) 0 (ok := fun _ => True) (okp := fun _ => True) rfl (fun _ hk => hk) trivial (dA) (Nat.le_trans (Nat.mul_le_mul_right _ (dA : ji45.toNat ≤ 35184372088832)) (by omega)) (Below.refl _ _) (Nat.le_refl _) ?_
           intro v1068 w56 ho57 hb hg_ hnew_
           clear hg_ hnew_
           (first | rw [← Ny1067.out] at ho57 | (simp only [Int.reduceToNat] at ho57; rw [← Ny1067.out] at ho57))
           replace HO_7 := kO HO_7 hb
           have HO1069 := ak (Kd.R_lower ho57 (below_size (hbC _)))
           replace BK1044 := kB BK1044 hb
           replace BK1045 := kB BK1045 hb
           replace BK1070 := kB BK1070 hb
           replace HB := kH _ hb
           clear hb ho57
           refine hK.out _ _ ⟨bc BK1044 0, bc BK1044 1, bc BK1044 2⟩ (fun hHeld => ?_)
           clear hK K
           refine norm_ (a' := ?_) ?_ ?_
           rotate_left
           ·show Act.put _ (some 69) _ = _
            simp only [Act.put, List.setIfInBounds_toArray, List.set_cons_zero, List.set_cons_succ, i64_w, i32_w]
            rfl
           exact norm_ (by first | (simp only [putAll, Act.put, List.setIfInBounds_toArray, List.set_cons_zero, List.set_cons_succ]; done) | (simp only [putAll, Act.put, List.setIfInBounds_toArray, List.set_cons_zero, List.set_cons_succ]; rfl)) (hJ9_11 (v1068, gb1070) _ ⟨hHeld, (rC HO1069), (rC HO_7), (bkC BK1044), (bkC BK1045), (bkC BK1070), GW1070.out, GE1070.out, NB1044_1070.out, NB1070_1044.out, NB1045_1070.out, NB1070_1045.out, (hbC _)⟩)
        ·skip
         rintro v1068 w56 ⟨hS_, h0_, h1_, h2_, h3_, h4_⟩
         have n0_ : Aside0 (Kd.R (Kd.int .i64) 3 w56 w.heap.size (fun _ => True) v1068 y1067) := ⟨h0_⟩
         have n1_ : Aside0 (Kd.R k26 26 w56 w.heap.size (fun k_ => k_ ≠ gb1045) v1054 t1053) := ⟨h1_⟩
         have n2_ : Aside0 (w56.heap[gb1044]? = some (.cells #[.int .i64 a0_0, .slice A0_1 l0_1.length c0_1, .slice A0_2 l0_2.length c0_2] 24 (0, 0))) := ⟨h2_⟩
         have n3_ : Aside0 (w56.heap[gb1045]? = some (.cells #[.int .i64 a2_0, .int .i64 a2_1] 26 (0, 0))) := ⟨h3_⟩
         have n4_ : Aside0 (Below w.heap.size w w56) := ⟨h4_⟩
         clear HO_7
         clear BK1044
         clear BK1045
         clear HB
         clear h0_ h1_ h2_ h3_ h4_
         have HO1069 := n0_
         have HO_7 := n1_
         have BK1044 := n2_
         have BK1045 := n3_
         have HB := n4_
         clear n0_ n1_ n2_ n3_ n4_
         have hHeld : w56.cell? ⟨gb1044, 0, none⟩ = some (.int .i64 a0_0) ∧ w56.cell? ⟨gb1044, 1, none⟩ = some (.slice A0_1 l0_1.length c0_1) ∧ w56.cell? ⟨gb1044, 2, none⟩ = some (.slice A0_2 l0_2.length c0_2) := hS_
         refine norm_ (a' := ?_) ?_ ?_
         rotate_left
         ·simp only [putAll, Act.put, List.setIfInBounds_toArray, List.set_cons_zero, List.set_cons_succ]
          rfl
         refine two_ (i := 4) (j := 11) (Ni := some 64) (Nj := some 9) (ba 13 1023) (ba 13 3055) rfl rfl rfl rfl (two_of HT_.out (by kernel_rfl)) (by decide) (by decide) (fun K hK => ?_) (fun K hK => ?_)
         ·skip
          refine gC Try.func45 #[.agg #[.int .i64 a0_0, .slice A0_1 l0_1.length c0_1, .slice A0_2 l0_2.length c0_2], .int .i64 a1] ?_
          with_reducible refine (congouref04_Longer.calls kj5 a0_0 _ _ l0_1 _ _ l0_2 a1 t1064 _ ?side1 ?side2 ?side3 ?side4 A44.out).mono ?_
          (case side1 => exact kC HR0_1)
          (case side2 => exact HC0_1.out)
          (case side3 => exact kC HR0_2)
          (case side4 => exact HC0_2.out)
          rintro e w57 ⟨v1065, rfl, ho0, hb⟩
          refine ⟨_, rfl, ?_⟩
          replace HO_7 := kO HO_7 hb
          have HO1066 := ak (Kd.R_lower (Kd.R_new' ho0 (Kd.R_lt (rC HO1069))) (below_size (hbC _)))
          replace HO1069 := ak (Kd.R_elder' (rC HO1069) (Kd.R_base ho0) hb)
          replace BK1044 := kB BK1044 hb
          replace BK1045 := kB BK1045 hb
          replace HB := kH _ hb
          (try clear hb)
          (try clear hb2)
          (try clear hk)
          (try clear hi)
          (try clear ho0)
          obtain ⟨Ao58, co58, eo58⟩ := Kd.R_slice HO1069.out
          (first | subst eo58 | (injection eo58 with f1_ f2_ f3_; have f4_ := f1_.symm; have f5_ := f3_.symm; clear f1_ f2_ f3_; subst f4_; subst f5_))
          obtain ⟨Ao59, co59, eo59⟩ := Kd.R_slice HO1066.out
          (first | subst eo59 | (injection eo59 with f1_ f2_ f3_; have f4_ := f1_.symm; have f5_ := f3_.symm; clear f1_ f2_ f3_; subst f4_; subst f5_))
          refine hK.out _ _ ⟨bc BK1044 0, bc BK1044 1, bc BK1044 2⟩ (fun hHeld => ?_)
          clear hK K
          refine norm_ (a' := ?_) ?_ ?_
          rotate_left
          ·show Act.put _ (some 64) _ = _
           simp only [Act.put, List.setIfInBounds_toArray, List.set_cons_zero, List.set_cons_succ, i64_w, i32_w]
           rfl
          refine pS 10 70 13 2047 ?_
          exact norm_ (by first | (simp only [putAll, Act.put, List.setIfInBounds_toArray, List.set_cons_zero, List.set_cons_succ]; done) | (simp only [putAll, Act.put, List.setIfInBounds_toArray, List.set_cons_zero, List.set_cons_succ]; rfl)) (hJ4_9 (.slice Ao59 t1064.length co59, .slice Ao58 y1067.length co58) _ ⟨hHeld, (rD (Kd.R_mono HO1066.out (fun _ hk => hk.2))), (rD (Kd.R_mono HO1069.out (fun _ hk => hk.2))), (rC HO_7), (bkC BK1044), (bkC BK1045), (hbC _)⟩)
         ·skip
          refine box_step ?hg (N := 9) ?hd (cs := #[.int .i64 0, .slice none 0 0, .slice none 0 0]) (t := 24) ?hr ?_; (case hd => rfl); (case hg => rfl); (case hr => first | (go_simp; done) | (go_simp; rfl))
          intro gb1070 hg w57 hbox hb
          replace HO_7 := kO HO_7 hb
          replace HO1069 := kO HO1069 hb
          have BK1070 := ak (hbox)
          have GW1070 := kG w hg
          have GE1070 := kG w hg
          replace HB := kH _ hb
          have NB1044_1070 := kL BK1044 hg
          have NB1070_1044 := kR BK1044 hg
          replace BK1044 := kB BK1044 hb
          have NB1045_1070 := kL BK1045 hg
          have NB1070_1045 := kR BK1045 hg
          replace BK1045 := kB BK1045 hb
          clear hb hbox hg
          refine hK.out _ _ ⟨bc BK1044 0, bc BK1044 1, bc BK1044 2⟩ (fun hHeld => ?_)
          clear hK K
          refine norm_ (a' := ?_) ?_ ?_
          rotate_left
          ·show Act.put _ (some 9) _ = _
           simp only [Act.put, List.setIfInBounds_toArray, List.set_cons_zero, List.set_cons_succ, i64_w, i32_w]
           rfl
          exact norm_ (by first | (simp only [putAll, Act.put, List.setIfInBounds_toArray, List.set_cons_zero, List.set_cons_succ]; done) | (simp only [putAll, Act.put, List.setIfInBounds_toArray, List.set_cons_zero, List.set_cons_succ]; rfl)) (hJ9_11 (v1068, gb1070) _ ⟨hHeld, (rC HO1069), (rC HO_7), (bkC BK1044), (bkC BK1045), (bkC BK1070), GW1070.out, GE1070.out, NB1044_1070.out, NB1070_1044.out, NB1045_1070.out, NB1070_1045.out, (hbC _)⟩)
       ·skip
        rintro v1065 w55 ⟨hS_, h0_, h1_, h2_, h3_, h4_⟩
        have n0_ : Aside0 (Kd.R (Kd.int .i64) 3 w55 w.heap.size (fun _ => True) v1065 t1064) := ⟨h0_⟩
        have n1_ : Aside0 (Kd.R k26 26 w55 w.heap.size (fun k_ => k_ ≠ gb1045) v1054 t1053) := ⟨h1_⟩
        have n2_ : Aside0 (w55.heap[gb1044]? = some (.cells #[.int .i64 a0_0, .slice A0_1 l0_1.length c0_1, .slice A0_2 l0_2.length c0_2] 24 (0, 0))) := ⟨h2_⟩
        have n3_ : Aside0 (w55.heap[gb1045]? = some (.cells #[.int .i64 a2_0, .int .i64 a2_1] 26 (0, 0))) := ⟨h3_⟩
        have n4_ : Aside0 (Below w.heap.size w w55) := ⟨h4_⟩
        clear HO_7
        clear BK1044
        clear BK1045
        clear HB
        clear h0_ h1_ h2_ h3_ h4_
        have HO1066 := n0_
        have HO_7 := n1_
        have BK1044 := n2_
        have BK1045 := n3_
        have HB := n4_
        clear n0_ n1_ n2_ n3_ n4_
        have hHeld : w55.cell? ⟨gb1044, 0, none⟩ = some (.int .i64 a0_0) ∧ w55.cell? ⟨gb1044, 1, none⟩ = some (.slice A0_1 l0_1.length c0_1) ∧ w55.cell? ⟨gb1044, 2, none⟩ = some (.slice A0_2 l0_2.length c0_2) := hS_
        refine norm_ (a' := ?_) ?_ ?_
        rotate_left
        ·simp only [putAll, Act.put, List.setIfInBounds_toArray, List.set_cons_zero, List.set_cons_succ]
         rfl
        refine two_ (i := 9) (j := 11) (Ni := some 69) (Nj := some 9) (ba 13 1023) (ba 13 2559) rfl rfl rfl rfl (two_of HT_.out (by kernel_rfl)) (by decide) (by decide) (fun K hK => ?_) (fun K hK => ?_)
        ·skip
         refine Kd.R_make_step (Kd.int .i64) _ 3 (by rfl) (N := 69) rfl 22 _ _ rfl ji45 rfl rfl Try.underlying22 (.int .i64 0) 8 info3 rfl (by decide) (by omega) 0 (ok := fun _ => True) (okp := fun _ => True) rfl (fun _ hk => hk) trivial (dA) (Nat.le_trans (Nat.mul_le_mul_right _ (dA : ji45.toNat ≤ 35184372088832)) (by omega)) (Below.refl _ _) (Nat.le_refl _) ?_
         intro v1068 w56 ho57 hb hg_ hnew_
         clear hg_ hnew_
         (first | rw [← Ny1067.out] at ho57 | (simp only [Int.reduceToNat] at ho57; rw [← Ny1067.out] at ho57))
         replace HO_7 := kO HO_7 hb
         have HO1069 := ak (Kd.R_lower (Kd.R_new' ho57 (Kd.R_lt (rC HO1066))) (below_size (hbC _)))
         replace HO1066 := ak (Kd.R_elder' (rC HO1066) (Kd.R_base ho57) hb)
         replace BK1044 := kB BK1044 hb
         replace BK1045 := kB BK1045 hb
         replace HB := kH _ hb
         clear hb ho57
         obtain ⟨Ao58, co58, eo58⟩ := Kd.R_slice HO1069.out
         (first | subst eo58 | (injection eo58 with f1_ f2_ f3_; have f4_ := f1_.symm; have f5_ := f3_.symm; clear f1_ f2_ f3_; subst f4_; subst f5_))
         obtain ⟨Ao59, co59, eo59⟩ := Kd.R_slice HO1066.out
         (first | subst eo59 | (injection eo59 with f1_ f2_ f3_; have f4_ := f1_.symm; have f5_ := f3_.symm; clear f1_ f2_ f3_; subst f4_; subst f5_))
         refine hK.out _ _ ⟨bc BK1044 0, bc BK1044 1, bc BK1044 2⟩ (fun hHeld => ?_)
         clear hK K
         refine norm_ (a' := ?_) ?_ ?_
         rotate_left
         ·show Act.put _ (some 69) _ = _
          simp only [Act.put, List.setIfInBounds_toArray, List.set_cons_zero, List.set_cons_succ, i64_w, i32_w]
          rfl
         refine pS 10 70 13 2047 ?_
         exact norm_ (by first | (simp only [putAll, Act.put, List.setIfInBounds_toArray, List.set_cons_zero, List.set_cons_succ]; done) | (simp only [putAll, Act.put, List.setIfInBounds_toArray, List.set_cons_zero, List.set_cons_succ]; rfl)) (hJ4_9 (.slice Ao59 t1064.length co59, .slice Ao58 y1067.length co58) _ ⟨hHeld, (rD (Kd.R_mono HO1066.out (fun _ hk => hk.2))), (rD (Kd.R_mono HO1069.out (fun _ hk => hk.2))), (rC HO_7), (bkC BK1044), (bkC BK1045), (hbC _)⟩)
        ·skip
         refine box_step ?hg (N := 9) ?hd (cs := #[.int .i64 0, .slice none 0 0, .slice none 0 0]) (t := 24) ?hr ?_; (case hd => rfl); (case hg => rfl); (case hr => first | (go_simp; done) | (go_simp; rfl))
         intro gb1070 hg w56 hbox hb
         replace HO_7 := kO HO_7 hb
         replace HO1066 := kO HO1066 hb
         have BK1070 := ak (hbox)
         have GW1070 := kG w hg
         have GE1070 := kG w hg
         replace HB := kH _ hb
         have NB1044_1070 := kL BK1044 hg
         have NB1070_1044 := kR BK1044 hg
         replace BK1044 := kB BK1044 hb
         have NB1045_1070 := kL BK1045 hg
         have NB1070_1045 := kR BK1045 hg
         replace BK1045 := kB BK1045 hb
         clear hb hbox hg
         refine hK.out _ _ ⟨bc BK1044 0, bc BK1044 1, bc BK1044 2⟩ (fun hHeld => ?_)
         clear hK K
         refine norm_ (a' := ?_) ?_ ?_
         rotate_left
         ·show Act.put _ (some 9) _ = _
          simp only [Act.put, List.setIfInBounds_toArray, List.set_cons_zero, List.set_cons_succ, i64_w, i32_w]
          rfl
         exact norm_ (by first | (simp only [putAll, Act.put, List.setIfInBounds_toArray, List.set_cons_zero, List.set_cons_succ]; done) | (simp only [putAll, Act.put, List.setIfInBounds_toArray, List.set_cons_zero, List.set_cons_succ]; rfl)) (hJ4_11 (v1065, gb1070) _ ⟨hHeld, (rC HO1066), (rC HO_7), (bkC BK1044), (bkC BK1045), (bkC BK1070), GW1070.out, GE1070.out, NB1044_1070.out, NB1070_1044.out, NB1045_1070.out, NB1070_1045.out, (hbC _)⟩)
      ·skip
       rintro ⟨v1068, gb1070⟩ w57 ⟨hS_, h0_, h1_, h2_, h3_, h4_, h5_, h6_, h7_, h8_, h9_, h10_, h11_⟩
       have n0_ : Aside0 (Kd.R (Kd.int .i64) 3 w57 w.heap.size (fun _ => True) v1068 y1067) := ⟨h0_⟩
       have n1_ : Aside0 (Kd.R k26 26 w57 w.heap.size (fun k_ => k_ ≠ gb1045) v1054 t1053) := ⟨h1_⟩
       have n2_ : Aside0 (w57.heap[gb1044]? = some (.cells #[.int .i64 a0_0, .slice A0_1 l0_1.length c0_1, .slice A0_2 l0_2.length c0_2] 24 (0, 0))) := ⟨h2_⟩
       have n3_ : Aside0 (w57.heap[gb1045]? = some (.cells #[.int .i64 a2_0, .int .i64 a2_1] 26 (0, 0))) := ⟨h3_⟩
       have n4_ : Aside0 (w57.heap[gb1070]? = some (.cells #[.int .i64 0, .slice none 0 0, .slice none 0 0] 24 (0, 0))) := ⟨h4_⟩
       have n5_ : Aside0 (w.heap.size ≤ gb1070) := ⟨h5_⟩
       have n6_ : Aside0 (w.heap.size ≤ gb1070) := ⟨h6_⟩
       have n7_ : Aside0 (gb1044 ≠ gb1070) := ⟨h7_⟩
       have n8_ : Aside0 (gb1070 ≠ gb1044) := ⟨h8_⟩
       have n9_ : Aside0 (gb1045 ≠ gb1070) := ⟨h9_⟩
       have n10_ : Aside0 (gb1070 ≠ gb1045) := ⟨h10_⟩
       have n11_ : Aside0 (Below w.heap.size w w57) := ⟨h11_⟩
       clear HO_7
       clear BK1044
       clear BK1045
       clear HB
       clear h0_ h1_ h2_ h3_ h4_ h5_ h6_ h7_ h8_ h9_ h10_ h11_
       have HO1069 := n0_
       have HO_7 := n1_
       have BK1044 := n2_
       have BK1045 := n3_
       have BK1070 := n4_
       have GW1070 := n5_
       have GE1070 := n6_
       have NB1044_1070 := n7_
       have NB1070_1044 := n8_
       have NB1045_1070 := n9_
       have NB1070_1045 := n10_
       have HB := n11_
       clear n0_ n1_ n2_ n3_ n4_ n5_ n6_ n7_ n8_ n9_ n10_ n11_
       have hHeld : w57.cell? ⟨gb1044, 0, none⟩ = some (.int .i64 a0_0) ∧ w57.cell? ⟨gb1044, 1, none⟩ = some (.slice A0_1 l0_1.length c0_1) ∧ w57.cell? ⟨gb1044, 2, none⟩ = some (.slice A0_2 l0_2.length c0_2) := hS_
       refine norm_ (a' := ?_) ?_ ?_
       rotate_left
       ·simp only [putAll, Act.put, List.setIfInBounds_toArray, List.set_cons_zero, List.set_cons_succ]
        rfl
       refine one_ (i := 4) (N := some 64) (ba 13 3071) rfl rfl (one_of HT_.out (by kernel_rfl)) (by decide) (fun K hK => ?_)
       refine gC Try.func45 #[.agg #[.int .i64 a0_0, .slice A0_1 l0_1.length c0_1, .slice A0_2 l0_2.length c0_2], .int .i64 a1] ?_
       with_reducible refine (congouref04_Longer.calls kj5 a0_0 _ _ l0_1 _ _ l0_2 a1 t1064 _ ?side1 ?side2 ?side3 ?side4 A44.out).mono ?_
       (case side1 => exact kC HR0_1)
       (case side2 => exact HC0_1.out)
       (case side3 => exact kC HR0_2)
       (case side4 => exact HC0_2.out)
       rintro e w58 ⟨v1065, rfl, ho0, hb⟩
       refine ⟨_, rfl, ?_⟩
       replace HO_7 := kO HO_7 hb
       have HO1066 := ak (Kd.R_lower (Kd.R_new' ho0 (Kd.R_lt (rC HO1069))) (below_size (hbC _)))
       replace HO1069 := ak (Kd.R_elder' (rC HO1069) (Kd.R_base ho0) hb)
       replace BK1044 := kB BK1044 hb
       replace BK1045 := kB BK1045 hb
       replace BK1070 := kB BK1070 hb
       replace HB := kH _ hb
       (try clear hb)
       (try clear hb2)
       (try clear hk)
       (try clear hi)
       (try clear ho0)
       obtain ⟨Ao59, co59, eo59⟩ := Kd.R_slice HO1069.out
       (first | subst eo59 | (injection eo59 with f1_ f2_ f3_; have f4_ := f1_.symm; have f5_ := f3_.symm; clear f1_ f2_ f3_; subst f4_; subst f5_))
       obtain ⟨Ao60, co60, eo60⟩ := Kd.R_slice HO1066.out
       (first | subst eo60 | (injection eo60 with f1_ f2_ f3_; have f4_ := f1_.symm; have f5_ := f3_.symm; clear f1_ f2_ f3_; subst f4_; subst f5_))
       refine hK.out _ _ ⟨bc BK1044 0, bc BK1044 1, bc BK1044 2⟩ (fun hHeld => ?_)
       clear hK K
       refine norm_ (a' := ?_) ?_ ?_
       rotate_left
       ·show Act.put _ (some 64) _ = _
        simp only [Act.put, List.setIfInBounds_toArray, List.set_cons_zero, List.set_cons_succ, i64_w, i32_w]
        rfl
       refine pS 10 70 13 4095 ?_
       exact norm_ (by first | (simp only [putAll, Act.put, List.setIfInBounds_toArray, List.set_cons_zero, List.set_cons_succ]; done) | (simp only [putAll, Act.put, List.setIfInBounds_toArray, List.set_cons_zero, List.set_cons_succ]; rfl)) (hJ4_9_11 (.slice Ao60 t1064.length co60, .slice Ao59 y1067.length co59, gb1070) _ ⟨hHeld, (rD (Kd.R_mono HO1066.out (fun _ hk => hk.2))), (rD (Kd.R_mono HO1069.out (fun _ hk => hk.2))), (rC HO_7), (bkC BK1044), (bkC BK1045), (bkC BK1070), GW1070.out, GE1070.out, NB1044_1070.out, NB1070_1044.out, NB1045_1070.out, NB1070_1045.out, (hbC _)⟩)
     ·skip
      rintro ⟨v1065, gb1070⟩ w56 ⟨hS_, h0_, h1_, h2_, h3_, h4_, h5_, h6_, h7_, h8_, h9_, h10_, h11_⟩
      have n0_ : Aside0 (Kd.R (Kd.int .i64) 3 w56 w.heap.size (fun _ => True) v1065 t1064) := ⟨h0_⟩
      have n1_ : Aside0 (Kd.R k26 26 w56 w.heap.size (fun k_ => k_ ≠ gb1045) v1054 t1053) := ⟨h1_⟩
      have n2_ : Aside0 (w56.heap[gb1044]? = some (.cells #[.int .i64 a0_0, .slice A0_1 l0_1.length c0_1, .slice A0_2 l0_2.length c0_2] 24 (0, 0))) := ⟨h2_⟩
      have n3_ : Aside0 (w56.heap[gb1045]? = some (.cells #[.int .i64 a2_0, .int .i64 a2_1] 26 (0, 0))) := ⟨h3_⟩
      have n4_ : Aside0 (w56.heap[gb1070]? = some (.cells #[.int .i64 0, .slice none 0 0, .slice none 0 0] 24 (0, 0))) := ⟨h4_⟩
      have n5_ : Aside0 (w.heap.size ≤ gb1070) := ⟨h5_⟩
      have n6_ : Aside0 (w.heap.size ≤ gb1070) := ⟨h6_⟩
      have n7_ : Aside0 (gb1044 ≠ gb1070) := ⟨h7_⟩
      have n8_ : Aside0 (gb1070 ≠ gb1044) := ⟨h8_⟩
      have n9_ : Aside0 (gb1045 ≠ gb1070) := ⟨h9_⟩
      have n10_ : Aside0 (gb1070 ≠ gb1045) := ⟨h10_⟩
      have n11_ : Aside0 (Below w.heap.size w w56) := ⟨h11_⟩
      clear HO_7
      clear BK1044
      clear BK1045
      clear HB
      clear h0_ h1_ h2_ h3_ h4_ h5_ h6_ h7_ h8_ h9_ h10_ h11_
      have HO1066 := n0_
      have HO_7 := n1_
      have BK1044 := n2_
      have BK1045 := n3_
      have BK1070 := n4_
      have GW1070 := n5_
      have GE1070 := n6_
      have NB1044_1070 := n7_
      have NB1070_1044 := n8_
      have NB1045_1070 := n9_
      have NB1070_1045 := n10_
      have HB := n11_
      clear n0_ n1_ n2_ n3_ n4_ n5_ n6_ n7_ n8_ n9_ n10_ n11_
      have hHeld : w56.cell? ⟨gb1044, 0, none⟩ = some (.int .i64 a0_0) ∧ w56.cell? ⟨gb1044, 1, none⟩ = some (.slice A0_1 l0_1.length c0_1) ∧ w56.cell? ⟨gb1044, 2, none⟩ = some (.slice A0_2 l0_2.length c0_2) := hS_
      refine norm_ (a' := ?_) ?_ ?_
      rotate_left
      ·simp only [putAll, Act.put, List.setIfInBounds_toArray, List.set_cons_zero, List.set_cons_succ]
       rfl
      refine one_ (i := 9) (N := some 69) (ba 13 3071) rfl rfl (one_of HT_.out (by kernel_rfl)) (by decide) (fun K hK => ?_)
      refine Kd.R_make_step (Kd.int .i64) _ 3 (by rfl) (N := 69) rfl 22 _ _ rfl ji45 rfl rfl Try.underlying22 (.int .i64 0) 8 info3 rfl (by decide) (by omega) 0 (ok := fun _ => True) (okp := fun _ => True) rfl (fun _ hk => hk) trivial (dA) (Nat.le_trans (Nat.mul_le_mul_right _ (dA : ji45.toNat ≤ 35184372088832)) (by omega)) (Below.refl _ _) (Nat.le_refl _) ?_
      intro v1068 w57 ho58 hb hg_ hnew_
      clear hg_ hnew_
      (first | rw [← Ny1067.out] at ho58 | (simp only [Int.reduceToNat] at ho58; rw [← Ny1067.out] at ho58))
      replace HO_7 := kO HO_7 hb
      have HO1069 := ak (Kd.R_lower (Kd.R_new' ho58 (Kd.R_lt (rC HO1066))) (below_size (hbC _)))
      replace HO1066 := ak (Kd.R_elder' (rC HO1066) (Kd.R_base ho58) hb)
      replace BK1044 := kB BK1044 hb
      replace BK1045 := kB BK1045 hb
      replace BK1070 := kB BK1070 hb
      replace HB := kH _ hb
      clear hb ho58
      obtain ⟨Ao59, co59, eo59⟩ := Kd.R_slice HO1069.out
      (first | subst eo59 | (injection eo59 with f1_ f2_ f3_; have f4_ := f1_.symm; have f5_ := f3_.symm; clear f1_ f2_ f3_; subst f4_; subst f5_))
      obtain ⟨Ao60, co60, eo60⟩ := Kd.R_slice HO1066.out
      (first | subst eo60 | (injection eo60 with f1_ f2_ f3_; have f4_ := f1_.symm; have f5_ := f3_.symm; clear f1_ f2_ f3_; subst f4_; subst f5_))
      refine hK.out _ _ ⟨bc BK1044 0, bc BK1044 1, bc BK1044 2⟩ (fun hHeld => ?_)
      clear hK K
      refine norm_ (a' := ?_) ?_ ?_
      rotate_left
      ·show Act.put _ (some 69) _ = _
       simp only [Act.put, List.setIfInBounds_toArray, List.set_cons_zero, List.set_cons_succ, i64_w, i32_w]
       rfl
      refine pS 10 70 13 4095 ?_
      exact norm_ (by first | (simp only [putAll, Act.put, List.setIfInBounds_toArray, List.set_cons_zero, List.set_cons_succ]; done) | (simp only [putAll, Act.put, List.setIfInBounds_toArray, List.set_cons_zero, List.set_cons_succ]; rfl)) (hJ4_9_11 (.slice Ao60 t1064.length co60, .slice Ao59 y1067.length co59, gb1070) _ ⟨hHeld, (rD (Kd.R_mono HO1066.out (fun _ hk => hk.2))), (rD (Kd.R_mono HO1069.out (fun _ hk => hk.2))), (rC HO_7), (bkC BK1044), (bkC BK1045), (bkC BK1070), GW1070.out, GE1070.out, NB1044_1070.out, NB1070_1044.out, NB1045_1070.out, NB1070_1045.out, (hbC _)⟩)
    ·skip
     rintro ⟨v1065, v1068⟩ w59 ⟨hS_, h0_, h1_, h2_, h3_, h4_, h5_⟩
     have n0_ : Aside0 (Kd.R (Kd.int .i64) 3 w59 w.heap.size (fun k_ => nb k_ v1068) v1065 t1064) := ⟨h0_⟩
     have n1_ : Aside0 (Kd.R (Kd.int .i64) 3 w59 w.heap.size (fun k_ => nb k_ v1065) v1068 y1067) := ⟨h1_⟩
     have n2_ : Aside0 (Kd.R k26 26 w59 w.heap.size (fun k_ => k_ ≠ gb1045) v1054 t1053) := ⟨h2_⟩
     have n3_ : Aside0 (w59.heap[gb1044]? = some (.cells #[.int .i64 a0_0, .slice A0_1 l0_1.length c0_1, .slice A0_2 l0_2.length c0_2] 24 (0, 0))) := ⟨h3_⟩
     have n4_ : Aside0 (w59.heap[gb1045]? = some (.cells #[.int .i64 a2_0, .int .i64 a2_1] 26 (0, 0))) := ⟨h4_⟩
     have n5_ : Aside0 (Below w.heap.size w w59) := ⟨h5_⟩
     clear HO_7
     clear BK1044
     clear BK1045
     clear HB
     clear h0_ h1_ h2_ h3_ h4_ h5_
     have HO1066 := n0_
     have HO1069 := n1_
     have HO_7 := n2_
     have BK1044 := n3_
     have BK1045 := n4_
     have HB := n5_
     clear n0_ n1_ n2_ n3_ n4_ n5_
     have hHeld : w59.cell? ⟨gb1044, 0, none⟩ = some (.int .i64 a0_0) ∧ w59.cell? ⟨gb1044, 1, none⟩ = some (.slice A0_1 l0_1.length c0_1) ∧ w59.cell? ⟨gb1044, 2, none⟩ = some (.slice A0_2 l0_2.length c0_2) := hS_
     obtain ⟨Ao60, co60, eo60⟩ := Kd.R_slice HO1069.out
     (first | subst eo60 | (injection eo60 with f1_ f2_ f3_; have f4_ := f1_.symm; have f5_ := f3_.symm; clear f1_ f2_ f3_; subst f4_; subst f5_))
     obtain ⟨Ao61, co61, eo61⟩ := Kd.R_slice HO1066.out
     (first | subst eo61 | (injection eo61 with f1_ f2_ f3_; have f4_ := f1_.symm; have f5_ := f3_.symm; clear f1_ f2_ f3_; subst f4_; subst f5_))
     refine norm_ (a' := ?_) ?_ ?_
     rotate_left
     ·simp only [putAll, Act.put, List.setIfInBounds_toArray, List.set_cons_zero, List.set_cons_succ]
      rfl
     refine one_ (i := 11) (N := some 9) (ba 13 4095) rfl rfl (one_of HT_.out (by kernel_rfl)) (by decide) (fun K hK => ?_)
     refine box_step ?hg (N := 9) ?hd (cs := #[.int .i64 0, .slice none 0 0, .slice none 0 0]) (t := 24) ?hr ?_; (case hd => rfl); (case hg => rfl); (case hr => first | (go_simp; done) | (go_simp; rfl))
     intro gb1070 hg w62 hbox hb
     replace HO_7 := kO HO_7 hb
     replace HO1066 := kO HO1066 hb
     replace HO1069 := kO HO1069 hb
     have BK1070 := ak (hbox)
     have GW1070 := kG w hg
     have GE1070 := kG w hg
     replace HB := kH _ hb
     have NB1044_1070 := kL BK1044 hg
     have NB1070_1044 := kR BK1044 hg
     replace BK1044 := kB BK1044 hb
     have NB1045_1070 := kL BK1045 hg
     have NB1070_1045 := kR BK1045 hg
     replace BK1045 := kB BK1045 hb
     clear hb hbox hg
     refine hK.out _ _ ⟨bc BK1044 0, bc BK1044 1, bc BK1044 2⟩ (fun hHeld => ?_)
     clear hK K
     refine norm_ (a' := ?_) ?_ ?_
     rotate_left
     ·show Act.put _ (some 9) _ = _
      simp only [Act.put, List.setIfInBounds_toArray, List.set_cons_zero, List.set_cons_succ, i64_w, i32_w]
      rfl
     exact norm_ (by first | (simp only [putAll, Act.put, List.setIfInBounds_toArray, List.set_cons_zero, List.set_cons_succ]; done) | (simp only [putAll, Act.put, List.setIfInBounds_toArray, List.set_cons_zero, List.set_cons_succ]; rfl)) (hJ4_9_11 (.slice Ao61 t1064.length co61, .slice Ao60 y1067.length co60, gb1070) _ ⟨hHeld, (rC HO1066), (rC HO1069), (rC HO_7), (bkC BK1044), (bkC BK1045), (bkC BK1070), GW1070.out, GE1070.out, NB1044_1070.out, NB1070_1044.out, NB1045_1070.out, NB1070_1045.out, (hbC _)⟩)
   rintro ⟨v1065, v1068, gb1070⟩ w60 ⟨hS_, h0_, h1_, h2_, h3_, h4_, h5_, h6_, h7_, h8_, h9_, h10_, h11_, h12_⟩
   have n0_ : Aside0 (Kd.R (Kd.int .i64) 3 w60 w.heap.size (fun k_ => nb k_ v1068) v1065 t1064) := ⟨h0_⟩
   have n1_ : Aside0 (Kd.R (Kd.int .i64) 3 w60 w.heap.size (fun k_ => nb k_ v1065) v1068 y1067) := ⟨h1_⟩
   have n2_ : Aside0 (Kd.R k26 26 w60 w.heap.size (fun k_ => k_ ≠ gb1045) v1054 t1053) := ⟨h2_⟩
   have n3_ : Aside0 (w60.heap[gb1044]? = some (.cells #[.int .i64 a0_0, .slice A0_1 l0_1.length c0_1, .slice A0_2 l0_2.length c0_2] 24 (0, 0))) := ⟨h3_⟩
   have n4_ : Aside0 (w60.heap[gb1045]? = some (.cells #[.int .i64 a2_0, .int .i64 a2_1] 26 (0, 0))) := ⟨h4_⟩
   have n5_ : Aside0 (w60.heap[gb1070]? = some (.cells #[.int .i64 0, .slice none 0 0, .slice none 0 0] 24 (0, 0))) := ⟨h5_⟩
   have n6_ : Aside0 (w.heap.size ≤ gb1070) := ⟨h6_⟩
   have n7_ : Aside0 (w.heap.size ≤ gb1070) := ⟨h7_⟩
   have n8_ : Aside0 (gb1044 ≠ gb1070) := ⟨h8_⟩
   have n9_ : Aside0 (gb1070 ≠ gb1044) := ⟨h9_⟩
   have n10_ : Aside0 (gb1045 ≠ gb1070) := ⟨h10_⟩
   have n11_ : Aside0 (gb1070 ≠ gb1045) := ⟨h11_⟩
   have n12_ : Aside0 (Below w.heap.size w w60) := ⟨h12_⟩
   clear HO_7
   clear BK1044
   clear BK1045
   clear HB
   clear h0_ h1_ h2_ h3_ h4_ h5_ h6_ h7_ h8_ h9_ h10_ h11_ h12_
   have HO1066 := n0_
   have HO1069 := n1_
   have HO_7 := n2_
   have BK1044 := n3_
   have BK1045 := n4_
   have BK1070 := n5_
   have GW1070 := n6_
   have GE1070 := n7_
   have NB1044_1070 := n8_
   have NB1070_1044 := n9_
   have NB1045_1070 := n10_
   have NB1070_1045 := n11_
   have HB := n12_
   clear n0_ n1_ n2_ n3_ n4_ n5_ n6_ n7_ n8_ n9_ n10_ n11_ n12_
   have hHeld : w60.cell? ⟨gb1044, 0, none⟩ = some (.int .i64 a0_0) ∧ w60.cell? ⟨gb1044, 1, none⟩ = some (.slice A0_1 l0_1.length c0_1) ∧ w60.cell? ⟨gb1044, 2, none⟩ = some (.slice A0_2 l0_2.length c0_2) := hS_
   obtain ⟨Ao61, co61, eo61⟩ := Kd.R_slice HO1069.out
   (first | subst eo61 | (injection eo61 with f1_ f2_ f3_; have f4_ := f1_.symm; have f5_ := f3_.symm; clear f1_ f2_ f3_; subst f4_; subst f5_))
   obtain ⟨Ao62, co62, eo62⟩ := Kd.R_slice HO1066.out
   (first | subst eo62 | (injection eo62 with f1_ f2_ f3_; have f4_ := f1_.symm; have f5_ := f3_.symm; clear f1_ f2_ f3_; subst f4_; subst f5_))
   refine norm_ (a' := ?_) ?_ ?_
   rotate_left
   ·simp only [putAll, Act.put, List.setIfInBounds_toArray, List.set_cons_zero, List.set_cons_succ]
    rfl
   refine one_ (i := 12) (N := none) (ba 13 8191) rfl rfl (one_of HT_.out (by kernel_rfl)) (by decide) (fun K hK => ?_)
   have hs63 : w60.cell? ⟨gb1070, 0, none⟩ = some (.int .i64 0) := bc BK1070 0
   have hfs63 := fz BK1070 0
   have hns63_0 := NB1044_1070.out
   have hns63_1 := NB1045_1070.out
   have hms63_0 := NB1070_1044.out
   have hms63_1 := NB1070_1045.out
   have hs64 : w60.cell? ⟨gb1070, 1, none⟩ = some (.slice none 0 0) := bc BK1070 1
   have hfs64 := fz BK1070 1
   have hns64_0 := NB1044_1070.out
   have hns64_1 := NB1045_1070.out
   have hms64_0 := NB1070_1044.out
   have hms64_1 := NB1070_1045.out
   have hs65 : w60.cell? ⟨gb1070, 2, none⟩ = some (.slice none 0 0) := bc BK1070 2
   have hfs65 := fz BK1070 2
   have hns65_0 := NB1044_1070.out
   have hns65_1 := NB1045_1070.out
   have hms65_0 := NB1070_1044.out
   have hms65_1 := NB1070_1045.out
   refine skip_ (w1 := ?_) (by rfl) rfl ?_ ?_
   rotate_left
   ·go_simp
    rfl
   refine hK.out _ _ ⟨((cell_far (p := ⟨gb1070, _, none⟩) NB1044_1070.out _).trans (((cell_far (p := ⟨gb1070, _, none⟩) NB1044_1070.out _).trans (((cell_far (p := ⟨gb1070, _, none⟩) NB1044_1070.out _).trans (hHeld.1)))))), ((cell_far (p := ⟨gb1070, _, none⟩) NB1044_1070.out _).trans (((cell_far (p := ⟨gb1070, _, none⟩) NB1044_1070.out _).trans (((cell_far (p := ⟨gb1070, _, none⟩) NB1044_1070.out _).trans (hHeld.2.1)))))), ((cell_far (p := ⟨gb1070, _, none⟩) NB1044_1070.out _).trans (((cell_far (p := ⟨gb1070, _, none⟩) NB1044_1070.out _).trans (((cell_far (p := ⟨gb1070, _, none⟩) NB1044_1070.out _).trans (hHeld.2.2))))))⟩ (fun hHeld => ?_)
   clear hK K
   refine done_ (done_of HT_.out (by kernel_rfl)) ?_
   try go_wp2
   have n0_ : Aside0 (Kd.R k26 26 (((w60.setCell ⟨gb1070, 0, none⟩ (.int .i64 a0_0)).setCell ⟨gb1070, 1, none⟩ (.slice Ao62 t1064.length co62)).setCell ⟨gb1070, 2, none⟩ (.slice Ao61 y1067.length co61)) w.heap.size (fun k_ => k_ ≠ gb1045) v1054 t1053) := ⟨rD (Kd.R_mono (Kd.R_far (p := ⟨gb1070, 2, none⟩) (Kd.R_far (p := ⟨gb1070, 1, none⟩) (Kd.R_far (p := ⟨gb1070, 0, none⟩) (Kd.R_types HO_7.out BK1070.out (by decide)) (fun _ hk => hk.2) (.int .i64 a0_0)) (fun _ hk => hk.2) (.slice Ao62 t1064.length co62)) (fun _ hk => hk.2) (.slice Ao61 y1067.length co61)) (fun _ hk => hk.1))⟩
   have n1_ : Aside0 (Kd.R (Kd.int .i64) 3 (((w60.setCell ⟨gb1070, 0, none⟩ (.int .i64 a0_0)).setCell ⟨gb1070, 1, none⟩ (.slice Ao62 t1064.length co62)).setCell ⟨gb1070, 2, none⟩ (.slice Ao61 y1067.length co61)) w.heap.size (fun k_ => nb k_ (.slice Ao61 y1067.length co61)) (.slice Ao62 t1064.length co62) t1064) := ⟨rD (Kd.R_mono (Kd.R_far (p := ⟨gb1070, 2, none⟩) (Kd.R_far (p := ⟨gb1070, 1, none⟩) (Kd.R_far (p := ⟨gb1070, 0, none⟩) (Kd.R_types HO1066.out BK1070.out (by decide)) (fun _ hk => hk.2) (.int .i64 a0_0)) (fun _ hk => hk.2) (.slice Ao62 t1064.length co62)) (fun _ hk => hk.2) (.slice Ao61 y1067.length co61)) (fun _ hk => hk.1))⟩
   have n2_ : Aside0 (Kd.R (Kd.int .i64) 3 (((w60.setCell ⟨gb1070, 0, none⟩ (.int .i64 a0_0)).setCell ⟨gb1070, 1, none⟩ (.slice Ao62 t1064.length co62)).setCell ⟨gb1070, 2, none⟩ (.slice Ao61 y1067.length co61)) w.heap.size (fun k_ => nb k_ (.slice Ao62 t1064.length co62)) (.slice Ao61 y1067.length co61) y1067) := ⟨rD (Kd.R_mono (Kd.R_far (p := ⟨gb1070, 2, none⟩) (Kd.R_far (p := ⟨gb1070, 1, none⟩) (Kd.R_far (p := ⟨gb1070, 0, none⟩) (Kd.R_types HO1069.out BK1070.out (by decide)) (fun _ hk => hk.2) (.int .i64 a0_0)) (fun _ hk => hk.2) (.slice Ao62 t1064.length co62)) (fun _ hk => hk.2) (.slice Ao61 y1067.length co61)) (fun _ hk => hk.1))⟩
   have n3_ : Aside0 ((((w60.setCell ⟨gb1070, 0, none⟩ (.int .i64 a0_0)).setCell ⟨gb1070, 1, none⟩ (.slice Ao62 t1064.length co62)).setCell ⟨gb1070, 2, none⟩ (.slice Ao61 y1067.length co61)).heap[gb1044]? = some (.cells #[.int .i64 a0_0, .slice A0_1 l0_1.length c0_1, .slice A0_2 l0_2.length c0_2] 24 (0, 0))) := ⟨bF BK1044⟩
   have n4_ : Aside0 ((((w60.setCell ⟨gb1070, 0, none⟩ (.int .i64 a0_0)).setCell ⟨gb1070, 1, none⟩ (.slice Ao62 t1064.length co62)).setCell ⟨gb1070, 2, none⟩ (.slice Ao61 y1067.length co61)).heap[gb1045]? = some (.cells #[.int .i64 a2_0, .int .i64 a2_1] 26 (0, 0))) := ⟨bF BK1045⟩
   have n5_ : Aside0 ((((w60.setCell ⟨gb1070, 0, none⟩ (.int .i64 a0_0)).setCell ⟨gb1070, 1, none⟩ (.slice Ao62 t1064.length co62)).setCell ⟨gb1070, 2, none⟩ (.slice Ao61 y1067.length co61)).heap[gb1070]? = some (.cells #[.int .i64 a0_0, .slice Ao62 t1064.length co62, .slice Ao61 y1067.length co61] 24 (0, 0))) := ⟨by (with_reducible repeat (first | refine blk_drewN ?_ _ | refine blk_drew ?_ | refine blk_alloc ?_ _)); refine blk_put (cs := #[.int .i64 a0_0, .slice Ao62 t1064.length co62, .slice none 0 0]) ?_ 2 _ rfl; (with_reducible repeat (first | refine blk_drewN ?_ _ | refine blk_drew ?_ | refine blk_alloc ?_ _)); refine blk_put (cs := #[.int .i64 a0_0, .slice none 0 0, .slice none 0 0]) ?_ 1 _ rfl; (with_reducible repeat (first | refine blk_drewN ?_ _ | refine blk_drew ?_ | refine blk_alloc ?_ _)); refine blk_put (cs := #[.int .i64 0, .slice none 0 0, .slice none 0 0]) ?_ 0 _ rfl; (with_reducible repeat (first | refine blk_drewN ?_ _ | refine blk_drew ?_ | refine blk_alloc ?_ _)); exact BK1070.out⟩
   have n6_ : Aside0 (Below w.heap.size w (((w60.setCell ⟨gb1070, 0, none⟩ (.int .i64 a0_0)).setCell ⟨gb1070, 1, none⟩ (.slice Ao62 t1064.length co62)).setCell ⟨gb1070, 2, none⟩ (.slice Ao61 y1067.length co61))) := ⟨hbC _⟩
   (try clear HO_7)
   (try clear HO1066)
   (try clear HO1069)
   (try clear BK1044)
   (try clear BK1045)
   (try clear BK1070)
   (try clear HB)
   generalize (((w60.setCell ⟨gb1070, 0, none⟩ (.int .i64 a0_0)).setCell ⟨gb1070, 1, none⟩ (.slice Ao62 t1064.length co62)).setCell ⟨gb1070, 2, none⟩ (.slice Ao61 y1067.length co61)) = w66 at n0_ n1_ n2_ n3_ n4_ n5_ n6_ ⊢
   have HO_7 := n0_
   have HO1066 := n1_
   have HO1069 := n2_
   have BK1044 := n3_
   have BK1045 := n4_
   have BK1070 := n5_
   have HB := n6_
   clear n0_ n1_ n2_ n3_ n4_ n5_ n6_
   replace HO_7 := ak (Kd.R_drew HO_7.out)
   replace HO1066 := ak (Kd.R_drew HO1066.out)
   replace HO1069 := ak (Kd.R_drew HO1069.out)
   replace BK1044 := kd BK1044
   replace BK1045 := kd BK1045
   replace BK1070 := kd BK1070
   replace HB := ak (below_drew1 HB.out)
   refine sS (n := 10) (S := fun w' => w'.cell? ⟨gb1044, 0, none⟩ = some (.int .i64 a0_0) ∧ w'.cell? ⟨gb1044, 1, none⟩ = some (.slice A0_1 l0_1.length c0_1) ∧ w'.cell? ⟨gb1044, 2, none⟩ = some (.slice A0_2 l0_2.length c0_2) ∧ w'.cell? ⟨gb1045, 0, none⟩ = some (.int .i64 a2_0) ∧ w'.cell? ⟨gb1045, 1, none⟩ = some (.int .i64 a2_1)) (ds := []) ⟨bc BK1044 0, bc BK1044 1, bc BK1044 2, bc BK1045 0, bc BK1045 1⟩ (fun hHeld => ?_); refine with_tabW congoulaw04_CurvesKnot.tab5 congoulaw04_CurvesKnot.bits5 (fun HT_ HW_ => ?_)
   generalize w66.drew = w67 at HO_7 HO1066 HO1069 BK1044 BK1045 BK1070 HB hHeld ⊢
   refine tS 0 72 10 1 ?_
   refine tS 2 74 10 5 ?_
   refine join_ (σ := Value × Value × Nat) 2 (ba 10 255) (fun s_ => [(73, .agg #[.int .i64 t1071, s_.1, s_.2.1]), (75, .tuple #[.agg #[.int .i64 t1078, .int .i64 t1079], .int .i64 t1080]), (10, .pointer (some ⟨s_.2.2, 0, none⟩)), (71, .tuple #[.agg #[.int .i64 t1078, .int .i64 t1079], .int .i64 t1080]), (76, .agg #[.int .i64 t1078, .int .i64 t1079]), (77, .int .i64 t1080)]) (fun s_ w' => (w'.cell? ⟨gb1044, 0, none⟩ = some (.int .i64 a0_0) ∧ w'.cell? ⟨gb1044, 1, none⟩ = some (.slice A0_1 l0_1.length c0_1) ∧ w'.cell? ⟨gb1044, 2, none⟩ = some (.slice A0_2 l0_2.length c0_2) ∧ w'.cell? ⟨gb1045, 0, none⟩ = some (.int .i64 a2_0) ∧ w'.cell? ⟨gb1045, 1, none⟩ = some (.int .i64 a2_1)) ∧ (Kd.R (Kd.int .i64) 3 w' w.heap.size (fun k_ => nb k_ (.slice Ao61 y1067.length co61) ∧ some k_ ≠ (s_.1 : Value).ownBlock ∧ some k_ ≠ (s_.2.1 : Value).ownBlock) (.slice Ao62 t1064.length co62) t1064) ∧ (Kd.R (Kd.int .i64) 3 w' w.heap.size (fun k_ => nb k_ (.slice Ao62 t1064.length co62) ∧ some k_ ≠ (s_.1 : Value).ownBlock ∧ some k_ ≠ (s_.2.1 : Value).ownBlock) (.slice Ao61 y1067.length co61) y1067) ∧ (Kd.R (Kd.int .i64) 3 w' w.heap.size (fun k_ => nb k_ (.slice Ao62 t1064.length co62) ∧ nb k_ (.slice Ao61 y1067.length co61) ∧ some k_ ≠ (s_.2.1 : Value).ownBlock) s_.1 t1072) ∧ (Kd.R (Kd.int .i64) 3 w' w.heap.size (fun k_ => nb k_ (.slice Ao62 t1064.length co62) ∧ nb k_ (.slice Ao61 y1067.length co61) ∧ some k_ ≠ (s_.1 : Value).ownBlock) s_.2.1 t1075) ∧ (Kd.R k26 26 w' w.heap.size (fun k_ => k_ ≠ gb1045 ∧ k_ ≠ s_.2.2) v1054 t1053) ∧ (w'.heap[gb1044]? = some (.cells #[.int .i64 a0_0, .slice A0_1 l0_1.length c0_1, .slice A0_2 l0_2.length c0_2] 24 (0, 0))) ∧ (w'.heap[gb1045]? = some (.cells #[.int .i64 a2_0, .int .i64 a2_1] 26 (0, 0))) ∧ (w'.heap[gb1070]? = some (.cells #[.int .i64 a0_0, .slice Ao62 t1064.length co62, .slice Ao61 y1067.length co61] 24 (0, 0))) ∧ (w'.heap[s_.2.2]? = some (.cells #[.int .i64 0, .int .i64 0] 26 (0, 0))) ∧ (w.heap.size ≤ s_.2.2) ∧ (w.heap.size ≤ s_.2.2) ∧ (gb1044 ≠ s_.2.2) ∧ (s_.2.2 ≠ gb1044) ∧ (gb1045 ≠ s_.2.2) ∧ (s_.2.2 ≠ gb1045) ∧ (gb1070 ≠ s_.2.2) ∧ (s_.2.2 ≠ gb1070) ∧ (Below w.heap.size w w')) ?_ ?_
   rotate_left
   ·intro hCont
    refine two_ (i := 1) (j := 7) (Ni := some 73) (Nj := some 10) (ba 10 7) (ba 10 133) rfl rfl rfl rfl (two_of HT_.out (by kernel_rfl)) (by decide) (by decide) (fun K hK => ?_) (fun K hK => ?_)
    ·skip
     refine gC Try.func15 #[.agg #[.int .i64 a0_0, .slice A0_1 l0_1.length c0_1, .slice A0_2 l0_2.length c0_2]] ?_
     with_reducible refine (congoulaw04_Of.calls a0_0 _ _ l0_1 _ _ l0_2 t1071 t1072 t1075 _ ?side1 ?side2 ?side3 ?side4 A48.out).mono ?_
     (case side1 => exact kC HR0_1)
     (case side2 => exact HC0_1.out)
     (case side3 => exact kC HR0_2)
     (case side4 => exact HC0_2.out)
     rintro e w68 ⟨v1073, v1076, rfl, ho0, ho1, hb⟩
     refine ⟨_, rfl, ?_⟩
     replace HO_7 := kO HO_7 hb
     have HO1074 := ak (Kd.R_lower (Kd.R_new' (Kd.R_new' ho0 (Kd.R_lt (rC HO1066))) (Kd.R_lt (rC HO1069))) (below_size (hbC _)))
     have HO1077 := ak (Kd.R_lower (Kd.R_new' (Kd.R_new' ho1 (Kd.R_lt (rC HO1066))) (Kd.R_lt (rC HO1069))) (below_size (hbC _)))
     replace HO1066 := kT HO1066 hb ho0 ho1
     replace HO1069 := kT HO1069 hb ho0 ho1
     replace BK1044 := kB BK1044 hb
     replace BK1045 := kB BK1045 hb
     replace BK1070 := kB BK1070 hb
     replace HB := kH _ hb
     (try clear hb)
     (try clear hb2)
     (try clear hk)
     (try clear hi)
     (try clear ho0)
     (try clear ho1)
     obtain ⟨Ao69, co69, eo69⟩ := Kd.R_slice HO1074.out
     (first | subst eo69 | (injection eo69 with f1_ f2_ f3_; have f4_ := f1_.symm; have f5_ := f3_.symm; clear f1_ f2_ f3_; subst f4_; subst f5_))
     obtain ⟨Ao70, co70, eo70⟩ := Kd.R_slice HO1077.out
     (first | subst eo70 | (injection eo70 with f1_ f2_ f3_; have f4_ := f1_.symm; have f5_ := f3_.symm; clear f1_ f2_ f3_; subst f4_; subst f5_))
     refine hK.out _ _ ⟨bc BK1044 0, bc BK1044 1, bc BK1044 2, bc BK1045 0, bc BK1045 1⟩ (fun hHeld => ?_)
     clear hK K
     refine norm_ (a' := ?_) ?_ ?_
     rotate_left
     ·show Act.put _ (some 73) _ = _
      simp only [Act.put, List.setIfInBounds_toArray, List.set_cons_zero, List.set_cons_succ, i64_w, i32_w]
      rfl
     refine two_ (i := 3) (j := 7) (Ni := some 75) (Nj := some 10) (ba 10 15) (ba 10 135) rfl rfl rfl rfl (two_of HT_.out (by kernel_rfl)) (by decide) (by decide) (fun K hK => ?_) (fun K hK => ?_)
     ·skip
      refine gC Try.func14 #[.agg #[.int .i64 t1071, .slice Ao69 t1072.length co69, .slice Ao70 t1075.length co70], .agg #[.int .i64 a2_0, .int .i64 a2_1]] ?_
      with_reducible refine (curves_Value.calls kj5 t1071 _ _ t1072 _ _ t1075 a2_0 a2_1 t1078 t1079 t1080 _ ?side1 ?side2 ?side3 ?side4 A49.out).mono ?_
      (case side1 => exact kD (Kd.R_reads' HO1074.out).2.2)
      (case side2 => exact (Kd.R_reads' HO1074.out).2.1)
      (case side3 => exact kD (Kd.R_reads' HO1077.out).2.2)
      (case side4 => exact (Kd.R_reads' HO1077.out).2.1)
      rintro e w71 ⟨rfl, hb⟩
      refine ⟨_, rfl, ?_⟩
      replace HO_7 := kO HO_7 hb
      replace HO1066 := kO HO1066 hb
      replace HO1069 := kO HO1069 hb
      replace HO1074 := kO HO1074 hb
      replace HO1077 := kO HO1077 hb
      replace BK1044 := kB BK1044 hb
      replace BK1045 := kB BK1045 hb
      replace BK1070 := kB BK1070 hb
      replace HB := kH _ hb
      (try clear hb)
      (try clear hb2)
      (try clear hk)
      (try clear hi)
      refine hK.out _ _ ⟨bc BK1044 0, bc BK1044 1, bc BK1044 2, bc BK1045 0, bc BK1045 1⟩ (fun hHeld => ?_)
      clear hK K
      refine norm_ (a' := ?_) ?_ ?_
      rotate_left
      ·show Act.put _ (some 75) _ = _
       simp only [Act.put, List.setIfInBounds_toArray, List.set_cons_zero, List.set_cons_succ, i64_w, i32_w]
       rfl
      refine pS 4 71 10 31 ?_
      refine pS 5 76 10 63 ?_
      refine pS 6 77 10 127 ?_
      refine one_ (i := 7) (N := some 10) (ba 10 255) rfl rfl (one_of HT_.out (by kernel_rfl)) (by decide) (fun K hK => ?_)
      refine box_step ?hg (N := 10) ?hd (cs := #[.int .i64 0, .int .i64 0]) (t := 26) ?hr ?_; (case hd => rfl); (case hg => rfl); (case hr => first | (go_simp; done) | (go_simp; rfl))
      intro gb1081 hg w72 hbox hb
      replace HO_7 := ak (Kd.R_below (Kd.R_elderB (rC HO_7) gb1081 (Nat.le_of_eq hg.symm)) hb)
      replace HO1066 := kO HO1066 hb
      replace HO1069 := kO HO1069 hb
      replace HO1074 := kO HO1074 hb
      replace HO1077 := kO HO1077 hb
      have BK1081 := ak (hbox)
      have GW1081 := kG w hg
      have GE1081 := kG w hg
      replace HB := kH _ hb
      have NB1044_1081 := kL BK1044 hg
      have NB1081_1044 := kR BK1044 hg
      replace BK1044 := kB BK1044 hb
      have NB1045_1081 := kL BK1045 hg
      have NB1081_1045 := kR BK1045 hg
      replace BK1045 := kB BK1045 hb
      have NB1070_1081 := kL BK1070 hg
      have NB1081_1070 := kR BK1070 hg
      replace BK1070 := kB BK1070 hb
      clear hb hbox hg
      refine hK.out _ _ ⟨bc BK1044 0, bc BK1044 1, bc BK1044 2, bc BK1045 0, bc BK1045 1⟩ (fun hHeld => ?_)
      clear hK K
      refine norm_ (a' := ?_) ?_ ?_
      rotate_left
      ·show Act.put _ (some 10) _ = _
       simp only [Act.put, List.setIfInBounds_toArray, List.set_cons_zero, List.set_cons_succ, i64_w, i32_w]
       rfl
      exact norm_ (by simp only [putAll, Act.put, List.setIfInBounds_toArray, List.set_cons_zero, List.set_cons_succ]) (hCont (.slice Ao69 t1072.length co69, .slice Ao70 t1075.length co70, gb1081) _ ⟨hHeld, (rD (Kd.R_mono HO1066.out (fun _ hk => ⟨hk.1.1, ⟨hk.1.2, hk.2⟩⟩))), (rD (Kd.R_mono HO1069.out (fun _ hk => ⟨hk.1.1, ⟨hk.1.2, hk.2⟩⟩))), (rD (Kd.R_mono HO1074.out (fun _ hk => ⟨hk.1.2, ⟨hk.2, hk.1.1⟩⟩))), (rD (Kd.R_mono HO1077.out (fun _ hk => ⟨hk.1.2, ⟨hk.2, hk.1.1⟩⟩))), (rC HO_7), (bkC BK1044), (bkC BK1045), (bkC BK1070), (bkC BK1081), GW1081.out, GE1081.out, NB1044_1081.out, NB1081_1044.out, NB1045_1081.out, NB1081_1045.out, NB1070_1081.out, NB1081_1070.out, (hbC _)⟩)
     ·skip
      refine box_step ?hg (N := 10) ?hd (cs := #[.int .i64 0, .int .i64 0]) (t := 26) ?hr ?_; (case hd => rfl); (case hg => rfl); (case hr => first | (go_simp; done) | (go_simp; rfl))
      intro gb1081 hg w69 hbox hb
      replace HO_7 := ak (Kd.R_below (Kd.R_elderB (rC HO_7) gb1081 (Nat.le_of_eq hg.symm)) hb)
      replace HO1066 := kO HO1066 hb
      replace HO1069 := kO HO1069 hb
      replace HO1074 := kO HO1074 hb
      replace HO1077 := kO HO1077 hb
      have BK1081 := ak (hbox)
      have GW1081 := kG w hg
      have GE1081 := kG w hg
      replace HB := kH _ hb
      have NB1044_1081 := kL BK1044 hg
      have NB1081_1044 := kR BK1044 hg
      replace BK1044 := kB BK1044 hb
      have NB1045_1081 := kL BK1045 hg
      have NB1081_1045 := kR BK1045 hg
      replace BK1045 := kB BK1045 hb
      have NB1070_1081 := kL BK1070 hg
      have NB1081_1070 := kR BK1070 hg
      replace BK1070 := kB BK1070 hb
      clear hb hbox hg
      obtain ⟨Ao70, co70, eo70⟩ := Kd.R_slice HO1074.out
      (first | subst eo70 | (injection eo70 with f1_ f2_ f3_; have f4_ := f1_.symm; have f5_ := f3_.symm; clear f1_ f2_ f3_; subst f4_; subst f5_))
      obtain ⟨Ao71, co71, eo71⟩ := Kd.R_slice HO1077.out
      (first | subst eo71 | (injection eo71 with f1_ f2_ f3_; have f4_ := f1_.symm; have f5_ := f3_.symm; clear f1_ f2_ f3_; subst f4_; subst f5_))
      refine hK.out _ _ ⟨bc BK1044 0, bc BK1044 1, bc BK1044 2, bc BK1045 0, bc BK1045 1⟩ (fun hHeld => ?_)
      clear hK K
      refine norm_ (a' := ?_) ?_ ?_
      rotate_left
      ·show Act.put _ (some 10) _ = _
       simp only [Act.put, List.setIfInBounds_toArray, List.set_cons_zero, List.set_cons_succ, i64_w, i32_w]
       rfl
      refine one_ (i := 3) (N := some 75) (ba 10 143) rfl rfl (one_of HT_.out (by kernel_rfl)) (by decide) (fun K hK => ?_)
      refine gC Try.func14 #[.agg #[.int .i64 t1071, .slice Ao70 t1072.length co70, .slice Ao71 t1075.length co71], .agg #[.int .i64 a2_0, .int .i64 a2_1]] ?_
      with_reducible refine (curves_Value.calls kj5 t1071 _ _ t1072 _ _ t1075 a2_0 a2_1 t1078 t1079 t1080 _ ?side1 ?side2 ?side3 ?side4 A49.out).mono ?_
      (case side1 => exact kD (Kd.R_reads' HO1074.out).2.2)
      (case side2 => exact (Kd.R_reads' HO1074.out).2.1)
      (case side3 => exact kD (Kd.R_reads' HO1077.out).2.2)
      (case side4 => exact (Kd.R_reads' HO1077.out).2.1)
      rintro e w72 ⟨rfl, hb⟩
      refine ⟨_, rfl, ?_⟩
      replace HO_7 := kO HO_7 hb
      replace HO1066 := kO HO1066 hb
      replace HO1069 := kO HO1069 hb
      replace HO1074 := kO HO1074 hb
      replace HO1077 := kO HO1077 hb
      replace BK1044 := kB BK1044 hb
      replace BK1045 := kB BK1045 hb
      replace BK1070 := kB BK1070 hb
      replace BK1081 := kB BK1081 hb
      replace HB := kH _ hb
      (try clear hb)
      (try clear hb2)
      (try clear hk)
      (try clear hi)
      refine hK.out _ _ ⟨bc BK1044 0, bc BK1044 1, bc BK1044 2, bc BK1045 0, bc BK1045 1⟩ (fun hHeld => ?_)
      clear hK K
      refine norm_ (a' := ?_) ?_ ?_
      rotate_left
      ·show Act.put _ (some 75) _ = _
       simp only [Act.put, List.setIfInBounds_toArray, List.set_cons_zero, List.set_cons_succ, i64_w, i32_w]
       rfl
      refine pS 4 71 10 159 ?_
      refine pS 5 76 10 191 ?_
      refine pS 6 77 10 255 ?_
      exact norm_ (by simp only [putAll, Act.put, List.setIfInBounds_toArray, List.set_cons_zero, List.set_cons_succ]) (hCont (.slice Ao70 t1072.length co70, .slice Ao71 t1075.length co71, gb1081) _ ⟨hHeld, (rD (Kd.R_mono HO1066.out (fun _ hk => ⟨hk.1.1, ⟨hk.1.2, hk.2⟩⟩))), (rD (Kd.R_mono HO1069.out (fun _ hk => ⟨hk.1.1, ⟨hk.1.2, hk.2⟩⟩))), (rD (Kd.R_mono HO1074.out (fun _ hk => ⟨hk.1.2, ⟨hk.2, hk.1.1⟩⟩))), (rD (Kd.R_mono HO1077.out (fun _ hk => ⟨hk.1.2, ⟨hk.2, hk.1.1⟩⟩))), (rC HO_7), (bkC BK1044), (bkC BK1045), (bkC BK1070), (bkC BK1081), GW1081.out, GE1081.out, NB1044_1081.out, NB1081_1044.out, NB1045_1081.out, NB1081_1045.out, NB1070_1081.out, NB1081_1070.out, (hbC _)⟩)
    ·skip
     refine box_step ?hg (N := 10) ?hd (cs := #[.int .i64 0, .int .i64 0]) (t := 26) ?hr ?_; (case hd => rfl); (case hg => rfl); (case hr => first | (go_simp; done) | (go_simp; rfl))
     intro gb1081 hg w68 hbox hb
     replace HO_7 := ak (Kd.R_below (Kd.R_elderB (rC HO_7) gb1081 (Nat.le_of_eq hg.symm)) hb)
     replace HO1066 := kO HO1066 hb
     replace HO1069 := kO HO1069 hb
     have BK1081 := ak (hbox)
     have GW1081 := kG w hg
     have GE1081 := kG w hg
     replace HB := kH _ hb
     have NB1044_1081 := kL BK1044 hg
     have NB1081_1044 := kR BK1044 hg
     replace BK1044 := kB BK1044 hb
     have NB1045_1081 := kL BK1045 hg
     have NB1081_1045 := kR BK1045 hg
     replace BK1045 := kB BK1045 hb
     have NB1070_1081 := kL BK1070 hg
     have NB1081_1070 := kR BK1070 hg
     replace BK1070 := kB BK1070 hb
     clear hb hbox hg
     refine hK.out _ _ ⟨bc BK1044 0, bc BK1044 1, bc BK1044 2, bc BK1045 0, bc BK1045 1⟩ (fun hHeld => ?_)
     clear hK K
     refine norm_ (a' := ?_) ?_ ?_
     rotate_left
     ·show Act.put _ (some 10) _ = _
      simp only [Act.put, List.setIfInBounds_toArray, List.set_cons_zero, List.set_cons_succ, i64_w, i32_w]
      rfl
     refine one_ (i := 1) (N := some 73) (ba 10 135) rfl rfl (one_of HT_.out (by kernel_rfl)) (by decide) (fun K hK => ?_)
     refine gC Try.func15 #[.agg #[.int .i64 a0_0, .slice A0_1 l0_1.length c0_1, .slice A0_2 l0_2.length c0_2]] ?_
     with_reducible refine (congoulaw04_Of.calls a0_0 _ _ l0_1 _ _ l0_2 t1071 t1072 t1075 _ ?side1 ?side2 ?side3 ?side4 A48.out).mono ?_
     (case side1 => exact kC HR0_1)
     (case side2 => exact HC0_1.out)
     (case side3 => exact kC HR0_2)
     (case side4 => exact HC0_2.out)
     rintro e w69 ⟨v1073, v1076, rfl, ho0, ho1, hb⟩
     refine ⟨_, rfl, ?_⟩
     replace HO_7 := kO HO_7 hb
     have HO1074 := ak (Kd.R_lower (Kd.R_new' (Kd.R_new' ho0 (Kd.R_lt (rC HO1066))) (Kd.R_lt (rC HO1069))) (below_size (hbC _)))
     have HO1077 := ak (Kd.R_lower (Kd.R_new' (Kd.R_new' ho1 (Kd.R_lt (rC HO1066))) (Kd.R_lt (rC HO1069))) (below_size (hbC _)))
     replace HO1066 := kT HO1066 hb ho0 ho1
     replace HO1069 := kT HO1069 hb ho0 ho1
     replace BK1044 := kB BK1044 hb
     replace BK1045 := kB BK1045 hb
     replace BK1070 := kB BK1070 hb
     replace BK1081 := kB BK1081 hb
     replace HB := kH _ hb
     (try clear hb)
     (try clear hb2)
     (try clear hk)
     (try clear hi)
     (try clear ho0)
     (try clear ho1)
     obtain ⟨Ao70, co70, eo70⟩ := Kd.R_slice HO1074.out
     (first | subst eo70 | (injection eo70 with f1_ f2_ f3_; have f4_ := f1_.symm; have f5_ := f3_.symm; clear f1_ f2_ f3_; subst f4_; subst f5_))
     obtain ⟨Ao71, co71, eo71⟩ := Kd.R_slice HO1077.out
     (first | subst eo71 | (injection eo71 with f1_ f2_ f3_; have f4_ := f1_.symm; have f5_ := f3_.symm; clear f1_ f2_ f3_; subst f4_; subst f5_))
     refine hK.out _ _ ⟨bc BK1044 0, bc BK1044 1, bc BK1044 2, bc BK1045 0, bc BK1045 1⟩ (fun hHeld => ?_)
     clear hK K
     refine norm_ (a' := ?_) ?_ ?_
     rotate_left
     ·show Act.put _ (some 73) _ = _
      simp only [Act.put, List.setIfInBounds_toArray, List.set_cons_zero, List.set_cons_succ, i64_w, i32_w]
      rfl
     refine one_ (i := 3) (N := some 75) (ba 10 143) rfl rfl (one_of HT_.out (by kernel_rfl)) (by decide) (fun K hK => ?_)
     refine gC Try.func14 #[.agg #[.int .i64 t1071, .slice Ao70 t1072.length co70, .slice Ao71 t1075.length co71], .agg #[.int .i64 a2_0, .int .i64 a2_1]] ?_
     with_reducible refine (curves_Value.calls kj5 t1071 _ _ t1072 _ _ t1075 a2_0 a2_1 t1078 t1079 t1080 _ ?side1 ?side2 ?side3 ?side4 A49.out).mono ?_
     (case side1 => exact kD (Kd.R_reads' HO1074.out).2.2)
     (case side2 => exact (Kd.R_reads' HO1074.out).2.1)
     (case side3 => exact kD (Kd.R_reads' HO1077.out).2.2)
     (case side4 => exact (Kd.R_reads' HO1077.out).2.1)
     rintro e w72 ⟨rfl, hb⟩
     refine ⟨_, rfl, ?_⟩
     replace HO_7 := kO HO_7 hb
     replace HO1066 := kO HO1066 hb
     replace HO1069 := kO HO1069 hb
     replace HO1074 := kO HO1074 hb
     replace HO1077 := kO HO1077 hb
     replace BK1044 := kB BK1044 hb
     replace BK1045 := kB BK1045 hb
     replace BK1070 := kB BK1070 hb
     replace BK1081 := kB BK1081 hb
     replace HB := kH _ hb
     (try clear hb)
     (try clear hb2)
     (try clear hk)
     (try clear hi)
     refine hK.out _ _ ⟨bc BK1044 0, bc BK1044 1, bc BK1044 2, bc BK1045 0, bc BK1045 1⟩ (fun hHeld => ?_)
     clear hK K
     refine norm_ (a' := ?_) ?_ ?_
     rotate_left
     ·show Act.put _ (some 75) _ = _
      simp only [Act.put, List.setIfInBounds_toArray, List.set_cons_zero, List.set_cons_succ, i64_w, i32_w]
      rfl
     refine pS 4 71 10 159 ?_
     refine pS 5 76 10 191 ?_
     refine pS 6 77 10 255 ?_
     exact norm_ (by simp only [putAll, Act.put, List.setIfInBounds_toArray, List.set_cons_zero, List.set_cons_succ]) (hCont (.slice Ao70 t1072.length co70, .slice Ao71 t1075.length co71, gb1081) _ ⟨hHeld, (rD (Kd.R_mono HO1066.out (fun _ hk => ⟨hk.1.1, ⟨hk.1.2, hk.2⟩⟩))), (rD (Kd.R_mono HO1069.out (fun _ hk => ⟨hk.1.1, ⟨hk.1.2, hk.2⟩⟩))), (rD (Kd.R_mono HO1074.out (fun _ hk => ⟨hk.1.2, ⟨hk.2, hk.1.1⟩⟩))), (rD (Kd.R_mono HO1077.out (fun _ hk => ⟨hk.1.2, ⟨hk.2, hk.1.1⟩⟩))), (rC HO_7), (bkC BK1044), (bkC BK1045), (bkC BK1070), (bkC BK1081), GW1081.out, GE1081.out, NB1044_1081.out, NB1081_1044.out, NB1045_1081.out, NB1081_1045.out, NB1070_1081.out, NB1081_1070.out, (hbC _)⟩)
   rintro ⟨v1073, v1076, gb1081⟩ w73 ⟨hS_, h0_, h1_, h2_, h3_, h4_, h5_, h6_, h7_, h8_, h9_, h10_, h11_, h12_, h13_, h14_, h15_, h16_, h17_⟩
   have n0_ : Aside0 (Kd.R (Kd.int .i64) 3 w73 w.heap.size (fun k_ => nb k_ (.slice Ao61 y1067.length co61) ∧ nb k_ v1073 ∧ nb k_ v1076) (.slice Ao62 t1064.length co62) t1064) := ⟨h0_⟩
   have n1_ : Aside0 (Kd.R (Kd.int .i64) 3 w73 w.heap.size (fun k_ => nb k_ (.slice Ao62 t1064.length co62) ∧ nb k_ v1073 ∧ nb k_ v1076) (.slice Ao61 y1067.length co61) y1067) := ⟨h1_⟩
   have n2_ : Aside0 (Kd.R (Kd.int .i64) 3 w73 w.heap.size (fun k_ => nb k_ (.slice Ao62 t1064.length co62) ∧ nb k_ (.slice Ao61 y1067.length co61) ∧ nb k_ v1076) v1073 t1072) := ⟨h2_⟩
   have n3_ : Aside0 (Kd.R (Kd.int .i64) 3 w73 w.heap.size (fun k_ => nb k_ (.slice Ao62 t1064.length co62) ∧ nb k_ (.slice Ao61 y1067.length co61) ∧ nb k_ v1073) v1076 t1075) := ⟨h3_⟩
   have n4_ : Aside0 (Kd.R k26 26 w73 w.heap.size (fun k_ => k_ ≠ gb1045 ∧ k_ ≠ gb1081) v1054 t1053) := ⟨h4_⟩
   have n5_ : Aside0 (w73.heap[gb1044]? = some (.cells #[.int .i64 a0_0, .slice A0_1 l0_1.length c0_1, .slice A0_2 l0_2.length c0_2] 24 (0, 0))) := ⟨h5_⟩
   have n6_ : Aside0 (w73.heap[gb1045]? = some (.cells #[.int .i64 a2_0, .int .i64 a2_1] 26 (0, 0))) := ⟨h6_⟩
   have n7_ : Aside0 (w73.heap[gb1070]? = some (.cells #[.int .i64 a0_0, .slice Ao62 t1064.length co62, .slice Ao61 y1067.length co61] 24 (0, 0))) := ⟨h7_⟩
   have n8_ : Aside0 (w73.heap[gb1081]? = some (.cells #[.int .i64 0, .int .i64 0] 26 (0, 0))) := ⟨h8_⟩
   have n9_ : Aside0 (w.heap.size ≤ gb1081) := ⟨h9_⟩
   have n10_ : Aside0 (w.heap.size ≤ gb1081) := ⟨h10_⟩
   have n11_ : Aside0 (gb1044 ≠ gb1081) := ⟨h11_⟩
   have n12_ : Aside0 (gb1081 ≠ gb1044) := ⟨h12_⟩
   have n13_ : Aside0 (gb1045 ≠ gb1081) := ⟨h13_⟩
   have n14_ : Aside0 (gb1081 ≠ gb1045) := ⟨h14_⟩
   have n15_ : Aside0 (gb1070 ≠ gb1081) := ⟨h15_⟩
   have n16_ : Aside0 (gb1081 ≠ gb1070) := ⟨h16_⟩
   have n17_ : Aside0 (Below w.heap.size w w73) := ⟨h17_⟩
   clear HO_7
   clear HO1066
   clear HO1069
   clear BK1044
   clear BK1045
   clear BK1070
   clear HB
   clear h0_ h1_ h2_ h3_ h4_ h5_ h6_ h7_ h8_ h9_ h10_ h11_ h12_ h13_ h14_ h15_ h16_ h17_
   have HO1066 := n0_
   have HO1069 := n1_
   have HO1074 := n2_
   have HO1077 := n3_
   have HO_7 := n4_
   have BK1044 := n5_
   have BK1045 := n6_
   have BK1070 := n7_
   have BK1081 := n8_
   have GW1081 := n9_
   have GE1081 := n10_
   have NB1044_1081 := n11_
   have NB1081_1044 := n12_
   have NB1045_1081 := n13_
   have NB1081_1045 := n14_
   have NB1070_1081 := n15_
   have NB1081_1070 := n16_
   have HB := n17_
   clear n0_ n1_ n2_ n3_ n4_ n5_ n6_ n7_ n8_ n9_ n10_ n11_ n12_ n13_ n14_ n15_ n16_ n17_
   have hHeld : w73.cell? ⟨gb1044, 0, none⟩ = some (.int .i64 a0_0) ∧ w73.cell? ⟨gb1044, 1, none⟩ = some (.slice A0_1 l0_1.length c0_1) ∧ w73.cell? ⟨gb1044, 2, none⟩ = some (.slice A0_2 l0_2.length c0_2) ∧ w73.cell? ⟨gb1045, 0, none⟩ = some (.int .i64 a2_0) ∧ w73.cell? ⟨gb1045, 1, none⟩ = some (.int .i64 a2_1) := hS_
   refine norm_ (a' := ?_) ?_ ?_
   rotate_left
   ·simp only [putAll, Act.put, List.setIfInBounds_toArray, List.set_cons_zero, List.set_cons_succ]
    rfl
   refine one_ (i := 8) (N := none) (ba 10 511) rfl rfl (one_of HT_.out (by kernel_rfl)) (by decide) (fun K hK => ?_)
   have hs74 : w73.cell? ⟨gb1081, 0, none⟩ = some (.int .i64 0) := bc BK1081 0
   have hfs74 := fz BK1081 0
   have hns74_0 := NB1044_1081.out
   have hns74_1 := NB1045_1081.out
   have hns74_2 := NB1070_1081.out
   have hms74_0 := NB1081_1044.out
   have hms74_1 := NB1081_1045.out
   have hms74_2 := NB1081_1070.out
   have hs75 : w73.cell? ⟨gb1081, 1, none⟩ = some (.int .i64 0) := bc BK1081 1
   have hfs75 := fz BK1081 1
   have hns75_0 := NB1044_1081.out
   have hns75_1 := NB1045_1081.out
   have hns75_2 := NB1070_1081.out
   have hms75_0 := NB1081_1044.out
   have hms75_1 := NB1081_1045.out
   have hms75_2 := NB1081_1070.out
   refine skip_ (w1 := ?_) (by rfl) rfl ?_ ?_
   rotate_left
   ·go_simp
    rfl
   refine hK.out _ _ ⟨((cell_far (p := ⟨gb1081, _, none⟩) NB1044_1081.out _).trans (((cell_far (p := ⟨gb1081, _, none⟩) NB1044_1081.out _).trans (hHeld.1)))), ((cell_far (p := ⟨gb1081, _, none⟩) NB1044_1081.out _).trans (((cell_far (p := ⟨gb1081, _, none⟩) NB1044_1081.out _).trans (hHeld.2.1)))), ((cell_far (p := ⟨gb1081, _, none⟩) NB1044_1081.out _).trans (((cell_far (p := ⟨gb1081, _, none⟩) NB1044_1081.out _).trans (hHeld.2.2.1)))), ((cell_far (p := ⟨gb1081, _, none⟩) NB1045_1081.out _).trans (((cell_far (p := ⟨gb1081, _, none⟩) NB1045_1081.out _).trans (hHeld.2.2.2.1)))), ((cell_far (p := ⟨gb1081, _, none⟩) NB1045_1081.out _).trans (((cell_far (p := ⟨gb1081, _, none⟩) NB1045_1081.out _).trans (hHeld.2.2.2.2))))⟩ (fun hHeld => ?_)
   clear hK K
   refine pS 9 11 10 1023 ?_
   refine done_ (done_of HT_.out (by kernel_rfl)) ?_
   try go_wp2
   have n0_ : Aside0 (Kd.R k26 26 ((w73.setCell ⟨gb1081, 0, none⟩ (.int .i64 t1078)).setCell ⟨gb1081, 1, none⟩ (.int .i64 t1079)) w.heap.size (fun k_ => k_ ≠ gb1045 ∧ k_ ≠ gb1081) v1054 t1053) := ⟨rD (Kd.R_mono (Kd.R_far (p := ⟨gb1081, 1, none⟩) (Kd.R_far (p := ⟨gb1081, 0, none⟩) (Kd.R_mono HO_7.out (fun k_ hk => (⟨hk, hk.2⟩ : _ ∧ k_ ≠ gb1081))) (fun _ hk => hk.2) (.int .i64 t1078)) (fun _ hk => hk.2) (.int .i64 t1079)) (fun _ hk => ⟨hk.1.1, hk.1.2⟩))⟩
   have n1_ : Aside0 (Kd.R (Kd.int .i64) 3 ((w73.setCell ⟨gb1081, 0, none⟩ (.int .i64 t1078)).setCell ⟨gb1081, 1, none⟩ (.int .i64 t1079)) w.heap.size (fun k_ => nb k_ (.slice Ao61 y1067.length co61) ∧ nb k_ v1073 ∧ nb k_ v1076) (.slice Ao62 t1064.length co62) t1064) := ⟨rD (Kd.R_mono (Kd.R_far (p := ⟨gb1081, 1, none⟩) (Kd.R_far (p := ⟨gb1081, 0, none⟩) (Kd.R_types HO1066.out BK1081.out (by decide)) (fun _ hk => hk.2) (.int .i64 t1078)) (fun _ hk => hk.2) (.int .i64 t1079)) (fun _ hk => ⟨hk.1.1, ⟨hk.1.2.1, hk.1.2.2⟩⟩))⟩
   have n2_ : Aside0 (Kd.R (Kd.int .i64) 3 ((w73.setCell ⟨gb1081, 0, none⟩ (.int .i64 t1078)).setCell ⟨gb1081, 1, none⟩ (.int .i64 t1079)) w.heap.size (fun k_ => nb k_ (.slice Ao62 t1064.length co62) ∧ nb k_ v1073 ∧ nb k_ v1076) (.slice Ao61 y1067.length co61) y1067) := ⟨rD (Kd.R_mono (Kd.R_far (p := ⟨gb1081, 1, none⟩) (Kd.R_far (p := ⟨gb1081, 0, none⟩) (Kd.R_types HO1069.out BK1081.out (by decide)) (fun _ hk => hk.2) (.int .i64 t1078)) (fun _ hk => hk.2) (.int .i64 t1079)) (fun _ hk => ⟨hk.1.1, ⟨hk.1.2.1, hk.1.2.2⟩⟩))⟩
   have n3_ : Aside0 (Kd.R (Kd.int .i64) 3 ((w73.setCell ⟨gb1081, 0, none⟩ (.int .i64 t1078)).setCell ⟨gb1081, 1, none⟩ (.int .i64 t1079)) w.heap.size (fun k_ => nb k_ (.slice Ao62 t1064.length co62) ∧ nb k_ (.slice Ao61 y1067.length co61) ∧ nb k_ v1076) v1073 t1072) := ⟨rD (Kd.R_mono (Kd.R_far (p := ⟨gb1081, 1, none⟩) (Kd.R_far (p := ⟨gb1081, 0, none⟩) (Kd.R_types HO1074.out BK1081.out (by decide)) (fun _ hk => hk.2) (.int .i64 t1078)) (fun _ hk => hk.2) (.int .i64 t1079)) (fun _ hk => ⟨hk.1.1, ⟨hk.1.2.1, hk.1.2.2⟩⟩))⟩
   have n4_ : Aside0 (Kd.R (Kd.int .i64) 3 ((w73.setCell ⟨gb1081, 0, none⟩ (.int .i64 t1078)).setCell ⟨gb1081, 1, none⟩ (.int .i64 t1079)) w.heap.size (fun k_ => nb k_ (.slice Ao62 t1064.length co62) ∧ nb k_ (.slice Ao61 y1067.length co61) ∧ nb k_ v1073) v1076 t1075) := ⟨rD (Kd.R_mono (Kd.R_far (p := ⟨gb1081, 1, none⟩) (Kd.R_far (p := ⟨gb1081, 0, none⟩) (Kd.R_types HO1077.out BK1081.out (by decide)) (fun _ hk => hk.2) (.int .i64 t1078)) (fun _ hk => hk.2) (.int .i64 t1079)) (fun _ hk => ⟨hk.1.1, ⟨hk.1.2.1, hk.1.2.2⟩⟩))⟩
   have n5_ : Aside0 (((w73.setCell ⟨gb1081, 0, none⟩ (.int .i64 t1078)).setCell ⟨gb1081, 1, none⟩ (.int .i64 t1079)).heap[gb1044]? = some (.cells #[.int .i64 a0_0, .slice A0_1 l0_1.length c0_1, .slice A0_2 l0_2.length c0_2] 24 (0, 0))) := ⟨bF BK1044⟩
   have n6_ : Aside0 (((w73.setCell ⟨gb1081, 0, none⟩ (.int .i64 t1078)).setCell ⟨gb1081, 1, none⟩ (.int .i64 t1079)).heap[gb1045]? = some (.cells #[.int .i64 a2_0, .int .i64 a2_1] 26 (0, 0))) := ⟨bF BK1045⟩
   have n7_ : Aside0 (((w73.setCell ⟨gb1081, 0, none⟩ (.int .i64 t1078)).setCell ⟨gb1081, 1, none⟩ (.int .i64 t1079)).heap[gb1070]? = some (.cells #[.int .i64 a0_0, .slice Ao62 t1064.length co62, .slice Ao61 y1067.length co61] 24 (0, 0))) := ⟨bF BK1070⟩
   have n8_ : Aside0 (((w73.setCell ⟨gb1081, 0, none⟩ (.int .i64 t1078)).setCell ⟨gb1081, 1, none⟩ (.int .i64 t1079)).heap[gb1081]? = some (.cells #[.int .i64 t1078, .int .i64 t1079] 26 (0, 0))) := ⟨by (with_reducible repeat (first | refine blk_drewN ?_ _ | refine blk_drew ?_ | refine blk_alloc ?_ _)); refine blk_put (cs := #[.int .i64 t1078, .int .i64 0]) ?_ 1 _ rfl; (with_reducible repeat (first | refine blk_drewN ?_ _ | refine blk_drew ?_ | refine blk_alloc ?_ _)); refine blk_put (cs := #[.int .i64 0, .int .i64 0]) ?_ 0 _ rfl; (with_reducible repeat (first | refine blk_drewN ?_ _ | refine blk_drew ?_ | refine blk_alloc ?_ _)); exact BK1081.out⟩
   have n9_ : Aside0 (Below w.heap.size w ((w73.setCell ⟨gb1081, 0, none⟩ (.int .i64 t1078)).setCell ⟨gb1081, 1, none⟩ (.int .i64 t1079))) := ⟨hbC _⟩
   (try clear HO_7)
   (try clear HO1066)
   (try clear HO1069)
   (try clear HO1074)
   (try clear HO1077)
   (try clear BK1044)
   (try clear BK1045)
   (try clear BK1070)
   (try clear BK1081)
   (try clear HB)
   generalize ((w73.setCell ⟨gb1081, 0, none⟩ (.int .i64 t1078)).setCell ⟨gb1081, 1, none⟩ (.int .i64 t1079)) = w76 at n0_ n1_ n2_ n3_ n4_ n5_ n6_ n7_ n8_ n9_ ⊢
   have HO_7 := n0_
   have HO1066 := n1_
   have HO1069 := n2_
   have HO1074 := n3_
   have HO1077 := n4_
   have BK1044 := n5_
   have BK1045 := n6_
   have BK1070 := n7_
   have BK1081 := n8_
   have HB := n9_
   clear n0_ n1_ n2_ n3_ n4_ n5_ n6_ n7_ n8_ n9_
   replace HO_7 := ak (Kd.R_drew HO_7.out)
   replace HO1066 := ak (Kd.R_drew HO1066.out)
   replace HO1069 := ak (Kd.R_drew HO1069.out)
   replace HO1074 := ak (Kd.R_drew HO1074.out)
   replace HO1077 := ak (Kd.R_drew HO1077.out)
   replace BK1044 := kd BK1044
   replace BK1045 := kd BK1045
   replace BK1070 := kd BK1070
   replace BK1081 := kd BK1081
   replace HB := ak (below_drew1 HB.out)
   refine sS (n := 9) (S := fun w' => w'.cell? ⟨gb1070, 0, none⟩ = some (.int .i64 a0_0) ∧ w'.cell? ⟨gb1070, 1, none⟩ = some (.slice Ao62 t1064.length co62) ∧ w'.cell? ⟨gb1070, 2, none⟩ = some (.slice Ao61 y1067.length co61) ∧ w'.cell? ⟨gb1045, 0, none⟩ = some (.int .i64 a2_0) ∧ w'.cell? ⟨gb1045, 1, none⟩ = some (.int .i64 a2_1)) (ds := []) ⟨bc BK1070 0, bc BK1070 1, bc BK1070 2, bc BK1045 0, bc BK1045 1⟩ (fun hHeld => ?_); refine with_tabW congoulaw04_CurvesKnot.tab6 congoulaw04_CurvesKnot.bits6 (fun HT_ HW_ => ?_)
   generalize w76.drew = w77 at HO_7 HO1066 HO1069 HO1074 HO1077 BK1044 BK1045 BK1070 BK1081 HB hHeld ⊢
   refine tS 0 79 9 1 ?_
   refine tS 2 81 9 5 ?_
   refine one_ (i := 1) (N := some 80) (ba 9 7) rfl rfl (one_of HT_.out (by kernel_rfl)) (by decide) (fun K hK => ?_)
   refine gC Try.func15 #[.agg #[.int .i64 a0_0, .slice Ao62 t1064.length co62, .slice Ao61 y1067.length co61]] ?_
   with_reducible refine (congoulaw04_Of.calls a0_0 _ _ t1064 _ _ y1067 t1082 t1083 t1086 _ ?side1 ?side2 ?side3 ?side4 A50.out).mono ?_
   (case side1 => exact kD (Kd.R_reads' HO1066.out).2.2)
   (case side2 => exact (Kd.R_reads' HO1066.out).2.1)
   (case side3 => exact kD (Kd.R_reads' HO1069.out).2.2)
   (case side4 => exact (Kd.R_reads' HO1069.out).2.1)
   rintro e w78 ⟨v1084, v1087, rfl, ho0, ho1, hb⟩
   refine ⟨_, rfl, ?_⟩
   replace HO_7 := kO HO_7 hb
   have HO1085 := ak (Kd.R_lower (Kd.R_new' (Kd.R_new' (Kd.R_new' (Kd.R_new' ho0 (Kd.R_lt (rC HO1066))) (Kd.R_lt (rC HO1069))) (Kd.R_lt (rC HO1074))) (Kd.R_lt (rC HO1077))) (below_size (hbC _)))
   have HO1088 := ak (Kd.R_lower (Kd.R_new' (Kd.R_new' (Kd.R_new' (Kd.R_new' ho1 (Kd.R_lt (rC HO1066))) (Kd.R_lt (rC HO1069))) (Kd.R_lt (rC HO1074))) (Kd.R_lt (rC HO1077))) (below_size (hbC _)))
   replace HO1066 := kT HO1066 hb ho0 ho1
   replace HO1069 := kT HO1069 hb ho0 ho1
   replace HO1074 := kT HO1074 hb ho0 ho1
   replace HO1077 := kT HO1077 hb ho0 ho1
   replace BK1044 := kB BK1044 hb
   replace BK1045 := kB BK1045 hb
   replace BK1070 := kB BK1070 hb
   replace BK1081 := kB BK1081 hb
   replace HB := kH _ hb
   (try clear hb)
   (try clear hb2)
   (try clear hk)
   (try clear hi)
   (try clear ho0)
   (try clear ho1)
   obtain ⟨Ao79, co79, eo79⟩ := Kd.R_slice HO1085.out
   (first | subst eo79 | (injection eo79 with f1_ f2_ f3_; have f4_ := f1_.symm; have f5_ := f3_.symm; clear f1_ f2_ f3_; subst f4_; subst f5_))
   obtain ⟨Ao80, co80, eo80⟩ := Kd.R_slice HO1088.out
   (first | subst eo80 | (injection eo80 with f1_ f2_ f3_; have f4_ := f1_.symm; have f5_ := f3_.symm; clear f1_ f2_ f3_; subst f4_; subst f5_))
   refine hK.out _ _ ⟨bc BK1070 0, bc BK1070 1, bc BK1070 2, bc BK1045 0, bc BK1045 1⟩ (fun hHeld => ?_)
   clear hK K
   refine norm_ (a' := ?_) ?_ ?_
   rotate_left
   ·show Act.put _ (some 80) _ = _
    simp only [Act.put, List.setIfInBounds_toArray, List.set_cons_zero, List.set_cons_succ, i64_w, i32_w]
    rfl
   refine one_ (i := 3) (N := some 82) (ba 9 15) rfl rfl (one_of HT_.out (by kernel_rfl)) (by decide) (fun K hK => ?_)
   refine gC Try.func18 #[.agg #[.int .i64 t1082, .slice Ao79 t1083.length co79, .slice Ao80 t1086.length co80], .agg #[.int .i64 a2_0, .int .i64 a2_1]] ?_
   with_reducible refine (curves_Basic.calls kj5 t1082 _ _ t1083 _ _ t1086 a2_0 a2_1 t1089 t1092 _ ?side1 ?side2 ?side3 ?side4 A51.out).mono ?_
   (case side1 => exact kD (Kd.R_reads' HO1085.out).2.2)
   (case side2 => exact (Kd.R_reads' HO1085.out).2.1)
   (case side3 => exact kD (Kd.R_reads' HO1088.out).2.2)
   (case side4 => exact (Kd.R_reads' HO1088.out).2.1)
   rintro e w81 ⟨v1090, rfl, ho0, hb⟩
   refine ⟨_, rfl, ?_⟩
   replace HO1066 := kO HO1066 hb
   replace HO1069 := kO HO1069 hb
   replace HO1074 := kO HO1074 hb
   replace HO1077 := kO HO1077 hb
   replace HO1085 := kO HO1085 hb
   replace HO1088 := kO HO1088 hb
   have HO1091 := ak (Kd.R_lower (Kd.R_newB (Kd.R_newB (Kd.R_new' ho0 (Kd.R_lt (rC HO_7))) (g := gb1045) (o := .cells #[.int .i64 a2_0, .int .i64 a2_1] 26 (0, 0)) (bkC BK1045)) (g := gb1081) (o := .cells #[.int .i64 t1078, .int .i64 t1079] 26 (0, 0)) (bkC BK1081)) (below_size (hbC _)))
   replace HO_7 := ak (Kd.R_elder' (rC HO_7) (Kd.R_base ho0) hb)
   replace BK1044 := kB BK1044 hb
   replace BK1045 := kB BK1045 hb
   replace BK1070 := kB BK1070 hb
   replace BK1081 := kB BK1081 hb
   replace HB := kH _ hb
   (try clear hb)
   (try clear hb2)
   (try clear hk)
   (try clear hi)
   (try clear ho0)
   refine hK.out _ _ ⟨bc BK1070 0, bc BK1070 1, bc BK1070 2, bc BK1045 0, bc BK1045 1⟩ (fun hHeld => ?_)
   clear hK K
   refine norm_ (a' := ?_) ?_ ?_
   rotate_left
   ·show Act.put _ (some 82) _ = _
    simp only [Act.put, List.setIfInBounds_toArray, List.set_cons_zero, List.set_cons_succ, i64_w, i32_w]
    rfl
   refine pS 4 78 9 31 ?_
   refine pS 5 83 9 63 ?_
   refine pS 6 84 9 127 ?_
   refine pS 7 12 9 255 ?_
   refine pS 8 13 9 511 ?_
   refine done_ (done_of HT_.out (by kernel_rfl)) ?_
   go_upto_region 7 with (fail)
   go_cut [110] (fun v110 wc => ∃ (kq : Nat) (x110_51 : Bool), v110 = .bool x110_51 ∧ Aside0 (congoulaw04_CurvesKnot.j1 kq t1053 t1089 x110_51 t1078 t1079 = some r) ∧ Aside0 (kq ≤ kj5) ∧ Aside0 (Kd.R k26 26 wc w.heap.size (fun k_ => nb k_ v1090 ∧ k_ ≠ gb1045 ∧ k_ ≠ gb1081) v1054 t1053) ∧ Aside0 (Kd.R k26 26 wc w.heap.size (fun k_ => nb k_ v1054 ∧ k_ ≠ gb1045 ∧ k_ ≠ gb1081) v1090 t1089) ∧ Aside0 (Kd.R (Kd.int .i64) 3 wc w.heap.size (fun k_ => some k_ ≠ ((.slice Ao61 y1067.length co61) : Value).ownBlock) (.slice Ao62 t1064.length co62) t1064) ∧ Aside0 (Kd.R (Kd.int .i64) 3 wc w.heap.size (fun k_ => some k_ ≠ ((.slice Ao62 t1064.length co62) : Value).ownBlock) (.slice Ao61 y1067.length co61) y1067) ∧ Aside0 (wc.heap[gb1044]? = some (.cells #[.int .i64 a0_0, (.slice A0_1 l0_1.length c0_1), (.slice A0_2 l0_2.length c0_2)] 24 (0, 0))) ∧ Aside0 (wc.heap[gb1045]? = some (.cells #[.int .i64 a2_0, .int .i64 a2_1] 26 (0, 0))) ∧ Aside0 (wc.heap[gb1070]? = some (.cells #[.int .i64 a0_0, (.slice Ao62 t1064.length co62), (.slice Ao61 y1067.length co61)] 24 (0, 0))) ∧ Aside0 (wc.heap[gb1081]? = some (.cells #[.int .i64 t1078, .int .i64 t1079] 26 (0, 0))) ∧ Aside0 (Below w.heap.size w wc))
   case first =>
    have H := HC52.out
    clear HC52
    by_cases c82 : t1080 = 0
    rotate_left
    ·rw [if_neg c82] at H
     have c82b0 : (t1080 == 0) = false := beq_eq_false_iff_ne.mpr c82
     have c82b1 : (t1080 != 0) = true := bne_iff_ne.mpr c82
     (first | rw [c82b0] | (simp only [i64_w, i32_w]; rw [c82b0]) | skip)
     have H' := Aside0.mk H
     clear H
     go_wp2
     go_meet
     case rel => exact ⟨_, (true), (by first | rfl | (simp; done) | (simp [*]; done)), H', ⟨by have := HJ5.out; first | omega | exact Nat.le_refl _⟩, ⟨rD (Kd.R_mono HO_7.out (fun _ hk => ⟨hk.2, ⟨hk.1.1, hk.1.2⟩⟩))⟩, ⟨rD (Kd.R_mono HO1091.out (fun _ hk => ⟨hk.1.1.2, ⟨hk.1.2, hk.2⟩⟩))⟩, ⟨rD (Kd.R_mono HO1066.out (fun _ hk => hk.1.1.1))⟩, ⟨rD (Kd.R_mono HO1069.out (fun _ hk => hk.1.1.1))⟩, ⟨bkC BK1044⟩, ⟨bkC BK1045⟩, ⟨bkC BK1070⟩, ⟨bkC BK1081⟩, ⟨hbC _⟩⟩
    rw [if_pos c82] at H
    have c82b0 : (t1080 == 0) = true := beq_iff_eq.mpr c82
    have c82b1 : (t1080 != 0) = false := bne_eq_false_iff_eq.mpr c82
    clear c82
    (first | rw [c82b0] | (simp only [i64_w, i32_w]; rw [c82b0]) | skip)
    by_cases c83 : t1092 = 0
    rotate_left
    ·rw [if_neg c83] at H
     have c83b0 : (t1092 == 0) = false := beq_eq_false_iff_ne.mpr c83
     have c83b1 : (t1092 != 0) = true := bne_iff_ne.mpr c83
     have H' := Aside0.mk H
     clear H
     go_wp2
     go_meet
     case rel => exact ⟨_, (true), (by first | rfl | (simp; done) | (simp [*]; done)), H', ⟨by have := HJ5.out; first | omega | exact Nat.le_refl _⟩, ⟨rD (Kd.R_mono HO_7.out (fun _ hk => ⟨hk.2, ⟨hk.1.1, hk.1.2⟩⟩))⟩, ⟨rD (Kd.R_mono HO1091.out (fun _ hk => ⟨hk.1.1.2, ⟨hk.1.2, hk.2⟩⟩))⟩, ⟨rD (Kd.R_mono HO1066.out (fun _ hk => hk.1.1.1))⟩, ⟨rD (Kd.R_mono HO1069.out (fun _ hk => hk.1.1.1))⟩, ⟨bkC BK1044⟩, ⟨bkC BK1045⟩, ⟨bkC BK1070⟩, ⟨bkC BK1081⟩, ⟨hbC _⟩⟩
    rw [if_pos c83] at H
    have c83b0 : (t1092 == 0) = true := beq_iff_eq.mpr c83
    have c83b1 : (t1092 != 0) = false := bne_eq_false_iff_eq.mpr c83
    clear c83
    replace H := Option.bind_eq_some_iff.mp H
    obtain ⟨t1093, A840, H⟩ := H
    replace H : (if t1093 = true then (if (t1089.length : Int) = (y1067.length : Int) then (congoulaw04_CurvesKnot.j1 kj5 t1053 t1089 ((t1053.length : Int) != (t1089.length : Int)) t1078 t1079) else (congoulaw04_CurvesKnot.j1 kj5 t1053 t1089 true t1078 t1079)) else (congoulaw04_CurvesKnot.j1 kj5 t1053 t1089 true t1078 t1079)) = some r := H
    have A84 := Aside0.mk A840
    clear A840
    by_cases c85 : t1093 = true
    rotate_left
    ·replace c85 := Bool.eq_false_iff.mpr c85
     subst c85
     have H1 : (congoulaw04_CurvesKnot.j1 kj5 t1053 t1089 true t1078 t1079) = some r := by rw [if_neg (show ¬ (false = true) by decide)] at H; exact H
     clear H
     have H := H1
     clear H1
     have H' := Aside0.mk H
     clear H
     have hnb102 := NB1070_1044.out
     have hnc102 := NB1044_1070.out
     have hnb103 := NB1070_1045.out
     have hnc103 := NB1045_1070.out
     have hnb104 := NB1070_1081.out
     have hnc104 := NB1081_1070.out
     have hcz105_0 : w81.cell? ⟨gb1070, 0, none⟩ = some (.int .i64 a0_0) := bc BK1070 0
     have hcz105_1 : w81.cell? ⟨gb1070, 1, none⟩ = some (.slice Ao62 t1064.length co62) := bc BK1070 1
     have hcz105_2 : w81.cell? ⟨gb1070, 2, none⟩ = some (.slice Ao61 y1067.length co61) := bc BK1070 2
     have hfz105_0 := fz BK1070 0
     have hfz105_1 := fz BK1070 1
     have hfz105_2 := fz BK1070 2
     go_wp2_with (first | (go_at_call 29; (with_reducible refine (congouref04_Valid.calls kj5 a0_0 _ _ t1064 _ _ y1067 false _ ?side1 ?side2 ?side3 ?side4 A84.out).mono ?_); (case side1 => exact kD (Kd.R_reads' HO1066.out).2.2); (case side2 => exact (Kd.R_reads' HO1066.out).2.1); (case side3 => exact kD (Kd.R_reads' HO1069.out).2.2); (case side4 => exact (Kd.R_reads' HO1069.out).2.1); rintro e w106 ⟨rfl, hb⟩; replace HO_7 := kO HO_7 hb; replace HO1066 := kO HO1066 hb; replace HO1069 := kO HO1069 hb; replace HO1074 := kO HO1074 hb; replace HO1077 := kO HO1077 hb; replace HO1085 := kO HO1085 hb; replace HO1088 := kO HO1088 hb; replace HO1091 := kO HO1091 hb; replace BK1044 := kB BK1044 hb; replace BK1045 := kB BK1045 hb; replace BK1070 := kB BK1070 hb; replace BK1081 := kB BK1081 hb; replace HB := kH _ hb; (try clear hb); (try clear hb2); (try clear hk); (try clear hi)))
     go_meet
     case rel => exact ⟨_, (true), (by first | rfl | (simp; done) | (simp [*]; done)), H', ⟨by have := HJ5.out; first | omega | exact Nat.le_refl _⟩, ⟨rD (Kd.R_mono HO_7.out (fun _ hk => ⟨hk.2, ⟨hk.1.1, hk.1.2⟩⟩))⟩, ⟨rD (Kd.R_mono HO1091.out (fun _ hk => ⟨hk.1.1.2, ⟨hk.1.2, hk.2⟩⟩))⟩, ⟨rD (Kd.R_mono HO1066.out (fun _ hk => hk.1.1.1))⟩, ⟨rD (Kd.R_mono HO1069.out (fun _ hk => hk.1.1.1))⟩, ⟨bkC BK1044⟩, ⟨bkC BK1045⟩, ⟨bkC BK1070⟩, ⟨bkC BK1081⟩, ⟨hbC _⟩⟩
    subst c85
    have H1 : (if (t1089.length : Int) = (y1067.length : Int) then (congoulaw04_CurvesKnot.j1 kj5 t1053 t1089 ((t1053.length : Int) != (t1089.length : Int)) t1078 t1079) else (congoulaw04_CurvesKnot.j1 kj5 t1053 t1089 true t1078 t1079)) = some r := by rw [if_pos rfl] at H; exact H
    clear H
    have H := H1
    clear H1
    by_cases c86 : (t1089.length : Int) = (y1067.length : Int)
    rotate_left
    ·rw [if_neg c86] at H
     have c86b0 : ((t1089.length : Int) == (y1067.length : Int)) = false := beq_eq_false_iff_ne.mpr c86
     have c86b1 : ((t1089.length : Int) != (y1067.length : Int)) = true := bne_iff_ne.mpr c86
     have c86b2 : (t1089.length == y1067.length) = false := by first | simpa using c86 | (simp at c86 ⊢; omega)
     have H' := Aside0.mk H
     clear H
     have hnb95 := NB1070_1044.out
     have hnc95 := NB1044_1070.out
     have hnb96 := NB1070_1045.out
     have hnc96 := NB1045_1070.out
     have hnb97 := NB1070_1081.out
     have hnc97 := NB1081_1070.out
     have hcz98_0 : w81.cell? ⟨gb1070, 0, none⟩ = some (.int .i64 a0_0) := bc BK1070 0
     have hcz98_1 : w81.cell? ⟨gb1070, 1, none⟩ = some (.slice Ao62 t1064.length co62) := bc BK1070 1
     have hcz98_2 : w81.cell? ⟨gb1070, 2, none⟩ = some (.slice Ao61 y1067.length co61) := bc BK1070 2
     have hfz98_0 := fz BK1070 0
     have hfz98_1 := fz BK1070 1
     have hfz98_2 := fz BK1070 2
     go_wp2_with (first | (go_at_call 29; (with_reducible refine (congouref04_Valid.calls kj5 a0_0 _ _ t1064 _ _ y1067 true _ ?side1 ?side2 ?side3 ?side4 A84.out).mono ?_); (case side1 => exact kD (Kd.R_reads' HO1066.out).2.2); (case side2 => exact (Kd.R_reads' HO1066.out).2.1); (case side3 => exact kD (Kd.R_reads' HO1069.out).2.2); (case side4 => exact (Kd.R_reads' HO1069.out).2.1); rintro e w99 ⟨rfl, hb⟩; replace HO_7 := kO HO_7 hb; replace HO1066 := kO HO1066 hb; replace HO1069 := kO HO1069 hb; replace HO1074 := kO HO1074 hb; replace HO1077 := kO HO1077 hb; replace HO1085 := kO HO1085 hb; replace HO1088 := kO HO1088 hb; replace HO1091 := kO HO1091 hb; replace BK1044 := kB BK1044 hb; replace BK1045 := kB BK1045 hb; replace BK1070 := kB BK1070 hb; replace BK1081 := kB BK1081 hb; replace HB := kH _ hb; (try clear hb); (try clear hb2); (try clear hk); (try clear hi); obtain ⟨Ao100, co100, eo100⟩ := Kd.R_slice HO1091.out; subst eo100; have hcz101_0 : w99.cell? ⟨gb1070, 0, none⟩ = some (.int .i64 a0_0) := bc BK1070 0; have hcz101_1 : w99.cell? ⟨gb1070, 1, none⟩ = some (.slice Ao62 t1064.length co62) := bc BK1070 1; have hcz101_2 : w99.cell? ⟨gb1070, 2, none⟩ = some (.slice Ao61 y1067.length co61) := bc BK1070 2; have hfz101_0 := fz BK1070 0; have hfz101_1 := fz BK1070 1; have hfz101_2 := fz BK1070 2))
     go_meet
     case rel => exact ⟨_, (true), (by first | rfl | (simp; done) | (simp [*]; done)), H', ⟨by have := HJ5.out; first | omega | exact Nat.le_refl _⟩, ⟨rD (Kd.R_mono HO_7.out (fun _ hk => ⟨hk.2, ⟨hk.1.1, hk.1.2⟩⟩))⟩, ⟨rD (Kd.R_mono HO1091.out (fun _ hk => ⟨hk.1.1.2, ⟨hk.1.2, hk.2⟩⟩))⟩, ⟨rD (Kd.R_mono HO1066.out (fun _ hk => hk.1.1.1))⟩, ⟨rD (Kd.R_mono HO1069.out (fun _ hk => hk.1.1.1))⟩, ⟨bkC BK1044⟩, ⟨bkC BK1045⟩, ⟨bkC BK1070⟩, ⟨bkC BK1081⟩, ⟨hbC _⟩⟩
    rw [if_pos c86] at H
    have c86b0 : ((t1089.length : Int) == (y1067.length : Int)) = true := beq_iff_eq.mpr c86
    have c86b1 : ((t1089.length : Int) != (y1067.length : Int)) = false := bne_eq_false_iff_eq.mpr c86
    have c86b2 : (t1089.length == y1067.length) = true := by first | simpa using c86 | (simp at c86 ⊢; omega)
    clear c86
    have H' := Aside0.mk H
    clear H
    have hnb87 := NB1070_1044.out
    have hnc87 := NB1044_1070.out
    have hnb88 := NB1070_1045.out
    have hnc88 := NB1045_1070.out
    have hnb89 := NB1070_1081.out
    have hnc89 := NB1081_1070.out
    have hcz90_0 : w81.cell? ⟨gb1070, 0, none⟩ = some (.int .i64 a0_0) := bc BK1070 0
    have hcz90_1 : w81.cell? ⟨gb1070, 1, none⟩ = some (.slice Ao62 t1064.length co62) := bc BK1070 1
    have hcz90_2 : w81.cell? ⟨gb1070, 2, none⟩ = some (.slice Ao61 y1067.length co61) := bc BK1070 2
    have hfz90_0 := fz BK1070 0
    have hfz90_1 := fz BK1070 1
    have hfz90_2 := fz BK1070 2
    go_wp2_with (first | (go_at_call 29; (with_reducible refine (congouref04_Valid.calls kj5 a0_0 _ _ t1064 _ _ y1067 true _ ?side1 ?side2 ?side3 ?side4 A84.out).mono ?_); (case side1 => exact kD (Kd.R_reads' HO1066.out).2.2); (case side2 => exact (Kd.R_reads' HO1066.out).2.1); (case side3 => exact kD (Kd.R_reads' HO1069.out).2.2); (case side4 => exact (Kd.R_reads' HO1069.out).2.1); rintro e w91 ⟨rfl, hb⟩; replace HO_7 := kO HO_7 hb; replace HO1066 := kO HO1066 hb; replace HO1069 := kO HO1069 hb; replace HO1074 := kO HO1074 hb; replace HO1077 := kO HO1077 hb; replace HO1085 := kO HO1085 hb; replace HO1088 := kO HO1088 hb; replace HO1091 := kO HO1091 hb; replace BK1044 := kB BK1044 hb; replace BK1045 := kB BK1045 hb; replace BK1070 := kB BK1070 hb; replace BK1081 := kB BK1081 hb; replace HB := kH _ hb; (try clear hb); (try clear hb2); (try clear hk); (try clear hi); obtain ⟨Ao92, co92, eo92⟩ := Kd.R_slice HO1091.out; subst eo92; have hcz93_0 : w91.cell? ⟨gb1070, 0, none⟩ = some (.int .i64 a0_0) := bc BK1070 0; have hcz93_1 : w91.cell? ⟨gb1070, 1, none⟩ = some (.slice Ao62 t1064.length co62) := bc BK1070 1; have hcz93_2 : w91.cell? ⟨gb1070, 2, none⟩ = some (.slice Ao61 y1067.length co61) := bc BK1070 2; have hfz93_0 := fz BK1070 0; have hfz93_1 := fz BK1070 1; have hfz93_2 := fz BK1070 2; obtain ⟨Ao94, co94, eo94⟩ := Kd.R_slice HO_7.out; subst eo94))
    go_meet
    case rel => exact ⟨_, (((t1053.length : Int) != (t1089.length : Int))), (by first | rfl | (simp; done) | (simp [*]; done)), H', ⟨by have := HJ5.out; first | omega | exact Nat.le_refl _⟩, ⟨rD (Kd.R_mono HO_7.out (fun _ hk => ⟨hk.2, ⟨hk.1.1, hk.1.2⟩⟩))⟩, ⟨rD (Kd.R_mono HO1091.out (fun _ hk => ⟨hk.1.1.2, ⟨hk.1.2, hk.2⟩⟩))⟩, ⟨rD (Kd.R_mono HO1066.out (fun _ hk => hk.1.1.1))⟩, ⟨rD (Kd.R_mono HO1069.out (fun _ hk => hk.1.1.1))⟩, ⟨bkC BK1044⟩, ⟨bkC BK1045⟩, ⟨bkC BK1070⟩, ⟨bkC BK1081⟩, ⟨hbC _⟩⟩
   case rest =>
    clear HC52
    try clear c1
    try clear p2
    try clear c8
    try clear c9
    try clear c10
    try clear c14
    try clear c15
    try clear c18
    try clear c82
    try clear c82b0
    try clear c82b1
    try clear c83
    try clear c83b0
    try clear c83b1
    try clear c85
    try clear c86
    try clear c86b0
    try clear c86b1
    try clear c86b2
    try clear c87
    try clear c88
    try clear c89
    try clear c95
    try clear c96
    try clear c97
    try clear c102
    try clear c103
    try clear c104
    try clear hcz101_0
    try clear hcz101_1
    try clear hcz101_2
    try clear hcz105_0
    try clear hcz105_1
    try clear hcz105_2
    try clear hcz90_0
    try clear hcz90_1
    try clear hcz90_2
    try clear hcz93_0
    try clear hcz93_1
    try clear hcz93_2
    try clear hcz98_0
    try clear hcz98_1
    try clear hcz98_2
    try clear hfz101_0
    try clear hfz101_1
    try clear hfz101_2
    try clear hfz105_0
    try clear hfz105_1
    try clear hfz105_2
    try clear hfz90_0
    try clear hfz90_1
    try clear hfz90_2
    try clear hfz93_0
    try clear hfz93_1
    try clear hfz93_2
    try clear hfz98_0
    try clear hfz98_1
    try clear hfz98_2
    obtain ⟨kq, x110_51, rfl, HA, HJ51, HO_7, HO_12, HO_1071001, HO_1071002, BK1044, BK1045, BK1070, BK1081, HB⟩ := hcut
    cases kq with
    | zero => exact absurd HA.out (by simp [congoulaw04_CurvesKnot.j1])
    | succ kj51 =>
     have H := HA.out
     clear HA
     simp only [congoulaw04_CurvesKnot.j1] at H
     by_cases c107 : x110_51 = true
     ·subst c107
      have H1 : (some false) = some r := by rw [if_pos rfl] at H; exact H
      clear H
      have H := H1
      clear H1
      exact absurd (H.trans (congrArg some HRT.out)) (by simp)
     replace c107 := Bool.eq_false_iff.mpr c107
     subst c107
     have H1 : (congoulaw04_CurvesKnot.l0 kj51 t1089 t1053 (t1053.length : Int) 0 t1078 t1079 0 1) = some r := by rw [if_neg (show ¬ (false = true) by decide)] at H; exact H
     clear H
     have H := H1
     clear H1
     have H' := Aside0.mk H
     clear H
     go_wp2_with (first | ((with_reducible refine gate_dst (N := 14) rfl ?_); (try (refine gate_guard (by rfl) ?_; dsimp only)); refine bE 14 #[.int .i64 0, .int .i64 0] 26 ?_; intro gb1094 hg w108 hbox hb; replace HO_7 := ak (Kd.R_below (Kd.R_elderB (rC HO_7) gb1094 (Nat.le_of_eq hg.symm)) hb); replace HO_12 := ak (Kd.R_below (Kd.R_elderB (rC HO_12) gb1094 (Nat.le_of_eq hg.symm)) hb); replace HO_1071001 := kO HO_1071001 hb; replace HO_1071002 := kO HO_1071002 hb; have BK1094 := ak (hbox); have GW1094 := kG w hg; have GE1094 := kG w hg; replace HB := kH _ hb; have NB1044_1094 := kL BK1044 hg; have NB1094_1044 := kR BK1044 hg; replace BK1044 := kB BK1044 hb; have NB1045_1094 := kL BK1045 hg; have NB1094_1045 := kR BK1045 hg; replace BK1045 := kB BK1045 hb; have NB1070_1094 := kL BK1070 hg; have NB1094_1070 := kR BK1070 hg; replace BK1070 := kB BK1070 hb; have NB1081_1094 := kL BK1081 hg; have NB1094_1081 := kR BK1081 hg; replace BK1081 := kB BK1081 hb; clear hb hbox hg; have hnb109 := NB1094_1044.out; have hnc109 := NB1044_1094.out; have hnb110 := NB1094_1045.out; have hnc110 := NB1045_1094.out; have hnb111 := NB1094_1070.out; have hnc111 := NB1070_1094.out; have hnb112 := NB1094_1081.out; have hnc112 := NB1081_1094.out; have hcz113_0 : w108.cell? ⟨gb1094, 0, none⟩ = some (.int .i64 0) := bc BK1094 0; have hcz113_1 : w108.cell? ⟨gb1094, 1, none⟩ = some (.int .i64 0) := bc BK1094 1; have hfz113_0 := fz BK1094 0; have hfz113_1 := fz BK1094 1; obtain ⟨Ao114, co114, eo114⟩ := Kd.R_slice HO_7.out; subst eo114))
     go_loopg [114] kj51 (fun kq v114 w' => ∃ (x114_3 : Int) (x1095000_3 : Int) (x1095001_3 : Int), v114 = .int .i64 x114_3 ∧ Aside0 (congoulaw04_CurvesKnot.l0 kq t1089 t1053 (t1053.length : Int) x114_3 t1078 t1079 x1095000_3 x1095001_3 = some r) ∧ Aside0 (kq ≤ kj51) ∧ Aside0 (Kd.R k26 26 w' w.heap.size (fun k_ => some k_ ≠ ((.slice Ao114 t1053.length co114) : Value).ownBlock ∧ k_ ≠ gb1045 ∧ k_ ≠ gb1081 ∧ k_ ≠ gb1094) v1090 t1089) ∧ Aside0 (Kd.R k26 26 w' w.heap.size (fun k_ => nb k_ v1090 ∧ k_ ≠ gb1045 ∧ k_ ≠ gb1081 ∧ k_ ≠ gb1094) (.slice Ao114 t1053.length co114) t1053) ∧ Aside0 (Kd.R (Kd.int .i64) 3 w' w.heap.size (fun k_ => some k_ ≠ ((.slice Ao61 y1067.length co61) : Value).ownBlock) (.slice Ao62 t1064.length co62) t1064) ∧ Aside0 (Kd.R (Kd.int .i64) 3 w' w.heap.size (fun k_ => some k_ ≠ ((.slice Ao62 t1064.length co62) : Value).ownBlock) (.slice Ao61 y1067.length co61) y1067) ∧ Aside0 (w'.heap[gb1044]? = some (.cells #[.int .i64 a0_0, (.slice A0_1 l0_1.length c0_1), (.slice A0_2 l0_2.length c0_2)] 24 (0, 0))) ∧ Aside0 (w'.heap[gb1045]? = some (.cells #[.int .i64 a2_0, .int .i64 a2_1] 26 (0, 0))) ∧ Aside0 (w'.heap[gb1070]? = some (.cells #[.int .i64 a0_0, (.slice Ao62 t1064.length co62), (.slice Ao61 y1067.length co61)] 24 (0, 0))) ∧ Aside0 (w'.heap[gb1081]? = some (.cells #[.int .i64 t1078, .int .i64 t1079] 26 (0, 0))) ∧ Aside0 (w'.heap[gb1094]? = some (.cells #[.int .i64 x1095000_3, .int .i64 x1095001_3] 26 (0, 0))) ∧ Aside0 (Below w.heap.size w w'))
     case atStart => exact ⟨(0), (0), (1), (by first | rfl | (simp; done) | (simp [*]; done)), H', ⟨Nat.le_refl _⟩, ⟨rD (Kd.R_mono (Kd.R_far (p := ⟨gb1094, 1, none⟩) (Kd.R_far (p := ⟨gb1094, 0, none⟩) (Kd.R_mono HO_12.out (fun k_ hk => (⟨hk, hk.2⟩ : _ ∧ k_ ≠ gb1094))) (fun _ hk => hk.2) (.int .i64 0)) (fun _ hk => hk.2) (.int .i64 1)) (fun _ hk => ⟨hk.1.1.1, ⟨hk.1.1.2.1, ⟨hk.1.1.2.2, hk.1.2⟩⟩⟩))⟩, ⟨rD (Kd.R_mono (Kd.R_far (p := ⟨gb1094, 1, none⟩) (Kd.R_far (p := ⟨gb1094, 0, none⟩) (Kd.R_mono HO_7.out (fun k_ hk => (⟨hk, hk.2⟩ : _ ∧ k_ ≠ gb1094))) (fun _ hk => hk.2) (.int .i64 0)) (fun _ hk => hk.2) (.int .i64 1)) (fun _ hk => ⟨hk.1.1.1, ⟨hk.1.1.2.1, ⟨hk.1.1.2.2, hk.1.2⟩⟩⟩))⟩, ⟨rD (Kd.R_mono (Kd.R_far (p := ⟨gb1094, 1, none⟩) (Kd.R_far (p := ⟨gb1094, 0, none⟩) (Kd.R_types HO_1071001.out BK1094.out (by decide)) (fun _ hk => hk.2) (.int .i64 0)) (fun _ hk => hk.2) (.int .i64 1)) (fun _ hk => hk.1))⟩, ⟨rD (Kd.R_mono (Kd.R_far (p := ⟨gb1094, 1, none⟩) (Kd.R_far (p := ⟨gb1094, 0, none⟩) (Kd.R_types HO_1071002.out BK1094.out (by decide)) (fun _ hk => hk.2) (.int .i64 0)) (fun _ hk => hk.2) (.int .i64 1)) (fun _ hk => hk.1))⟩, ⟨bF BK1044⟩, ⟨bF BK1045⟩, ⟨bF BK1070⟩, ⟨bF BK1081⟩, ⟨by (with_reducible repeat (first | refine blk_drewN ?_ _ | refine blk_drew ?_ | refine blk_alloc ?_ _)); refine blk_put (cs := #[.int .i64 0, .int .i64 0]) ?_ 1 _ rfl; (with_reducible repeat (first | refine blk_drewN ?_ _ | refine blk_drew ?_ | refine blk_alloc ?_ _)); refine blk_put (cs := #[.int .i64 0, .int .i64 0]) ?_ 0 _ rfl; (with_reducible repeat (first | refine blk_drewN ?_ _ | refine blk_drew ?_ | refine blk_alloc ?_ _)); exact BK1094.out⟩, ⟨hbC _⟩⟩
     case round =>
      clear H'
      try clear c1
      try clear p2
      try clear c8
      try clear c9
      try clear c10
      try clear c11
      try clear c14
      try clear c15
      try clear c18
      try clear c82
      try clear c82b0
      try clear c82b1
      try clear c83
      try clear c83b0
      try clear c83b1
      try clear c85
      try clear c86
      try clear c86b0
      try clear c86b1
      try clear c86b2
      try clear c87
      try clear c88
      try clear c89
      try clear c95
      try clear c96
      try clear c97
      try clear c102
      try clear c103
      try clear c104
      try clear c107
      try clear c109
      try clear c110
      try clear c111
      try clear c112
      try clear hcz101_0
      try clear hcz101_1
      try clear hcz101_2
      try clear hcz105_0
      try clear hcz105_1
      try clear hcz105_2
      try clear hcz113_0
      try clear hcz113_1
      try clear hcz90_0
      try clear hcz90_1
      try clear hcz90_2
      try clear hcz93_0
      try clear hcz93_1
      try clear hcz93_2
      try clear hcz98_0
      try clear hcz98_1
      try clear hcz98_2
      try clear hfz101_0
      try clear hfz101_1
      try clear hfz101_2
      try clear hfz105_0
      try clear hfz105_1
      try clear hfz105_2
      try clear hfz113_0
      try clear hfz113_1
      try clear hfz90_0
      try clear hfz90_1
      try clear hfz90_2
      try clear hfz93_0
      try clear hfz93_1
      try clear hfz93_2
      try clear hfz98_0
      try clear hfz98_1
      try clear hfz98_2
      try clear p2
      obtain ⟨x114_3, x1095000_3, x1095001_3, rfl, HA, HK3, HO_12, HO_112, HO_1071001, HO_1071002, BK1044, BK1045, BK1070, BK1081, BK1094, HB⟩ := hrel
      cases gk with
      | zero => exact absurd HA.out (by simp [congoulaw04_CurvesKnot.l0])
      | succ k3 =>
       have H := HA.out
       clear HA
       simp only [congoulaw04_CurvesKnot.l0] at H
       by_cases c115 : x114_3 < (t1053.length : Int)
       rotate_left
       ·rw [if_neg c115] at H
        have c115b0 : decide (x114_3 < (t1053.length : Int)) = false := decide_eq_false c115
        clear c115
        by_cases c134 : (x1095000_3 == t1078 && (x1095001_3 == t1079)) = true
        rotate_left
        ·rw [if_neg c134] at H
         have c134b0 : (x1095000_3 == t1078 && (x1095001_3 == t1079)) = false := by simpa using c134
         (try (have c134b1 : decide (x1095000_3 = t1078 && (x1095001_3 == t1079)) = false := by simpa using c134))
         (try (have c134b2 : (x1095000_3 == t1078 && (x1095001_3 == t1079)) = false := by simpa using c134))
         (try (have c134b3 : ¬ (x1095000_3 = t1078 && (x1095001_3 == t1079)) := by simpa using c134))
         clear c134
         exact absurd (H.trans (congrArg some HRT.out)) (by simp)
        rw [if_pos c134] at H
        have c134b0 : (x1095000_3 == t1078 && (x1095001_3 == t1079)) = true := c134
        (try (have c134b1 : decide (x1095000_3 = t1078 && (x1095001_3 == t1079)) = true := by simpa using c134))
        (try (have c134b2 : (x1095000_3 == t1078 && (x1095001_3 == t1079)) = true := by simpa using c134))
        clear c134
        replace H := Option.bind_eq_some_iff.mp H
        obtain ⟨t1101, A1350, H⟩ := H
        replace H : (some t1101) = some r := H
        have A135 := Aside0.mk A1350
        clear A1350
        obtain rfl := Option.some.inj H
        have hnb136 := NB1094_1044.out
        have hnc136 := NB1044_1094.out
        have hnb137 := NB1094_1045.out
        have hnc137 := NB1045_1094.out
        have hnb138 := NB1094_1070.out
        have hnc138 := NB1070_1094.out
        have hnb139 := NB1094_1081.out
        have hnc139 := NB1081_1094.out
        have hcz140_0 : wr.cell? ⟨gb1094, 0, none⟩ = some (.int .i64 x1095000_3) := bc BK1094 0
        have hcz140_1 : wr.cell? ⟨gb1094, 1, none⟩ = some (.int .i64 x1095001_3) := bc BK1094 1
        have hfz140_0 := fz BK1094 0
        have hfz140_1 := fz BK1094 1
        have hnb141 := NB1081_1044.out
        have hnc141 := NB1044_1081.out
        have hnb142 := NB1081_1045.out
        have hnc142 := NB1045_1081.out
        have hnb143 := NB1081_1070.out
        have hnc143 := NB1070_1081.out
        have hcz144_0 : wr.cell? ⟨gb1081, 0, none⟩ = some (.int .i64 t1078) := bc BK1081 0
        have hcz144_1 : wr.cell? ⟨gb1081, 1, none⟩ = some (.int .i64 t1079) := bc BK1081 1
        have hfz144_0 := fz BK1081 0
        have hfz144_1 := fz BK1081 1
        go_wp2_with (first | (go_at_call 17; (with_reducible refine (congoulaw04_awake.calls k3  t1101 _ A135.out).mono ?_); rintro e w145 ⟨rfl, hb⟩; replace HO_12 := kO HO_12 hb; replace HO_112 := kO HO_112 hb; replace HO_1071001 := kO HO_1071001 hb; replace HO_1071002 := kO HO_1071002 hb; replace BK1044 := kB BK1044 hb; replace BK1045 := kB BK1045 hb; replace BK1070 := kB BK1070 hb; replace BK1081 := kB BK1081 hb; replace BK1094 := kB BK1094 hb; replace HB := kH _ hb; (try clear hb); (try clear hb2); (try clear hk); (try clear hi)))
        go_ret
        exact ⟨by first | rfl | (simp [errW_none, errW_some] <;> rfl) | (simp only [← hji45]; first | rfl | (simp [errW_none, errW_some] <;> rfl)) | (simp [*, errW_none, errW_some] <;> rfl), hbC _⟩
       rw [if_pos c115] at H
       have c115b0 : decide (x114_3 < (t1053.length : Int)) = true := decide_eq_true c115
       clear c115
       by_cases c116 : 0 ≤ x114_3
       rotate_left
       ·rw [if_neg c116] at H
        exact absurd H (by simp)
       rw [if_pos c116] at H
       have c116b0 : decide (0 ≤ x114_3) = true := decide_eq_true c116
       clear c116
       by_cases c117 : x114_3 < (t1053.length : Int)
       rotate_left
       ·rw [if_neg c117] at H
        exact absurd H (by simp)
       rw [if_pos c117] at H
       have c117b0 : decide (x114_3 < (t1053.length : Int)) = true := decide_eq_true c117
       clear c117
       by_cases c118 : x114_3 < (t1089.length : Int)
       rotate_left
       ·rw [if_neg c118] at H
        exact absurd H (by simp)
       rw [if_pos c118] at H
       have c118b0 : decide (x114_3 < (t1089.length : Int)) = true := decide_eq_true c118
       clear c118
       replace H := Option.bind_eq_some_iff.mp H
       obtain ⟨⟨t1098, t1099, t1100⟩, A1190, H⟩ := H
       replace H : (if t1100 = true then (congoulaw04_CurvesKnot.l0 k3 t1089 t1053 (t1053.length : Int) (wrap64 (x114_3 + 1)) t1078 t1079 t1098 t1099) else (some false)) = some r := H
       have A119 := Aside0.mk A1190
       clear A1190
       by_cases c120 : t1100 = true
       rotate_left
       ·replace c120 := Bool.eq_false_iff.mpr c120
        subst c120
        have H1 : (some false) = some r := by rw [if_neg (show ¬ (false = true) by decide)] at H; exact H
        clear H
        have H := H1
        clear H1
        exact absurd (H.trans (congrArg some HRT.out)) (by simp)
       subst c120
       have H1 : (congoulaw04_CurvesKnot.l0 k3 t1089 t1053 (t1053.length : Int) (wrap64 (x114_3 + 1)) t1078 t1079 t1098 t1099) = some r := by rw [if_pos rfl] at H; exact H
       clear H
       have H := H1
       clear H1
       have H' := Aside0.mk H
       clear H
       have p1095 : 0 ≤ (x114_3 : Int) := dA
       have q1095 : x114_3 < (t1053.length : Int) := dA
       obtain ⟨ad1095, e1095, hx1095_0, hx1095_1⟩ := at_T26 (Kd.R_reads' HO_112.out).2.2 x114_3 p1095 q1095
       cases e1095
       replace p1095 := eq_true p1095
       replace q1095 := eq_true q1095
       try go_wp2_with (first | ((with_reducible refine gate_dst (N := 16) rfl ?_); (try (refine gate_guard (by rfl) ?_; dsimp only)); refine bE 16 #[.int .i64 0, .int .i64 0] 26 ?_; intro gb1096 hg w121 hbox hb; replace HO_12 := ak (Kd.R_below (Kd.R_elderB (rC HO_12) gb1096 (Nat.le_of_eq hg.symm)) hb); replace HO_112 := ak (Kd.R_below (Kd.R_elderB (rC HO_112) gb1096 (Nat.le_of_eq hg.symm)) hb); replace HO_1071001 := kO HO_1071001 hb; replace HO_1071002 := kO HO_1071002 hb; have BK1096 := ak (hbox); have GW1096 := kG w hg; have GE1096 := kG w hg; replace HB := kH _ hb; have NB1044_1096 := kL BK1044 hg; have NB1096_1044 := kR BK1044 hg; replace BK1044 := kB BK1044 hb; have NB1045_1096 := kL BK1045 hg; have NB1096_1045 := kR BK1045 hg; replace BK1045 := kB BK1045 hb; have NB1070_1096 := kL BK1070 hg; have NB1096_1070 := kR BK1070 hg; replace BK1070 := kB BK1070 hb; have NB1081_1096 := kL BK1081 hg; have NB1096_1081 := kR BK1081 hg; replace BK1081 := kB BK1081 hb; have NB1094_1096 := kL BK1094 hg; have NB1096_1094 := kR BK1094 hg; replace BK1094 := kB BK1094 hb; clear hb hbox hg; have hnb122 := NB1096_1044.out; have hnc122 := NB1044_1096.out; have hnb123 := NB1096_1045.out; have hnc123 := NB1045_1096.out; have hnb124 := NB1096_1070.out; have hnc124 := NB1070_1096.out; have hnb125 := NB1096_1081.out; have hnc125 := NB1081_1096.out; have hnb126 := NB1096_1094.out; have hnc126 := NB1094_1096.out; have hcz127_0 : w121.cell? ⟨gb1096, 0, none⟩ = some (.int .i64 0) := bc BK1096 0; have hcz127_1 : w121.cell? ⟨gb1096, 1, none⟩ = some (.int .i64 0) := bc BK1096 1; have hfz127_0 := fz BK1096 0; have hfz127_1 := fz BK1096 1))
       have n0_ : Aside0 (Kd.R k26 26 ((w121.setCell ⟨gb1096, 0, none⟩ (.int .i64 ((rd_T26 t1053 x114_3).f0))).setCell ⟨gb1096, 1, none⟩ (.int .i64 ((rd_T26 t1053 x114_3).f1))) w.heap.size (fun k_ => some k_ ≠ (.slice (some ad1095) t1053.length co114 : Value).ownBlock ∧ k_ ≠ gb1045 ∧ k_ ≠ gb1081 ∧ k_ ≠ gb1094 ∧ k_ ≠ gb1096) v1090 t1089) := ⟨rD (Kd.R_mono (Kd.R_far (p := ⟨gb1096, 1, none⟩) (Kd.R_far (p := ⟨gb1096, 0, none⟩) (Kd.R_mono HO_12.out (fun k_ hk => (⟨hk, hk.2⟩ : _ ∧ k_ ≠ gb1096))) (fun _ hk => hk.2) (.int .i64 ((rd_T26 t1053 x114_3).f0))) (fun _ hk => hk.2) (.int .i64 ((rd_T26 t1053 x114_3).f1))) (fun _ hk => ⟨hk.1.1.1, ⟨hk.1.1.2.1, ⟨hk.1.1.2.2.1, ⟨hk.1.1.2.2.2, hk.1.2⟩⟩⟩⟩))⟩
       have n1_ : Aside0 (Kd.R k26 26 ((w121.setCell ⟨gb1096, 0, none⟩ (.int .i64 ((rd_T26 t1053 x114_3).f0))).setCell ⟨gb1096, 1, none⟩ (.int .i64 ((rd_T26 t1053 x114_3).f1))) w.heap.size (fun k_ => nb k_ v1090 ∧ k_ ≠ gb1045 ∧ k_ ≠ gb1081 ∧ k_ ≠ gb1094 ∧ k_ ≠ gb1096) (.slice (some ad1095) t1053.length co114) t1053) := ⟨rD (Kd.R_mono (Kd.R_far (p := ⟨gb1096, 1, none⟩) (Kd.R_far (p := ⟨gb1096, 0, none⟩) (Kd.R_mono HO_112.out (fun k_ hk => (⟨hk, hk.2⟩ : _ ∧ k_ ≠ gb1096))) (fun _ hk => hk.2) (.int .i64 ((rd_T26 t1053 x114_3).f0))) (fun _ hk => hk.2) (.int .i64 ((rd_T26 t1053 x114_3).f1))) (fun _ hk => ⟨hk.1.1.1, ⟨hk.1.1.2.1, ⟨hk.1.1.2.2.1, ⟨hk.1.1.2.2.2, hk.1.2⟩⟩⟩⟩))⟩
       have n2_ : Aside0 (Kd.R (Kd.int .i64) 3 ((w121.setCell ⟨gb1096, 0, none⟩ (.int .i64 ((rd_T26 t1053 x114_3).f0))).setCell ⟨gb1096, 1, none⟩ (.int .i64 ((rd_T26 t1053 x114_3).f1))) w.heap.size (fun k_ => nb k_ (.slice Ao61 y1067.length co61)) (.slice Ao62 t1064.length co62) t1064) := ⟨rD (Kd.R_mono (Kd.R_far (p := ⟨gb1096, 1, none⟩) (Kd.R_far (p := ⟨gb1096, 0, none⟩) (Kd.R_types HO_1071001.out BK1096.out (by decide)) (fun _ hk => hk.2) (.int .i64 ((rd_T26 t1053 x114_3).f0))) (fun _ hk => hk.2) (.int .i64 ((rd_T26 t1053 x114_3).f1))) (fun _ hk => hk.1))⟩
       have n3_ : Aside0 (Kd.R (Kd.int .i64) 3 ((w121.setCell ⟨gb1096, 0, none⟩ (.int .i64 ((rd_T26 t1053 x114_3).f0))).setCell ⟨gb1096, 1, none⟩ (.int .i64 ((rd_T26 t1053 x114_3).f1))) w.heap.size (fun k_ => nb k_ (.slice Ao62 t1064.length co62)) (.slice Ao61 y1067.length co61) y1067) := ⟨rD (Kd.R_mono (Kd.R_far (p := ⟨gb1096, 1, none⟩) (Kd.R_far (p := ⟨gb1096, 0, none⟩) (Kd.R_types HO_1071002.out BK1096.out (by decide)) (fun _ hk => hk.2) (.int .i64 ((rd_T26 t1053 x114_3).f0))) (fun _ hk => hk.2) (.int .i64 ((rd_T26 t1053 x114_3).f1))) (fun _ hk => hk.1))⟩
       have n4_ : Aside0 (((w121.setCell ⟨gb1096, 0, none⟩ (.int .i64 ((rd_T26 t1053 x114_3).f0))).setCell ⟨gb1096, 1, none⟩ (.int .i64 ((rd_T26 t1053 x114_3).f1))).heap[gb1044]? = some (.cells #[.int .i64 a0_0, .slice A0_1 l0_1.length c0_1, .slice A0_2 l0_2.length c0_2] 24 (0, 0))) := ⟨bF BK1044⟩
       have n5_ : Aside0 (((w121.setCell ⟨gb1096, 0, none⟩ (.int .i64 ((rd_T26 t1053 x114_3).f0))).setCell ⟨gb1096, 1, none⟩ (.int .i64 ((rd_T26 t1053 x114_3).f1))).heap[gb1045]? = some (.cells #[.int .i64 a2_0, .int .i64 a2_1] 26 (0, 0))) := ⟨bF BK1045⟩
       have n6_ : Aside0 (((w121.setCell ⟨gb1096, 0, none⟩ (.int .i64 ((rd_T26 t1053 x114_3).f0))).setCell ⟨gb1096, 1, none⟩ (.int .i64 ((rd_T26 t1053 x114_3).f1))).heap[gb1070]? = some (.cells #[.int .i64 a0_0, .slice Ao62 t1064.length co62, .slice Ao61 y1067.length co61] 24 (0, 0))) := ⟨bF BK1070⟩
       have n7_ : Aside0 (((w121.setCell ⟨gb1096, 0, none⟩ (.int .i64 ((rd_T26 t1053 x114_3).f0))).setCell ⟨gb1096, 1, none⟩ (.int .i64 ((rd_T26 t1053 x114_3).f1))).heap[gb1081]? = some (.cells #[.int .i64 t1078, .int .i64 t1079] 26 (0, 0))) := ⟨bF BK1081⟩
       have n8_ : Aside0 (((w121.setCell ⟨gb1096, 0, none⟩ (.int .i64 ((rd_T26 t1053 x114_3).f0))).setCell ⟨gb1096, 1, none⟩ (.int .i64 ((rd_T26 t1053 x114_3).f1))).heap[gb1094]? = some (.cells #[.int .i64 x1095000_3, .int .i64 x1095001_3] 26 (0, 0))) := ⟨bF BK1094⟩
       have n9_ : Aside0 (((w121.setCell ⟨gb1096, 0, none⟩ (.int .i64 ((rd_T26 t1053 x114_3).f0))).setCell ⟨gb1096, 1, none⟩ (.int .i64 ((rd_T26 t1053 x114_3).f1))).heap[gb1096]? = some (.cells #[.int .i64 ((rd_T26 t1053 x114_3).f0), .int .i64 ((rd_T26 t1053 x114_3).f1)] 26 (0, 0))) := ⟨by (with_reducible repeat (first | refine blk_drewN ?_ _ | refine blk_drew ?_ | refine blk_alloc ?_ _)); refine blk_put (cs := #[.int .i64 ((rd_T26 t1053 x114_3).f0), .int .i64 0]) ?_ 1 _ rfl; (with_reducible repeat (first | refine blk_drewN ?_ _ | refine blk_drew ?_ | refine blk_alloc ?_ _)); refine blk_put (cs := #[.int .i64 0, .int .i64 0]) ?_ 0 _ rfl; (with_reducible repeat (first | refine blk_drewN ?_ _ | refine blk_drew ?_ | refine blk_alloc ?_ _)); exact BK1096.out⟩
       have n10_ : Aside0 (Below w.heap.size w ((w121.setCell ⟨gb1096, 0, none⟩ (.int .i64 ((rd_T26 t1053 x114_3).f0))).setCell ⟨gb1096, 1, none⟩ (.int .i64 ((rd_T26 t1053 x114_3).f1)))) := ⟨hbC _⟩
       (try clear HO_12)
       (try clear HO_112)
       (try clear HO_1071001)
       (try clear HO_1071002)
       (try clear BK1044)
       (try clear BK1045)
       (try clear BK1070)
       (try clear BK1081)
       (try clear BK1094)
       (try clear BK1096)
       (try clear HB)
       generalize ((w121.setCell ⟨gb1096, 0, none⟩ (.int .i64 ((rd_T26 t1053 x114_3).f0))).setCell ⟨gb1096, 1, none⟩ (.int .i64 ((rd_T26 t1053 x114_3).f1))) = w128 at n0_ n1_ n2_ n3_ n4_ n5_ n6_ n7_ n8_ n9_ n10_ ⊢
       have HO_12 := n0_
       have HO_112 := n1_
       have HO_1071001 := n2_
       have HO_1071002 := n3_
       have BK1044 := n4_
       have BK1045 := n5_
       have BK1070 := n6_
       have BK1081 := n7_
       have BK1094 := n8_
       have BK1096 := n9_
       have HB := n10_
       clear n0_ n1_ n2_ n3_ n4_ n5_ n6_ n7_ n8_ n9_ n10_
       replace HO_12 := ak (Kd.R_drew HO_12.out)
       replace HO_112 := ak (Kd.R_drew HO_112.out)
       replace HO_1071001 := ak (Kd.R_drew HO_1071001.out)
       replace HO_1071002 := ak (Kd.R_drew HO_1071002.out)
       replace BK1044 := kd BK1044
       replace BK1045 := kd BK1045
       replace BK1070 := kd BK1070
       replace BK1081 := kd BK1081
       replace BK1094 := kd BK1094
       replace BK1096 := kd BK1096
       replace HB := ak (below_drew1 HB.out)
       obtain ⟨Ao130, co130, eo130⟩ := Kd.R_slice HO_12.out
       (first | subst eo130 | (injection eo130 with f1_ f2_ f3_; have f4_ := f1_.symm; have f5_ := f3_.symm; clear f1_ f2_ f3_; subst f4_; subst f5_))
       have p1097 : 0 ≤ (x114_3 : Int) := dA
       have q1097 : x114_3 < (t1089.length : Int) := dA
       obtain ⟨ad1097, e1097, hx1097_0, hx1097_1⟩ := at_T26 (Kd.R_reads' HO_12.out).2.2 x114_3 p1097 q1097
       cases e1097
       replace p1097 := eq_true p1097
       replace q1097 := eq_true q1097
       refine sS (n := 12) (S := fun w' => w'.cell? ⟨gb1094, 0, none⟩ = some (.int .i64 x1095000_3) ∧ w'.cell? ⟨gb1094, 1, none⟩ = some (.int .i64 x1095001_3) ∧ w'.cell? ⟨gb1096, 0, none⟩ = some (.int .i64 ((rd_T26 t1053 x114_3).f0)) ∧ w'.cell? ⟨gb1096, 1, none⟩ = some (.int .i64 ((rd_T26 t1053 x114_3).f1)) ∧ w'.cell? (ad1097.add ((x114_3).toNat * 2)) = some (.int .i64 ((rd_T26 t1089 x114_3).f0)) ∧ w'.cell? ⟨(ad1097.add ((x114_3).toNat * 2)).block, (ad1097.add ((x114_3).toNat * 2)).off + 1, none⟩ = some (.int .i64 ((rd_T26 t1089 x114_3).f1))) (ds := [10]) ⟨bc BK1094 0, bc BK1094 1, bc BK1096 0, bc BK1096 1, hx1097_0, hx1097_1⟩ (fun hHeld => ?_); refine with_tabW congoulaw04_CurvesKnot.tab14 congoulaw04_CurvesKnot.bits14 (fun HT_ HW_ => ?_)
       generalize w128.drew = w129 at HO_12 HO_112 HO_1071001 HO_1071002 BK1044 BK1045 BK1070 BK1081 BK1094 BK1096 HB hx1097_0 hx1097_1 hHeld ⊢
       refine pS 2 122 12 4 ?_
       refine pS 3 123 12 12 ?_
       refine pS 4 124 12 28 ?_
       refine tS 0 120 12 29 ?_
       refine tS 1 121 12 31 ?_
       refine tS 5 125 12 63 ?_
       refine one_ (i := 6) (N := some 126) (ba 12 127) rfl rfl (one_of HT_.out (by kernel_rfl)) (by decide) (fun K hK => ?_)
       refine gC Try.func19 #[.agg #[.int .i64 x1095000_3, .int .i64 x1095001_3], .agg #[.int .i64 ((rd_T26 t1053 x114_3).f0), .int .i64 ((rd_T26 t1053 x114_3).f1)], .agg #[.int .i64 ((rd_T26 t1089 x114_3).f0), .int .i64 ((rd_T26 t1089 x114_3).f1)]] ?_
       with_reducible refine (congoulaw04_more.calls k3 x1095000_3 x1095001_3 ((rd_T26 t1053 x114_3).f0) ((rd_T26 t1053 x114_3).f1) ((rd_T26 t1089 x114_3).f0) ((rd_T26 t1089 x114_3).f1) t1098 t1099 true _ A119.out).mono ?_
       rintro e w131 ⟨rfl, hb⟩
       have HS4_ := (hb.cell (World.block_lt_of_cell? _ _ (hHeld.2.2.2.2.1))).trans (hHeld.2.2.2.2.1)
       have HS5_ := (hb.cell (World.block_lt_of_cell? _ _ (hHeld.2.2.2.2.2))).trans (hHeld.2.2.2.2.2)
       refine ⟨_, rfl, ?_⟩
       replace HO_12 := kO HO_12 hb
       replace HO_112 := kO HO_112 hb
       replace HO_1071001 := kO HO_1071001 hb
       replace HO_1071002 := kO HO_1071002 hb
       replace BK1044 := kB BK1044 hb
       replace BK1045 := kB BK1045 hb
       replace BK1070 := kB BK1070 hb
       replace BK1081 := kB BK1081 hb
       replace BK1094 := kB BK1094 hb
       replace BK1096 := kB BK1096 hb
       replace HB := kH _ hb
       (try clear hb)
       (try clear hb2)
       (try clear hk)
       (try clear hi)
       refine hK.out _ _ ⟨bc BK1094 0, bc BK1094 1, bc BK1096 0, bc BK1096 1, HS4_, HS5_⟩ (fun hHeld => ?_)
       clear hK K
       refine norm_ (a' := ?_) ?_ ?_
       rotate_left
       ·show Act.put _ (some 126) _ = _
        simp only [Act.put, List.setIfInBounds_toArray, List.set_cons_zero, List.set_cons_succ, i64_w, i32_w]
        rfl
       refine pS 7 119 12 255 ?_
       refine pS 8 127 12 511 ?_
       refine pS 9 128 12 1023 ?_
       refine last_ (i := 10) (N := none) (ba 12 2047) rfl rfl (one_of HT_.out (by kernel_rfl)) (by decide) (fun K hK => ?_)
       have hs132 : w131.cell? ⟨gb1094, 0, none⟩ = some (.int .i64 x1095000_3) := bc BK1094 0
       have hfs132 := fz BK1094 0
       have hns132_0 := NB1044_1094.out
       have hns132_1 := NB1045_1094.out
       have hns132_2 := NB1070_1094.out
       have hns132_3 := NB1081_1094.out
       have hns132_5 := NB1096_1094.out
       have hms132_0 := NB1094_1044.out
       have hms132_1 := NB1094_1045.out
       have hms132_2 := NB1094_1070.out
       have hms132_3 := NB1094_1081.out
       have hms132_5 := NB1094_1096.out
       have hs133 : w131.cell? ⟨gb1094, 1, none⟩ = some (.int .i64 x1095001_3) := bc BK1094 1
       have hfs133 := fz BK1094 1
       have hns133_0 := NB1044_1094.out
       have hns133_1 := NB1045_1094.out
       have hns133_2 := NB1070_1094.out
       have hns133_3 := NB1081_1094.out
       have hns133_5 := NB1096_1094.out
       have hms133_0 := NB1094_1044.out
       have hms133_1 := NB1094_1045.out
       have hms133_2 := NB1094_1070.out
       have hms133_3 := NB1094_1081.out
       have hms133_5 := NB1094_1096.out
       refine skip_ (w1 := ?_) (by rfl) rfl ?_ ?_
       rotate_left
       ·go_simp
        rfl
       refine hK.out _ _ ?_
       clear hK K
       refine pS 11 17 12 4095 ?_
       refine done_ (done_of HT_.out (by kernel_rfl)) ?_
       try go_wp2
       go_roundg k3
       case measure => have := HJ5.out; have := HJ51.out; have := HK3.out; omega
       case rel => exact ⟨(wrap64 (x114_3 + 1)), (t1098), (t1099), (by first | rfl | (simp; done) | (simp [*]; done)), H', ⟨by have := HJ5.out; have := HJ51.out; have := HK3.out; omega⟩, ⟨rD (Kd.R_mono (Kd.R_far (p := ⟨gb1094, 1, none⟩) (Kd.R_far (p := ⟨gb1094, 0, none⟩) (Kd.R_mono HO_12.out (fun k_ hk => (⟨hk, hk.2.2.2.1⟩ : _ ∧ k_ ≠ gb1094))) (fun _ hk => hk.2) (.int .i64 t1098)) (fun _ hk => hk.2) (.int .i64 t1099)) (fun _ hk => ⟨hk.1.1, ⟨hk.1.2.1, ⟨hk.1.2.2.1, hk.1.2.2.2.1⟩⟩⟩))⟩, ⟨rD (Kd.R_mono (Kd.R_far (p := ⟨gb1094, 1, none⟩) (Kd.R_far (p := ⟨gb1094, 0, none⟩) (Kd.R_mono HO_112.out (fun k_ hk => (⟨hk, hk.2.2.2.1⟩ : _ ∧ k_ ≠ gb1094))) (fun _ hk => hk.2) (.int .i64 t1098)) (fun _ hk => hk.2) (.int .i64 t1099)) (fun _ hk => ⟨hk.1.1, ⟨hk.1.2.1, ⟨hk.1.2.2.1, hk.1.2.2.2.1⟩⟩⟩))⟩, ⟨rD (Kd.R_mono (Kd.R_far (p := ⟨gb1094, 1, none⟩) (Kd.R_far (p := ⟨gb1094, 0, none⟩) (Kd.R_types HO_1071001.out BK1094.out (by decide)) (fun _ hk => hk.2) (.int .i64 t1098)) (fun _ hk => hk.2) (.int .i64 t1099)) (fun _ hk => hk.1))⟩, ⟨rD (Kd.R_mono (Kd.R_far (p := ⟨gb1094, 1, none⟩) (Kd.R_far (p := ⟨gb1094, 0, none⟩) (Kd.R_types HO_1071002.out BK1094.out (by decide)) (fun _ hk => hk.2) (.int .i64 t1098)) (fun _ hk => hk.2) (.int .i64 t1099)) (fun _ hk => hk.1))⟩, ⟨bF BK1044⟩, ⟨bF BK1045⟩, ⟨bF BK1070⟩, ⟨bF BK1081⟩, ⟨by (with_reducible repeat (first | refine blk_drewN ?_ _ | refine blk_drew ?_ | refine blk_alloc ?_ _)); refine blk_put (cs := #[.int .i64 t1098, .int .i64 x1095001_3]) ?_ 1 _ rfl; (with_reducible repeat (first | refine blk_drewN ?_ _ | refine blk_drew ?_ | refine blk_alloc ?_ _)); refine blk_put (cs := #[.int .i64 x1095000_3, .int .i64 x1095001_3]) ?_ 0 _ rfl; (with_reducible repeat (first | refine blk_drewN ?_ _ | refine blk_drew ?_ | refine blk_alloc ?_ _)); exact BK1094.out⟩, ⟨hbC _⟩⟩

end Go.Proofs.Ytpnocmkpeogifaa.X
