-- Written by a program of this work (wip/xprint.py, over the kit's printer) out of the translation.
import Derived.Test.YtpnocmkpeogifaaX0
import Derived.Test.YtpnocmkpeogifaaXG1a
import Derived.Test.YtpnocmkpeogifaaXG2a
import Derived.Test.YtpnocmkpeogifaaXG3a
import Derived.Test.YtpnocmkpeogifaaXf57
import Derived.Test.YtpnocmkpeogifaaXq0
namespace Go.Proofs.Ytpnocmkpeogifaa.X
open Go.RowKit Go.Proofs.YtpnocmkpeogifaaW.PrintWords Go.Proofs.YtpnocmkpeogifaaW.PrintLast Go.Proofs.YtpnocmkpeogifaaW.PrintMore
attribute [local go_sem] max2_int min2_int max_two min_two max_three min_three max_four min_four   -- for this text's walks alone
set_option linter.unusedVariables false
set_option linter.unusedSimpArgs false

attribute [local go_sem high] eqA26
/-! ### congouref04_basic: function 55 -/
mutual
def congouref04_basic.l0 : Nat → Int → List Int → Int → Option (Int × Int)
 | 0, _, _, _ => none
 | k + 1, x1, x9, x11 => if 0 ≤ x11 then (if x11 < (x9.length : Int) then (if 0 ≤ (wrap64 (x11 + 1)) then (if (wrap64 (x11 + 1)) < (x9.length : Int) then (if (rd x9 x11) = (rd x9 (wrap64 (x11 + 1))) then (congouref04_basic.l0 k x1 x9 (wrap64 (x11 - 1))) else (if x1 = x11 then ((congouref04_whole.f 1).bind fun bt439 => (some (bt439.1, bt439.2))) else ((congouref04_whole.f 0).bind fun bt441 => (some (bt441.1, bt441.2))))) else (none)) else (none)) else (none)) else (none)
def congouref04_basic.j1 : Nat → Bool → Option (Int × Int)
 | 0, _ => none
 | k + 1, x70 => if x70 = true then ((congouref04_whole.f 1).bind fun bt445 => (some (bt445.1, bt445.2))) else ((congouref04_whole.f 0).bind fun bt447 => (some (bt447.1, bt447.2)))
def congouref04_basic.j2 : Nat → Int → Int → List Int → Int → List Int → List Int → Int → Int → Int → Int → Option (Int × Int)
 | 0, _, _, _, _, _, _, _, _, _, _ => none
 | k + 1, x1, x2, x9, x432000, x432001, x432002, x433000, x433001, x452000, x452001 => if 0 ≤ (wrap64 ((wrap64 (x1 + x2)) + 1)) then (if (wrap64 ((wrap64 (x1 + x2)) + 1)) < (x9.length : Int) then (if 0 ≤ (wrap64 (x1 + 1)) then (if (wrap64 (x1 + 1)) < (x9.length : Int) then (if (wrap64 ((rd x9 (wrap64 ((wrap64 (x1 + x2)) + 1))) - (rd x9 (wrap64 (x1 + 1))))) > 0 then ((congouref04_Frac.f k (wrap64 ((wrap64 ((rd x9 (wrap64 ((wrap64 (x1 + x2)) + 1))) * x433001)) - x433000)) (wrap64 (x433001 * (wrap64 ((rd x9 (wrap64 ((wrap64 (x1 + x2)) + 1))) - (rd x9 (wrap64 (x1 + 1)))))))).bind fun bt466 => ((congouref04_basic.f k x432000 x432001 x432002 (wrap64 (x1 + 1)) (wrap64 (x2 - 1)) x433000 x433001).bind fun bt468 => ((congouref04_Times.f k bt466.1 bt466.2 bt468.1 bt468.2).bind fun bt470 => ((congouref04_Plus.f k x452000 x452001 bt470.1 bt470.2).bind fun bt472 => (some (bt472.1, bt472.2)))))) else (some (x452000, x452001))) else (none)) else (none)) else (none)) else (none)
def congouref04_basic.f : Nat → Int → List Int → List Int → Int → Int → Int → Int → Option (Int × Int)
 | 0, _, _, _, _, _, _, _ => none
 | k + 1, a0_0, l0_1, l0_2, a1, a2, a3_0, a3_1 => if a2 = 0 then (if 0 ≤ (l0_2.length : Int) then (if (l0_2.length : Int) < (l0_1.length : Int) then ((congouref04_whole.f (rd l0_1 (l0_2.length : Int))).bind fun bt435 => (if (a3_0 == bt435.1 && (a3_1 == bt435.2)) = true then (congouref04_basic.l0 k a1 l0_1 (wrap64 ((l0_2.length : Int) - 1))) else (if 0 ≤ a1 then (if a1 < (l0_1.length : Int) then (if (wrap64 ((rd l0_1 a1) * a3_1)) ≤ a3_0 then (if 0 ≤ (wrap64 (a1 + 1)) then (if (wrap64 (a1 + 1)) < (l0_1.length : Int) then (congouref04_basic.j1 k (decide (a3_0 < (wrap64 ((rd l0_1 (wrap64 (a1 + 1))) * a3_1))))) else (none)) else (none)) else (congouref04_basic.j1 k false)) else (none)) else (none)))) else (none)) else (none)) else ((congouref04_whole.f 0).bind fun bt449 => (if 0 ≤ (wrap64 (a1 + a2)) then (if (wrap64 (a1 + a2)) < (l0_1.length : Int) then (if 0 ≤ a1 then (if a1 < (l0_1.length : Int) then (if (wrap64 ((rd l0_1 (wrap64 (a1 + a2))) - (rd l0_1 a1))) > 0 then ((congouref04_Frac.f k (wrap64 (a3_0 - (wrap64 ((rd l0_1 a1) * a3_1)))) (wrap64 (a3_1 * (wrap64 ((rd l0_1 (wrap64 (a1 + a2))) - (rd l0_1 a1)))))).bind fun bt455 => ((congouref04_basic.f k a0_0 l0_1 l0_2 a1 (wrap64 (a2 - 1)) a3_0 a3_1).bind fun bt457 => ((congouref04_Times.f k bt455.1 bt455.2 bt457.1 bt457.2).bind fun bt459 => ((congouref04_Plus.f k bt449.1 bt449.2 bt459.1 bt459.2).bind fun bt461 => (congouref04_basic.j2 k a1 a2 l0_1 a0_0 l0_1 l0_2 a3_0 a3_1 bt461.1 bt461.2))))) else (congouref04_basic.j2 k a1 a2 l0_1 a0_0 l0_1 l0_2 a3_0 a3_1 bt449.1 bt449.2)) else (none)) else (none)) else (none)) else (none)))
end
theorem congouref04_basic.mono_l : ∀ k, (∀ y0 y1 y2 y3 y4 y5 y6, LeO (congouref04_basic.f k y0 y1 y2 y3 y4 y5 y6) (congouref04_basic.f (k + 1) y0 y1 y2 y3 y4 y5 y6)) ∧ (∀ y0 y1 y2, LeO (congouref04_basic.l0 k y0 y1 y2) (congouref04_basic.l0 (k + 1) y0 y1 y2)) ∧ (∀ y0, LeO (congouref04_basic.j1 k y0) (congouref04_basic.j1 (k + 1) y0)) ∧ (∀ y0 y1 y2 y3 y4 y5 y6 y7 y8 y9, LeO (congouref04_basic.j2 k y0 y1 y2 y3 y4 y5 y6 y7 y8 y9) (congouref04_basic.j2 (k + 1) y0 y1 y2 y3 y4 y5 y6 y7 y8 y9))
 | 0 => ⟨fun _ _ _ _ _ _ _ r h => by simp [congouref04_basic.f] at h, fun _ _ _ r h => by simp [congouref04_basic.l0] at h, fun _ r h => by simp [congouref04_basic.j1] at h, fun _ _ _ _ _ _ _ _ _ _ r h => by simp [congouref04_basic.j2] at h⟩
 | k + 1 => by
  obtain ⟨ih0, ih1, ih2, ih3⟩ := congouref04_basic.mono_l k
  refine ⟨?_, ?_, ?_, ?_⟩
  ·intro y0 y1 y2 y3 y4 y5 y6
   unfold congouref04_basic.f
   repeat' first
   | (with_reducible exact ih0 _ _ _ _ _ _ _)
   | (with_reducible exact ih1 _ _ _)
   | (with_reducible exact ih2 _)
   | (with_reducible exact ih3 _ _ _ _ _ _ _ _ _ _)
   | (with_reducible exact congouref04_Frac.mono _ _ _)
   | (with_reducible exact congouref04_Plus.mono _ _ _ _ _)
   | (with_reducible exact congouref04_Times.mono _ _ _ _ _)
   | (with_reducible exact LeO.refl _)
   | (with_reducible exact LeO.none _)
   | (with_reducible refine LeO.ite ?_ ?_)
   | (with_reducible refine LeO.bind ?_ (fun _ => ?_))
   | exact ih0 _ _ _ _ _ _ _
   | exact ih1 _ _ _
   | exact ih2 _
   | exact ih3 _ _ _ _ _ _ _ _ _ _
   | exact congouref04_Frac.mono _ _ _
   | exact congouref04_Plus.mono _ _ _ _ _
   | exact congouref04_Times.mono _ _ _ _ _
   | exact LeO.none _
   | refine LeO.ite ?_ ?_
   | refine LeO.bind ?_ (fun _ => ?_)
  ·intro y0 y1 y2
   unfold congouref04_basic.l0
   repeat' first
   | (with_reducible exact ih0 _ _ _ _ _ _ _)
   | (with_reducible exact ih1 _ _ _)
   | (with_reducible exact ih2 _)
   | (with_reducible exact ih3 _ _ _ _ _ _ _ _ _ _)
   | (with_reducible exact congouref04_Frac.mono _ _ _)
   | (with_reducible exact congouref04_Plus.mono _ _ _ _ _)
   | (with_reducible exact congouref04_Times.mono _ _ _ _ _)
   | (with_reducible exact LeO.refl _)
   | (with_reducible exact LeO.none _)
   | (with_reducible refine LeO.ite ?_ ?_)
   | (with_reducible refine LeO.bind ?_ (fun _ => ?_))
   | exact ih0 _ _ _ _ _ _ _
   | exact ih1 _ _ _
   | exact ih2 _
   | exact ih3 _ _ _ _ _ _ _ _ _ _
   | exact congouref04_Frac.mono _ _ _
   | exact congouref04_Plus.mono _ _ _ _ _
   | exact congouref04_Times.mono _ _ _ _ _
   | exact LeO.none _
   | refine LeO.ite ?_ ?_
   | refine LeO.bind ?_ (fun _ => ?_)
  ·intro y0
   unfold congouref04_basic.j1
   repeat' first
   | (with_reducible exact ih0 _ _ _ _ _ _ _)
   | (with_reducible exact ih1 _ _ _)
   | (with_reducible exact ih2 _)
   | (with_reducible exact ih3 _ _ _ _ _ _ _ _ _ _)
   | (with_reducible exact congouref04_Frac.mono _ _ _)
   | (with_reducible exact congouref04_Plus.mono _ _ _ _ _)
   | (with_reducible exact congouref04_Times.mono _ _ _ _ _)
   | (with_reducible exact LeO.refl _)
   | (with_reducible exact LeO.none _)
   | (with_reducible refine LeO.ite ?_ ?_)
   | (with_reducible refine LeO.bind ?_ (fun _ => ?_))
   | exact ih0 _ _ _ _ _ _ _
   | exact ih1 _ _ _
   | exact ih2 _
   | exact ih3 _ _ _ _ _ _ _ _ _ _
   | exact congouref04_Frac.mono _ _ _
   | exact congouref04_Plus.mono _ _ _ _ _
   | exact congouref04_Times.mono _ _ _ _ _
   | exact LeO.none _
   | refine LeO.ite ?_ ?_
   | refine LeO.bind ?_ (fun _ => ?_)
  ·intro y0 y1 y2 y3 y4 y5 y6 y7 y8 y9
   unfold congouref04_basic.j2
   repeat' first
   | (with_reducible exact ih0 _ _ _ _ _ _ _)
   | (with_reducible exact ih1 _ _ _)
   | (with_reducible exact ih2 _)
   | (with_reducible exact ih3 _ _ _ _ _ _ _ _ _ _)
   | (with_reducible exact congouref04_Frac.mono _ _ _)
   | (with_reducible exact congouref04_Plus.mono _ _ _ _ _)
   | (with_reducible exact congouref04_Times.mono _ _ _ _ _)
   | (with_reducible exact LeO.refl _)
   | (with_reducible exact LeO.none _)
   | (with_reducible refine LeO.ite ?_ ?_)
   | (with_reducible refine LeO.bind ?_ (fun _ => ?_))
   | exact ih0 _ _ _ _ _ _ _
   | exact ih1 _ _ _
   | exact ih2 _
   | exact ih3 _ _ _ _ _ _ _ _ _ _
   | exact congouref04_Frac.mono _ _ _
   | exact congouref04_Plus.mono _ _ _ _ _
   | exact congouref04_Times.mono _ _ _ _ _
   | exact LeO.none _
   | refine LeO.ite ?_ ?_
   | refine LeO.bind ?_ (fun _ => ?_)
theorem congouref04_basic.mono : ∀ a0 a1 a2 a3 a4 a5 a6 k, LeO (congouref04_basic.f k a0 a1 a2 a3 a4 a5 a6) (congouref04_basic.f (k + 1) a0 a1 a2 a3 a4 a5 a6) := by
 intro a0 a1 a2 a3 a4 a5 a6 k
 obtain ⟨ih0, ih1, ih2, ih3⟩ := congouref04_basic.mono_l k
 exact ih0 a0 a1 a2 a3 a4 a5 a6
def congouref04_basic.T5 : Bool × List (List Nat × List Nat) := (true, [([], []), ([], []), ([0, 1], [0, 1]), ([2], [2]), ([], []), ([], []), ([5], [5]), ([4, 6], [4, 6]), ([7], [7]), ([3, 8], [3, 8])])
def congouref04_basic.B5 : List Nat := [0, 0, 3, 7, 0, 0, 32, 112, 240, 511]
theorem congouref04_basic.tab5 : rtab .any (opsOf Try.f55 5) = congouref04_basic.T5 := by kernel_rfl
theorem congouref04_basic.bits5 : waitsOk congouref04_basic.T5.2 congouref04_basic.B5 = true := by kernel_rfl
def congouref04_basic.T10 : Bool × List (List Nat × List Nat) := (true, [([], []), ([], []), ([0, 1], [0, 1]), ([2], [2]), ([], []), ([4], [4]), ([3, 5], [3, 5]), ([], []), ([7], [7]), ([6, 8], [6, 8]), ([9], [9]), ([10], [10]), ([11, 10], [10, 11]), ([10], [10]), ([10], [10]), ([14, 10], [10, 14]), ([13, 15, 10], [10, 13, 15]), ([16, 10], [10, 16]), ([10], [10]), ([18, 10], [10, 18]), ([17, 19, 10], [10, 17, 19]), ([12, 20, 10], [10, 12, 20]), ([10, 21], [10, 21])])
def congouref04_basic.B10 : List Nat := [0, 0, 3, 7, 0, 16, 63, 0, 128, 511, 1023, 2047, 4095, 2047, 2047, 18431, 59391, 124927, 2047, 264191, 1042431, 2097151, 4194303]
theorem congouref04_basic.tab10 : rtab .any (opsOf Try.f55 10) = congouref04_basic.T10 := by kernel_rfl
theorem congouref04_basic.bits10 : waitsOk congouref04_basic.T10.2 congouref04_basic.B10 = true := by kernel_rfl
def congouref04_basic.T14 : Bool × List (List Nat × List Nat) := (true, [([], []), ([], []), ([], []), ([1, 2], [1, 2]), ([0, 3], [0, 3]), ([4], [4]), ([], []), ([], []), ([6, 7], [6, 7]), ([8], [8]), ([5, 9], [5, 9]), ([10, 0, 1, 2, 3, 4, 5, 6, 7, 8, 9, 10], [10])])
def congouref04_basic.B14 : List Nat := [0, 0, 0, 6, 15, 31, 0, 0, 192, 448, 1023, 2047]
theorem congouref04_basic.tab14 : rtab .any (opsOf Try.f55 14) = congouref04_basic.T14 := by kernel_rfl
theorem congouref04_basic.bits14 : waitsOk congouref04_basic.T14.2 congouref04_basic.B14 = true := by kernel_rfl
def congouref04_basic.T16 : Bool × List (List Nat × List Nat) := (true, [([], []), ([], []), ([1], [1]), ([], []), ([], []), ([3, 4], [3, 4]), ([5], [5]), ([], []), ([7], [7]), ([6, 8], [6, 8]), ([2, 9], [2, 9]), ([], []), ([11], [11]), ([], []), ([12, 13], [12, 13]), ([10, 14], [10, 14]), ([], []), ([], []), ([], []), ([18], [18]), ([], []), ([16, 17, 19, 20, 15], [16, 17, 19, 20]), ([15, 21, 21], [15, 21]), ([0, 22, 22], [0, 22]), ([23, 23, 0, 1, 2, 3, 4, 5, 6, 7, 8, 9, 10, 11, 12, 13, 14, 15, 16, 17, 18, 19, 20, 21, 22, 23], [23])])
def congouref04_basic.B16 : List Nat := [0, 0, 2, 0, 0, 24, 56, 0, 128, 504, 1022, 0, 2048, 0, 14336, 32766, 0, 0, 0, 262144, 0, 2097150, 4194302, 8388607, 16777215]
theorem congouref04_basic.tab16 : rtab .any (opsOf Try.f55 16) = congouref04_basic.T16 := by kernel_rfl
theorem congouref04_basic.bits16 : waitsOk congouref04_basic.T16.2 congouref04_basic.B16 = true := by kernel_rfl
def congouref04_basic.T17 : Bool × List (List Nat × List Nat) := (true, [([], []), ([], []), ([], []), ([1, 2], [1, 2]), ([3], [3]), ([0, 4], [0, 4]), ([5], [5]), ([], []), ([], []), ([8], [8]), ([7, 9], [7, 9]), ([10], [10]), ([6, 11], [6, 11]), ([12, 0, 1, 2, 3, 4, 5, 6, 7, 8, 9, 10, 11, 12], [12])])
def congouref04_basic.B17 : List Nat := [0, 0, 0, 6, 14, 31, 63, 0, 0, 256, 896, 1920, 4095, 8191]
theorem congouref04_basic.tab17 : rtab .any (opsOf Try.f55 17) = congouref04_basic.T17 := by kernel_rfl
theorem congouref04_basic.bits17 : waitsOk congouref04_basic.T17.2 congouref04_basic.B17 = true := by kernel_rfl
def congouref04_basic.T19 : Bool × List (List Nat × List Nat) := (true, [([], []), ([], []), ([], []), ([], []), ([2, 3], [2, 3]), ([4], [4]), ([1, 5], [1, 5]), ([6], [6]), ([], []), ([8], [8]), ([7, 9], [7, 9]), ([], []), ([11], [11]), ([10, 12], [10, 12]), ([], []), ([14], [14]), ([], []), ([15, 16], [15, 16]), ([13, 17], [13, 17]), ([], []), ([], []), ([20], [20]), ([], []), ([22], [22]), ([], []), ([19, 21, 23, 24, 18], [19, 21, 23, 24]), ([18, 25, 25], [18, 25]), ([0, 26, 26], [0, 26]), ([27, 27, 0, 1, 2, 3, 4, 5, 6, 7, 8, 9, 10, 11, 12, 13, 14, 15, 16, 17, 18, 19, 20, 21, 22, 23, 24, 25, 26, 27], [27])])
def congouref04_basic.B19 : List Nat := [0, 0, 0, 0, 12, 28, 62, 126, 0, 256, 1022, 0, 2048, 8190, 0, 16384, 0, 114688, 262142, 0, 0, 1048576, 0, 4194304, 0, 33554430, 67108862, 134217727, 268435455]
theorem congouref04_basic.tab19 : rtab .any (opsOf Try.f55 19) = congouref04_basic.T19 := by kernel_rfl
theorem congouref04_basic.bits19 : waitsOk congouref04_basic.T19.2 congouref04_basic.B19 = true := by kernel_rfl
set_option maxHeartbeats 8000000 in
set_option maxRecDepth 100000 in
theorem congouref04_basic.calls (k : Nat) : ∀ (a0_0 : Int) (A0_1 : Option Addr) (c0_1 : Nat) (l0_1 : List Int) (A0_2 : Option Addr) (c0_2 : Nat) (l0_2 : List Int) (a1 : Int) (a2 : Int) (a3_0 : Int) (a3_1 : Int) (r1 : Int) (r2 : Int) (w : World) (hr0_1 : Kd.C (Kd.int .i64) w A0_1 l0_1.length l0_1) (hc0_1 : l0_1.length ≤ c0_1) (hr0_2 : Kd.C (Kd.int .i64) w A0_2 l0_2.length l0_2) (hc0_2 : l0_2.length ≤ c0_2) (h : congouref04_basic.f k a0_0 l0_1 l0_2 a1 a2 a3_0 a3_1 = some (r1, r2)),
  Calls Try.prog 55 #[.agg #[.int .i64 a0_0, .slice A0_1 l0_1.length c0_1, .slice A0_2 l0_2.length c0_2], .int .i64 a1, .int .i64 a2, .agg #[.int .i64 a3_0, .int .i64 a3_1]] w fun e w' => e = .returned (.agg #[.int .i64 r1, .int .i64 r2]) ∧ Below w.heap.size w w' := by
 induction k using Nat.strongRecOn with
 | _ k ih =>
 intro a0_0 A0_1 c0_1 l0_1 A0_2 c0_2 l0_2 a1 a2 a3_0 a3_1 r1 r2 w hr0_1 hc0_1 hr0_2 hc0_2 h
 cases k with
 | zero => exact absurd h (by simp [congouref04_basic.f])
 | succ k =>
 simp only [congouref04_basic.f] at h
 have hu24 := Try.underlying24
 have hu26 := Try.underlying26
 have HR0_1 := Aside0.mk hr0_1
 have HC0_1 := Aside0.mk hc0_1
 clear hr0_1 hc0_1
 have HR0_2 := Aside0.mk hr0_2
 have HC0_2 := Aside0.mk hc0_2
 clear hr0_2 hc0_2
 have HB := Aside0.mk (Below.refl w.heap.size w)
 have H : (if a2 = 0 then (if 0 ≤ (l0_2.length : Int) then (if (l0_2.length : Int) < (l0_1.length : Int) then ((congouref04_whole.f (rd l0_1 (l0_2.length : Int))).bind fun bt435 => (if (a3_0 == bt435.1 && (a3_1 == bt435.2)) = true then (congouref04_basic.l0 k a1 l0_1 (wrap64 ((l0_2.length : Int) - 1))) else (if 0 ≤ a1 then (if a1 < (l0_1.length : Int) then (if (wrap64 ((rd l0_1 a1) * a3_1)) ≤ a3_0 then (if 0 ≤ (wrap64 (a1 + 1)) then (if (wrap64 (a1 + 1)) < (l0_1.length : Int) then (congouref04_basic.j1 k (decide (a3_0 < (wrap64 ((rd l0_1 (wrap64 (a1 + 1))) * a3_1))))) else (none)) else (none)) else (congouref04_basic.j1 k false)) else (none)) else (none)))) else (none)) else (none)) else ((congouref04_whole.f 0).bind fun bt449 => (if 0 ≤ (wrap64 (a1 + a2)) then (if (wrap64 (a1 + a2)) < (l0_1.length : Int) then (if 0 ≤ a1 then (if a1 < (l0_1.length : Int) then (if (wrap64 ((rd l0_1 (wrap64 (a1 + a2))) - (rd l0_1 a1))) > 0 then ((congouref04_Frac.f k (wrap64 (a3_0 - (wrap64 ((rd l0_1 a1) * a3_1)))) (wrap64 (a3_1 * (wrap64 ((rd l0_1 (wrap64 (a1 + a2))) - (rd l0_1 a1)))))).bind fun bt455 => ((congouref04_basic.f k a0_0 l0_1 l0_2 a1 (wrap64 (a2 - 1)) a3_0 a3_1).bind fun bt457 => ((congouref04_Times.f k bt455.1 bt455.2 bt457.1 bt457.2).bind fun bt459 => ((congouref04_Plus.f k bt449.1 bt449.2 bt459.1 bt459.2).bind fun bt461 => (congouref04_basic.j2 k a1 a2 l0_1 a0_0 l0_1 l0_2 a3_0 a3_1 bt461.1 bt461.2))))) else (congouref04_basic.j2 k a1 a2 l0_1 a0_0 l0_1 l0_2 a3_0 a3_1 bt449.1 bt449.2)) else (none)) else (none)) else (none)) else (none)))) = some (r1, r2) := h
 clear h
 by_cases c5 : a2 = 0
 ·rw [if_pos c5] at H
  have c5b0 : (a2 == 0) = true := beq_iff_eq.mpr c5
  have c5b1 : (a2 != 0) = false := bne_eq_false_iff_eq.mpr c5
  clear c5
  by_cases c6 : 0 ≤ (l0_2.length : Int)
  rotate_left
  ·rw [if_neg c6] at H
   exact absurd H (by simp)
  rw [if_pos c6] at H
  have c6b0 : decide (0 ≤ (l0_2.length : Int)) = true := decide_eq_true c6
  have c6b1 : decide (0 ≤ l0_2.length) = true := decide_eq_true (by omega)
  clear c6
  by_cases c7 : (l0_2.length : Int) < (l0_1.length : Int)
  rotate_left
  ·rw [if_neg c7] at H
   exact absurd H (by simp)
  rw [if_pos c7] at H
  have c7b0 : decide ((l0_2.length : Int) < (l0_1.length : Int)) = true := decide_eq_true c7
  have c7b1 : decide (l0_2.length < l0_1.length) = true := decide_eq_true (Int.ofNat_lt.mp c7)
  clear c7
  replace H := Option.bind_eq_some_iff.mp H
  obtain ⟨⟨t435, t436⟩, A80, H⟩ := H
  replace H : (if (a3_0 == t435 && (a3_1 == t436)) = true then (congouref04_basic.l0 k a1 l0_1 (wrap64 ((l0_2.length : Int) - 1))) else (if 0 ≤ a1 then (if a1 < (l0_1.length : Int) then (if (wrap64 ((rd l0_1 a1) * a3_1)) ≤ a3_0 then (if 0 ≤ (wrap64 (a1 + 1)) then (if (wrap64 (a1 + 1)) < (l0_1.length : Int) then (congouref04_basic.j1 k (decide (a3_0 < (wrap64 ((rd l0_1 (wrap64 (a1 + 1))) * a3_1))))) else (none)) else (none)) else (congouref04_basic.j1 k false)) else (none)) else (none))) = some (r1, r2) := H
  have A8 := Aside0.mk A80
  clear A80
  by_cases c9 : (a3_0 == t435 && (a3_1 == t436)) = true
  rotate_left
  ·rw [if_neg c9] at H
   have c9b0 : (a3_0 == t435 && (a3_1 == t436)) = false := by simpa using c9
   (try (have c9b1 : decide (a3_0 = t435 && (a3_1 == t436)) = false := by simpa using c9))
   (try (have c9b2 : (a3_0 == t435 && (a3_1 == t436)) = false := by simpa using c9))
   (try (have c9b3 : ¬ (a3_0 = t435 && (a3_1 == t436)) := by simpa using c9))
   clear c9
   have HC36 := Aside0.mk H
   clear H
   go_enter Try.func55, Try.ntmps55
   try go_wp2_with (first | ((with_reducible refine gate_dst (N := 4) rfl ?_); refine bE 4 #[.int .i64 a0_0, .slice A0_1 l0_1.length c0_1, .slice A0_2 l0_2.length c0_2] 24 ?_; intro gb431 hg w37 hbox hb; have BK431 := Aside0.mk (hbox); have GW431 := kG w hg; have GE431 := kG w hg; replace HB := kH _ hb; clear hb hbox hg) | ((with_reducible refine gate_dst (N := 7) rfl ?_); refine bE 7 #[.int .i64 a3_0, .int .i64 a3_1] 26 ?_; intro gb432 hg w38 hbox hb; have BK432 := Aside0.mk (hbox); have GW432 := kG w hg; have GE432 := kG w hg; replace HB := kH _ hb; have NB431_432 := kL BK431 hg; have NB432_431 := kR BK431 hg; replace BK431 := kB BK431 hb; clear hb hbox hg) | ((with_reducible refine gate_dst (N := 8) rfl ?_); refine bE 8 #[.int .i64 0, .int .i64 0] 26 ?_; intro gb433 hg w39 hbox hb; have BK433 := Aside0.mk (hbox); have GW433 := kG w hg; have GE433 := kG w hg; replace HB := kH _ hb; have NB431_433 := kL BK431 hg; have NB433_431 := kR BK431 hg; replace BK431 := kB BK431 hb; have NB432_433 := kL BK432 hg; have NB433_432 := kR BK432 hg; replace BK432 := kB BK432 hb; clear hb hbox hg))
   replace BK431 := kd BK431
   replace BK432 := kd BK432
   replace BK433 := kd BK433
   replace HB := Aside0.mk (below_drew1 HB.out)
   refine sS (n := 7) (S := fun w' => w'.cell? ⟨gb431, 0, none⟩ = some (.int .i64 a0_0) ∧ w'.cell? ⟨gb431, 1, none⟩ = some (.slice A0_1 l0_1.length c0_1) ∧ w'.cell? ⟨gb431, 2, none⟩ = some (.slice A0_2 l0_2.length c0_2)) (ds := []) ⟨bc BK431 0, bc BK431 1, bc BK431 2⟩ (fun hHeld => ?_)
   generalize w39.drew = w40 at BK431 BK432 BK433 HB hHeld ⊢
   refine pure_ (i := 0) (N := some 15) (v := ?_) (a' := ?_) (ba 7 1) rfl rfl (by kernel_rfl) (fun _ _ _ h => h) (Or.inl ⟨by rfl, ?_⟩) ?_ ?_
   rotate_left
   ·intro w'
    go_simp
    with_reducible rfl
   rotate_left
   ·simp only [Act.put, List.setIfInBounds_toArray, List.set_cons_zero, List.set_cons_succ, i64_w, i32_w]
    rfl
   refine pure_ (i := 2) (N := some 17) (v := ?_) (a' := ?_) (ba 7 5) rfl rfl (by kernel_rfl) (fun _ _ _ h => h) (Or.inl ⟨by rfl, ?_⟩) ?_ ?_
   rotate_left
   ·intro w'
    go_simp
    with_reducible rfl
   rotate_left
   ·simp only [Act.put, List.setIfInBounds_toArray, List.set_cons_zero, List.set_cons_succ, i64_w, i32_w]
    rfl
   refine take_ (i := 1) (N := some 16) (v := ?_) (a' := ?_) (ba 7 7) rfl rfl (by kernel_rfl) (fun _ _ _ h => h) (Or.inl ⟨by rfl, ?_⟩) hHeld ?_ ?_
   rotate_left
   ·rintro w' ⟨s0, s1, s2⟩
    go_simp
    with_reducible rfl
   rotate_left
   ·simp only [Act.put, List.setIfInBounds_toArray, List.set_cons_zero, List.set_cons_succ, i64_w, i32_w]
    rfl
   refine pure_ (i := 5) (N := some 9) (v := ?_) (a' := ?_) (ba 7 39) rfl rfl (by kernel_rfl) (fun _ _ _ h => h) (Or.inl ⟨by rfl, ?_⟩) ?_ ?_
   rotate_left
   ·intro w'
    go_simp
    with_reducible rfl
   rotate_left
   ·simp only [Act.put, List.setIfInBounds_toArray, List.set_cons_zero, List.set_cons_succ, i64_w, i32_w]
    rfl
   refine take_ (i := 3) (N := some 18) (v := ?_) (a' := ?_) (ba 7 47) rfl rfl (by kernel_rfl) (fun _ _ _ h => h) (Or.inl ⟨by rfl, ?_⟩) hHeld ?_ ?_
   rotate_left
   ·rintro w' ⟨s0, s1, s2⟩
    go_simp
    with_reducible rfl
   rotate_left
   ·simp only [Act.put, List.setIfInBounds_toArray, List.set_cons_zero, List.set_cons_succ, i64_w, i32_w]
    rfl
   refine pure_ (i := 4) (N := some 19) (v := ?_) (a' := ?_) (ba 7 63) rfl rfl (by kernel_rfl) (fun _ _ _ h => h) (Or.inl ⟨by rfl, ?_⟩) ?_ ?_
   rotate_left
   ·intro w'
    go_simp
    with_reducible rfl
   rotate_left
   ·simp only [Act.put, List.setIfInBounds_toArray, List.set_cons_zero, List.set_cons_succ, i64_w, i32_w]
    rfl
   refine pure_ (i := 6) (N := some 10) (v := ?_) (a' := ?_) (ba 7 127) rfl rfl (by kernel_rfl) (fun _ _ _ h => h) (Or.inl ⟨by rfl, ?_⟩) ?_ ?_
   rotate_left
   ·intro w'
    go_simp
    with_reducible rfl
   rotate_left
   ·simp only [Act.put, List.setIfInBounds_toArray, List.set_cons_zero, List.set_cons_succ, i64_w, i32_w]
    rfl
   refine done_ (by kernel_rfl) ?_
   try go_wp2
   replace BK431 := kd BK431
   replace BK432 := kd BK432
   replace BK433 := kd BK433
   replace HB := Aside0.mk (below_drew1 HB.out)
   have p434 : 0 ≤ ((l0_2.length : Int) : Int) := dA
   have q434 : (l0_2.length : Int) < (l0_1.length : Int) := dA
   obtain ⟨ad434, e434, hx434_0⟩ := Kd.at_int HR0_1.out (l0_2.length : Int) p434 q434
   have hw434_0 := hx434_0
   cases e434
   try replace hx434_0 := (HB.out.cell (World.block_lt_of_cell? w _ hx434_0)).trans hx434_0
   (try simp only [Go.IntWalk.toNatUp] at hx434_0)
   (try simp only [Int.toNat_natCast] at hx434_0)
   replace p434 := eq_true p434
   replace q434 := eq_true q434
   refine sS (n := 7) (S := fun w' => w'.cell? ⟨gb432, 0, none⟩ = some (.int .i64 a3_0) ∧ w'.cell? ⟨gb432, 1, none⟩ = some (.int .i64 a3_1) ∧ w'.cell? (ad434.add l0_2.length) = some (.int .i64 (rd l0_1 (l0_2.length : Int)))) (ds := []) ⟨bc BK432 0, bc BK432 1, ((HB.out.cell (World.block_lt_of_cell? w _ hw434_0)).trans hw434_0)⟩ (fun hHeld => ?_)
   generalize w40.drew = w41 at BK431 BK432 BK433 HB hx434_0 hHeld ⊢
   refine pure_ (i := 1) (N := some 23) (v := ?_) (a' := ?_) (ba 7 2) rfl rfl (by kernel_rfl) (fun _ _ _ h => h) (Or.inl ⟨by rfl, ?_⟩) ?_ ?_
   rotate_left
   ·intro w'
    go_simp
    with_reducible rfl
   rotate_left
   ·simp only [Act.put, List.setIfInBounds_toArray, List.set_cons_zero, List.set_cons_succ, i64_w, i32_w]
    rfl
   refine pure_ (i := 2) (N := some 24) (v := ?_) (a' := ?_) (ba 7 6) rfl rfl (by kernel_rfl) (fun _ _ _ h => h) (Or.inl ⟨by rfl, ?_⟩) ?_ ?_
   rotate_left
   ·intro w'
    go_simp
    with_reducible rfl
   rotate_left
   ·simp only [Act.put, List.setIfInBounds_toArray, List.set_cons_zero, List.set_cons_succ, i64_w, i32_w]
    rfl
   refine pure_ (i := 3) (N := some 25) (v := ?_) (a' := ?_) (ba 7 14) rfl rfl (by kernel_rfl) (fun _ _ _ h => h) (Or.inl ⟨by rfl, ?_⟩) ?_ ?_
   rotate_left
   ·intro w'
    go_simp
    with_reducible rfl
   rotate_left
   ·simp only [Act.put, List.setIfInBounds_toArray, List.set_cons_zero, List.set_cons_succ, i64_w, i32_w]
    rfl
   refine take_ (i := 0) (N := some 22) (v := ?_) (a' := ?_) (ba 7 15) rfl rfl (by kernel_rfl) (fun _ _ _ h => h) (Or.inl ⟨by rfl, ?_⟩) hHeld ?_ ?_
   rotate_left
   ·rintro w' ⟨s0, s1, s2⟩
    go_simp
    with_reducible rfl
   rotate_left
   ·simp only [Act.put, List.setIfInBounds_toArray, List.set_cons_zero, List.set_cons_succ, i64_w, i32_w]
    rfl
   refine take_ (i := 4) (N := some 26) (v := ?_) (a' := ?_) (ba 7 31) rfl rfl (by kernel_rfl) (fun _ _ _ h => h) (Or.inl ⟨by rfl, ?_⟩) hHeld ?_ ?_
   rotate_left
   ·rintro w' ⟨s0, s1, s2⟩
    go_simp
    with_reducible rfl
   rotate_left
   ·simp only [Act.put, List.setIfInBounds_toArray, List.set_cons_zero, List.set_cons_succ, i64_w, i32_w]
    rfl
   refine one_ (i := 5) (N := some 27) (ba 7 63) rfl rfl (by kernel_rfl) (by decide) (fun K hK => ?_)
   refine gC Try.func56 #[.int .i64 (rd l0_1 (l0_2.length : Int))] ?_
   with_reducible refine (congouref04_whole.calls (rd l0_1 (l0_2.length : Int)) t435 t436 _ A8.out).mono ?_
   rintro e w42 ⟨rfl, hb⟩
   refine ⟨_, rfl, ?_⟩
   replace BK431 := kB BK431 hb
   replace BK432 := kB BK432 hb
   replace BK433 := kB BK433 hb
   replace HB := kH _ hb
   (try clear hb)
   (try clear hb2)
   (try clear hk)
   (try clear hi)
   refine hK.out _ _ ⟨bc BK432 0, bc BK432 1, ((HB.out.cell (World.block_lt_of_cell? w _ hw434_0)).trans hw434_0)⟩ (fun hHeld => ?_)
   clear hK K
   refine norm_ (a' := ?_) ?_ ?_
   rotate_left
   ·show Act.put _ (some 27) _ = _
    simp only [Act.put, List.setIfInBounds_toArray, List.set_cons_zero, List.set_cons_succ, i64_w, i32_w]
    rfl
   refine pure_ (i := 6) (N := some 28) (v := ?_) (a' := ?_) (ba 7 127) rfl rfl (by kernel_rfl) (fun _ _ _ h => h) (Or.inl ⟨by rfl, ?_⟩) ?_ ?_
   rotate_left
   ·intro w'
    go_simp
    with_reducible rfl
   rotate_left
   ·simp only [Act.put, List.setIfInBounds_toArray, List.set_cons_zero, List.set_cons_succ, i64_w, i32_w]
    rfl
   refine done_ (by kernel_rfl) ?_
   go_upto_region 10 with (fail)
   go_cut [70] (fun v70 wc => ∃ (kq : Nat) (x70_35 : Bool), v70 = .bool x70_35 ∧ Aside0 (congouref04_basic.j1 kq x70_35 = some (r1, r2)) ∧ Aside0 (kq ≤ k) ∧ Aside0 (wc.heap[gb431]? = some (.cells #[.int .i64 a0_0, (.slice (some ad434) l0_1.length c0_1), (.slice A0_2 l0_2.length c0_2)] 24 (0, 0))) ∧ Aside0 (wc.heap[gb432]? = some (.cells #[.int .i64 a3_0, .int .i64 a3_1] 26 (0, 0))) ∧ Aside0 (wc.heap[gb433]? = some (.cells #[.int .i64 0, .int .i64 0] 26 (0, 0))) ∧ Aside0 (Below w.heap.size w wc))
   case first =>
    have H := HC36.out
    clear HC36
    by_cases c43 : 0 ≤ a1
    rotate_left
    ·rw [if_neg c43] at H
     exact absurd H (by simp)
    rw [if_pos c43] at H
    have c43b0 : decide (0 ≤ a1) = true := decide_eq_true c43
    clear c43
    (first | rw [c43b0] | (simp only [i64_w, i32_w]; rw [c43b0]) | skip)
    by_cases c44 : a1 < (l0_1.length : Int)
    rotate_left
    ·rw [if_neg c44] at H
     exact absurd H (by simp)
    rw [if_pos c44] at H
    have c44b0 : decide (a1 < (l0_1.length : Int)) = true := decide_eq_true c44
    clear c44
    by_cases c45 : (wrap64 ((rd l0_1 a1) * a3_1)) ≤ a3_0
    rotate_left
    ·rw [if_neg c45] at H
     have c45b0 : decide ((wrap64 ((rd l0_1 a1) * a3_1)) ≤ a3_0) = false := decide_eq_false c45
     clear c45
     have H' := Aside0.mk H
     clear H
     try go_wp2
     replace BK431 := kd BK431
     replace BK432 := kd BK432
     replace BK433 := kd BK433
     replace HB := Aside0.mk (below_drew1 HB.out)
     have p443 : 0 ≤ (a1 : Int) := dA
     have q443 : a1 < (l0_1.length : Int) := dA
     obtain ⟨ad443, e443, hx443_0⟩ := Kd.at_int HR0_1.out a1 p443 q443
     have hw443_0 := hx443_0
     obtain rfl : ad434 = ad443 := (by injection e443)
     try replace hx443_0 := (HB.out.cell (World.block_lt_of_cell? w _ hx443_0)).trans hx443_0
     replace p443 := eq_true p443
     replace q443 := eq_true q443
     refine sS (n := 23) (S := fun w' => w'.cell? ⟨gb432, 0, none⟩ = some (.int .i64 a3_0) ∧ w'.cell? ⟨gb432, 1, none⟩ = some (.int .i64 a3_1) ∧ w'.cell? (ad434.add (a1).toNat) = some (.int .i64 (rd l0_1 a1))) (ds := []) ⟨bc BK432 0, bc BK432 1, ((HB.out.cell (World.block_lt_of_cell? w _ hw443_0)).trans hw443_0)⟩ (fun hHeld => ?_); refine with_tabW congouref04_basic.tab10 congouref04_basic.bits10 (fun HT_ HW_ => ?_)
     generalize w42.drew = w50 at BK431 BK432 BK433 HB hx443_0 hHeld ⊢
     refine pS 0 48 23 1 ?_
     refine pS 1 49 23 3 ?_
     refine pS 2 50 23 7 ?_
     refine pS 4 52 23 23 ?_
     refine pS 7 55 23 151 ?_
     refine tS 3 51 23 159 ?_
     refine tS 5 53 23 191 ?_
     refine pS 6 54 23 255 ?_
     refine tS 8 56 23 511 ?_
     refine pS 9 57 23 1023 ?_
     refine pS 10 58 23 2047 ?_
     refine uS 11 59 23 4095 ?_
     refine uS 12 60 23 8191 ?_
     refine uS 13 61 23 16383 ?_
     refine uS 14 62 23 32767 ?_
     refine uS 15 63 23 65535 ?_
     refine uS 16 64 23 131071 ?_
     refine uS 17 65 23 262143 ?_
     refine uS 18 66 23 524287 ?_
     refine uS 19 67 23 1048575 ?_
     refine uS 20 68 23 2097151 ?_
     refine uS 21 69 23 4194303 ?_
     refine pS 22 70 23 8388607 ?_
     refine done_ (done_of HT_.out (by kernel_rfl)) ?_
     try go_wp2
     go_meet
     case rel => exact ⟨_, (false), (by first | rfl | (simp; done) | (simp [*]; done)), H', ⟨by first | omega | exact Nat.le_refl _⟩, ⟨bkC BK431⟩, ⟨bkC BK432⟩, ⟨bkC BK433⟩, ⟨hbC _⟩⟩
    rw [if_pos c45] at H
    have c45b0 : decide ((wrap64 ((rd l0_1 a1) * a3_1)) ≤ a3_0) = true := decide_eq_true c45
    clear c45
    obtain ⟨ji46, hji46⟩ : ∃ j_ : Int, (wrap64 (a1 + 1)) = j_ := ⟨_, rfl⟩
    replace H : (if 0 ≤ (ji46) then (if (ji46) < (l0_1.length : Int) then (congouref04_basic.j1 k (decide (a3_0 < (wrap64 ((rd l0_1 (ji46)) * a3_1))))) else (none)) else (none)) = some (r1, r2) := by first | (rw [hji46] at H; exact H) | (simp only [hji46] at H ⊢; exact H)
    have hji46w : (IntKind.i64.wrap (a1 + 1)) = ji46 := (i64_w _).trans hji46
    by_cases c47 : 0 ≤ (ji46)
    rotate_left
    ·rw [if_neg c47] at H
     exact absurd H (by simp)
    rw [if_pos c47] at H
    have c47b0 : decide (0 ≤ (ji46)) = true := decide_eq_true c47
    clear c47
    by_cases c48 : (ji46) < (l0_1.length : Int)
    rotate_left
    ·rw [if_neg c48] at H
     exact absurd H (by simp)
    rw [if_pos c48] at H
    have c48b0 : decide ((ji46) < (l0_1.length : Int)) = true := decide_eq_true c48
    clear c48
    have H' := Aside0.mk H
    clear H
    try go_wp2
    replace BK431 := kd BK431
    replace BK432 := kd BK432
    replace BK433 := kd BK433
    replace HB := Aside0.mk (below_drew1 HB.out)
    have p443 : 0 ≤ (a1 : Int) := dA
    have q443 : a1 < (l0_1.length : Int) := dA
    obtain ⟨ad443, e443, hx443_0⟩ := Kd.at_int HR0_1.out a1 p443 q443
    have hw443_0 := hx443_0
    obtain rfl : ad434 = ad443 := (by injection e443)
    try replace hx443_0 := (HB.out.cell (World.block_lt_of_cell? w _ hx443_0)).trans hx443_0
    replace p443 := eq_true p443
    replace q443 := eq_true q443
    have p444 : 0 ≤ ((ji46) : Int) := dA
    have q444 : (ji46) < (l0_1.length : Int) := dA
    obtain ⟨ad444, e444, hx444_0⟩ := Kd.at_int HR0_1.out (ji46) p444 q444
    have hw444_0 := hx444_0
    obtain rfl : ad434 = ad444 := (by injection e444)
    try replace hx444_0 := (HB.out.cell (World.block_lt_of_cell? w _ hx444_0)).trans hx444_0
    replace p444 := eq_true p444
    replace q444 := eq_true q444
    refine sS (n := 23) (S := fun w' => w'.cell? ⟨gb432, 0, none⟩ = some (.int .i64 a3_0) ∧ w'.cell? ⟨gb432, 1, none⟩ = some (.int .i64 a3_1) ∧ w'.cell? (ad434.add (a1).toNat) = some (.int .i64 (rd l0_1 a1)) ∧ w'.cell? (ad434.add ((ji46)).toNat) = some (.int .i64 (rd l0_1 (ji46)))) (ds := []) ⟨bc BK432 0, bc BK432 1, ((HB.out.cell (World.block_lt_of_cell? w _ hw443_0)).trans hw443_0), ((HB.out.cell (World.block_lt_of_cell? w _ hw444_0)).trans hw444_0)⟩ (fun hHeld => ?_); refine with_tabW congouref04_basic.tab10 congouref04_basic.bits10 (fun HT_ HW_ => ?_)
    generalize w42.drew = w49 at BK431 BK432 BK433 HB hx443_0 hx444_0 hHeld ⊢
    refine pS 0 48 23 1 ?_
    refine pS 1 49 23 3 ?_
    refine pS 2 50 23 7 ?_
    refine pS 4 52 23 23 ?_
    refine pS 7 55 23 151 ?_
    refine tS 3 51 23 159 ?_
    refine tS 5 53 23 191 ?_
    refine pS 6 54 23 255 ?_
    refine tS 8 56 23 511 ?_
    refine pS 9 57 23 1023 ?_
    refine pS 10 58 23 2047 ?_
    refine pS 11 59 23 4095 ?_
    refine pS 13 61 23 12287 ?_
    refine pS 14 62 23 28671 ?_
    refine pS 15 63 23 61439 ?_
    refine pS 16 64 23 126975 ?_
    refine pS 18 66 23 389119 ?_
    refine tS 12 60 23 393215 ?_
    refine tS 17 65 23 524287 ?_
    refine tS 19 67 23 1048575 ?_
    refine pS 20 68 23 2097151 ?_
    refine pS 21 69 23 4194303 ?_
    refine pS 22 70 23 8388607 ?_
    refine done_ (done_of HT_.out (by kernel_rfl)) ?_
    try go_wp2
    go_meet
    case rel => exact ⟨_, (decide (a3_0 < (wrap64 ((rd l0_1 (ji46)) * a3_1)))), (by first | rfl | (simp; done) | (simp only [← hji46] <;> (first | rfl | simp)) | (simp [*]; done)), H', ⟨by first | omega | exact Nat.le_refl _⟩, ⟨bkC BK431⟩, ⟨bkC BK432⟩, ⟨bkC BK433⟩, ⟨hbC _⟩⟩
   case rest =>
    clear HC36
    try clear p2
    try clear c4
    try clear p4
    try clear q4
    try clear hx4
    try clear c5
    try clear p6
    try clear c43
    try clear c43b0
    try clear p43
    try clear q43
    try clear hx43
    try clear c44
    try clear c44b0
    try clear p44
    try clear q44
    try clear hx44
    try clear c45
    try clear c45b0
    try clear c47
    try clear c47b0
    try clear c48
    try clear c48b0
    try clear hx434_0
    try clear hx443_0
    try clear hx444_0
    try clear p434
    try clear p443
    try clear p444
    try clear q434
    try clear q443
    try clear q444
    obtain ⟨kq, x70_35, rfl, HA, HJ35, BK431, BK432, BK433, HB⟩ := hcut
    cases kq with
    | zero => exact absurd HA.out (by simp [congouref04_basic.j1])
    | succ kj35 =>
     have H := HA.out
     clear HA
     simp only [congouref04_basic.j1] at H
     by_cases c51 : x70_35 = true
     ·subst c51
      have H1 : ((congouref04_whole.f 1).bind fun bt445 => (some (bt445.1, bt445.2))) = some (r1, r2) := by rw [if_pos rfl] at H; exact H
      clear H
      have H := H1
      clear H1
      replace H := Option.bind_eq_some_iff.mp H
      obtain ⟨⟨t445, t446⟩, A520, H⟩ := H
      replace H : (some (t445, t446)) = some (r1, r2) := H
      have A52 := Aside0.mk A520
      clear A520
      simp only [Option.some.injEq, Prod.mk.injEq] at H
      obtain ⟨rfl, rfl⟩ := H
      go_wp2_with (first | ((with_reducible refine gate_callee (f := 56) rfl ?_); refine gL 71 Try.func56 #[.int .i64 1] ?_; (with_reducible refine (congouref04_whole.calls 1 t445 t446 _ A52.out).mono ?_); rintro e w53 ⟨rfl, hb⟩; refine ⟨_, rfl, ?_⟩; replace BK431 := kB BK431 hb; replace BK432 := kB BK432 hb; replace BK433 := kB BK433 hb; replace HB := kH _ hb; (try clear hb); (try clear hb2); (try clear hk); (try clear hi); have hnb54 := NB433_431.out; have hnc54 := NB431_433.out; have hnb55 := NB433_432.out; have hnc55 := NB432_433.out; have hcz56_0 : w53.cell? ⟨gb433, 0, none⟩ = some (.int .i64 0) := bc BK433 0; have hcz56_1 : w53.cell? ⟨gb433, 1, none⟩ = some (.int .i64 0) := bc BK433 1; have hfz56_0 := fz BK433 0; have hfz56_1 := fz BK433 1))
      refine bodyPost_ret (results_cell_row rfl _ _ gb433 26 #[.int .i64 t445, .int .i64 t446] (0, 0) _ rfl (by (with_reducible repeat (first | refine blk_drewN ?_ _ | refine blk_drew ?_ | refine blk_alloc ?_ _)); refine blk_put (cs := #[.int .i64 t445, .int .i64 0]) ?_ 1 _ rfl; (with_reducible repeat (first | refine blk_drewN ?_ _ | refine blk_drew ?_ | refine blk_alloc ?_ _)); refine blk_put (cs := #[.int .i64 0, .int .i64 0]) ?_ 0 _ rfl; (with_reducible repeat (first | refine blk_drewN ?_ _ | refine blk_drew ?_ | refine blk_alloc ?_ _)); exact BK433.out) Try.underlying26 rfl (by kernel_rfl)) rfl ?_
      exact ⟨by first | rfl | (simp [errW_none, errW_some] <;> rfl) | (simp [*, errW_none, errW_some] <;> rfl), hbC _⟩
     replace c51 := Bool.eq_false_iff.mpr c51
     subst c51
     have H1 : ((congouref04_whole.f 0).bind fun bt447 => (some (bt447.1, bt447.2))) = some (r1, r2) := by rw [if_neg (show ¬ (false = true) by decide)] at H; exact H
     clear H
     have H := H1
     clear H1
     replace H := Option.bind_eq_some_iff.mp H
     obtain ⟨⟨t447, t448⟩, A570, H⟩ := H
     replace H : (some (t447, t448)) = some (r1, r2) := H
     have A57 := Aside0.mk A570
     clear A570
     simp only [Option.some.injEq, Prod.mk.injEq] at H
     obtain ⟨rfl, rfl⟩ := H
     go_wp2_with (first | ((with_reducible refine gate_callee (f := 56) rfl ?_); refine gL 72 Try.func56 #[.int .i64 0] ?_; (with_reducible refine (congouref04_whole.calls 0 t447 t448 _ A57.out).mono ?_); rintro e w58 ⟨rfl, hb⟩; refine ⟨_, rfl, ?_⟩; replace BK431 := kB BK431 hb; replace BK432 := kB BK432 hb; replace BK433 := kB BK433 hb; replace HB := kH _ hb; (try clear hb); (try clear hb2); (try clear hk); (try clear hi); have hnb59 := NB433_431.out; have hnc59 := NB431_433.out; have hnb60 := NB433_432.out; have hnc60 := NB432_433.out; have hcz61_0 : w58.cell? ⟨gb433, 0, none⟩ = some (.int .i64 0) := bc BK433 0; have hcz61_1 : w58.cell? ⟨gb433, 1, none⟩ = some (.int .i64 0) := bc BK433 1; have hfz61_0 := fz BK433 0; have hfz61_1 := fz BK433 1))
     refine bodyPost_ret (results_cell_row rfl _ _ gb433 26 #[.int .i64 t447, .int .i64 t448] (0, 0) _ rfl (by (with_reducible repeat (first | refine blk_drewN ?_ _ | refine blk_drew ?_ | refine blk_alloc ?_ _)); refine blk_put (cs := #[.int .i64 t447, .int .i64 0]) ?_ 1 _ rfl; (with_reducible repeat (first | refine blk_drewN ?_ _ | refine blk_drew ?_ | refine blk_alloc ?_ _)); refine blk_put (cs := #[.int .i64 0, .int .i64 0]) ?_ 0 _ rfl; (with_reducible repeat (first | refine blk_drewN ?_ _ | refine blk_drew ?_ | refine blk_alloc ?_ _)); exact BK433.out) Try.underlying26 rfl (by kernel_rfl)) rfl ?_
     exact ⟨by first | rfl | (simp [errW_none, errW_some] <;> rfl) | (simp [*, errW_none, errW_some] <;> rfl), hbC _⟩
  rw [if_pos c9] at H
  have c9b0 : (a3_0 == t435 && (a3_1 == t436)) = true := c9
  (try (have c9b1 : decide (a3_0 = t435 && (a3_1 == t436)) = true := by simpa using c9))
  (try (have c9b2 : (a3_0 == t435 && (a3_1 == t436)) = true := by simpa using c9))
  clear c9
  have H' := Aside0.mk H
  clear H
  go_enter Try.func55, Try.ntmps55
  try go_wp2_with (first | ((with_reducible refine gate_dst (N := 4) rfl ?_); refine bE 4 #[.int .i64 a0_0, .slice A0_1 l0_1.length c0_1, .slice A0_2 l0_2.length c0_2] 24 ?_; intro gb431 hg w10 hbox hb; have BK431 := Aside0.mk (hbox); have GW431 := kG w hg; have GE431 := kG w hg; replace HB := kH _ hb; clear hb hbox hg) | ((with_reducible refine gate_dst (N := 7) rfl ?_); refine bE 7 #[.int .i64 a3_0, .int .i64 a3_1] 26 ?_; intro gb432 hg w11 hbox hb; have BK432 := Aside0.mk (hbox); have GW432 := kG w hg; have GE432 := kG w hg; replace HB := kH _ hb; have NB431_432 := kL BK431 hg; have NB432_431 := kR BK431 hg; replace BK431 := kB BK431 hb; clear hb hbox hg) | ((with_reducible refine gate_dst (N := 8) rfl ?_); refine bE 8 #[.int .i64 0, .int .i64 0] 26 ?_; intro gb433 hg w12 hbox hb; have BK433 := Aside0.mk (hbox); have GW433 := kG w hg; have GE433 := kG w hg; replace HB := kH _ hb; have NB431_433 := kL BK431 hg; have NB433_431 := kR BK431 hg; replace BK431 := kB BK431 hb; have NB432_433 := kL BK432 hg; have NB433_432 := kR BK432 hg; replace BK432 := kB BK432 hb; clear hb hbox hg))
  replace BK431 := kd BK431
  replace BK432 := kd BK432
  replace BK433 := kd BK433
  replace HB := Aside0.mk (below_drew1 HB.out)
  refine sS (n := 7) (S := fun w' => w'.cell? ⟨gb431, 0, none⟩ = some (.int .i64 a0_0) ∧ w'.cell? ⟨gb431, 1, none⟩ = some (.slice A0_1 l0_1.length c0_1) ∧ w'.cell? ⟨gb431, 2, none⟩ = some (.slice A0_2 l0_2.length c0_2)) (ds := []) ⟨bc BK431 0, bc BK431 1, bc BK431 2⟩ (fun hHeld => ?_)
  generalize w12.drew = w13 at BK431 BK432 BK433 HB hHeld ⊢
  refine pure_ (i := 0) (N := some 15) (v := ?_) (a' := ?_) (ba 7 1) rfl rfl (by kernel_rfl) (fun _ _ _ h => h) (Or.inl ⟨by rfl, ?_⟩) ?_ ?_
  rotate_left
  ·intro w'
   go_simp
   with_reducible rfl
  rotate_left
  ·simp only [Act.put, List.setIfInBounds_toArray, List.set_cons_zero, List.set_cons_succ, i64_w, i32_w]
   rfl
  refine pure_ (i := 2) (N := some 17) (v := ?_) (a' := ?_) (ba 7 5) rfl rfl (by kernel_rfl) (fun _ _ _ h => h) (Or.inl ⟨by rfl, ?_⟩) ?_ ?_
  rotate_left
  ·intro w'
   go_simp
   with_reducible rfl
  rotate_left
  ·simp only [Act.put, List.setIfInBounds_toArray, List.set_cons_zero, List.set_cons_succ, i64_w, i32_w]
   rfl
  refine take_ (i := 1) (N := some 16) (v := ?_) (a' := ?_) (ba 7 7) rfl rfl (by kernel_rfl) (fun _ _ _ h => h) (Or.inl ⟨by rfl, ?_⟩) hHeld ?_ ?_
  rotate_left
  ·rintro w' ⟨s0, s1, s2⟩
   go_simp
   with_reducible rfl
  rotate_left
  ·simp only [Act.put, List.setIfInBounds_toArray, List.set_cons_zero, List.set_cons_succ, i64_w, i32_w]
   rfl
  refine pure_ (i := 5) (N := some 9) (v := ?_) (a' := ?_) (ba 7 39) rfl rfl (by kernel_rfl) (fun _ _ _ h => h) (Or.inl ⟨by rfl, ?_⟩) ?_ ?_
  rotate_left
  ·intro w'
   go_simp
   with_reducible rfl
  rotate_left
  ·simp only [Act.put, List.setIfInBounds_toArray, List.set_cons_zero, List.set_cons_succ, i64_w, i32_w]
   rfl
  refine take_ (i := 3) (N := some 18) (v := ?_) (a' := ?_) (ba 7 47) rfl rfl (by kernel_rfl) (fun _ _ _ h => h) (Or.inl ⟨by rfl, ?_⟩) hHeld ?_ ?_
  rotate_left
  ·rintro w' ⟨s0, s1, s2⟩
   go_simp
   with_reducible rfl
  rotate_left
  ·simp only [Act.put, List.setIfInBounds_toArray, List.set_cons_zero, List.set_cons_succ, i64_w, i32_w]
   rfl
  refine pure_ (i := 4) (N := some 19) (v := ?_) (a' := ?_) (ba 7 63) rfl rfl (by kernel_rfl) (fun _ _ _ h => h) (Or.inl ⟨by rfl, ?_⟩) ?_ ?_
  rotate_left
  ·intro w'
   go_simp
   with_reducible rfl
  rotate_left
  ·simp only [Act.put, List.setIfInBounds_toArray, List.set_cons_zero, List.set_cons_succ, i64_w, i32_w]
   rfl
  refine pure_ (i := 6) (N := some 10) (v := ?_) (a' := ?_) (ba 7 127) rfl rfl (by kernel_rfl) (fun _ _ _ h => h) (Or.inl ⟨by rfl, ?_⟩) ?_ ?_
  rotate_left
  ·intro w'
   go_simp
   with_reducible rfl
  rotate_left
  ·simp only [Act.put, List.setIfInBounds_toArray, List.set_cons_zero, List.set_cons_succ, i64_w, i32_w]
   rfl
  refine done_ (by kernel_rfl) ?_
  try go_wp2
  replace BK431 := kd BK431
  replace BK432 := kd BK432
  replace BK433 := kd BK433
  replace HB := Aside0.mk (below_drew1 HB.out)
  have p434 : 0 ≤ ((l0_2.length : Int) : Int) := dA
  have q434 : (l0_2.length : Int) < (l0_1.length : Int) := dA
  obtain ⟨ad434, e434, hx434_0⟩ := Kd.at_int HR0_1.out (l0_2.length : Int) p434 q434
  have hw434_0 := hx434_0
  cases e434
  try replace hx434_0 := (HB.out.cell (World.block_lt_of_cell? w _ hx434_0)).trans hx434_0
  (try simp only [Go.IntWalk.toNatUp] at hx434_0)
  (try simp only [Int.toNat_natCast] at hx434_0)
  replace p434 := eq_true p434
  replace q434 := eq_true q434
  refine sS (n := 7) (S := fun w' => w'.cell? ⟨gb432, 0, none⟩ = some (.int .i64 a3_0) ∧ w'.cell? ⟨gb432, 1, none⟩ = some (.int .i64 a3_1) ∧ w'.cell? (ad434.add l0_2.length) = some (.int .i64 (rd l0_1 (l0_2.length : Int)))) (ds := []) ⟨bc BK432 0, bc BK432 1, ((HB.out.cell (World.block_lt_of_cell? w _ hw434_0)).trans hw434_0)⟩ (fun hHeld => ?_)
  generalize w13.drew = w14 at BK431 BK432 BK433 HB hx434_0 hHeld ⊢
  refine pure_ (i := 1) (N := some 23) (v := ?_) (a' := ?_) (ba 7 2) rfl rfl (by kernel_rfl) (fun _ _ _ h => h) (Or.inl ⟨by rfl, ?_⟩) ?_ ?_
  rotate_left
  ·intro w'
   go_simp
   with_reducible rfl
  rotate_left
  ·simp only [Act.put, List.setIfInBounds_toArray, List.set_cons_zero, List.set_cons_succ, i64_w, i32_w]
   rfl
  refine pure_ (i := 2) (N := some 24) (v := ?_) (a' := ?_) (ba 7 6) rfl rfl (by kernel_rfl) (fun _ _ _ h => h) (Or.inl ⟨by rfl, ?_⟩) ?_ ?_
  rotate_left
  ·intro w'
   go_simp
   with_reducible rfl
  rotate_left
  ·simp only [Act.put, List.setIfInBounds_toArray, List.set_cons_zero, List.set_cons_succ, i64_w, i32_w]
   rfl
  refine pure_ (i := 3) (N := some 25) (v := ?_) (a' := ?_) (ba 7 14) rfl rfl (by kernel_rfl) (fun _ _ _ h => h) (Or.inl ⟨by rfl, ?_⟩) ?_ ?_
  rotate_left
  ·intro w'
   go_simp
   with_reducible rfl
  rotate_left
  ·simp only [Act.put, List.setIfInBounds_toArray, List.set_cons_zero, List.set_cons_succ, i64_w, i32_w]
   rfl
  refine take_ (i := 0) (N := some 22) (v := ?_) (a' := ?_) (ba 7 15) rfl rfl (by kernel_rfl) (fun _ _ _ h => h) (Or.inl ⟨by rfl, ?_⟩) hHeld ?_ ?_
  rotate_left
  ·rintro w' ⟨s0, s1, s2⟩
   go_simp
   with_reducible rfl
  rotate_left
  ·simp only [Act.put, List.setIfInBounds_toArray, List.set_cons_zero, List.set_cons_succ, i64_w, i32_w]
   rfl
  refine take_ (i := 4) (N := some 26) (v := ?_) (a' := ?_) (ba 7 31) rfl rfl (by kernel_rfl) (fun _ _ _ h => h) (Or.inl ⟨by rfl, ?_⟩) hHeld ?_ ?_
  rotate_left
  ·rintro w' ⟨s0, s1, s2⟩
   go_simp
   with_reducible rfl
  rotate_left
  ·simp only [Act.put, List.setIfInBounds_toArray, List.set_cons_zero, List.set_cons_succ, i64_w, i32_w]
   rfl
  refine one_ (i := 5) (N := some 27) (ba 7 63) rfl rfl (by kernel_rfl) (by decide) (fun K hK => ?_)
  refine gC Try.func56 #[.int .i64 (rd l0_1 (l0_2.length : Int))] ?_
  with_reducible refine (congouref04_whole.calls (rd l0_1 (l0_2.length : Int)) t435 t436 _ A8.out).mono ?_
  rintro e w15 ⟨rfl, hb⟩
  refine ⟨_, rfl, ?_⟩
  replace BK431 := kB BK431 hb
  replace BK432 := kB BK432 hb
  replace BK433 := kB BK433 hb
  replace HB := kH _ hb
  (try clear hb)
  (try clear hb2)
  (try clear hk)
  (try clear hi)
  refine hK.out _ _ ⟨bc BK432 0, bc BK432 1, ((HB.out.cell (World.block_lt_of_cell? w _ hw434_0)).trans hw434_0)⟩ (fun hHeld => ?_)
  clear hK K
  refine norm_ (a' := ?_) ?_ ?_
  rotate_left
  ·show Act.put _ (some 27) _ = _
   simp only [Act.put, List.setIfInBounds_toArray, List.set_cons_zero, List.set_cons_succ, i64_w, i32_w]
   rfl
  refine pure_ (i := 6) (N := some 28) (v := ?_) (a' := ?_) (ba 7 127) rfl rfl (by kernel_rfl) (fun _ _ _ h => h) (Or.inl ⟨by rfl, ?_⟩) ?_ ?_
  rotate_left
  ·intro w'
   go_simp
   with_reducible rfl
  rotate_left
  ·simp only [Act.put, List.setIfInBounds_toArray, List.set_cons_zero, List.set_cons_succ, i64_w, i32_w]
   rfl
  refine done_ (by kernel_rfl) ?_
  try go_wp2
  go_loopg [11] k (fun kq v11 w' => ∃ (x11_1 : Int), v11 = .int .i64 x11_1 ∧ Aside0 (congouref04_basic.l0 kq a1 l0_1 x11_1 = some (r1, r2)) ∧ Aside0 (kq ≤ k) ∧ Aside0 (w'.heap[gb431]? = some (.cells #[.int .i64 a0_0, (.slice (some ad434) l0_1.length c0_1), (.slice A0_2 l0_2.length c0_2)] 24 (0, 0))) ∧ Aside0 (w'.heap[gb432]? = some (.cells #[.int .i64 a3_0, .int .i64 a3_1] 26 (0, 0))) ∧ Aside0 (w'.heap[gb433]? = some (.cells #[.int .i64 0, .int .i64 0] 26 (0, 0))) ∧ Aside0 (Below w.heap.size w w'))
  case atStart => exact ⟨(wrap64 ((l0_2.length : Int) - 1)), (by first | rfl | (simp; done) | (simp [*]; done)), H', ⟨Nat.le_refl _⟩, ⟨bkC BK431⟩, ⟨bkC BK432⟩, ⟨bkC BK433⟩, ⟨hbC _⟩⟩
  case round =>
   clear H'
   try clear p2
   try clear p4
   try clear q4
   try clear hx4
   try clear c5
   try clear c5b0
   try clear c5b1
   try clear c6
   try clear c6b0
   try clear c6b1
   try clear p6
   try clear c7
   try clear c7b0
   try clear c7b1
   try clear c9
   try clear c9b0
   try clear c9b1
   try clear c9b2
   try clear hx434_0
   try clear p434
   try clear q434
   obtain ⟨x11_1, rfl, HA, HK1, BK431, BK432, BK433, HB⟩ := hrel
   cases gk with
   | zero => exact absurd HA.out (by simp [congouref04_basic.l0])
   | succ k1 =>
    have H := HA.out
    clear HA
    simp only [congouref04_basic.l0] at H
    by_cases c16 : 0 ≤ x11_1
    rotate_left
    ·rw [if_neg c16] at H
     exact absurd H (by simp)
    rw [if_pos c16] at H
    have c16b0 : decide (0 ≤ x11_1) = true := decide_eq_true c16
    clear c16
    by_cases c17 : x11_1 < (l0_1.length : Int)
    rotate_left
    ·rw [if_neg c17] at H
     exact absurd H (by simp)
    rw [if_pos c17] at H
    have c17b0 : decide (x11_1 < (l0_1.length : Int)) = true := decide_eq_true c17
    clear c17
    obtain ⟨ji18, hji18⟩ : ∃ j_ : Int, (wrap64 (x11_1 + 1)) = j_ := ⟨_, rfl⟩
    replace H : (if 0 ≤ (ji18) then (if (ji18) < (l0_1.length : Int) then (if (rd l0_1 x11_1) = (rd l0_1 (ji18)) then (congouref04_basic.l0 k1 a1 l0_1 (wrap64 (x11_1 - 1))) else (if a1 = x11_1 then ((congouref04_whole.f 1).bind fun bt439 => (some (bt439.1, bt439.2))) else ((congouref04_whole.f 0).bind fun bt441 => (some (bt441.1, bt441.2))))) else (none)) else (none)) = some (r1, r2) := by first | (rw [hji18] at H; exact H) | (simp only [hji18] at H ⊢; exact H)
    have hji18w : (IntKind.i64.wrap (x11_1 + 1)) = ji18 := (i64_w _).trans hji18
    by_cases c19 : 0 ≤ (ji18)
    rotate_left
    ·rw [if_neg c19] at H
     exact absurd H (by simp)
    rw [if_pos c19] at H
    have c19b0 : decide (0 ≤ (ji18)) = true := decide_eq_true c19
    clear c19
    by_cases c20 : (ji18) < (l0_1.length : Int)
    rotate_left
    ·rw [if_neg c20] at H
     exact absurd H (by simp)
    rw [if_pos c20] at H
    have c20b0 : decide ((ji18) < (l0_1.length : Int)) = true := decide_eq_true c20
    clear c20
    by_cases c21 : (rd l0_1 x11_1) = (rd l0_1 (ji18))
    ·rw [if_pos c21] at H
     have c21b0 : ((rd l0_1 x11_1) == (rd l0_1 (ji18))) = true := beq_iff_eq.mpr c21
     have c21b1 : ((rd l0_1 x11_1) != (rd l0_1 (ji18))) = false := bne_eq_false_iff_eq.mpr c21
     clear c21
     have H' := Aside0.mk H
     clear H
     try go_wp2
     replace BK431 := kd BK431
     replace BK432 := kd BK432
     replace BK433 := kd BK433
     replace HB := Aside0.mk (below_drew1 HB.out)
     have p437 : 0 ≤ (x11_1 : Int) := dA
     have q437 : x11_1 < (l0_1.length : Int) := dA
     obtain ⟨ad437, e437, hx437_0⟩ := Kd.at_int HR0_1.out x11_1 p437 q437
     have hw437_0 := hx437_0
     obtain rfl : ad434 = ad437 := (by injection e437)
     try replace hx437_0 := (HB.out.cell (World.block_lt_of_cell? w _ hx437_0)).trans hx437_0
     replace p437 := eq_true p437
     replace q437 := eq_true q437
     have p438 : 0 ≤ ((ji18) : Int) := dA
     have q438 : (ji18) < (l0_1.length : Int) := dA
     obtain ⟨ad438, e438, hx438_0⟩ := Kd.at_int HR0_1.out (ji18) p438 q438
     have hw438_0 := hx438_0
     obtain rfl : ad434 = ad438 := (by injection e438)
     try replace hx438_0 := (HB.out.cell (World.block_lt_of_cell? w _ hx438_0)).trans hx438_0
     replace p438 := eq_true p438
     replace q438 := eq_true q438
     refine sS (n := 10) (S := fun w' => w'.cell? (ad434.add (x11_1).toNat) = some (.int .i64 (rd l0_1 x11_1)) ∧ w'.cell? (ad434.add ((ji18)).toNat) = some (.int .i64 (rd l0_1 (ji18)))) (ds := []) ⟨((HB.out.cell (World.block_lt_of_cell? w _ hw437_0)).trans hw437_0), ((HB.out.cell (World.block_lt_of_cell? w _ hw438_0)).trans hw438_0)⟩ (fun hHeld => ?_); refine with_tabW congouref04_basic.tab5 congouref04_basic.bits5 (fun HT_ HW_ => ?_)
     generalize wr.drew = w22 at BK431 BK432 BK433 HB hx437_0 hx438_0 hHeld ⊢
     refine pS 0 31 10 1 ?_
     refine pS 1 32 10 3 ?_
     refine pS 2 33 10 7 ?_
     refine pS 4 35 10 23 ?_
     refine pS 5 36 10 55 ?_
     refine pS 6 37 10 119 ?_
     refine pS 7 38 10 247 ?_
     refine tS 3 34 10 255 ?_
     refine tS 8 39 10 511 ?_
     refine pS 9 40 10 1023 ?_
     refine done_ (done_of HT_.out (by kernel_rfl)) ?_
     try go_wp2
     go_roundg k1
     case measure => have := HK1.out; omega
     case rel => exact ⟨(wrap64 (x11_1 - 1)), (by first | rfl | (simp; done) | (simp [*]; done)), H', ⟨by have := HK1.out; omega⟩, ⟨bkC BK431⟩, ⟨bkC BK432⟩, ⟨bkC BK433⟩, ⟨hbC _⟩⟩
    rw [if_neg c21] at H
    have c21b0 : ((rd l0_1 x11_1) == (rd l0_1 (ji18))) = false := beq_eq_false_iff_ne.mpr c21
    have c21b1 : ((rd l0_1 x11_1) != (rd l0_1 (ji18))) = true := bne_iff_ne.mpr c21
    by_cases c23 : a1 = x11_1
    rotate_left
    ·rw [if_neg c23] at H
     have c23b0 : (a1 == x11_1) = false := beq_eq_false_iff_ne.mpr c23
     have c23b1 : (a1 != x11_1) = true := bne_iff_ne.mpr c23
     replace H := Option.bind_eq_some_iff.mp H
     obtain ⟨⟨t441, t442⟩, A300, H⟩ := H
     replace H : (some (t441, t442)) = some (r1, r2) := H
     have A30 := Aside0.mk A300
     clear A300
     simp only [Option.some.injEq, Prod.mk.injEq] at H
     obtain ⟨rfl, rfl⟩ := H
     try go_wp2
     replace BK431 := kd BK431
     replace BK432 := kd BK432
     replace BK433 := kd BK433
     replace HB := Aside0.mk (below_drew1 HB.out)
     have p437 : 0 ≤ (x11_1 : Int) := dA
     have q437 : x11_1 < (l0_1.length : Int) := dA
     obtain ⟨ad437, e437, hx437_0⟩ := Kd.at_int HR0_1.out x11_1 p437 q437
     have hw437_0 := hx437_0
     obtain rfl : ad434 = ad437 := (by injection e437)
     try replace hx437_0 := (HB.out.cell (World.block_lt_of_cell? w _ hx437_0)).trans hx437_0
     replace p437 := eq_true p437
     replace q437 := eq_true q437
     have p438 : 0 ≤ ((ji18) : Int) := dA
     have q438 : (ji18) < (l0_1.length : Int) := dA
     obtain ⟨ad438, e438, hx438_0⟩ := Kd.at_int HR0_1.out (ji18) p438 q438
     have hw438_0 := hx438_0
     obtain rfl : ad434 = ad438 := (by injection e438)
     try replace hx438_0 := (HB.out.cell (World.block_lt_of_cell? w _ hx438_0)).trans hx438_0
     replace p438 := eq_true p438
     replace q438 := eq_true q438
     refine sS (n := 10) (S := fun w' => w'.cell? (ad434.add (x11_1).toNat) = some (.int .i64 (rd l0_1 x11_1)) ∧ w'.cell? (ad434.add ((ji18)).toNat) = some (.int .i64 (rd l0_1 (ji18)))) (ds := []) ⟨((HB.out.cell (World.block_lt_of_cell? w _ hw437_0)).trans hw437_0), ((HB.out.cell (World.block_lt_of_cell? w _ hw438_0)).trans hw438_0)⟩ (fun hHeld => ?_); refine with_tabW congouref04_basic.tab5 congouref04_basic.bits5 (fun HT_ HW_ => ?_)
     generalize wr.drew = w31 at BK431 BK432 BK433 HB hx437_0 hx438_0 hHeld ⊢
     refine pS 0 31 10 1 ?_
     refine pS 1 32 10 3 ?_
     refine pS 2 33 10 7 ?_
     refine pS 4 35 10 23 ?_
     refine pS 5 36 10 55 ?_
     refine pS 6 37 10 119 ?_
     refine pS 7 38 10 247 ?_
     refine tS 3 34 10 255 ?_
     refine tS 8 39 10 511 ?_
     refine pS 9 40 10 1023 ?_
     refine done_ (done_of HT_.out (by kernel_rfl)) ?_
     try go_wp2_with (first | ((with_reducible refine gate_callee (f := 56) rfl ?_); refine gL 47 Try.func56 #[.int .i64 0] ?_; (with_reducible refine (congouref04_whole.calls 0 t441 t442 _ A30.out).mono ?_); rintro e w32 ⟨rfl, hb⟩; refine ⟨_, rfl, ?_⟩; replace BK431 := kB BK431 hb; replace BK432 := kB BK432 hb; replace BK433 := kB BK433 hb; replace HB := kH _ hb; (try clear hb); (try clear hb2); (try clear hk); (try clear hi); have hnb33 := NB433_431.out; have hnc33 := NB431_433.out; have hnb34 := NB433_432.out; have hnc34 := NB432_433.out; have hcz35_0 : w32.cell? ⟨gb433, 0, none⟩ = some (.int .i64 0) := bc BK433 0; have hcz35_1 : w32.cell? ⟨gb433, 1, none⟩ = some (.int .i64 0) := bc BK433 1; have hfz35_0 := fz BK433 0; have hfz35_1 := fz BK433 1))
     refine bodyPost_ret (results_cell_row rfl _ _ gb433 26 #[.int .i64 t441, .int .i64 t442] (0, 0) _ rfl (by (with_reducible repeat (first | refine blk_drewN ?_ _ | refine blk_drew ?_ | refine blk_alloc ?_ _)); refine blk_put (cs := #[.int .i64 t441, .int .i64 0]) ?_ 1 _ rfl; (with_reducible repeat (first | refine blk_drewN ?_ _ | refine blk_drew ?_ | refine blk_alloc ?_ _)); refine blk_put (cs := #[.int .i64 0, .int .i64 0]) ?_ 0 _ rfl; (with_reducible repeat (first | refine blk_drewN ?_ _ | refine blk_drew ?_ | refine blk_alloc ?_ _)); exact BK433.out) Try.underlying26 rfl (by kernel_rfl)) rfl ?_
     exact ⟨by first | rfl | (simp [errW_none, errW_some] <;> rfl) | (simp only [← hji18]; first | rfl | (simp [errW_none, errW_some] <;> rfl)) | (simp [*, errW_none, errW_some] <;> rfl), hbC _⟩
    rw [if_pos c23] at H
    have c23b0 : (a1 == x11_1) = true := beq_iff_eq.mpr c23
    have c23b1 : (a1 != x11_1) = false := bne_eq_false_iff_eq.mpr c23
    clear c23
    replace H := Option.bind_eq_some_iff.mp H
    obtain ⟨⟨t439, t440⟩, A240, H⟩ := H
    replace H : (some (t439, t440)) = some (r1, r2) := H
    have A24 := Aside0.mk A240
    clear A240
    simp only [Option.some.injEq, Prod.mk.injEq] at H
    obtain ⟨rfl, rfl⟩ := H
    try go_wp2
    replace BK431 := kd BK431
    replace BK432 := kd BK432
    replace BK433 := kd BK433
    replace HB := Aside0.mk (below_drew1 HB.out)
    have p437 : 0 ≤ (x11_1 : Int) := dA
    have q437 : x11_1 < (l0_1.length : Int) := dA
    obtain ⟨ad437, e437, hx437_0⟩ := Kd.at_int HR0_1.out x11_1 p437 q437
    have hw437_0 := hx437_0
    obtain rfl : ad434 = ad437 := (by injection e437)
    try replace hx437_0 := (HB.out.cell (World.block_lt_of_cell? w _ hx437_0)).trans hx437_0
    replace p437 := eq_true p437
    replace q437 := eq_true q437
    have p438 : 0 ≤ ((ji18) : Int) := dA
    have q438 : (ji18) < (l0_1.length : Int) := dA
    obtain ⟨ad438, e438, hx438_0⟩ := Kd.at_int HR0_1.out (ji18) p438 q438
    have hw438_0 := hx438_0
    obtain rfl : ad434 = ad438 := (by injection e438)
    try replace hx438_0 := (HB.out.cell (World.block_lt_of_cell? w _ hx438_0)).trans hx438_0
    replace p438 := eq_true p438
    replace q438 := eq_true q438
    refine sS (n := 10) (S := fun w' => w'.cell? (ad434.add (x11_1).toNat) = some (.int .i64 (rd l0_1 x11_1)) ∧ w'.cell? (ad434.add ((ji18)).toNat) = some (.int .i64 (rd l0_1 (ji18)))) (ds := []) ⟨((HB.out.cell (World.block_lt_of_cell? w _ hw437_0)).trans hw437_0), ((HB.out.cell (World.block_lt_of_cell? w _ hw438_0)).trans hw438_0)⟩ (fun hHeld => ?_); refine with_tabW congouref04_basic.tab5 congouref04_basic.bits5 (fun HT_ HW_ => ?_)
    generalize wr.drew = w25 at BK431 BK432 BK433 HB hx437_0 hx438_0 hHeld ⊢
    refine pS 0 31 10 1 ?_
    refine pS 1 32 10 3 ?_
    refine pS 2 33 10 7 ?_
    refine pS 4 35 10 23 ?_
    refine pS 5 36 10 55 ?_
    refine pS 6 37 10 119 ?_
    refine pS 7 38 10 247 ?_
    refine tS 3 34 10 255 ?_
    refine tS 8 39 10 511 ?_
    refine pS 9 40 10 1023 ?_
    refine done_ (done_of HT_.out (by kernel_rfl)) ?_
    try go_wp2_with (first | ((with_reducible refine gate_callee (f := 56) rfl ?_); refine gL 46 Try.func56 #[.int .i64 1] ?_; (with_reducible refine (congouref04_whole.calls 1 t439 t440 _ A24.out).mono ?_); rintro e w26 ⟨rfl, hb⟩; refine ⟨_, rfl, ?_⟩; replace BK431 := kB BK431 hb; replace BK432 := kB BK432 hb; replace BK433 := kB BK433 hb; replace HB := kH _ hb; (try clear hb); (try clear hb2); (try clear hk); (try clear hi); have hnb27 := NB433_431.out; have hnc27 := NB431_433.out; have hnb28 := NB433_432.out; have hnc28 := NB432_433.out; have hcz29_0 : w26.cell? ⟨gb433, 0, none⟩ = some (.int .i64 0) := bc BK433 0; have hcz29_1 : w26.cell? ⟨gb433, 1, none⟩ = some (.int .i64 0) := bc BK433 1; have hfz29_0 := fz BK433 0; have hfz29_1 := fz BK433 1))
    refine bodyPost_ret (results_cell_row rfl _ _ gb433 26 #[.int .i64 t439, .int .i64 t440] (0, 0) _ rfl (by (with_reducible repeat (first | refine blk_drewN ?_ _ | refine blk_drew ?_ | refine blk_alloc ?_ _)); refine blk_put (cs := #[.int .i64 t439, .int .i64 0]) ?_ 1 _ rfl; (with_reducible repeat (first | refine blk_drewN ?_ _ | refine blk_drew ?_ | refine blk_alloc ?_ _)); refine blk_put (cs := #[.int .i64 0, .int .i64 0]) ?_ 0 _ rfl; (with_reducible repeat (first | refine blk_drewN ?_ _ | refine blk_drew ?_ | refine blk_alloc ?_ _)); exact BK433.out) Try.underlying26 rfl (by kernel_rfl)) rfl ?_
    exact ⟨by first | rfl | (simp [errW_none, errW_some] <;> rfl) | (simp only [← hji18]; first | rfl | (simp [errW_none, errW_some] <;> rfl)) | (simp [*, errW_none, errW_some] <;> rfl), hbC _⟩
 rw [if_neg c5] at H
 have c5b0 : (a2 == 0) = false := beq_eq_false_iff_ne.mpr c5
 have c5b1 : (a2 != 0) = true := bne_iff_ne.mpr c5
 replace H := Option.bind_eq_some_iff.mp H
 obtain ⟨⟨t449, t450⟩, A620, H⟩ := H
 replace H : (if 0 ≤ (wrap64 (a1 + a2)) then (if (wrap64 (a1 + a2)) < (l0_1.length : Int) then (if 0 ≤ a1 then (if a1 < (l0_1.length : Int) then (if (wrap64 ((rd l0_1 (wrap64 (a1 + a2))) - (rd l0_1 a1))) > 0 then ((congouref04_Frac.f k (wrap64 (a3_0 - (wrap64 ((rd l0_1 a1) * a3_1)))) (wrap64 (a3_1 * (wrap64 ((rd l0_1 (wrap64 (a1 + a2))) - (rd l0_1 a1)))))).bind fun bt455 => ((congouref04_basic.f k a0_0 l0_1 l0_2 a1 (wrap64 (a2 - 1)) a3_0 a3_1).bind fun bt457 => ((congouref04_Times.f k bt455.1 bt455.2 bt457.1 bt457.2).bind fun bt459 => ((congouref04_Plus.f k t449 t450 bt459.1 bt459.2).bind fun bt461 => (congouref04_basic.j2 k a1 a2 l0_1 a0_0 l0_1 l0_2 a3_0 a3_1 bt461.1 bt461.2))))) else (congouref04_basic.j2 k a1 a2 l0_1 a0_0 l0_1 l0_2 a3_0 a3_1 t449 t450)) else (none)) else (none)) else (none)) else (none)) = some (r1, r2) := H
 have A62 := Aside0.mk A620
 clear A620
 obtain ⟨ji63, hji63⟩ : ∃ j_ : Int, (wrap64 (a1 + a2)) = j_ := ⟨_, rfl⟩
 replace H : (if 0 ≤ (ji63) then (if (ji63) < (l0_1.length : Int) then (if 0 ≤ a1 then (if a1 < (l0_1.length : Int) then (if (wrap64 ((rd l0_1 (ji63)) - (rd l0_1 a1))) > 0 then ((congouref04_Frac.f k (wrap64 (a3_0 - (wrap64 ((rd l0_1 a1) * a3_1)))) (wrap64 (a3_1 * (wrap64 ((rd l0_1 (ji63)) - (rd l0_1 a1)))))).bind fun bt455 => ((congouref04_basic.f k a0_0 l0_1 l0_2 a1 (wrap64 (a2 - 1)) a3_0 a3_1).bind fun bt457 => ((congouref04_Times.f k bt455.1 bt455.2 bt457.1 bt457.2).bind fun bt459 => ((congouref04_Plus.f k t449 t450 bt459.1 bt459.2).bind fun bt461 => (congouref04_basic.j2 k a1 a2 l0_1 a0_0 l0_1 l0_2 a3_0 a3_1 bt461.1 bt461.2))))) else (congouref04_basic.j2 k a1 a2 l0_1 a0_0 l0_1 l0_2 a3_0 a3_1 t449 t450)) else (none)) else (none)) else (none)) else (none)) = some (r1, r2) := by first | (rw [hji63] at H; exact H) | (simp only [hji63] at H ⊢; exact H)
 (try rw [hji63] at A62)
 have hji63w : (IntKind.i64.wrap (a1 + a2)) = ji63 := (i64_w _).trans hji63
 by_cases c64 : 0 ≤ (ji63)
 rotate_left
 ·rw [if_neg c64] at H
  exact absurd H (by simp)
 rw [if_pos c64] at H
 have c64b0 : decide (0 ≤ (ji63)) = true := decide_eq_true c64
 clear c64
 by_cases c65 : (ji63) < (l0_1.length : Int)
 rotate_left
 ·rw [if_neg c65] at H
  exact absurd H (by simp)
 rw [if_pos c65] at H
 have c65b0 : decide ((ji63) < (l0_1.length : Int)) = true := decide_eq_true c65
 clear c65
 by_cases c66 : 0 ≤ a1
 rotate_left
 ·rw [if_neg c66] at H
  exact absurd H (by simp)
 rw [if_pos c66] at H
 have c66b0 : decide (0 ≤ a1) = true := decide_eq_true c66
 clear c66
 by_cases c67 : a1 < (l0_1.length : Int)
 rotate_left
 ·rw [if_neg c67] at H
  exact absurd H (by simp)
 rw [if_pos c67] at H
 have c67b0 : decide (a1 < (l0_1.length : Int)) = true := decide_eq_true c67
 clear c67
 have HC68 := Aside0.mk H
 clear H
 go_enter Try.func55, Try.ntmps55
 try go_wp2_with (first | ((with_reducible refine gate_dst (N := 4) rfl ?_); refine bE 4 #[.int .i64 a0_0, .slice A0_1 l0_1.length c0_1, .slice A0_2 l0_2.length c0_2] 24 ?_; intro gb431 hg w69 hbox hb; have BK431 := Aside0.mk (hbox); have GW431 := kG w hg; have GE431 := kG w hg; replace HB := kH _ hb; clear hb hbox hg) | ((with_reducible refine gate_dst (N := 7) rfl ?_); refine bE 7 #[.int .i64 a3_0, .int .i64 a3_1] 26 ?_; intro gb432 hg w70 hbox hb; have BK432 := Aside0.mk (hbox); have GW432 := kG w hg; have GE432 := kG w hg; replace HB := kH _ hb; have NB431_432 := kL BK431 hg; have NB432_431 := kR BK431 hg; replace BK431 := kB BK431 hb; clear hb hbox hg) | ((with_reducible refine gate_dst (N := 8) rfl ?_); refine bE 8 #[.int .i64 0, .int .i64 0] 26 ?_; intro gb433 hg w71 hbox hb; have BK433 := Aside0.mk (hbox); have GW433 := kG w hg; have GE433 := kG w hg; replace HB := kH _ hb; have NB431_433 := kL BK431 hg; have NB433_431 := kR BK431 hg; replace BK431 := kB BK431 hb; have NB432_433 := kL BK432 hg; have NB433_432 := kR BK432 hg; replace BK432 := kB BK432 hb; clear hb hbox hg))
 replace BK431 := kd BK431
 replace BK432 := kd BK432
 replace BK433 := kd BK433
 replace HB := Aside0.mk (below_drew1 HB.out)
 refine sS (n := 7) (S := fun w' => w'.cell? ⟨gb431, 0, none⟩ = some (.int .i64 a0_0) ∧ w'.cell? ⟨gb431, 1, none⟩ = some (.slice A0_1 l0_1.length c0_1) ∧ w'.cell? ⟨gb431, 2, none⟩ = some (.slice A0_2 l0_2.length c0_2)) (ds := []) ⟨bc BK431 0, bc BK431 1, bc BK431 2⟩ (fun hHeld => ?_)
 generalize w71.drew = w72 at BK431 BK432 BK433 HB hHeld ⊢
 refine pure_ (i := 0) (N := some 15) (v := ?_) (a' := ?_) (ba 7 1) rfl rfl (by kernel_rfl) (fun _ _ _ h => h) (Or.inl ⟨by rfl, ?_⟩) ?_ ?_
 rotate_left
 ·intro w'
  go_simp
  with_reducible rfl
 rotate_left
 ·simp only [Act.put, List.setIfInBounds_toArray, List.set_cons_zero, List.set_cons_succ, i64_w, i32_w]
  rfl
 refine pure_ (i := 2) (N := some 17) (v := ?_) (a' := ?_) (ba 7 5) rfl rfl (by kernel_rfl) (fun _ _ _ h => h) (Or.inl ⟨by rfl, ?_⟩) ?_ ?_
 rotate_left
 ·intro w'
  go_simp
  with_reducible rfl
 rotate_left
 ·simp only [Act.put, List.setIfInBounds_toArray, List.set_cons_zero, List.set_cons_succ, i64_w, i32_w]
  rfl
 refine take_ (i := 1) (N := some 16) (v := ?_) (a' := ?_) (ba 7 7) rfl rfl (by kernel_rfl) (fun _ _ _ h => h) (Or.inl ⟨by rfl, ?_⟩) hHeld ?_ ?_
 rotate_left
 ·rintro w' ⟨s0, s1, s2⟩
  go_simp
  with_reducible rfl
 rotate_left
 ·simp only [Act.put, List.setIfInBounds_toArray, List.set_cons_zero, List.set_cons_succ, i64_w, i32_w]
  rfl
 refine pure_ (i := 5) (N := some 9) (v := ?_) (a' := ?_) (ba 7 39) rfl rfl (by kernel_rfl) (fun _ _ _ h => h) (Or.inl ⟨by rfl, ?_⟩) ?_ ?_
 rotate_left
 ·intro w'
  go_simp
  with_reducible rfl
 rotate_left
 ·simp only [Act.put, List.setIfInBounds_toArray, List.set_cons_zero, List.set_cons_succ, i64_w, i32_w]
  rfl
 refine take_ (i := 3) (N := some 18) (v := ?_) (a' := ?_) (ba 7 47) rfl rfl (by kernel_rfl) (fun _ _ _ h => h) (Or.inl ⟨by rfl, ?_⟩) hHeld ?_ ?_
 rotate_left
 ·rintro w' ⟨s0, s1, s2⟩
  go_simp
  with_reducible rfl
 rotate_left
 ·simp only [Act.put, List.setIfInBounds_toArray, List.set_cons_zero, List.set_cons_succ, i64_w, i32_w]
  rfl
 refine pure_ (i := 4) (N := some 19) (v := ?_) (a' := ?_) (ba 7 63) rfl rfl (by kernel_rfl) (fun _ _ _ h => h) (Or.inl ⟨by rfl, ?_⟩) ?_ ?_
 rotate_left
 ·intro w'
  go_simp
  with_reducible rfl
 rotate_left
 ·simp only [Act.put, List.setIfInBounds_toArray, List.set_cons_zero, List.set_cons_succ, i64_w, i32_w]
  rfl
 refine pure_ (i := 6) (N := some 10) (v := ?_) (a' := ?_) (ba 7 127) rfl rfl (by kernel_rfl) (fun _ _ _ h => h) (Or.inl ⟨by rfl, ?_⟩) ?_ ?_
 rotate_left
 ·intro w'
  go_simp
  with_reducible rfl
 rotate_left
 ·simp only [Act.put, List.setIfInBounds_toArray, List.set_cons_zero, List.set_cons_succ, i64_w, i32_w]
  rfl
 refine done_ (by kernel_rfl) ?_
 try go_wp2_with (first | ((with_reducible refine gate_callee (f := 56) rfl ?_); refine gL 73 Try.func56 #[.int .i64 0] ?_; (with_reducible refine (congouref04_whole.calls 0 t449 t450 _ A62.out).mono ?_); rintro e w73 ⟨rfl, hb⟩; refine ⟨_, rfl, ?_⟩; replace BK431 := kB BK431 hb; replace BK432 := kB BK432 hb; replace BK433 := kB BK433 hb; replace HB := kH _ hb; (try clear hb); (try clear hb2); (try clear hk); (try clear hi)) | ((with_reducible refine gate_dst (N := 12) rfl ?_); refine bE 12 #[.int .i64 0, .int .i64 0] 26 ?_; intro gb451 hg w74 hbox hb; have BK451 := Aside0.mk (hbox); have GW451 := kG w hg; have GE451 := kG w hg; replace HB := kH _ hb; have NB431_451 := kL BK431 hg; have NB451_431 := kR BK431 hg; replace BK431 := kB BK431 hb; have NB432_451 := kL BK432 hg; have NB451_432 := kR BK432 hg; replace BK432 := kB BK432 hb; have NB433_451 := kL BK433 hg; have NB451_433 := kR BK433 hg; replace BK433 := kB BK433 hb; clear hb hbox hg; have hnb75 := NB451_431.out; have hnc75 := NB431_451.out; have hnb76 := NB451_432.out; have hnc76 := NB432_451.out; have hnb77 := NB451_433.out; have hnc77 := NB433_451.out; have hcz78_0 : w74.cell? ⟨gb451, 0, none⟩ = some (.int .i64 0) := bc BK451 0; have hcz78_1 : w74.cell? ⟨gb451, 1, none⟩ = some (.int .i64 0) := bc BK451 1; have hfz78_0 := fz BK451 0; have hfz78_1 := fz BK451 1))
 have n0_ : Aside0 (((w74.setCell ⟨gb451, 0, none⟩ (.int .i64 t449)).setCell ⟨gb451, 1, none⟩ (.int .i64 t450)).heap[gb431]? = some (.cells #[.int .i64 a0_0, .slice A0_1 l0_1.length c0_1, .slice A0_2 l0_2.length c0_2] 24 (0, 0))) := ⟨bF BK431⟩
 have n1_ : Aside0 (((w74.setCell ⟨gb451, 0, none⟩ (.int .i64 t449)).setCell ⟨gb451, 1, none⟩ (.int .i64 t450)).heap[gb432]? = some (.cells #[.int .i64 a3_0, .int .i64 a3_1] 26 (0, 0))) := ⟨bF BK432⟩
 have n2_ : Aside0 (((w74.setCell ⟨gb451, 0, none⟩ (.int .i64 t449)).setCell ⟨gb451, 1, none⟩ (.int .i64 t450)).heap[gb433]? = some (.cells #[.int .i64 0, .int .i64 0] 26 (0, 0))) := ⟨bF BK433⟩
 have n3_ : Aside0 (((w74.setCell ⟨gb451, 0, none⟩ (.int .i64 t449)).setCell ⟨gb451, 1, none⟩ (.int .i64 t450)).heap[gb451]? = some (.cells #[.int .i64 t449, .int .i64 t450] 26 (0, 0))) := ⟨by (with_reducible repeat (first | refine blk_drewN ?_ _ | refine blk_drew ?_ | refine blk_alloc ?_ _)); refine blk_put (cs := #[.int .i64 t449, .int .i64 0]) ?_ 1 _ rfl; (with_reducible repeat (first | refine blk_drewN ?_ _ | refine blk_drew ?_ | refine blk_alloc ?_ _)); refine blk_put (cs := #[.int .i64 0, .int .i64 0]) ?_ 0 _ rfl; (with_reducible repeat (first | refine blk_drewN ?_ _ | refine blk_drew ?_ | refine blk_alloc ?_ _)); exact BK451.out⟩
 have n4_ : Aside0 (Below w.heap.size w ((w74.setCell ⟨gb451, 0, none⟩ (.int .i64 t449)).setCell ⟨gb451, 1, none⟩ (.int .i64 t450))) := ⟨hbC _⟩
 (try clear BK431)
 (try clear BK432)
 (try clear BK433)
 (try clear BK451)
 (try clear HB)
 generalize ((w74.setCell ⟨gb451, 0, none⟩ (.int .i64 t449)).setCell ⟨gb451, 1, none⟩ (.int .i64 t450)) = w79 at n0_ n1_ n2_ n3_ n4_ ⊢
 have BK431 := n0_
 have BK432 := n1_
 have BK433 := n2_
 have BK451 := n3_
 have HB := n4_
 clear n0_ n1_ n2_ n3_ n4_
 replace BK431 := kd BK431
 replace BK432 := kd BK432
 replace BK433 := kd BK433
 replace BK451 := kd BK451
 replace HB := Aside0.mk (below_drew1 HB.out)
 have p452 : 0 ≤ ((ji63) : Int) := dA
 have q452 : (ji63) < (l0_1.length : Int) := dA
 obtain ⟨ad452, e452, hx452_0⟩ := Kd.at_int HR0_1.out (ji63) p452 q452
 have hw452_0 := hx452_0
 cases e452
 try replace hx452_0 := (HB.out.cell (World.block_lt_of_cell? w _ hx452_0)).trans hx452_0
 replace p452 := eq_true p452
 replace q452 := eq_true q452
 have p453 : 0 ≤ (a1 : Int) := dA
 have q453 : a1 < (l0_1.length : Int) := dA
 obtain ⟨ad453, e453, hx453_0⟩ := Kd.at_int HR0_1.out a1 p453 q453
 have hw453_0 := hx453_0
 obtain rfl : ad452 = ad453 := (by injection e453)
 try replace hx453_0 := (HB.out.cell (World.block_lt_of_cell? w _ hx453_0)).trans hx453_0
 replace p453 := eq_true p453
 replace q453 := eq_true q453
 refine sS (n := 12) (S := fun w' => w'.cell? (ad452.add ((ji63)).toNat) = some (.int .i64 (rd l0_1 (ji63))) ∧ w'.cell? (ad452.add (a1).toNat) = some (.int .i64 (rd l0_1 a1))) (ds := []) ⟨((HB.out.cell (World.block_lt_of_cell? w _ hw452_0)).trans hw452_0), ((HB.out.cell (World.block_lt_of_cell? w _ hw453_0)).trans hw453_0)⟩ (fun hHeld => ?_); refine with_tabW congouref04_basic.tab14 congouref04_basic.bits14 (fun HT_ HW_ => ?_)
 generalize w79.drew = w80 at BK431 BK432 BK433 BK451 HB hx452_0 hx453_0 hHeld ⊢
 refine pS 0 74 12 1 ?_
 refine pS 1 75 12 3 ?_
 refine pS 2 76 12 7 ?_
 refine pS 3 77 12 15 ?_
 refine pS 4 78 12 31 ?_
 refine pS 6 80 12 95 ?_
 refine pS 7 81 12 223 ?_
 refine pS 8 82 12 479 ?_
 refine tS 5 79 12 511 ?_
 refine tS 9 83 12 1023 ?_
 refine pS 10 84 12 2047 ?_
 refine pS 11 13 12 4095 ?_
 refine done_ (done_of HT_.out (by kernel_rfl)) ?_
 go_upto_if 86 with (fail)
 go_cut [] (fun wc => ∃ (kq : Nat) (x452000_67 : Int) (x452001_67 : Int), Aside0 (congouref04_basic.j2 kq a1 a2 l0_1 a0_0 l0_1 l0_2 a3_0 a3_1 x452000_67 x452001_67 = some (r1, r2)) ∧ Aside0 (kq ≤ k) ∧ Aside0 (wc.heap[gb431]? = some (.cells #[.int .i64 a0_0, (.slice (some ad452) l0_1.length c0_1), (.slice A0_2 l0_2.length c0_2)] 24 (0, 0))) ∧ Aside0 (wc.heap[gb432]? = some (.cells #[.int .i64 a3_0, .int .i64 a3_1] 26 (0, 0))) ∧ Aside0 (wc.heap[gb433]? = some (.cells #[.int .i64 0, .int .i64 0] 26 (0, 0))) ∧ Aside0 (wc.heap[gb451]? = some (.cells #[.int .i64 x452000_67, .int .i64 x452001_67] 26 (0, 0))) ∧ Aside0 (Below w.heap.size w wc))
 case first =>
  have H := HC68.out
  clear HC68
  by_cases c81 : (wrap64 ((rd l0_1 (ji63)) - (rd l0_1 a1))) > 0
  rotate_left
  ·rw [if_neg c81] at H
   have c81b0 : decide (0 < (wrap64 ((rd l0_1 (ji63)) - (rd l0_1 a1)))) = false := decide_eq_false c81
   clear c81
   (first | rw [c81b0] | (simp only [i64_w, i32_w]; rw [c81b0]) | skip)
   have H' := Aside0.mk H
   clear H
   go_wp2
   go_meet
   case rel => exact ⟨_, (t449), (t450), H', ⟨by first | omega | exact Nat.le_refl _⟩, ⟨bkC BK431⟩, ⟨bkC BK432⟩, ⟨bkC BK433⟩, ⟨bkC BK451⟩, ⟨hbC _⟩⟩
  rw [if_pos c81] at H
  have c81b0 : decide (0 < (wrap64 ((rd l0_1 (ji63)) - (rd l0_1 a1)))) = true := decide_eq_true c81
  clear c81
  (first | rw [c81b0] | (simp only [i64_w, i32_w]; rw [c81b0]) | skip)
  replace H := Option.bind_eq_some_iff.mp H
  obtain ⟨⟨t455, t456⟩, A820, H⟩ := H
  replace H : ((congouref04_basic.f k a0_0 l0_1 l0_2 a1 (wrap64 (a2 - 1)) a3_0 a3_1).bind fun bt457 => ((congouref04_Times.f k t455 t456 bt457.1 bt457.2).bind fun bt459 => ((congouref04_Plus.f k t449 t450 bt459.1 bt459.2).bind fun bt461 => (congouref04_basic.j2 k a1 a2 l0_1 a0_0 l0_1 l0_2 a3_0 a3_1 bt461.1 bt461.2)))) = some (r1, r2) := H
  have A82 := Aside0.mk A820
  clear A820
  replace H := Option.bind_eq_some_iff.mp H
  obtain ⟨⟨t457, t458⟩, A830, H⟩ := H
  replace H : ((congouref04_Times.f k t455 t456 t457 t458).bind fun bt459 => ((congouref04_Plus.f k t449 t450 bt459.1 bt459.2).bind fun bt461 => (congouref04_basic.j2 k a1 a2 l0_1 a0_0 l0_1 l0_2 a3_0 a3_1 bt461.1 bt461.2))) = some (r1, r2) := H
  have A83 := Aside0.mk A830
  clear A830
  replace H := Option.bind_eq_some_iff.mp H
  obtain ⟨⟨t459, t460⟩, A840, H⟩ := H
  replace H : ((congouref04_Plus.f k t449 t450 t459 t460).bind fun bt461 => (congouref04_basic.j2 k a1 a2 l0_1 a0_0 l0_1 l0_2 a3_0 a3_1 bt461.1 bt461.2)) = some (r1, r2) := H
  have A84 := Aside0.mk A840
  clear A840
  replace H := Option.bind_eq_some_iff.mp H
  obtain ⟨⟨t461, t462⟩, A850, H⟩ := H
  replace H : (congouref04_basic.j2 k a1 a2 l0_1 a0_0 l0_1 l0_2 a3_0 a3_1 t461 t462) = some (r1, r2) := H
  have A85 := Aside0.mk A850
  clear A850
  have H' := Aside0.mk H
  clear H
  try go_wp2
  replace BK431 := kd BK431
  replace BK432 := kd BK432
  replace BK433 := kd BK433
  replace BK451 := kd BK451
  replace HB := Aside0.mk (below_drew1 HB.out)
  have p454 : 0 ≤ (a1 : Int) := dA
  have q454 : a1 < (l0_1.length : Int) := dA
  obtain ⟨ad454, e454, hx454_0⟩ := Kd.at_int HR0_1.out a1 p454 q454
  have hw454_0 := hx454_0
  obtain rfl : ad452 = ad454 := (by injection e454)
  try replace hx454_0 := (HB.out.cell (World.block_lt_of_cell? w _ hx454_0)).trans hx454_0
  replace p454 := eq_true p454
  replace q454 := eq_true q454
  refine sS (n := 25) (S := fun w' => w'.cell? ⟨gb451, 0, none⟩ = some (.int .i64 t449) ∧ w'.cell? ⟨gb451, 1, none⟩ = some (.int .i64 t450) ∧ w'.cell? ⟨gb432, 0, none⟩ = some (.int .i64 a3_0) ∧ w'.cell? ⟨gb432, 1, none⟩ = some (.int .i64 a3_1) ∧ w'.cell? ⟨gb431, 0, none⟩ = some (.int .i64 a0_0) ∧ w'.cell? ⟨gb431, 1, none⟩ = some (.slice (some ad452) l0_1.length c0_1) ∧ w'.cell? ⟨gb431, 2, none⟩ = some (.slice A0_2 l0_2.length c0_2) ∧ w'.cell? (ad452.add (a1).toNat) = some (.int .i64 (rd l0_1 a1))) (ds := [24]) ⟨bc BK451 0, bc BK451 1, bc BK432 0, bc BK432 1, bc BK431 0, bc BK431 1, bc BK431 2, ((HB.out.cell (World.block_lt_of_cell? w _ hw454_0)).trans hw454_0)⟩ (fun hHeld => ?_); refine with_tabW congouref04_basic.tab16 congouref04_basic.bits16 (fun HT_ HW_ => ?_)
  generalize w80.drew = w86 at BK431 BK432 BK433 BK451 HB hx454_0 hHeld ⊢
  refine pS 1 88 25 2 ?_
  refine pS 3 90 25 10 ?_
  refine pS 4 91 25 26 ?_
  refine pS 5 92 25 58 ?_
  refine pS 7 94 25 186 ?_
  refine pS 11 98 25 2234 ?_
  refine pS 13 100 25 10426 ?_
  refine pS 17 104 25 141498 ?_
  refine pS 18 105 25 403642 ?_
  refine pS 19 106 25 927930 ?_
  refine tS 0 87 25 927931 ?_
  refine tS 2 89 25 927935 ?_
  refine tS 6 93 25 927999 ?_
  refine tS 8 95 25 928255 ?_
  refine pS 9 96 25 928767 ?_
  refine pS 10 97 25 929791 ?_
  refine tS 12 99 25 933887 ?_
  refine pS 14 101 25 950271 ?_
  refine tS 16 103 25 1015807 ?_
  refine tS 20 107 25 2064383 ?_
  refine one_ (i := 15) (N := some 102) (ba 25 2097151) rfl rfl (one_of HT_.out (by kernel_rfl)) (by decide) (fun K hK => ?_)
  refine goes_ Try.func33 (by kernel_rfl) rfl #[.int .i64 (wrap64 (a3_0 - (wrap64 ((rd l0_1 a1) * a3_1)))), .int .i64 (wrap64 (a3_1 * (wrap64 ((rd l0_1 (ji63)) - (rd l0_1 a1)))))] (by rfl) rfl rfl (by (try simp only [List.map_toArray, List.map_cons, List.map_nil]); first | done | (simp only [hji63]; rfl) | rfl | (simp only [List.length_drop, List.length_take]; rfl)) ?_
  with_reducible refine (congouref04_Frac.calls k (wrap64 (a3_0 - (wrap64 ((rd l0_1 a1) * a3_1)))) (wrap64 (a3_1 * (wrap64 ((rd l0_1 (ji63)) - (rd l0_1 a1))))) t455 t456 _ A82.out).mono ?_
  rintro e w87 ⟨rfl, hb⟩
  refine ⟨_, rfl, ?_⟩
  replace BK431 := kB BK431 hb
  replace BK432 := kB BK432 hb
  replace BK433 := kB BK433 hb
  replace BK451 := kB BK451 hb
  replace HB := kH _ hb
  (try clear hb)
  (try clear hb2)
  (try clear hk)
  (try clear hi)
  refine hK.out _ _ ⟨bc BK451 0, bc BK451 1, bc BK432 0, bc BK432 1, bc BK431 0, bc BK431 1, bc BK431 2, ((HB.out.cell (World.block_lt_of_cell? w _ hw454_0)).trans hw454_0)⟩ (fun hHeld => ?_)
  clear hK K
  refine norm_ (a' := ?_) ?_ ?_
  rotate_left
  ·show Act.put _ (some 102) _ = _
   simp only [Act.put, List.setIfInBounds_toArray, List.set_cons_zero, List.set_cons_succ, i64_w, i32_w]
   rfl
  refine one_ (i := 21) (N := some 108) (ba 25 4194303) rfl rfl (one_of HT_.out (by kernel_rfl)) (by decide) (fun K hK => ?_)
  refine gC Try.func55 #[.agg #[.int .i64 a0_0, .slice (some ad452) l0_1.length c0_1, .slice A0_2 l0_2.length c0_2], .int .i64 a1, .int .i64 (wrap64 (a2 - 1)), .agg #[.int .i64 a3_0, .int .i64 a3_1]] ?_
  with_reducible refine (ih k (by omega) a0_0 _ _ l0_1 _ _ l0_2 a1 (wrap64 (a2 - 1)) a3_0 a3_1 t457 t458 _ ?side1 ?side2 ?side3 ?side4 A83.out).mono ?_
  (case side1 => exact kC HR0_1)
  (case side2 => exact HC0_1.out)
  (case side3 => exact kC HR0_2)
  (case side4 => exact HC0_2.out)
  rintro e w88 ⟨rfl, hb⟩
  refine ⟨_, rfl, ?_⟩
  replace BK431 := kB BK431 hb
  replace BK432 := kB BK432 hb
  replace BK433 := kB BK433 hb
  replace BK451 := kB BK451 hb
  replace HB := kH _ hb
  (try clear hb)
  (try clear hb2)
  (try clear hk)
  (try clear hi)
  refine hK.out _ _ ⟨bc BK451 0, bc BK451 1, bc BK432 0, bc BK432 1, bc BK431 0, bc BK431 1, bc BK431 2, ((HB.out.cell (World.block_lt_of_cell? w _ hw454_0)).trans hw454_0)⟩ (fun hHeld => ?_)
  clear hK K
  refine norm_ (a' := ?_) ?_ ?_
  rotate_left
  ·show Act.put _ (some 108) _ = _
   simp only [Act.put, List.setIfInBounds_toArray, List.set_cons_zero, List.set_cons_succ, i64_w, i32_w]
   rfl
  refine one_ (i := 22) (N := some 109) (ba 25 8388607) rfl rfl (one_of HT_.out (by kernel_rfl)) (by decide) (fun K hK => ?_)
  refine gC Try.func58 #[.agg #[.int .i64 t455, .int .i64 t456], .agg #[.int .i64 t457, .int .i64 t458]] ?_
  with_reducible refine (congouref04_Times.calls k t455 t456 t457 t458 t459 t460 _ A84.out).mono ?_
  rintro e w89 ⟨rfl, hb⟩
  refine ⟨_, rfl, ?_⟩
  replace BK431 := kB BK431 hb
  replace BK432 := kB BK432 hb
  replace BK433 := kB BK433 hb
  replace BK451 := kB BK451 hb
  replace HB := kH _ hb
  (try clear hb)
  (try clear hb2)
  (try clear hk)
  (try clear hi)
  refine hK.out _ _ ⟨bc BK451 0, bc BK451 1, bc BK432 0, bc BK432 1, bc BK431 0, bc BK431 1, bc BK431 2, ((HB.out.cell (World.block_lt_of_cell? w _ hw454_0)).trans hw454_0)⟩ (fun hHeld => ?_)
  clear hK K
  refine norm_ (a' := ?_) ?_ ?_
  rotate_left
  ·show Act.put _ (some 109) _ = _
   simp only [Act.put, List.setIfInBounds_toArray, List.set_cons_zero, List.set_cons_succ, i64_w, i32_w]
   rfl
  refine one_ (i := 23) (N := some 110) (ba 25 16777215) rfl rfl (one_of HT_.out (by kernel_rfl)) (by decide) (fun K hK => ?_)
  refine gC Try.func57 #[.agg #[.int .i64 t449, .int .i64 t450], .agg #[.int .i64 t459, .int .i64 t460]] ?_
  with_reducible refine (congouref04_Plus.calls k t449 t450 t459 t460 t461 t462 _ A85.out).mono ?_
  rintro e w90 ⟨rfl, hb⟩
  refine ⟨_, rfl, ?_⟩
  replace BK431 := kB BK431 hb
  replace BK432 := kB BK432 hb
  replace BK433 := kB BK433 hb
  replace BK451 := kB BK451 hb
  replace HB := kH _ hb
  (try clear hb)
  (try clear hb2)
  (try clear hk)
  (try clear hi)
  refine hK.out _ _ ⟨bc BK451 0, bc BK451 1, bc BK432 0, bc BK432 1, bc BK431 0, bc BK431 1, bc BK431 2, ((HB.out.cell (World.block_lt_of_cell? w _ hw454_0)).trans hw454_0)⟩ (fun hHeld => ?_)
  clear hK K
  refine norm_ (a' := ?_) ?_ ?_
  rotate_left
  ·show Act.put _ (some 110) _ = _
   simp only [Act.put, List.setIfInBounds_toArray, List.set_cons_zero, List.set_cons_succ, i64_w, i32_w]
   rfl
  refine last_ (i := 24) (N := none) (ba 25 33554431) rfl rfl (one_of HT_.out (by kernel_rfl)) (by decide) (fun K hK => ?_)
  have hs91 : w90.cell? ⟨gb451, 0, none⟩ = some (.int .i64 t449) := bc BK451 0
  have hfs91 := fz BK451 0
  have hns91_0 := NB431_451.out
  have hns91_1 := NB432_451.out
  have hns91_2 := NB433_451.out
  have hms91_0 := NB451_431.out
  have hms91_1 := NB451_432.out
  have hms91_2 := NB451_433.out
  have hs92 : w90.cell? ⟨gb451, 1, none⟩ = some (.int .i64 t450) := bc BK451 1
  have hfs92 := fz BK451 1
  have hns92_0 := NB431_451.out
  have hns92_1 := NB432_451.out
  have hns92_2 := NB433_451.out
  have hms92_0 := NB451_431.out
  have hms92_1 := NB451_432.out
  have hms92_2 := NB451_433.out
  refine skip_ (w1 := ?_) (by rfl) rfl ?_ ?_
  rotate_left
  ·go_simp
   rfl
  refine hK.out _ _ ?_
  clear hK K
  refine done_ (done_of HT_.out (by kernel_rfl)) ?_
  try go_wp2
  go_meet
  case rel => exact ⟨_, (t461), (t462), H', ⟨by first | omega | exact Nat.le_refl _⟩, ⟨bF BK431⟩, ⟨bF BK432⟩, ⟨bF BK433⟩, ⟨by (with_reducible repeat (first | refine blk_drewN ?_ _ | refine blk_drew ?_ | refine blk_alloc ?_ _)); refine blk_put (cs := #[.int .i64 t461, .int .i64 t450]) ?_ 1 _ rfl; (with_reducible repeat (first | refine blk_drewN ?_ _ | refine blk_drew ?_ | refine blk_alloc ?_ _)); refine blk_put (cs := #[.int .i64 t449, .int .i64 t450]) ?_ 0 _ rfl; (with_reducible repeat (first | refine blk_drewN ?_ _ | refine blk_drew ?_ | refine blk_alloc ?_ _)); exact BK451.out⟩, ⟨hbC _⟩⟩
 case rest =>
  clear HC68
  try clear p2
  try clear c3
  try clear p4
  try clear q4
  try clear hx4
  try clear c5
  try clear p6
  try clear c7
  try clear c8
  try clear c33
  try clear p45
  try clear q45
  try clear hx45
  try clear c55
  try clear c56
  try clear c57
  try clear c58
  try clear p64
  try clear c75
  try clear c76
  try clear c77
  try clear c81
  try clear c81b0
  try clear hcz78_0
  try clear hcz78_1
  try clear hfz78_0
  try clear hfz78_1
  try clear hx452_0
  try clear hx453_0
  try clear hx454_0
  try clear p452
  try clear p453
  try clear p454
  try clear q452
  try clear q453
  try clear q454
  obtain ⟨kq, x452000_67, x452001_67, HA, HJ67, BK431, BK432, BK433, BK451, HB⟩ := hcut
  cases kq with
  | zero => exact absurd HA.out (by simp [congouref04_basic.j2])
  | succ kj67 =>
   have H := HA.out
   clear HA
   simp only [congouref04_basic.j2] at H
   obtain ⟨ji93, hji93⟩ : ∃ j_ : Int, (wrap64 ((wrap64 (a1 + a2)) + 1)) = j_ := ⟨_, rfl⟩
   replace H : (if 0 ≤ (ji93) then (if (ji93) < (l0_1.length : Int) then (if 0 ≤ (wrap64 (a1 + 1)) then (if (wrap64 (a1 + 1)) < (l0_1.length : Int) then (if (wrap64 ((rd l0_1 (ji93)) - (rd l0_1 (wrap64 (a1 + 1))))) > 0 then ((congouref04_Frac.f kj67 (wrap64 ((wrap64 ((rd l0_1 (ji93)) * a3_1)) - a3_0)) (wrap64 (a3_1 * (wrap64 ((rd l0_1 (ji93)) - (rd l0_1 (wrap64 (a1 + 1)))))))).bind fun bt466 => ((congouref04_basic.f kj67 a0_0 l0_1 l0_2 (wrap64 (a1 + 1)) (wrap64 (a2 - 1)) a3_0 a3_1).bind fun bt468 => ((congouref04_Times.f kj67 bt466.1 bt466.2 bt468.1 bt468.2).bind fun bt470 => ((congouref04_Plus.f kj67 x452000_67 x452001_67 bt470.1 bt470.2).bind fun bt472 => (some (bt472.1, bt472.2)))))) else (some (x452000_67, x452001_67))) else (none)) else (none)) else (none)) else (none)) = some (r1, r2) := by first | (rw [hji93] at H; exact H) | (simp only [hji93] at H ⊢; exact H)
   have hji93w : (IntKind.i64.wrap ((wrap64 (a1 + a2)) + 1)) = ji93 := (i64_w _).trans hji93
   have hji93v : (wrap64 (ji63 + 1)) = ji93 := by rw [← hji63]; exact hji93
   have hji93vw : (IntKind.i64.wrap (ji63 + 1)) = ji93 := (i64_w _).trans hji93v
   by_cases c94 : 0 ≤ (ji93)
   rotate_left
   ·rw [if_neg c94] at H
    exact absurd H (by simp)
   rw [if_pos c94] at H
   have c94b0 : decide (0 ≤ (ji93)) = true := decide_eq_true c94
   clear c94
   by_cases c95 : (ji93) < (l0_1.length : Int)
   rotate_left
   ·rw [if_neg c95] at H
    exact absurd H (by simp)
   rw [if_pos c95] at H
   have c95b0 : decide ((ji93) < (l0_1.length : Int)) = true := decide_eq_true c95
   clear c95
   obtain ⟨ji96, hji96⟩ : ∃ j_ : Int, (wrap64 (a1 + 1)) = j_ := ⟨_, rfl⟩
   replace H : (if 0 ≤ (ji96) then (if (ji96) < (l0_1.length : Int) then (if (wrap64 ((rd l0_1 (ji93)) - (rd l0_1 (ji96)))) > 0 then ((congouref04_Frac.f kj67 (wrap64 ((wrap64 ((rd l0_1 (ji93)) * a3_1)) - a3_0)) (wrap64 (a3_1 * (wrap64 ((rd l0_1 (ji93)) - (rd l0_1 (ji96))))))).bind fun bt466 => ((congouref04_basic.f kj67 a0_0 l0_1 l0_2 (ji96) (wrap64 (a2 - 1)) a3_0 a3_1).bind fun bt468 => ((congouref04_Times.f kj67 bt466.1 bt466.2 bt468.1 bt468.2).bind fun bt470 => ((congouref04_Plus.f kj67 x452000_67 x452001_67 bt470.1 bt470.2).bind fun bt472 => (some (bt472.1, bt472.2)))))) else (some (x452000_67, x452001_67))) else (none)) else (none)) = some (r1, r2) := by first | (rw [hji96] at H; exact H) | (simp only [hji96] at H ⊢; exact H)
   have hji96w : (IntKind.i64.wrap (a1 + 1)) = ji96 := (i64_w _).trans hji96
   by_cases c97 : 0 ≤ (ji96)
   rotate_left
   ·rw [if_neg c97] at H
    exact absurd H (by simp)
   rw [if_pos c97] at H
   have c97b0 : decide (0 ≤ (ji96)) = true := decide_eq_true c97
   clear c97
   by_cases c98 : (ji96) < (l0_1.length : Int)
   rotate_left
   ·rw [if_neg c98] at H
    exact absurd H (by simp)
   rw [if_pos c98] at H
   have c98b0 : decide ((ji96) < (l0_1.length : Int)) = true := decide_eq_true c98
   clear c98
   by_cases c99 : (wrap64 ((rd l0_1 (ji93)) - (rd l0_1 (ji96)))) > 0
   rotate_left
   ·rw [if_neg c99] at H
    have c99b0 : decide (0 < (wrap64 ((rd l0_1 (ji93)) - (rd l0_1 (ji96))))) = false := decide_eq_false c99
    clear c99
    simp only [Option.some.injEq, Prod.mk.injEq] at H
    obtain ⟨rfl, rfl⟩ := H
    try go_wp2
    replace BK431 := kd BK431
    replace BK432 := kd BK432
    replace BK433 := kd BK433
    replace BK451 := kd BK451
    replace HB := Aside0.mk (below_drew1 HB.out)
    have p463 : 0 ≤ ((ji93) : Int) := dA
    have q463 : (ji93) < (l0_1.length : Int) := dA
    obtain ⟨ad463, e463, hx463_0⟩ := Kd.at_int HR0_1.out (ji93) p463 q463
    have hw463_0 := hx463_0
    obtain rfl : ad452 = ad463 := (by injection e463)
    try replace hx463_0 := (HB.out.cell (World.block_lt_of_cell? w _ hx463_0)).trans hx463_0
    replace p463 := eq_true p463
    replace q463 := eq_true q463
    have p464 : 0 ≤ ((ji96) : Int) := dA
    have q464 : (ji96) < (l0_1.length : Int) := dA
    obtain ⟨ad464, e464, hx464_0⟩ := Kd.at_int HR0_1.out (ji96) p464 q464
    have hw464_0 := hx464_0
    obtain rfl : ad452 = ad464 := (by injection e464)
    try replace hx464_0 := (HB.out.cell (World.block_lt_of_cell? w _ hx464_0)).trans hx464_0
    replace p464 := eq_true p464
    replace q464 := eq_true q464
    refine sS (n := 14) (S := fun w' => w'.cell? (ad452.add ((ji93)).toNat) = some (.int .i64 (rd l0_1 (ji93))) ∧ w'.cell? (ad452.add ((ji96)).toNat) = some (.int .i64 (rd l0_1 (ji96)))) (ds := []) ⟨((HB.out.cell (World.block_lt_of_cell? w _ hw463_0)).trans hw463_0), ((HB.out.cell (World.block_lt_of_cell? w _ hw464_0)).trans hw464_0)⟩ (fun hHeld => ?_); refine with_tabW congouref04_basic.tab17 congouref04_basic.bits17 (fun HT_ HW_ => ?_)
    generalize wc.drew = w119 at BK431 BK432 BK433 BK451 HB hx463_0 hx464_0 hHeld ⊢
    refine pS 0 111 14 1 ?_
    refine pS 1 112 14 3 ?_
    refine pS 2 113 14 7 ?_
    refine pS 3 114 14 15 ?_
    refine pS 4 115 14 31 ?_
    refine pS 5 116 14 63 ?_
    refine pS 7 118 14 191 ?_
    refine pS 8 119 14 447 ?_
    refine pS 9 120 14 959 ?_
    refine pS 10 121 14 1983 ?_
    refine tS 6 117 14 2047 ?_
    refine tS 11 122 14 4095 ?_
    refine pS 12 123 14 8191 ?_
    refine pS 13 14 14 16383 ?_
    refine done_ (done_of HT_.out (by kernel_rfl)) ?_
    have hnb120 := NB451_431.out
    have hnc120 := NB431_451.out
    have hnb121 := NB451_432.out
    have hnc121 := NB432_451.out
    have hnb122 := NB451_433.out
    have hnc122 := NB433_451.out
    have hcz123_0 : w119.cell? ⟨gb451, 0, none⟩ = some (.int .i64 x452000_67) := bc BK451 0
    have hcz123_1 : w119.cell? ⟨gb451, 1, none⟩ = some (.int .i64 x452001_67) := bc BK451 1
    have hfz123_0 := fz BK451 0
    have hfz123_1 := fz BK451 1
    have hnb124 := NB433_431.out
    have hnc124 := NB431_433.out
    have hnb125 := NB433_432.out
    have hnc125 := NB432_433.out
    have hcz126_0 : w119.cell? ⟨gb433, 0, none⟩ = some (.int .i64 0) := bc BK433 0
    have hcz126_1 : w119.cell? ⟨gb433, 1, none⟩ = some (.int .i64 0) := bc BK433 1
    have hfz126_0 := fz BK433 0
    have hfz126_1 := fz BK433 1
    try go_wp2
    refine bodyPost_ret (results_cell_row rfl _ _ gb433 26 #[.int .i64 x452000_67, .int .i64 x452001_67] (0, 0) _ rfl (by (with_reducible repeat (first | refine blk_drewN ?_ _ | refine blk_drew ?_ | refine blk_alloc ?_ _)); refine blk_put (cs := #[.int .i64 x452000_67, .int .i64 0]) ?_ 1 _ rfl; (with_reducible repeat (first | refine blk_drewN ?_ _ | refine blk_drew ?_ | refine blk_alloc ?_ _)); refine blk_put (cs := #[.int .i64 0, .int .i64 0]) ?_ 0 _ rfl; (with_reducible repeat (first | refine blk_drewN ?_ _ | refine blk_drew ?_ | refine blk_alloc ?_ _)); exact BK433.out) Try.underlying26 rfl (by kernel_rfl)) rfl ?_
    exact ⟨by first | rfl | (simp [errW_none, errW_some] <;> rfl) | (simp only [← hji63, ← hji93, ← hji96]; first | rfl | (simp [errW_none, errW_some] <;> rfl)) | (simp [*, errW_none, errW_some] <;> rfl), hbC _⟩
   rw [if_pos c99] at H
   have c99b0 : decide (0 < (wrap64 ((rd l0_1 (ji93)) - (rd l0_1 (ji96))))) = true := decide_eq_true c99
   clear c99
   replace H := Option.bind_eq_some_iff.mp H
   obtain ⟨⟨t466, t467⟩, A1000, H⟩ := H
   replace H : ((congouref04_basic.f kj67 a0_0 l0_1 l0_2 (ji96) (wrap64 (a2 - 1)) a3_0 a3_1).bind fun bt468 => ((congouref04_Times.f kj67 t466 t467 bt468.1 bt468.2).bind fun bt470 => ((congouref04_Plus.f kj67 x452000_67 x452001_67 bt470.1 bt470.2).bind fun bt472 => (some (bt472.1, bt472.2))))) = some (r1, r2) := H
   have A100 := Aside0.mk A1000
   clear A1000
   replace H := Option.bind_eq_some_iff.mp H
   obtain ⟨⟨t468, t469⟩, A1010, H⟩ := H
   replace H : ((congouref04_Times.f kj67 t466 t467 t468 t469).bind fun bt470 => ((congouref04_Plus.f kj67 x452000_67 x452001_67 bt470.1 bt470.2).bind fun bt472 => (some (bt472.1, bt472.2)))) = some (r1, r2) := H
   have A101 := Aside0.mk A1010
   clear A1010
   replace H := Option.bind_eq_some_iff.mp H
   obtain ⟨⟨t470, t471⟩, A1020, H⟩ := H
   replace H : ((congouref04_Plus.f kj67 x452000_67 x452001_67 t470 t471).bind fun bt472 => (some (bt472.1, bt472.2))) = some (r1, r2) := H
   have A102 := Aside0.mk A1020
   clear A1020
   replace H := Option.bind_eq_some_iff.mp H
   obtain ⟨⟨t472, t473⟩, A1030, H⟩ := H
   replace H : (some (t472, t473)) = some (r1, r2) := H
   have A103 := Aside0.mk A1030
   clear A1030
   simp only [Option.some.injEq, Prod.mk.injEq] at H
   obtain ⟨rfl, rfl⟩ := H
   try go_wp2
   replace BK431 := kd BK431
   replace BK432 := kd BK432
   replace BK433 := kd BK433
   replace BK451 := kd BK451
   replace HB := Aside0.mk (below_drew1 HB.out)
   have p463 : 0 ≤ ((ji93) : Int) := dA
   have q463 : (ji93) < (l0_1.length : Int) := dA
   obtain ⟨ad463, e463, hx463_0⟩ := Kd.at_int HR0_1.out (ji93) p463 q463
   have hw463_0 := hx463_0
   obtain rfl : ad452 = ad463 := (by injection e463)
   try replace hx463_0 := (HB.out.cell (World.block_lt_of_cell? w _ hx463_0)).trans hx463_0
   replace p463 := eq_true p463
   replace q463 := eq_true q463
   have p464 : 0 ≤ ((ji96) : Int) := dA
   have q464 : (ji96) < (l0_1.length : Int) := dA
   obtain ⟨ad464, e464, hx464_0⟩ := Kd.at_int HR0_1.out (ji96) p464 q464
   have hw464_0 := hx464_0
   obtain rfl : ad452 = ad464 := (by injection e464)
   try replace hx464_0 := (HB.out.cell (World.block_lt_of_cell? w _ hx464_0)).trans hx464_0
   replace p464 := eq_true p464
   replace q464 := eq_true q464
   refine sS (n := 14) (S := fun w' => w'.cell? (ad452.add ((ji93)).toNat) = some (.int .i64 (rd l0_1 (ji93))) ∧ w'.cell? (ad452.add ((ji96)).toNat) = some (.int .i64 (rd l0_1 (ji96)))) (ds := []) ⟨((HB.out.cell (World.block_lt_of_cell? w _ hw463_0)).trans hw463_0), ((HB.out.cell (World.block_lt_of_cell? w _ hw464_0)).trans hw464_0)⟩ (fun hHeld => ?_); refine with_tabW congouref04_basic.tab17 congouref04_basic.bits17 (fun HT_ HW_ => ?_)
   generalize wc.drew = w104 at BK431 BK432 BK433 BK451 HB hx463_0 hx464_0 hHeld ⊢
   refine pS 0 111 14 1 ?_
   refine pS 1 112 14 3 ?_
   refine pS 2 113 14 7 ?_
   refine pS 3 114 14 15 ?_
   refine pS 4 115 14 31 ?_
   refine pS 5 116 14 63 ?_
   refine pS 7 118 14 191 ?_
   refine pS 8 119 14 447 ?_
   refine pS 9 120 14 959 ?_
   refine pS 10 121 14 1983 ?_
   refine tS 6 117 14 2047 ?_
   refine tS 11 122 14 4095 ?_
   refine pS 12 123 14 8191 ?_
   refine pS 13 14 14 16383 ?_
   refine done_ (done_of HT_.out (by kernel_rfl)) ?_
   try go_wp2
   replace BK431 := kd BK431
   replace BK432 := kd BK432
   replace BK433 := kd BK433
   replace BK451 := kd BK451
   replace HB := Aside0.mk (below_drew1 HB.out)
   have p465 : 0 ≤ ((ji93) : Int) := dA
   have q465 : (ji93) < (l0_1.length : Int) := dA
   obtain ⟨ad465, e465, hx465_0⟩ := Kd.at_int HR0_1.out (ji93) p465 q465
   have hw465_0 := hx465_0
   obtain rfl : ad452 = ad465 := (by injection e465)
   try replace hx465_0 := (HB.out.cell (World.block_lt_of_cell? w _ hx465_0)).trans hx465_0
   replace p465 := eq_true p465
   replace q465 := eq_true q465
   refine sS (n := 29) (S := fun w' => w'.cell? ⟨gb451, 0, none⟩ = some (.int .i64 x452000_67) ∧ w'.cell? ⟨gb451, 1, none⟩ = some (.int .i64 x452001_67) ∧ w'.cell? ⟨gb432, 0, none⟩ = some (.int .i64 a3_0) ∧ w'.cell? ⟨gb432, 1, none⟩ = some (.int .i64 a3_1) ∧ w'.cell? ⟨gb431, 0, none⟩ = some (.int .i64 a0_0) ∧ w'.cell? ⟨gb431, 1, none⟩ = some (.slice (some ad452) l0_1.length c0_1) ∧ w'.cell? ⟨gb431, 2, none⟩ = some (.slice A0_2 l0_2.length c0_2) ∧ w'.cell? (ad452.add ((ji93)).toNat) = some (.int .i64 (rd l0_1 (ji93)))) (ds := [28]) ⟨bc BK451 0, bc BK451 1, bc BK432 0, bc BK432 1, bc BK431 0, bc BK431 1, bc BK431 2, ((HB.out.cell (World.block_lt_of_cell? w _ hw465_0)).trans hw465_0)⟩ (fun hHeld => ?_); refine with_tabW congouref04_basic.tab19 congouref04_basic.bits19 (fun HT_ HW_ => ?_)
   generalize w104.drew = w105 at BK431 BK432 BK433 BK451 HB hx465_0 hHeld ⊢
   refine pS 1 127 29 2 ?_
   refine pS 2 128 29 6 ?_
   refine pS 3 129 29 14 ?_
   refine pS 4 130 29 30 ?_
   refine pS 5 131 29 62 ?_
   refine pS 6 132 29 126 ?_
   refine pS 8 134 29 382 ?_
   refine pS 11 137 29 2430 ?_
   refine pS 14 140 29 18814 ?_
   refine pS 16 142 29 84350 ?_
   refine pS 20 146 29 1132926 ?_
   refine pS 21 147 29 3230078 ?_
   refine pS 22 148 29 7424382 ?_
   refine pS 23 149 29 15812990 ?_
   refine tS 0 126 29 15812991 ?_
   refine tS 7 133 29 15813119 ?_
   refine tS 9 135 29 15813631 ?_
   refine pS 10 136 29 15814655 ?_
   refine tS 12 138 29 15818751 ?_
   refine pS 13 139 29 15826943 ?_
   refine tS 15 141 29 15859711 ?_
   refine pS 17 143 29 15990783 ?_
   refine tS 19 145 29 16515071 ?_
   refine tS 24 150 29 33292287 ?_
   refine one_ (i := 18) (N := some 144) (ba 29 33554431) rfl rfl (one_of HT_.out (by kernel_rfl)) (by decide) (fun K hK => ?_)
   refine goes_ Try.func33 (by kernel_rfl) rfl #[.int .i64 (wrap64 ((wrap64 ((rd l0_1 (ji93)) * a3_1)) - a3_0)), .int .i64 (wrap64 (a3_1 * (wrap64 ((rd l0_1 (ji93)) - (rd l0_1 (ji96))))))] (by rfl) rfl rfl (by (try simp only [List.map_toArray, List.map_cons, List.map_nil]); first | done | (simp only [hji93, hji96]; rfl) | rfl | (simp only [List.length_drop, List.length_take]; rfl)) ?_
   with_reducible refine (congouref04_Frac.calls kj67 (wrap64 ((wrap64 ((rd l0_1 (ji93)) * a3_1)) - a3_0)) (wrap64 (a3_1 * (wrap64 ((rd l0_1 (ji93)) - (rd l0_1 (ji96)))))) t466 t467 _ A100.out).mono ?_
   rintro e w106 ⟨rfl, hb⟩
   refine ⟨_, rfl, ?_⟩
   replace BK431 := kB BK431 hb
   replace BK432 := kB BK432 hb
   replace BK433 := kB BK433 hb
   replace BK451 := kB BK451 hb
   replace HB := kH _ hb
   (try clear hb)
   (try clear hb2)
   (try clear hk)
   (try clear hi)
   refine hK.out _ _ ⟨bc BK451 0, bc BK451 1, bc BK432 0, bc BK432 1, bc BK431 0, bc BK431 1, bc BK431 2, ((HB.out.cell (World.block_lt_of_cell? w _ hw465_0)).trans hw465_0)⟩ (fun hHeld => ?_)
   clear hK K
   refine norm_ (a' := ?_) ?_ ?_
   rotate_left
   ·show Act.put _ (some 144) _ = _
    simp only [Act.put, List.setIfInBounds_toArray, List.set_cons_zero, List.set_cons_succ, i64_w, i32_w]
    rfl
   refine one_ (i := 25) (N := some 151) (ba 29 67108863) rfl rfl (one_of HT_.out (by kernel_rfl)) (by decide) (fun K hK => ?_)
   refine goes_ Try.func55 (by kernel_rfl) rfl #[.agg #[.int .i64 a0_0, .slice (some ad452) l0_1.length c0_1, .slice A0_2 l0_2.length c0_2], .int .i64 ji96, .int .i64 (wrap64 (a2 - 1)), .agg #[.int .i64 a3_0, .int .i64 a3_1]] (by rfl) rfl rfl (by (try simp only [List.map_toArray, List.map_cons, List.map_nil]); first | done | (simp only [hji96]; rfl) | rfl | (simp only [List.length_drop, List.length_take]; rfl)) ?_
   with_reducible refine (ih kj67 (by have := HJ67.out; omega) a0_0 _ _ l0_1 _ _ l0_2 ji96 (wrap64 (a2 - 1)) a3_0 a3_1 t468 t469 _ ?side1 ?side2 ?side3 ?side4 A101.out).mono ?_
   (case side1 => exact kC HR0_1)
   (case side2 => exact HC0_1.out)
   (case side3 => exact kC HR0_2)
   (case side4 => exact HC0_2.out)
   rintro e w107 ⟨rfl, hb⟩
   refine ⟨_, rfl, ?_⟩
   replace BK431 := kB BK431 hb
   replace BK432 := kB BK432 hb
   replace BK433 := kB BK433 hb
   replace BK451 := kB BK451 hb
   replace HB := kH _ hb
   (try clear hb)
   (try clear hb2)
   (try clear hk)
   (try clear hi)
   refine hK.out _ _ ⟨bc BK451 0, bc BK451 1, bc BK432 0, bc BK432 1, bc BK431 0, bc BK431 1, bc BK431 2, ((HB.out.cell (World.block_lt_of_cell? w _ hw465_0)).trans hw465_0)⟩ (fun hHeld => ?_)
   clear hK K
   refine norm_ (a' := ?_) ?_ ?_
   rotate_left
   ·show Act.put _ (some 151) _ = _
    simp only [Act.put, List.setIfInBounds_toArray, List.set_cons_zero, List.set_cons_succ, i64_w, i32_w]
    rfl
   refine one_ (i := 26) (N := some 152) (ba 29 134217727) rfl rfl (one_of HT_.out (by kernel_rfl)) (by decide) (fun K hK => ?_)
   refine gC Try.func58 #[.agg #[.int .i64 t466, .int .i64 t467], .agg #[.int .i64 t468, .int .i64 t469]] ?_
   with_reducible refine (congouref04_Times.calls kj67 t466 t467 t468 t469 t470 t471 _ A102.out).mono ?_
   rintro e w108 ⟨rfl, hb⟩
   refine ⟨_, rfl, ?_⟩
   replace BK431 := kB BK431 hb
   replace BK432 := kB BK432 hb
   replace BK433 := kB BK433 hb
   replace BK451 := kB BK451 hb
   replace HB := kH _ hb
   (try clear hb)
   (try clear hb2)
   (try clear hk)
   (try clear hi)
   refine hK.out _ _ ⟨bc BK451 0, bc BK451 1, bc BK432 0, bc BK432 1, bc BK431 0, bc BK431 1, bc BK431 2, ((HB.out.cell (World.block_lt_of_cell? w _ hw465_0)).trans hw465_0)⟩ (fun hHeld => ?_)
   clear hK K
   refine norm_ (a' := ?_) ?_ ?_
   rotate_left
   ·show Act.put _ (some 152) _ = _
    simp only [Act.put, List.setIfInBounds_toArray, List.set_cons_zero, List.set_cons_succ, i64_w, i32_w]
    rfl
   refine one_ (i := 27) (N := some 153) (ba 29 268435455) rfl rfl (one_of HT_.out (by kernel_rfl)) (by decide) (fun K hK => ?_)
   refine gC Try.func57 #[.agg #[.int .i64 x452000_67, .int .i64 x452001_67], .agg #[.int .i64 t470, .int .i64 t471]] ?_
   with_reducible refine (congouref04_Plus.calls kj67 x452000_67 x452001_67 t470 t471 t472 t473 _ A103.out).mono ?_
   rintro e w109 ⟨rfl, hb⟩
   refine ⟨_, rfl, ?_⟩
   replace BK431 := kB BK431 hb
   replace BK432 := kB BK432 hb
   replace BK433 := kB BK433 hb
   replace BK451 := kB BK451 hb
   replace HB := kH _ hb
   (try clear hb)
   (try clear hb2)
   (try clear hk)
   (try clear hi)
   refine hK.out _ _ ⟨bc BK451 0, bc BK451 1, bc BK432 0, bc BK432 1, bc BK431 0, bc BK431 1, bc BK431 2, ((HB.out.cell (World.block_lt_of_cell? w _ hw465_0)).trans hw465_0)⟩ (fun hHeld => ?_)
   clear hK K
   refine norm_ (a' := ?_) ?_ ?_
   rotate_left
   ·show Act.put _ (some 153) _ = _
    simp only [Act.put, List.setIfInBounds_toArray, List.set_cons_zero, List.set_cons_succ, i64_w, i32_w]
    rfl
   refine last_ (i := 28) (N := none) (ba 29 536870911) rfl rfl (one_of HT_.out (by kernel_rfl)) (by decide) (fun K hK => ?_)
   have hs110 : w109.cell? ⟨gb451, 0, none⟩ = some (.int .i64 x452000_67) := bc BK451 0
   have hfs110 := fz BK451 0
   have hns110_0 := NB431_451.out
   have hns110_1 := NB432_451.out
   have hns110_2 := NB433_451.out
   have hms110_0 := NB451_431.out
   have hms110_1 := NB451_432.out
   have hms110_2 := NB451_433.out
   have hs111 : w109.cell? ⟨gb451, 1, none⟩ = some (.int .i64 x452001_67) := bc BK451 1
   have hfs111 := fz BK451 1
   have hns111_0 := NB431_451.out
   have hns111_1 := NB432_451.out
   have hns111_2 := NB433_451.out
   have hms111_0 := NB451_431.out
   have hms111_1 := NB451_432.out
   have hms111_2 := NB451_433.out
   refine skip_ (w1 := ?_) (by rfl) rfl ?_ ?_
   rotate_left
   ·go_simp
    rfl
   refine hK.out _ _ ?_
   clear hK K
   refine done_ (done_of HT_.out (by kernel_rfl)) ?_
   have hnb112 := NB451_431.out
   have hnc112 := NB431_451.out
   have hnb113 := NB451_432.out
   have hnc113 := NB432_451.out
   have hnb114 := NB451_433.out
   have hnc114 := NB433_451.out
   have hcz115_0 : w109.cell? ⟨gb451, 0, none⟩ = some (.int .i64 x452000_67) := bc BK451 0
   have hcz115_1 : w109.cell? ⟨gb451, 1, none⟩ = some (.int .i64 x452001_67) := bc BK451 1
   have hfz115_0 := fz BK451 0
   have hfz115_1 := fz BK451 1
   have hnb116 := NB433_431.out
   have hnc116 := NB431_433.out
   have hnb117 := NB433_432.out
   have hnc117 := NB432_433.out
   have hcz118_0 : w109.cell? ⟨gb433, 0, none⟩ = some (.int .i64 0) := bc BK433 0
   have hcz118_1 : w109.cell? ⟨gb433, 1, none⟩ = some (.int .i64 0) := bc BK433 1
   have hfz118_0 := fz BK433 0
   have hfz118_1 := fz BK433 1
   try go_wp2
   refine bodyPost_ret (results_cell_row rfl _ _ gb433 26 #[.int .i64 t472, .int .i64 t473] (0, 0) _ rfl (by (with_reducible repeat (first | refine blk_drewN ?_ _ | refine blk_drew ?_ | refine blk_alloc ?_ _)); refine blk_put (cs := #[.int .i64 t472, .int .i64 0]) ?_ 1 _ rfl; (with_reducible repeat (first | refine blk_drewN ?_ _ | refine blk_drew ?_ | refine blk_alloc ?_ _)); refine blk_put (cs := #[.int .i64 0, .int .i64 0]) ?_ 0 _ rfl; (with_reducible repeat (first | refine blk_drewN ?_ _ | refine blk_drew ?_ | refine blk_alloc ?_ _)); refine blk_far ?_ NB433_451.out _; (with_reducible repeat (first | refine blk_drewN ?_ _ | refine blk_drew ?_ | refine blk_alloc ?_ _)); refine blk_far ?_ NB433_451.out _; (with_reducible repeat (first | refine blk_drewN ?_ _ | refine blk_drew ?_ | refine blk_alloc ?_ _)); exact BK433.out) Try.underlying26 rfl (by kernel_rfl)) rfl ?_
   exact ⟨by first | rfl | (simp [errW_none, errW_some] <;> rfl) | (simp only [← hji63, ← hji93, ← hji96]; first | rfl | (simp [errW_none, errW_some] <;> rfl)) | (simp [*, errW_none, errW_some] <;> rfl), hbC _⟩

end Go.Proofs.Ytpnocmkpeogifaa.X
