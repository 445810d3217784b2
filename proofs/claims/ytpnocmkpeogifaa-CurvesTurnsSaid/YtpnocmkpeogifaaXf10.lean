-- Written by a program of this work (wip/xprint.py, over the kit's printer) out of the translation.
import Derived.Test.YtpnocmkpeogifaaX0
import Derived.Test.YtpnocmkpeogifaaXG1a
import Derived.Test.YtpnocmkpeogifaaXG2a
import Derived.Test.YtpnocmkpeogifaaXG4a
import Derived.Test.YtpnocmkpeogifaaXf14
import Derived.Test.YtpnocmkpeogifaaXf15
import Derived.Test.YtpnocmkpeogifaaXf17
import Derived.Test.YtpnocmkpeogifaaXf29
import Derived.Test.YtpnocmkpeogifaaXf32
import Derived.Test.YtpnocmkpeogifaaXf34
namespace Go.Proofs.Ytpnocmkpeogifaa.X
open Go.RowKit Go.Proofs.YtpnocmkpeogifaaW.PrintWords Go.Proofs.YtpnocmkpeogifaaW.PrintLast Go.Proofs.YtpnocmkpeogifaaW.PrintMore
attribute [local go_sem] max2_int min2_int max_two min_two max_three min_three max_four min_four   -- for this text's walks alone
set_option linter.unusedVariables false
set_option linter.unusedSimpArgs false

/-! ### congoulaw04_CurvesTurns: function 10 -/
mutual
def congoulaw04_CurvesTurns.l0 : Nat → Int → List Int → List (S26) → Int → Int → Int → List Int → List Int → Int → Int → Option (Bool)
 | 0, _, _, _, _, _, _, _, _, _, _ => none
 | k + 1, x5, x9, x44, x45, x46, x825000, x825001, x825002, x844000, x844001 => if x46 < x45 then (if 0 ≤ x46 then (if x46 < (x44.length : Int) then ((congoulaw04_Of.f x825000 x825001 x825002).bind fun bt853 => ((curves_Value.f k bt853.1 bt853.2.1 bt853.2.2 ((rd_T26 x44 x46).f0) ((rd_T26 x44 x46).f1)).bind fun bt860 => (if bt860.2.2 = 0 then ((congouref04_In.f k x825000 x825001 x825002 ((rd_T26 x44 x46).f0) ((rd_T26 x44 x46).f1)).bind fun t864 => (congoulaw04_CurvesTurns.j1 k x5 x9 bt860.2.2 x44 x45 x46 (!t864) x825000 x825001 x825002 x844000 x844001 ((rd_T26 x44 x46).f0) ((rd_T26 x44 x46).f1) bt860.1 bt860.2.1)) else (congoulaw04_CurvesTurns.j1 k x5 x9 bt860.2.2 x44 x45 x46 true x825000 x825001 x825002 x844000 x844001 ((rd_T26 x44 x46).f0) ((rd_T26 x44 x46).f1) bt860.1 bt860.2.1)))) else (none)) else (none)) else ((curves_Changes.f k x9).bind fun bt848 => (if bt848.2 = 0 then (if bt848.1 ≤ x5 then ((congoulaw04_awake.f k).bind fun t850 => (some t850)) else (some false)) else (some false)))
def congoulaw04_CurvesTurns.j1 : Nat → Int → List Int → Int → List (S26) → Int → Int → Bool → Int → List Int → List Int → Int → Int → Int → Int → Int → Int → Option (Bool)
 | 0, _, _, _, _, _, _, _, _, _, _, _, _, _, _, _, _ => none
 | k + 1, x5, x9, x14, x44, x45, x46, x64, x825000, x825001, x825002, x844000, x844001, x853000, x853001, x864000, x864001 => if x64 = true then (if x14 = 2 then ((congouref04_In.f k x825000 x825001 x825002 x853000 x853001).bind fun t865 => (congoulaw04_CurvesTurns.j2 k x5 x9 x44 x45 x46 t865 x825000 x825001 x825002 x844000 x844001)) else (congoulaw04_CurvesTurns.j2 k x5 x9 x44 x45 x46 true x825000 x825001 x825002 x844000 x844001)) else ((congouref04_Less.f x844000 x844001 x853000 x853001).bind fun t866 => (if t866 = true then (if x9.length < 17592186044416 then (congoulaw04_CurvesTurns.l0 k x5 (x9 ++ [mx (-1) (mn 1 x864000)]) x44 x45 (wrap64 (x46 + 1)) x825000 x825001 x825002 x853000 x853001) else (none)) else (congoulaw04_CurvesTurns.l0 k x5 x9 x44 x45 (wrap64 (x46 + 1)) x825000 x825001 x825002 x844000 x844001)))
def congoulaw04_CurvesTurns.j2 : Nat → Int → List Int → List (S26) → Int → Int → Bool → Int → List Int → List Int → Int → Int → Option (Bool)
 | 0, _, _, _, _, _, _, _, _, _, _, _ => none
 | k + 1, x5, x9, x44, x45, x46, x71, x825000, x825001, x825002, x844000, x844001 => if x71 = true then (some false) else (congoulaw04_CurvesTurns.l0 k x5 x9 x44 x45 (wrap64 (x46 + 1)) x825000 x825001 x825002 x844000 x844001)
end
def congoulaw04_CurvesTurns.f (k : Nat) (a0_0 : Int) (l0_1 : List Int) (l0_2 : List Int) (l1 : List (S26)) : Option (Bool) := (congoulaw04_list.f l0_2).bind fun t825 => ((curves_Changes.f k t825).bind fun bt828 => ((congouref04_Valid.f k a0_0 l0_1 l0_2).bind fun t830 => (if t830 = true then (if bt828.2 = 0 then (if 0 ≤ (mn (l1.length : Int) 20) then (if (mn (l1.length : Int) 20) ≤ (l1.length : Int) then ((some (l1.take ((mn (l1.length : Int) 20) : Int).toNat : List (S26))).bind fun y844 => (congoulaw04_CurvesTurns.l0 k bt828.1 ([] : List Int) y844 (y844.length : Int) 0 a0_0 l0_1 l0_2 (-1) 1)) else (none)) else (none)) else (some false)) else ((congoulaw04_Of.f a0_0 l0_1 l0_2).bind fun bt831 => ((curves_Means.f k bt831.1 bt831.2.1 bt831.2.2).bind fun bt838 => (if bt838.2 = 2 then ((congoulaw04_awake.f k).bind fun t842 => (some t842)) else (some false)))))))
theorem congoulaw04_CurvesTurns.mono_l : ∀ k, (∀ y0 y1 y2 y3 y4 y5 y6 y7 y8 y9, LeO (congoulaw04_CurvesTurns.l0 k y0 y1 y2 y3 y4 y5 y6 y7 y8 y9) (congoulaw04_CurvesTurns.l0 (k + 1) y0 y1 y2 y3 y4 y5 y6 y7 y8 y9)) ∧ (∀ y0 y1 y2 y3 y4 y5 y6 y7 y8 y9 y10 y11 y12 y13 y14 y15, LeO (congoulaw04_CurvesTurns.j1 k y0 y1 y2 y3 y4 y5 y6 y7 y8 y9 y10 y11 y12 y13 y14 y15) (congoulaw04_CurvesTurns.j1 (k + 1) y0 y1 y2 y3 y4 y5 y6 y7 y8 y9 y10 y11 y12 y13 y14 y15)) ∧ (∀ y0 y1 y2 y3 y4 y5 y6 y7 y8 y9 y10, LeO (congoulaw04_CurvesTurns.j2 k y0 y1 y2 y3 y4 y5 y6 y7 y8 y9 y10) (congoulaw04_CurvesTurns.j2 (k + 1) y0 y1 y2 y3 y4 y5 y6 y7 y8 y9 y10))
 | 0 => ⟨fun _ _ _ _ _ _ _ _ _ _ r h => by simp [congoulaw04_CurvesTurns.l0] at h, fun _ _ _ _ _ _ _ _ _ _ _ _ _ _ _ _ r h => by simp [congoulaw04_CurvesTurns.j1] at h, fun _ _ _ _ _ _ _ _ _ _ _ r h => by simp [congoulaw04_CurvesTurns.j2] at h⟩
 | k + 1 => by
  obtain ⟨ih0, ih1, ih2⟩ := congoulaw04_CurvesTurns.mono_l k
  refine ⟨?_, ?_, ?_⟩
  ·intro y0 y1 y2 y3 y4 y5 y6 y7 y8 y9
   unfold congoulaw04_CurvesTurns.l0
   repeat' first
   | (with_reducible exact ih0 _ _ _ _ _ _ _ _ _ _)
   | (with_reducible exact ih1 _ _ _ _ _ _ _ _ _ _ _ _ _ _ _ _)
   | (with_reducible exact ih2 _ _ _ _ _ _ _ _ _ _ _)
   | (with_reducible exact congoulaw04_awake.mono _)
   | (with_reducible exact congouref04_In.mono _ _ _ _ _ _)
   | (with_reducible exact congouref04_Valid.mono _ _ _ _)
   | (with_reducible exact curves_Changes.mono _ _)
   | (with_reducible exact curves_Means.mono _ _ _ _)
   | (with_reducible exact curves_Value.mono _ _ _ _ _ _)
   | (with_reducible exact LeO.refl _)
   | (with_reducible exact LeO.none _)
   | (with_reducible refine LeO.ite ?_ ?_)
   | (with_reducible refine LeO.bind ?_ (fun _ => ?_))
   | exact ih0 _ _ _ _ _ _ _ _ _ _
   | exact ih1 _ _ _ _ _ _ _ _ _ _ _ _ _ _ _ _
   | exact ih2 _ _ _ _ _ _ _ _ _ _ _
   | exact congoulaw04_awake.mono _
   | exact congouref04_In.mono _ _ _ _ _ _
   | exact congouref04_Valid.mono _ _ _ _
   | exact curves_Changes.mono _ _
   | exact curves_Means.mono _ _ _ _
   | exact curves_Value.mono _ _ _ _ _ _
   | exact LeO.none _
   | refine LeO.ite ?_ ?_
   | refine LeO.bind ?_ (fun _ => ?_)
  ·intro y0 y1 y2 y3 y4 y5 y6 y7 y8 y9 y10 y11 y12 y13 y14 y15
   unfold congoulaw04_CurvesTurns.j1
   repeat' first
   | (with_reducible exact ih0 _ _ _ _ _ _ _ _ _ _)
   | (with_reducible exact ih1 _ _ _ _ _ _ _ _ _ _ _ _ _ _ _ _)
   | (with_reducible exact ih2 _ _ _ _ _ _ _ _ _ _ _)
   | (with_reducible exact congoulaw04_awake.mono _)
   | (with_reducible exact congouref04_In.mono _ _ _ _ _ _)
   | (with_reducible exact congouref04_Valid.mono _ _ _ _)
   | (with_reducible exact curves_Changes.mono _ _)
   | (with_reducible exact curves_Means.mono _ _ _ _)
   | (with_reducible exact curves_Value.mono _ _ _ _ _ _)
   | (with_reducible exact LeO.refl _)
   | (with_reducible exact LeO.none _)
   | (with_reducible refine LeO.ite ?_ ?_)
   | (with_reducible refine LeO.bind ?_ (fun _ => ?_))
   | exact ih0 _ _ _ _ _ _ _ _ _ _
   | exact ih1 _ _ _ _ _ _ _ _ _ _ _ _ _ _ _ _
   | exact ih2 _ _ _ _ _ _ _ _ _ _ _
   | exact congoulaw04_awake.mono _
   | exact congouref04_In.mono _ _ _ _ _ _
   | exact congouref04_Valid.mono _ _ _ _
   | exact curves_Changes.mono _ _
   | exact curves_Means.mono _ _ _ _
   | exact curves_Value.mono _ _ _ _ _ _
   | exact LeO.none _
   | refine LeO.ite ?_ ?_
   | refine LeO.bind ?_ (fun _ => ?_)
  ·intro y0 y1 y2 y3 y4 y5 y6 y7 y8 y9 y10
   unfold congoulaw04_CurvesTurns.j2
   repeat' first
   | (with_reducible exact ih0 _ _ _ _ _ _ _ _ _ _)
   | (with_reducible exact ih1 _ _ _ _ _ _ _ _ _ _ _ _ _ _ _ _)
   | (with_reducible exact ih2 _ _ _ _ _ _ _ _ _ _ _)
   | (with_reducible exact congoulaw04_awake.mono _)
   | (with_reducible exact congouref04_In.mono _ _ _ _ _ _)
   | (with_reducible exact congouref04_Valid.mono _ _ _ _)
   | (with_reducible exact curves_Changes.mono _ _)
   | (with_reducible exact curves_Means.mono _ _ _ _)
   | (with_reducible exact curves_Value.mono _ _ _ _ _ _)
   | (with_reducible exact LeO.refl _)
   | (with_reducible exact LeO.none _)
   | (with_reducible refine LeO.ite ?_ ?_)
   | (with_reducible refine LeO.bind ?_ (fun _ => ?_))
   | exact ih0 _ _ _ _ _ _ _ _ _ _
   | exact ih1 _ _ _ _ _ _ _ _ _ _ _ _ _ _ _ _
   | exact ih2 _ _ _ _ _ _ _ _ _ _ _
   | exact congoulaw04_awake.mono _
   | exact congouref04_In.mono _ _ _ _ _ _
   | exact congouref04_Valid.mono _ _ _ _
   | exact curves_Changes.mono _ _
   | exact curves_Means.mono _ _ _ _
   | exact curves_Value.mono _ _ _ _ _ _
   | exact LeO.none _
   | refine LeO.ite ?_ ?_
   | refine LeO.bind ?_ (fun _ => ?_)
theorem congoulaw04_CurvesTurns.mono : ∀ a0 a1 a2 a3 k, LeO (congoulaw04_CurvesTurns.f k a0 a1 a2 a3) (congoulaw04_CurvesTurns.f (k + 1) a0 a1 a2 a3) := by
 intro a0 a1 a2 a3 k
 obtain ⟨ih0, ih1, ih2⟩ := congoulaw04_CurvesTurns.mono_l k
 unfold congoulaw04_CurvesTurns.f
 repeat' first
   | (with_reducible exact ih0 _ _ _ _ _ _ _ _ _ _)
   | (with_reducible exact ih1 _ _ _ _ _ _ _ _ _ _ _ _ _ _ _ _)
   | (with_reducible exact ih2 _ _ _ _ _ _ _ _ _ _ _)
   | (with_reducible exact congoulaw04_awake.mono _)
   | (with_reducible exact congouref04_In.mono _ _ _ _ _ _)
   | (with_reducible exact congouref04_Valid.mono _ _ _ _)
   | (with_reducible exact curves_Changes.mono _ _)
   | (with_reducible exact curves_Means.mono _ _ _ _)
   | (with_reducible exact curves_Value.mono _ _ _ _ _ _)
   | (with_reducible exact LeO.refl _)
   | (with_reducible exact LeO.none _)
   | (with_reducible refine LeO.ite ?_ ?_)
   | (with_reducible refine LeO.bind ?_ (fun _ => ?_))
   | exact ih0 _ _ _ _ _ _ _ _ _ _
   | exact ih1 _ _ _ _ _ _ _ _ _ _ _ _ _ _ _ _
   | exact ih2 _ _ _ _ _ _ _ _ _ _ _
   | exact congoulaw04_awake.mono _
   | exact congouref04_In.mono _ _ _ _ _ _
   | exact congouref04_Valid.mono _ _ _ _
   | exact curves_Changes.mono _ _
   | exact curves_Means.mono _ _ _ _
   | exact curves_Value.mono _ _ _ _ _ _
   | exact LeO.none _
   | refine LeO.ite ?_ ?_
   | refine LeO.bind ?_ (fun _ => ?_)
def congoulaw04_CurvesTurns.T12 : Bool × List (List Nat × List Nat) := (true, [([], []), ([0], [0]), ([], []), ([1, 2, 1], [1, 2]), ([3], [3]), ([4], [4]), ([4], [4]), ([], []), ([7, 5, 3, 0, 1, 2, 3, 4, 5, 7], [5, 7]), ([6, 8, 0, 1, 2, 3, 4, 5, 6, 7, 8], [6])])
def congoulaw04_CurvesTurns.B12 : List Nat := [0, 1, 0, 7, 15, 31, 31, 0, 191, 511]
theorem congoulaw04_CurvesTurns.tab12 : rtab .any (opsOf Try.f10 12) = congoulaw04_CurvesTurns.T12 := by kernel_rfl
theorem congoulaw04_CurvesTurns.bits12 : waitsOk congoulaw04_CurvesTurns.T12.2 congoulaw04_CurvesTurns.B12 = true := by kernel_rfl
set_option maxHeartbeats 8000000 in
set_option maxRecDepth 100000 in
theorem congoulaw04_CurvesTurns.calls (k : Nat) (a0_0 : Int) (A0_1 : Option Addr) (c0_1 : Nat) (l0_1 : List Int) (A0_2 : Option Addr) (c0_2 : Nat) (l0_2 : List Int) (A1 : Option Addr) (c1 : Nat) (l1 : List (S26)) (r : Bool) (w : World) (hr0_1 : Kd.C (Kd.int .i64) w A0_1 l0_1.length l0_1) (hc0_1 : l0_1.length ≤ c0_1) (hr0_2 : Kd.C (Kd.int .i64) w A0_2 l0_2.length l0_2) (hc0_2 : l0_2.length ≤ c0_2) (hr1 : Kd.C k26 w A1 l1.length l1) (hc1 : l1.length ≤ c1) (hrt : r = true) (h : congoulaw04_CurvesTurns.f k a0_0 l0_1 l0_2 l1 = some r) :
  Calls Try.prog 10 #[.agg #[.int .i64 a0_0, .slice A0_1 l0_1.length c0_1, .slice A0_2 l0_2.length c0_2], .slice A1 l1.length c1] w fun e w' => e = .returned (.bool r) ∧ Below w.heap.size w w' := by
 have hu24 := Try.underlying24
 have hu26 := Try.underlying26
 have HR0_1 := Aside0.mk hr0_1
 have HC0_1 := Aside0.mk hc0_1
 clear hr0_1 hc0_1
 have HR0_2 := Aside0.mk hr0_2
 have HC0_2 := Aside0.mk hc0_2
 clear hr0_2 hc0_2
 have HR1 := Aside0.mk hr1
 have HC1 := Aside0.mk hc1
 clear hr1 hc1
 have HB := ak (Below.refl w.heap.size w)
 have H : ((congoulaw04_list.f l0_2).bind fun t825 => ((curves_Changes.f k t825).bind fun bt828 => ((congouref04_Valid.f k a0_0 l0_1 l0_2).bind fun t830 => (if t830 = true then (if bt828.2 = 0 then (if 0 ≤ (mn (l1.length : Int) 20) then (if (mn (l1.length : Int) 20) ≤ (l1.length : Int) then ((some (l1.take ((mn (l1.length : Int) 20) : Int).toNat : List (S26))).bind fun y844 => (congoulaw04_CurvesTurns.l0 k bt828.1 ([] : List Int) y844 (y844.length : Int) 0 a0_0 l0_1 l0_2 (-1) 1)) else (none)) else (none)) else (some false)) else ((congoulaw04_Of.f a0_0 l0_1 l0_2).bind fun bt831 => ((curves_Means.f k bt831.1 bt831.2.1 bt831.2.2).bind fun bt838 => (if bt838.2 = 2 then ((congoulaw04_awake.f k).bind fun t842 => (some t842)) else (some false)))))))) = some r := h
 clear h
 have HRT := Aside0.mk hrt
 clear hrt
 replace H := Option.bind_eq_some_iff.mp H
 obtain ⟨t825, A30, H⟩ := H
 replace H : ((curves_Changes.f k t825).bind fun bt828 => ((congouref04_Valid.f k a0_0 l0_1 l0_2).bind fun t830 => (if t830 = true then (if bt828.2 = 0 then (if 0 ≤ (mn (l1.length : Int) 20) then (if (mn (l1.length : Int) 20) ≤ (l1.length : Int) then ((some (l1.take ((mn (l1.length : Int) 20) : Int).toNat : List (S26))).bind fun y844 => (congoulaw04_CurvesTurns.l0 k bt828.1 ([] : List Int) y844 (y844.length : Int) 0 a0_0 l0_1 l0_2 (-1) 1)) else (none)) else (none)) else (some false)) else ((congoulaw04_Of.f a0_0 l0_1 l0_2).bind fun bt831 => ((curves_Means.f k bt831.1 bt831.2.1 bt831.2.2).bind fun bt838 => (if bt838.2 = 2 then ((congoulaw04_awake.f k).bind fun t842 => (some t842)) else (some false))))))) = some r := H
 have A3 := Aside0.mk A30
 clear A30
 replace H := Option.bind_eq_some_iff.mp H
 obtain ⟨⟨t828, t829⟩, A40, H⟩ := H
 replace H : ((congouref04_Valid.f k a0_0 l0_1 l0_2).bind fun t830 => (if t830 = true then (if t829 = 0 then (if 0 ≤ (mn (l1.length : Int) 20) then (if (mn (l1.length : Int) 20) ≤ (l1.length : Int) then ((some (l1.take ((mn (l1.length : Int) 20) : Int).toNat : List (S26))).bind fun y844 => (congoulaw04_CurvesTurns.l0 k t828 ([] : List Int) y844 (y844.length : Int) 0 a0_0 l0_1 l0_2 (-1) 1)) else (none)) else (none)) else (some false)) else ((congoulaw04_Of.f a0_0 l0_1 l0_2).bind fun bt831 => ((curves_Means.f k bt831.1 bt831.2.1 bt831.2.2).bind fun bt838 => (if bt838.2 = 2 then ((congoulaw04_awake.f k).bind fun t842 => (some t842)) else (some false)))))) = some r := H
 have A4 := Aside0.mk A40
 clear A40
 replace H := Option.bind_eq_some_iff.mp H
 obtain ⟨t830, A50, H⟩ := H
 replace H : (if t830 = true then (if t829 = 0 then (if 0 ≤ (mn (l1.length : Int) 20) then (if (mn (l1.length : Int) 20) ≤ (l1.length : Int) then ((some (l1.take ((mn (l1.length : Int) 20) : Int).toNat : List (S26))).bind fun y844 => (congoulaw04_CurvesTurns.l0 k t828 ([] : List Int) y844 (y844.length : Int) 0 a0_0 l0_1 l0_2 (-1) 1)) else (none)) else (none)) else (some false)) else ((congoulaw04_Of.f a0_0 l0_1 l0_2).bind fun bt831 => ((curves_Means.f k bt831.1 bt831.2.1 bt831.2.2).bind fun bt838 => (if bt838.2 = 2 then ((congoulaw04_awake.f k).bind fun t842 => (some t842)) else (some false))))) = some r := H
 have A5 := Aside0.mk A50
 clear A50
 by_cases c6 : t830 = true
 rotate_left
 ·replace c6 := Bool.eq_false_iff.mpr c6
  subst c6
  have H1 : ((congoulaw04_Of.f a0_0 l0_1 l0_2).bind fun bt831 => ((curves_Means.f k bt831.1 bt831.2.1 bt831.2.2).bind fun bt838 => (if bt838.2 = 2 then ((congoulaw04_awake.f k).bind fun t842 => (some t842)) else (some false)))) = some r := by rw [if_neg (show ¬ (false = true) by decide)] at H; exact H
  clear H
  have H := H1
  clear H1
  replace H := Option.bind_eq_some_iff.mp H
  obtain ⟨⟨t831, t832, t835⟩, A970, H⟩ := H
  replace H : ((curves_Means.f k t831 t832 t835).bind fun bt838 => (if bt838.2 = 2 then ((congoulaw04_awake.f k).bind fun t842 => (some t842)) else (some false))) = some r := H
  have A97 := Aside0.mk A970
  clear A970
  replace H := Option.bind_eq_some_iff.mp H
  obtain ⟨⟨t838, t841⟩, A980, H⟩ := H
  replace H : (if t841 = 2 then ((congoulaw04_awake.f k).bind fun t842 => (some t842)) else (some false)) = some r := H
  have A98 := Aside0.mk A980
  clear A980
  by_cases c99 : t841 = 2
  rotate_left
  ·rw [if_neg c99] at H
   have c99b0 : (t841 == 2) = false := beq_eq_false_iff_ne.mpr c99
   have c99b1 : (t841 != 2) = true := bne_iff_ne.mpr c99
   exact absurd (H.trans (congrArg some HRT.out)) (by simp)
  rw [if_pos c99] at H
  have c99b0 : (t841 == 2) = true := beq_iff_eq.mpr c99
  have c99b1 : (t841 != 2) = false := bne_eq_false_iff_eq.mpr c99
  clear c99
  replace H := Option.bind_eq_some_iff.mp H
  obtain ⟨t842, A1000, H⟩ := H
  replace H : (some t842) = some r := H
  have A100 := Aside0.mk A1000
  clear A1000
  obtain rfl := Option.some.inj H
  go_enter Try.func10, Try.ntmps10
  go_wp2_with (first | ((with_reducible refine gate_dst (N := 2) rfl ?_); refine bE 2 #[.int .i64 a0_0, .slice A0_1 l0_1.length c0_1, .slice A0_2 l0_2.length c0_2] 24 ?_; intro gb824 hg w101 hbox hb; have BK824 := ak (hbox); have GW824 := kG w hg; have GE824 := kG w hg; replace HB := kH _ hb; clear hb hbox hg; have hcz102_0 : w101.cell? ⟨gb824, 0, none⟩ = some (.int .i64 a0_0) := bc BK824 0; have hcz102_1 : w101.cell? ⟨gb824, 1, none⟩ = some (.slice A0_1 l0_1.length c0_1) := bc BK824 1; have hcz102_2 : w101.cell? ⟨gb824, 2, none⟩ = some (.slice A0_2 l0_2.length c0_2) := bc BK824 2; have hfz102_0 := fz BK824 0; have hfz102_1 := fz BK824 1; have hfz102_2 := fz BK824 2) | ((with_reducible refine gate_callee (f := 21) rfl ?_); refine gL 19 Try.func21 #[.slice A0_2 l0_2.length c0_2] ?_; (with_reducible refine (congoulaw04_list.calls _ _ l0_2 t825 _ ?side1 ?side2 A3.out).mono ?_); (case side1 => exact kC HR0_2); (case side2 => exact HC0_2.out); rintro e w103 ⟨v826, rfl, ho0, hb⟩; refine ⟨_, rfl, ?_⟩; have HO827 := ak (Kd.R_lower ho0 (below_size (hbC _))); replace BK824 := kB BK824 hb; replace HB := kH _ hb; (try clear hb); (try clear hb2); (try clear hk); (try clear hi); (try clear ho0); obtain ⟨Ao104, co104, eo104⟩ := Kd.R_slice HO827.out; subst eo104) | ((with_reducible refine gate_callee (f := 26) rfl ?_); refine gL 20 Try.func26 #[.slice Ao104 t825.length co104] ?_; (with_reducible refine (curves_Changes.calls k _ _ t825 t828 t829 _ ?side1 ?side2 A4.out).mono ?_); (case side1 => exact kD (Kd.R_reads' HO827.out).2.2); (case side2 => exact (Kd.R_reads' HO827.out).2.1); rintro e w' ⟨rfl, ⟨nd, rfl⟩⟩; refine ⟨_, rfl, ?_⟩; have hcz105_0 : w103.cell? ⟨gb824, 0, none⟩ = some (.int .i64 a0_0) := bc BK824 0; have hcz105_1 : w103.cell? ⟨gb824, 1, none⟩ = some (.slice A0_1 l0_1.length c0_1) := bc BK824 1; have hcz105_2 : w103.cell? ⟨gb824, 2, none⟩ = some (.slice A0_2 l0_2.length c0_2) := bc BK824 2; have hfz105_0 := fz BK824 0; have hfz105_1 := fz BK824 1; have hfz105_2 := fz BK824 2) | ((with_reducible refine gate_callee (f := 29) rfl ?_); refine gL 24 Try.func29 #[.agg #[.int .i64 a0_0, .slice A0_1 l0_1.length c0_1, .slice A0_2 l0_2.length c0_2]] ?_; (with_reducible refine (congouref04_Valid.calls k a0_0 _ _ l0_1 _ _ l0_2 false _ ?side1 ?side2 ?side3 ?side4 A5.out).mono ?_); (case side1 => repeat (first | exact (Kd.C_below HR0_1.out (hbC _)) | (with_reducible refine Kd.C_alloc ?_ _) | (with_reducible refine Kd.C_drewN ?_ _) | (with_reducible refine Kd.C_drew ?_))); (case side2 => exact HC0_1.out); (case side3 => repeat (first | exact (Kd.C_below HR0_2.out (hbC _)) | (with_reducible refine Kd.C_alloc ?_ _) | (with_reducible refine Kd.C_drewN ?_ _) | (with_reducible refine Kd.C_drew ?_))); (case side4 => exact HC0_2.out); rintro e w106 ⟨rfl, hb⟩; refine ⟨_, rfl, ?_⟩; replace HO827 := kO HO827 hb; replace BK824 := kB BK824 hb; replace HB := kH _ hb; (try clear hb); (try clear hb2); (try clear hk); (try clear hi); have hcz107_0 : w106.cell? ⟨gb824, 0, none⟩ = some (.int .i64 a0_0) := bc BK824 0; have hcz107_1 : w106.cell? ⟨gb824, 1, none⟩ = some (.slice A0_1 l0_1.length c0_1) := bc BK824 1; have hcz107_2 : w106.cell? ⟨gb824, 2, none⟩ = some (.slice A0_2 l0_2.length c0_2) := bc BK824 2; have hfz107_0 := fz BK824 0; have hfz107_1 := fz BK824 1; have hfz107_2 := fz BK824 2) | ((with_reducible refine gate_callee (f := 15) rfl ?_); refine gL 28 Try.func15 #[.agg #[.int .i64 a0_0, .slice A0_1 l0_1.length c0_1, .slice A0_2 l0_2.length c0_2]] ?_; (with_reducible refine (congoulaw04_Of.calls a0_0 _ _ l0_1 _ _ l0_2 t831 t832 t835 _ ?side1 ?side2 ?side3 ?side4 A97.out).mono ?_); (case side1 => exact kC HR0_1); (case side2 => exact HC0_1.out); (case side3 => exact kC HR0_2); (case side4 => exact HC0_2.out); rintro e w108 ⟨v833, v836, rfl, ho0, ho1, hb⟩; refine ⟨_, rfl, ?_⟩; have HO834 := ak (Kd.R_lower (Kd.R_new' ho0 (Kd.R_lt (rC HO827))) (below_size (hbC _))); have HO837 := ak (Kd.R_lower (Kd.R_new' ho1 (Kd.R_lt (rC HO827))) (below_size (hbC _))); replace HO827 := kT HO827 hb ho0 ho1; replace BK824 := kB BK824 hb; replace HB := kH _ hb; (try clear hb); (try clear hb2); (try clear hk); (try clear hi); (try clear ho0); (try clear ho1); obtain ⟨Ao109, co109, eo109⟩ := Kd.R_slice HO834.out; subst eo109; obtain ⟨Ao110, co110, eo110⟩ := Kd.R_slice HO837.out; subst eo110) | ((with_reducible refine gate_callee (f := 34) rfl ?_); refine gL 29 Try.func34 #[.agg #[.int .i64 t831, .slice Ao109 t832.length co109, .slice Ao110 t835.length co110]] ?_; (with_reducible refine (curves_Means.calls k t831 _ _ t832 _ _ t835 t838 t841 _ ?side1 ?side2 ?side3 ?side4 A98.out).mono ?_); (case side1 => exact kD (Kd.R_reads' HO834.out).2.2); (case side2 => exact (Kd.R_reads' HO834.out).2.1); (case side3 => exact kD (Kd.R_reads' HO837.out).2.2); (case side4 => exact (Kd.R_reads' HO837.out).2.1); rintro e w111 ⟨v839, rfl, ho0, hb⟩; refine ⟨_, rfl, ?_⟩; replace HO827 := kO HO827 hb; replace HO834 := kO HO834 hb; replace HO837 := kO HO837 hb; have HO840 := ak (Kd.R_lower ho0 (below_size (hbC _))); replace BK824 := kB BK824 hb; replace HB := kH _ hb; (try clear hb); (try clear hb2); (try clear hk); (try clear hi); (try clear ho0)) | (go_at_call 17; (with_reducible refine (congoulaw04_awake.calls k  t842 _ A100.out).mono ?_); rintro e w112 ⟨rfl, hb⟩; replace HO827 := kO HO827 hb; replace HO834 := kO HO834 hb; replace HO837 := kO HO837 hb; replace HO840 := kO HO840 hb; replace BK824 := kB BK824 hb; replace HB := kH _ hb; (try clear hb); (try clear hb2); (try clear hk); (try clear hi)))
  go_ret
  exact ⟨by first | rfl | (simp [errW_none, errW_some] <;> rfl) | (simp [*, errW_none, errW_some] <;> rfl), hbC _⟩
 subst c6
 have H1 : (if t829 = 0 then (if 0 ≤ (mn (l1.length : Int) 20) then (if (mn (l1.length : Int) 20) ≤ (l1.length : Int) then ((some (l1.take ((mn (l1.length : Int) 20) : Int).toNat : List (S26))).bind fun y844 => (congoulaw04_CurvesTurns.l0 k t828 ([] : List Int) y844 (y844.length : Int) 0 a0_0 l0_1 l0_2 (-1) 1)) else (none)) else (none)) else (some false)) = some r := by rw [if_pos rfl] at H; exact H
 clear H
 have H := H1
 clear H1
 by_cases c7 : t829 = 0
 rotate_left
 ·rw [if_neg c7] at H
  have c7b0 : (t829 == 0) = false := beq_eq_false_iff_ne.mpr c7
  have c7b1 : (t829 != 0) = true := bne_iff_ne.mpr c7
  exact absurd (H.trans (congrArg some HRT.out)) (by simp)
 rw [if_pos c7] at H
 have c7b0 : (t829 == 0) = true := beq_iff_eq.mpr c7
 have c7b1 : (t829 != 0) = false := bne_eq_false_iff_eq.mpr c7
 clear c7
 obtain ⟨ji8, hji8⟩ : ∃ j_ : Int, (mn (l1.length : Int) 20) = j_ := ⟨_, rfl⟩
 replace H : (if 0 ≤ (ji8) then (if (ji8) ≤ (l1.length : Int) then ((some (l1.take ((ji8) : Int).toNat : List (S26))).bind fun y844 => (congoulaw04_CurvesTurns.l0 k t828 ([] : List Int) y844 (y844.length : Int) 0 a0_0 l0_1 l0_2 (-1) 1)) else (none)) else (none)) = some r := by first | (rw [hji8] at H; exact H) | (simp only [hji8] at H ⊢; exact H)
 (try rw [hji8] at A3)
 (try rw [hji8] at A4)
 (try rw [hji8] at A5)
 (try (have hji8h : ji8 ≤ 20 := by (rw [← hji8]; unfold mn; (repeat' split) <;> omega)))
 (try (have hji8g : ji8 ≤ 64 := by omega))
 (try (have hji8l : 0 ≤ ji8 := by (rw [← hji8]; unfold mn; (repeat' split) <;> omega)))
 (try (have hji8m : 0 ≤ ji8 := by omega))
 have hji8_ : (if 20 < (l1.length : Int) then 20 else (l1.length : Int)) = ji8 := hji8
 by_cases c9 : 0 ≤ (ji8)
 rotate_left
 ·rw [if_neg c9] at H
  exact absurd H (by simp)
 rw [if_pos c9] at H
 have c9b0 := eq_true c9
 have c9b1 : decide (0 ≤ (ji8)) = true := decide_eq_true c9
 clear c9
 by_cases c10 : (ji8) ≤ (l1.length : Int)
 rotate_left
 ·rw [if_neg c10] at H
  exact absurd H (by simp)
 rw [if_pos c10] at H
 have c10b0 := eq_true c10
 have c10b1 : decide ((ji8) ≤ (l1.length : Int)) = true := decide_eq_true c10
 clear c10
 obtain ⟨y844, hy844⟩ : ∃ y_ : List (S26), y_ = (l1.take ((ji8) : Int).toNat) := ⟨_, rfl⟩
 replace H : (congoulaw04_CurvesTurns.l0 k t828 ([] : List Int) y844 (y844.length : Int) 0 a0_0 l0_1 l0_2 (-1) 1) = some r := by first | (rw [hy844]; with_reducible exact H) | (have H2_ := (Option.bind_some _ _).symm.trans H; rw [hy844]; with_reducible exact H2_) | (have H2_ := (Option.bind_some _ _).symm.trans H; with_reducible exact H2_) | with_reducible exact H | (rw [hy844]; exact H) | exact H
 have Ny844 := Aside0.mk hy844
 clear hy844
 have H' := Aside0.mk H
 clear H
 go_enter Try.func10, Try.ntmps10
 go_wp2_with (first | ((with_reducible refine gate_dst (N := 2) rfl ?_); refine bE 2 #[.int .i64 a0_0, .slice A0_1 l0_1.length c0_1, .slice A0_2 l0_2.length c0_2] 24 ?_; intro gb824 hg w11 hbox hb; have BK824 := ak (hbox); have GW824 := kG w hg; have GE824 := kG w hg; replace HB := kH _ hb; clear hb hbox hg; have hcz12_0 : w11.cell? ⟨gb824, 0, none⟩ = some (.int .i64 a0_0) := bc BK824 0; have hcz12_1 : w11.cell? ⟨gb824, 1, none⟩ = some (.slice A0_1 l0_1.length c0_1) := bc BK824 1; have hcz12_2 : w11.cell? ⟨gb824, 2, none⟩ = some (.slice A0_2 l0_2.length c0_2) := bc BK824 2; have hfz12_0 := fz BK824 0; have hfz12_1 := fz BK824 1; have hfz12_2 := fz BK824 2) | ((with_reducible refine gate_callee (f := 21) rfl ?_); refine gL 19 Try.func21 #[.slice A0_2 l0_2.length c0_2] ?_; (with_reducible refine (congoulaw04_list.calls _ _ l0_2 t825 _ ?side1 ?side2 A3.out).mono ?_); (case side1 => exact kC HR0_2); (case side2 => exact HC0_2.out); rintro e w13 ⟨v826, rfl, ho0, hb⟩; refine ⟨_, rfl, ?_⟩; have HO827 := ak (Kd.R_lower ho0 (below_size (hbC _))); replace BK824 := kB BK824 hb; replace HB := kH _ hb; (try clear hb); (try clear hb2); (try clear hk); (try clear hi); (try clear ho0); obtain ⟨Ao14, co14, eo14⟩ := Kd.R_slice HO827.out; subst eo14) | ((with_reducible refine gate_callee (f := 26) rfl ?_); refine gL 20 Try.func26 #[.slice Ao14 t825.length co14] ?_; (with_reducible refine (curves_Changes.calls k _ _ t825 t828 t829 _ ?side1 ?side2 A4.out).mono ?_); (case side1 => exact kD (Kd.R_reads' HO827.out).2.2); (case side2 => exact (Kd.R_reads' HO827.out).2.1); rintro e w' ⟨rfl, ⟨nd, rfl⟩⟩; refine ⟨_, rfl, ?_⟩; (try (rw [drewN_self w13]; generalize hq_ : World.drewN w13 _ = w13; have n0_ : Aside0 (Kd.R (Kd.int .i64) 3 w13 w.heap.size (fun _ => True) (.slice Ao14 t825.length co14) t825) := ⟨by rw [← hq_]; exact (rC HO827)⟩; have n1_ : Aside0 (w13.heap[gb824]? = some (.cells #[.int .i64 a0_0, .slice A0_1 l0_1.length c0_1, .slice A0_2 l0_2.length c0_2] 24 (0, 0))) := ⟨by rw [← hq_]; exact (bkC BK824)⟩; have n2_ : Aside0 (Below w.heap.size w w13) := ⟨by rw [← hq_]; exact (hbC _)⟩; clear HO827 BK824 HB hq_; have HO827 := n0_; have BK824 := n1_; have HB := n2_; clear n0_ n1_ n2_)); have hcz15_0 : w13.cell? ⟨gb824, 0, none⟩ = some (.int .i64 a0_0) := bc BK824 0; have hcz15_1 : w13.cell? ⟨gb824, 1, none⟩ = some (.slice A0_1 l0_1.length c0_1) := bc BK824 1; have hcz15_2 : w13.cell? ⟨gb824, 2, none⟩ = some (.slice A0_2 l0_2.length c0_2) := bc BK824 2; have hfz15_0 := fz BK824 0; have hfz15_1 := fz BK824 1; have hfz15_2 := fz BK824 2) | ((with_reducible refine gate_callee (f := 29) rfl ?_); refine gL 24 Try.func29 #[.agg #[.int .i64 a0_0, .slice A0_1 l0_1.length c0_1, .slice A0_2 l0_2.length c0_2]] ?_; (with_reducible refine (congouref04_Valid.calls k a0_0 _ _ l0_1 _ _ l0_2 true _ ?side1 ?side2 ?side3 ?side4 A5.out).mono ?_); (case side1 => exact kC HR0_1); (case side2 => exact HC0_1.out); (case side3 => exact kC HR0_2); (case side4 => exact HC0_2.out); rintro e w16 ⟨rfl, hb⟩; refine ⟨_, rfl, ?_⟩; replace HO827 := kO HO827 hb; replace BK824 := kB BK824 hb; replace HB := kH _ hb; (try clear hb); (try clear hb2); (try clear hk); (try clear hi)) | ((with_reducible refine gate_dst (N := 10) rfl ?_); refine bE 10 #[.int .i64 0, .int .i64 0] 26 ?_; intro gb843 hg w17 hbox hb; replace HO827 := kO HO827 hb; have BK843 := ak (hbox); have GW843 := kG w hg; have GE843 := kG w hg; replace HB := kH _ hb; have NB824_843 := kL BK824 hg; have NB843_824 := kR BK824 hg; replace BK824 := kB BK824 hb; clear hb hbox hg; have hnb18 := NB843_824.out; have hnc18 := NB824_843.out; have hcz19_0 : w17.cell? ⟨gb843, 0, none⟩ = some (.int .i64 0) := bc BK843 0; have hcz19_1 : w17.cell? ⟨gb843, 1, none⟩ = some (.int .i64 0) := bc BK843 1; have hfz19_0 := fz BK843 0; have hfz19_1 := fz BK843 1) | ((with_reducible refine gate_store (t := 26) (p := 10) rfl ?_); refine store_event (t := 26) (p := 10) (v := ?vo_w20) (w1 := ((w17.setCell ⟨gb843, 0, none⟩ (.int .i64 (-1))).setCell ⟨gb843, 1, none⟩ (.int .i64 1))) ?hg ?ho ?hn ?hr ?_; (case ho => rfl); (case hg => rfl); (case hn => rfl); (case hr => first | (go_simp; done) | (go_simp; rfl)); intro w20 hw; have n0_ : Aside0 (Kd.R (Kd.int .i64) 3 w20 w.heap.size (fun _ => True) (.slice Ao14 t825.length co14) t825) := ⟨(by rw [hw]; exact (rD (Kd.R_mono (Kd.R_far (p := ⟨gb843, 1, none⟩) (Kd.R_far (p := ⟨gb843, 0, none⟩) (Kd.R_types HO827.out BK843.out (by decide)) (fun _ hk => hk.2) (.int .i64 (-1))) (fun _ hk => hk.2) (.int .i64 1)) (fun _ hk => trivial))))⟩; have n1_ : Aside0 (w20.heap[gb824]? = some (.cells #[.int .i64 a0_0, .slice A0_1 l0_1.length c0_1, .slice A0_2 l0_2.length c0_2] 24 (0, 0))) := ⟨(by rw [hw]; exact (bF BK824))⟩; have n2_ : Aside0 (w20.heap[gb843]? = some (.cells #[.int .i64 (-1), .int .i64 1] 26 (0, 0))) := ⟨(by rw [hw]; exact (by (with_reducible repeat (first | refine blk_drewN ?_ _ | refine blk_drew ?_ | refine blk_alloc ?_ _)); refine blk_put (cs := #[.int .i64 (-1), .int .i64 0]) ?_ 1 _ rfl; (with_reducible repeat (first | refine blk_drewN ?_ _ | refine blk_drew ?_ | refine blk_alloc ?_ _)); refine blk_put (cs := #[.int .i64 0, .int .i64 0]) ?_ 0 _ rfl; (with_reducible repeat (first | refine blk_drewN ?_ _ | refine blk_drew ?_ | refine blk_alloc ?_ _)); exact BK843.out))⟩; have n3_ : Aside0 (Below w.heap.size w w20) := ⟨(by rw [hw]; exact (hbC _))⟩; clear hw; clear HO827; clear BK824; clear BK843; clear HB; have HO827 := n0_; have BK824 := n1_; have BK843 := n2_; have HB := n3_; clear n0_ n1_ n2_ n3_; have q21 : ((ji8) : Int) ≤ ((l1.length : Int) : Int) := dA; obtain ⟨i021, hi021, _, hsz21, _⟩ := info_parts info26; have hroom21 : l1.length ≤ c1 := HC1.out; have hC21 : Kd.C k26 _ A1 l1.length l1 := HR1.out; have hcut21 := cut_to (P := Try.prog) 34 26 .i64 Try.underlying34 hi021 A1 l1.length c1 (ji8) (dA) q21 hroom21; have hr21 := Kd.C_take (m := ((ji8) : Int).toNat) hC21 (by omega); have hy21 : y844.length = ((ji8) : Int).toNat := (by rw [Ny844.out, List.length_take]; omega); rw [← Ny844.out] at hr21; rw [← hy21] at hcut21; have HR847 := Aside0.mk hr21; have HC847 := ak (show y844.length ≤ c1 from by omega); clear hr21 hC21 hroom21 hi021 hsz21; have KY21 := Aside0.mk hy21; clear hy21; replace q21 := eq_true q21))
 go_loopg [9, 46] k (fun kq v9 v46 w' => ∃ (x9_1 : List Int) (x46_1 : Int) (x844000_1 : Int) (x844001_1 : Int), v46 = .int .i64 x46_1 ∧ Aside0 (congoulaw04_CurvesTurns.l0 kq t828 x9_1 y844 (y844.length : Int) x46_1 a0_0 l0_1 l0_2 x844000_1 x844001_1 = some r) ∧ Aside0 (kq ≤ k) ∧ Aside0 (Kd.R (Kd.int .i64) 3 w' w.heap.size (fun _ => True) v9 x9_1) ∧ Aside0 (w'.heap[gb824]? = some (.cells #[.int .i64 a0_0, (.slice A0_1 l0_1.length c0_1), (.slice A0_2 l0_2.length c0_2)] 24 (0, 0))) ∧ Aside0 (w'.heap[gb843]? = some (.cells #[.int .i64 x844000_1, .int .i64 x844001_1] 26 (0, 0))) ∧ Aside0 (Below w.heap.size w w'))
 case atStart => exact ⟨(([] : List Int)), (0), ((-1)), (1), (by first | rfl | (simp; done) | (simp [*]; done)), H', ⟨Nat.le_refl _⟩, ⟨by first | exact Kd.R_nil _ _ _ _ _ | exact Kd.N_nil _ _ _ _ _ | exact Kd.V_nil _ _ _ _ _ | exact Kd.Q_nil _ _ _ _ _ | exact Kd.S_nil _ _ _ _ _⟩, ⟨bkC BK824⟩, ⟨bkC BK843⟩, ⟨hbC _⟩⟩
 case round =>
  clear H'
  try clear c1
  try clear c2
  try clear p2
  try clear q2
  try clear c6
  try clear c7
  try clear c7b0
  try clear c7b1
  try clear c9
  try clear c9b0
  try clear c9b1
  try clear c10
  try clear c10b0
  try clear c10b1
  try clear c18
  try clear c21
  try clear q21
  try clear hcz12_0
  try clear hcz12_1
  try clear hcz12_2
  try clear hcz15_0
  try clear hcz15_1
  try clear hcz15_2
  try clear hcz19_0
  try clear hcz19_1
  try clear hfz12_0
  try clear hfz12_1
  try clear hfz12_2
  try clear hfz15_0
  try clear hfz15_1
  try clear hfz15_2
  try clear hfz19_0
  try clear hfz19_1
  try clear q21
  obtain ⟨x9_1, x46_1, x844000_1, x844001_1, rfl, HA, HK1, HO_9, BK824, BK843, HB⟩ := hrel
  cases gk with
  | zero => exact absurd HA.out (by simp [congoulaw04_CurvesTurns.l0])
  | succ k1 =>
   have H := HA.out
   clear HA
   simp only [congoulaw04_CurvesTurns.l0] at H
   by_cases c22 : x46_1 < (y844.length : Int)
   rotate_left
   ·rw [if_neg c22] at H
    have c22b0 : decide (x46_1 < (y844.length : Int)) = false := decide_eq_false c22
    clear c22
    replace H := Option.bind_eq_some_iff.mp H
    obtain ⟨⟨t848, t849⟩, A910, H⟩ := H
    replace H : (if t849 = 0 then (if t848 ≤ t828 then ((congoulaw04_awake.f k1).bind fun t850 => (some t850)) else (some false)) else (some false)) = some r := H
    have A91 := Aside0.mk A910
    clear A910
    by_cases c92 : t849 = 0
    rotate_left
    ·rw [if_neg c92] at H
     have c92b0 : (t849 == 0) = false := beq_eq_false_iff_ne.mpr c92
     have c92b1 : (t849 != 0) = true := bne_iff_ne.mpr c92
     exact absurd (H.trans (congrArg some HRT.out)) (by simp)
    rw [if_pos c92] at H
    have c92b0 : (t849 == 0) = true := beq_iff_eq.mpr c92
    have c92b1 : (t849 != 0) = false := bne_eq_false_iff_eq.mpr c92
    clear c92
    by_cases c93 : t848 ≤ t828
    rotate_left
    ·rw [if_neg c93] at H
     have c93b0 : decide (t848 ≤ t828) = false := decide_eq_false c93
     clear c93
     exact absurd (H.trans (congrArg some HRT.out)) (by simp)
    rw [if_pos c93] at H
    have c93b0 : decide (t848 ≤ t828) = true := decide_eq_true c93
    clear c93
    replace H := Option.bind_eq_some_iff.mp H
    obtain ⟨t850, A940, H⟩ := H
    replace H : (some t850) = some r := H
    have A94 := Aside0.mk A940
    clear A940
    obtain rfl := Option.some.inj H
    obtain ⟨Ao95, co95, eo95⟩ := Kd.R_slice HO_9.out
    subst eo95
    go_wp2_with (first | ((with_reducible refine gate_callee (f := 26) rfl ?_); refine gL 87 Try.func26 #[.slice Ao95 x9_1.length co95] ?_; (with_reducible refine (curves_Changes.calls k1 _ _ x9_1 t848 t849 _ ?side1 ?side2 A91.out).mono ?_); (case side1 => exact kD (Kd.R_reads' HO_9.out).2.2); (case side2 => exact (Kd.R_reads' HO_9.out).2.1); rintro e w' ⟨rfl, ⟨nd, rfl⟩⟩; refine ⟨_, rfl, ?_⟩) | (go_at_call 17; (with_reducible refine (congoulaw04_awake.calls k1  t850 _ A94.out).mono ?_); rintro e w96 ⟨rfl, hb⟩; replace HO_9 := kO HO_9 hb; replace BK824 := kB BK824 hb; replace BK843 := kB BK843 hb; replace HB := kH _ hb; (try clear hb); (try clear hb2); (try clear hk); (try clear hi)))
    go_ret
    exact ⟨by first | rfl | (simp [errW_none, errW_some] <;> rfl) | (simp only [← hji8]; first | rfl | (simp [errW_none, errW_some] <;> rfl)) | (simp [*, errW_none, errW_some] <;> rfl), hbC _⟩
   rw [if_pos c22] at H
   have c22b0 : decide (x46_1 < (y844.length : Int)) = true := decide_eq_true c22
   clear c22
   by_cases c23 : 0 ≤ x46_1
   rotate_left
   ·rw [if_neg c23] at H
    exact absurd H (by simp)
   rw [if_pos c23] at H
   have c23b0 : decide (0 ≤ x46_1) = true := decide_eq_true c23
   clear c23
   by_cases c24 : x46_1 < (y844.length : Int)
   rotate_left
   ·rw [if_neg c24] at H
    exact absurd H (by simp)
   rw [if_pos c24] at H
   have c24b0 : decide (x46_1 < (y844.length : Int)) = true := decide_eq_true c24
   clear c24
   replace H := Option.bind_eq_some_iff.mp H
   obtain ⟨⟨t853, t854, t857⟩, A250, H⟩ := H
   replace H : ((curves_Value.f k1 t853 t854 t857 ((rd_T26 y844 x46_1).f0) ((rd_T26 y844 x46_1).f1)).bind fun bt860 => (if bt860.2.2 = 0 then ((congouref04_In.f k1 a0_0 l0_1 l0_2 ((rd_T26 y844 x46_1).f0) ((rd_T26 y844 x46_1).f1)).bind fun t864 => (congoulaw04_CurvesTurns.j1 k1 t828 x9_1 bt860.2.2 y844 (y844.length : Int) x46_1 (!t864) a0_0 l0_1 l0_2 x844000_1 x844001_1 ((rd_T26 y844 x46_1).f0) ((rd_T26 y844 x46_1).f1) bt860.1 bt860.2.1)) else (congoulaw04_CurvesTurns.j1 k1 t828 x9_1 bt860.2.2 y844 (y844.length : Int) x46_1 true a0_0 l0_1 l0_2 x844000_1 x844001_1 ((rd_T26 y844 x46_1).f0) ((rd_T26 y844 x46_1).f1) bt860.1 bt860.2.1))) = some r := H
   have A25 := Aside0.mk A250
   clear A250
   replace H := Option.bind_eq_some_iff.mp H
   obtain ⟨⟨t860, t861, t862⟩, A260, H⟩ := H
   replace H : (if t862 = 0 then ((congouref04_In.f k1 a0_0 l0_1 l0_2 ((rd_T26 y844 x46_1).f0) ((rd_T26 y844 x46_1).f1)).bind fun t864 => (congoulaw04_CurvesTurns.j1 k1 t828 x9_1 t862 y844 (y844.length : Int) x46_1 (!t864) a0_0 l0_1 l0_2 x844000_1 x844001_1 ((rd_T26 y844 x46_1).f0) ((rd_T26 y844 x46_1).f1) t860 t861)) else (congoulaw04_CurvesTurns.j1 k1 t828 x9_1 t862 y844 (y844.length : Int) x46_1 true a0_0 l0_1 l0_2 x844000_1 x844001_1 ((rd_T26 y844 x46_1).f0) ((rd_T26 y844 x46_1).f1) t860 t861)) = some r := H
   have A26 := Aside0.mk A260
   clear A260
   have HC27 := Aside0.mk H
   clear H
   have p851 : 0 ≤ (x46_1 : Int) := dA
   have q851 : x46_1 < (y844.length : Int) := dA
   obtain ⟨ad851, e851, hx851_0, hx851_1⟩ := at_T26 HR847.out x46_1 p851 q851
   cases e851
   try replace hx851_0 := (HB.out.cell (World.block_lt_of_cell? w _ hx851_0)).trans hx851_0
   try replace hx851_1 := (HB.out.cell (World.block_lt_of_cell? w _ hx851_1)).trans hx851_1
   replace p851 := eq_true p851
   replace q851 := eq_true q851
   try go_wp2_with (first | ((with_reducible refine gate_dst (N := 12) rfl ?_); refine bE 12 #[.int .i64 0, .int .i64 0] 26 ?_; intro gb852 hg w28 hbox hb; replace HO_9 := kO HO_9 hb; have BK852 := ak (hbox); have GW852 := kG w hg; have GE852 := kG w hg; replace HB := kH _ hb; have NB824_852 := kL BK824 hg; have NB852_824 := kR BK824 hg; replace BK824 := kB BK824 hb; have NB843_852 := kL BK843 hg; have NB852_843 := kR BK843 hg; replace BK843 := kB BK843 hb; clear hb hbox hg; have hnb29 := NB852_824.out; have hnc29 := NB824_852.out; have hnb30 := NB852_843.out; have hnc30 := NB843_852.out; have hcz31_0 : w28.cell? ⟨gb852, 0, none⟩ = some (.int .i64 0) := bc BK852 0; have hcz31_1 : w28.cell? ⟨gb852, 1, none⟩ = some (.int .i64 0) := bc BK852 1; have hfz31_0 := fz BK852 0; have hfz31_1 := fz BK852 1))
   have n0_ : Aside0 (Kd.R (Kd.int .i64) 3 ((w28.setCell ⟨gb852, 0, none⟩ (.int .i64 ((rd_T26 y844 x46_1).f0))).setCell ⟨gb852, 1, none⟩ (.int .i64 ((rd_T26 y844 x46_1).f1))) w.heap.size (fun _ => True) u9 x9_1) := ⟨rD (Kd.R_mono (Kd.R_far (p := ⟨gb852, 1, none⟩) (Kd.R_far (p := ⟨gb852, 0, none⟩) (Kd.R_types HO_9.out BK852.out (by decide)) (fun _ hk => hk.2) (.int .i64 ((rd_T26 y844 x46_1).f0))) (fun _ hk => hk.2) (.int .i64 ((rd_T26 y844 x46_1).f1))) (fun _ hk => trivial))⟩
   have n1_ : Aside0 (((w28.setCell ⟨gb852, 0, none⟩ (.int .i64 ((rd_T26 y844 x46_1).f0))).setCell ⟨gb852, 1, none⟩ (.int .i64 ((rd_T26 y844 x46_1).f1))).heap[gb824]? = some (.cells #[.int .i64 a0_0, .slice A0_1 l0_1.length c0_1, .slice A0_2 l0_2.length c0_2] 24 (0, 0))) := ⟨bF BK824⟩
   have n2_ : Aside0 (((w28.setCell ⟨gb852, 0, none⟩ (.int .i64 ((rd_T26 y844 x46_1).f0))).setCell ⟨gb852, 1, none⟩ (.int .i64 ((rd_T26 y844 x46_1).f1))).heap[gb843]? = some (.cells #[.int .i64 x844000_1, .int .i64 x844001_1] 26 (0, 0))) := ⟨bF BK843⟩
   have n3_ : Aside0 (((w28.setCell ⟨gb852, 0, none⟩ (.int .i64 ((rd_T26 y844 x46_1).f0))).setCell ⟨gb852, 1, none⟩ (.int .i64 ((rd_T26 y844 x46_1).f1))).heap[gb852]? = some (.cells #[.int .i64 ((rd_T26 y844 x46_1).f0), .int .i64 ((rd_T26 y844 x46_1).f1)] 26 (0, 0))) := ⟨by (with_reducible repeat (first | refine blk_drewN ?_ _ | refine blk_drew ?_ | refine blk_alloc ?_ _)); refine blk_put (cs := #[.int .i64 ((rd_T26 y844 x46_1).f0), .int .i64 0]) ?_ 1 _ rfl; (with_reducible repeat (first | refine blk_drewN ?_ _ | refine blk_drew ?_ | refine blk_alloc ?_ _)); refine blk_put (cs := #[.int .i64 0, .int .i64 0]) ?_ 0 _ rfl; (with_reducible repeat (first | refine blk_drewN ?_ _ | refine blk_drew ?_ | refine blk_alloc ?_ _)); exact BK852.out⟩
   have n4_ : Aside0 (Below w.heap.size w ((w28.setCell ⟨gb852, 0, none⟩ (.int .i64 ((rd_T26 y844 x46_1).f0))).setCell ⟨gb852, 1, none⟩ (.int .i64 ((rd_T26 y844 x46_1).f1)))) := ⟨hbC _⟩
   (try clear HO_9)
   (try clear BK824)
   (try clear BK843)
   (try clear BK852)
   (try clear HB)
   generalize ((w28.setCell ⟨gb852, 0, none⟩ (.int .i64 ((rd_T26 y844 x46_1).f0))).setCell ⟨gb852, 1, none⟩ (.int .i64 ((rd_T26 y844 x46_1).f1))) = w32 at n0_ n1_ n2_ n3_ n4_ ⊢
   have HO_9 := n0_
   have BK824 := n1_
   have BK843 := n2_
   have BK852 := n3_
   have HB := n4_
   clear n0_ n1_ n2_ n3_ n4_
   replace HO_9 := ak (Kd.R_drew HO_9.out)
   replace BK824 := kd BK824
   replace BK843 := kd BK843
   replace BK852 := kd BK852
   replace HB := ak (below_drew1 HB.out)
   refine sS (n := 10) (S := fun w' => w'.cell? ⟨gb824, 0, none⟩ = some (.int .i64 a0_0) ∧ w'.cell? ⟨gb824, 1, none⟩ = some (.slice A0_1 l0_1.length c0_1) ∧ w'.cell? ⟨gb824, 2, none⟩ = some (.slice A0_2 l0_2.length c0_2) ∧ w'.cell? ⟨gb852, 0, none⟩ = some (.int .i64 ((rd_T26 y844 x46_1).f0)) ∧ w'.cell? ⟨gb852, 1, none⟩ = some (.int .i64 ((rd_T26 y844 x46_1).f1))) (ds := []) ⟨bc BK824 0, bc BK824 1, bc BK824 2, bc BK852 0, bc BK852 1⟩ (fun hHeld => ?_); refine with_tabW congoulaw04_CurvesTurns.tab12 congoulaw04_CurvesTurns.bits12 (fun HT_ HW_ => ?_)
   generalize w32.drew = w33 at HO_9 BK824 BK843 BK852 HB hHeld ⊢
   refine tS 0 51 10 1 ?_
   refine tS 2 53 10 5 ?_
   refine join_ (σ := Value × Value × Nat) 2 (ba 10 255) (fun s_ => [(52, .agg #[.int .i64 t853, s_.1, s_.2.1]), (54, .tuple #[.agg #[.int .i64 t860, .int .i64 t861], .int .i64 t862]), (13, .pointer (some ⟨s_.2.2, 0, none⟩)), (50, .tuple #[.agg #[.int .i64 t860, .int .i64 t861], .int .i64 t862]), (55, .agg #[.int .i64 t860, .int .i64 t861]), (56, .int .i64 t862)]) (fun s_ w' => (w'.cell? ⟨gb824, 0, none⟩ = some (.int .i64 a0_0) ∧ w'.cell? ⟨gb824, 1, none⟩ = some (.slice A0_1 l0_1.length c0_1) ∧ w'.cell? ⟨gb824, 2, none⟩ = some (.slice A0_2 l0_2.length c0_2) ∧ w'.cell? ⟨gb852, 0, none⟩ = some (.int .i64 ((rd_T26 y844 x46_1).f0)) ∧ w'.cell? ⟨gb852, 1, none⟩ = some (.int .i64 ((rd_T26 y844 x46_1).f1))) ∧ (Kd.R (Kd.int .i64) 3 w' w.heap.size (fun k_ => some k_ ≠ (s_.2.1 : Value).ownBlock ∧ nb k_ u9) s_.1 t854) ∧ (Kd.R (Kd.int .i64) 3 w' w.heap.size (fun k_ => some k_ ≠ (s_.1 : Value).ownBlock ∧ nb k_ u9) s_.2.1 t857) ∧ (Kd.R (Kd.int .i64) 3 w' w.heap.size (fun k_ => some k_ ≠ (s_.1 : Value).ownBlock ∧ some k_ ≠ (s_.2.1 : Value).ownBlock) u9 x9_1) ∧ (w'.heap[gb824]? = some (.cells #[.int .i64 a0_0, .slice A0_1 l0_1.length c0_1, .slice A0_2 l0_2.length c0_2] 24 (0, 0))) ∧ (w'.heap[gb843]? = some (.cells #[.int .i64 x844000_1, .int .i64 x844001_1] 26 (0, 0))) ∧ (w'.heap[gb852]? = some (.cells #[.int .i64 ((rd_T26 y844 x46_1).f0), .int .i64 ((rd_T26 y844 x46_1).f1)] 26 (0, 0))) ∧ (w'.heap[s_.2.2]? = some (.cells #[.int .i64 0, .int .i64 0] 26 (0, 0))) ∧ (w.heap.size ≤ s_.2.2) ∧ (w.heap.size ≤ s_.2.2) ∧ (gb824 ≠ s_.2.2) ∧ (s_.2.2 ≠ gb824) ∧ (gb843 ≠ s_.2.2) ∧ (s_.2.2 ≠ gb843) ∧ (gb852 ≠ s_.2.2) ∧ (s_.2.2 ≠ gb852) ∧ (Below w.heap.size w w')) ?_ ?_
   rotate_left
   ·intro hCont
    refine two_ (i := 1) (j := 7) (Ni := some 52) (Nj := some 13) (ba 10 7) (ba 10 133) rfl rfl rfl rfl (two_of HT_.out (by kernel_rfl)) (by decide) (by decide) (fun K hK => ?_) (fun K hK => ?_)
    ·skip
     refine gC Try.func15 #[.agg #[.int .i64 a0_0, .slice A0_1 l0_1.length c0_1, .slice A0_2 l0_2.length c0_2]] ?_
     with_reducible refine (congoulaw04_Of.calls a0_0 _ _ l0_1 _ _ l0_2 t853 t854 t857 _ ?side1 ?side2 ?side3 ?side4 A25.out).mono ?_
     (case side1 => exact kC HR0_1)
     (case side2 => exact HC0_1.out)
     (case side3 => exact kC HR0_2)
     (case side4 => exact HC0_2.out)
     rintro e w34 ⟨v855, v858, rfl, ho0, ho1, hb⟩
     refine ⟨_, rfl, ?_⟩
     have HO856 := ak (Kd.R_lower (Kd.R_new' ho0 (Kd.R_lt (rC HO_9))) (below_size (hbC _)))
     have HO859 := ak (Kd.R_lower (Kd.R_new' ho1 (Kd.R_lt (rC HO_9))) (below_size (hbC _)))
     replace HO_9 := kT HO_9 hb ho0 ho1
     replace BK824 := kB BK824 hb
     replace BK843 := kB BK843 hb
     replace BK852 := kB BK852 hb
     replace HB := kH _ hb
     (try clear hb)
     (try clear hb2)
     (try clear hk)
     (try clear hi)
     (try clear ho0)
     (try clear ho1)
     obtain ⟨Ao35, co35, eo35⟩ := Kd.R_slice HO856.out
     (first | subst eo35 | (injection eo35 with f1_ f2_ f3_; have f4_ := f1_.symm; have f5_ := f3_.symm; clear f1_ f2_ f3_; subst f4_; subst f5_))
     obtain ⟨Ao36, co36, eo36⟩ := Kd.R_slice HO859.out
     (first | subst eo36 | (injection eo36 with f1_ f2_ f3_; have f4_ := f1_.symm; have f5_ := f3_.symm; clear f1_ f2_ f3_; subst f4_; subst f5_))
     refine hK.out _ _ ⟨bc BK824 0, bc BK824 1, bc BK824 2, bc BK852 0, bc BK852 1⟩ (fun hHeld => ?_)
     clear hK K
     refine norm_ (a' := ?_) ?_ ?_
     rotate_left
     ·show Act.put _ (some 52) _ = _
      simp only [Act.put, List.setIfInBounds_toArray, List.set_cons_zero, List.set_cons_succ, i64_w, i32_w]
      rfl
     refine two_ (i := 3) (j := 7) (Ni := some 54) (Nj := some 13) (ba 10 15) (ba 10 135) rfl rfl rfl rfl (two_of HT_.out (by kernel_rfl)) (by decide) (by decide) (fun K hK => ?_) (fun K hK => ?_)
     ·skip
      refine gC Try.func14 #[.agg #[.int .i64 t853, .slice Ao35 t854.length co35, .slice Ao36 t857.length co36], .agg #[.int .i64 ((rd_T26 y844 x46_1).f0), .int .i64 ((rd_T26 y844 x46_1).f1)]] ?_
      with_reducible refine (curves_Value.calls k1 t853 _ _ t854 _ _ t857 ((rd_T26 y844 x46_1).f0) ((rd_T26 y844 x46_1).f1) t860 t861 t862 _ ?side1 ?side2 ?side3 ?side4 A26.out).mono ?_
      (case side1 => exact kD (Kd.R_reads' HO856.out).2.2)
      (case side2 => exact (Kd.R_reads' HO856.out).2.1)
      (case side3 => exact kD (Kd.R_reads' HO859.out).2.2)
      (case side4 => exact (Kd.R_reads' HO859.out).2.1)
      rintro e w37 ⟨rfl, hb⟩
      refine ⟨_, rfl, ?_⟩
      replace HO_9 := kO HO_9 hb
      replace HO856 := kO HO856 hb
      replace HO859 := kO HO859 hb
      replace BK824 := kB BK824 hb
      replace BK843 := kB BK843 hb
      replace BK852 := kB BK852 hb
      replace HB := kH _ hb
      (try clear hb)
      (try clear hb2)
      (try clear hk)
      (try clear hi)
      refine hK.out _ _ ⟨bc BK824 0, bc BK824 1, bc BK824 2, bc BK852 0, bc BK852 1⟩ (fun hHeld => ?_)
      clear hK K
      refine norm_ (a' := ?_) ?_ ?_
      rotate_left
      ·show Act.put _ (some 54) _ = _
       simp only [Act.put, List.setIfInBounds_toArray, List.set_cons_zero, List.set_cons_succ, i64_w, i32_w]
       rfl
      refine pS 4 50 10 31 ?_
      refine pS 5 55 10 63 ?_
      refine pS 6 56 10 127 ?_
      refine one_ (i := 7) (N := some 13) (ba 10 255) rfl rfl (one_of HT_.out (by kernel_rfl)) (by decide) (fun K hK => ?_)
      refine box_step ?hg (N := 13) ?hd (cs := #[.int .i64 0, .int .i64 0]) (t := 26) ?hr ?_; (case hd => rfl); (case hg => rfl); (case hr => first | (go_simp; done) | (go_simp; rfl))
      intro gb863 hg w38 hbox hb
      replace HO_9 := kO HO_9 hb
      replace HO856 := kO HO856 hb
      replace HO859 := kO HO859 hb
      have BK863 := ak (hbox)
      have GW863 := kG w hg
      have GE863 := kG w hg
      replace HB := kH _ hb
      have NB824_863 := kL BK824 hg
      have NB863_824 := kR BK824 hg
      replace BK824 := kB BK824 hb
      have NB843_863 := kL BK843 hg
      have NB863_843 := kR BK843 hg
      replace BK843 := kB BK843 hb
      have NB852_863 := kL BK852 hg
      have NB863_852 := kR BK852 hg
      replace BK852 := kB BK852 hb
      clear hb hbox hg
      refine hK.out _ _ ⟨bc BK824 0, bc BK824 1, bc BK824 2, bc BK852 0, bc BK852 1⟩ (fun hHeld => ?_)
      clear hK K
      refine norm_ (a' := ?_) ?_ ?_
      rotate_left
      ·show Act.put _ (some 13) _ = _
       simp only [Act.put, List.setIfInBounds_toArray, List.set_cons_zero, List.set_cons_succ, i64_w, i32_w]
       rfl
      exact norm_ (by simp only [putAll, Act.put, List.setIfInBounds_toArray, List.set_cons_zero, List.set_cons_succ]) (hCont (.slice Ao35 t854.length co35, .slice Ao36 t857.length co36, gb863) _ ⟨hHeld, (rC HO856), (rC HO859), (rD (Kd.R_mono HO_9.out (fun _ hk => ⟨hk.1.2, hk.2⟩))), (bkC BK824), (bkC BK843), (bkC BK852), (bkC BK863), GW863.out, GE863.out, NB824_863.out, NB863_824.out, NB843_863.out, NB863_843.out, NB852_863.out, NB863_852.out, (hbC _)⟩)
     ·skip
      refine box_step ?hg (N := 13) ?hd (cs := #[.int .i64 0, .int .i64 0]) (t := 26) ?hr ?_; (case hd => rfl); (case hg => rfl); (case hr => first | (go_simp; done) | (go_simp; rfl))
      intro gb863 hg w35 hbox hb
      replace HO_9 := kO HO_9 hb
      replace HO856 := kO HO856 hb
      replace HO859 := kO HO859 hb
      have BK863 := ak (hbox)
      have GW863 := kG w hg
      have GE863 := kG w hg
      replace HB := kH _ hb
      have NB824_863 := kL BK824 hg
      have NB863_824 := kR BK824 hg
      replace BK824 := kB BK824 hb
      have NB843_863 := kL BK843 hg
      have NB863_843 := kR BK843 hg
      replace BK843 := kB BK843 hb
      have NB852_863 := kL BK852 hg
      have NB863_852 := kR BK852 hg
      replace BK852 := kB BK852 hb
      clear hb hbox hg
      obtain ⟨Ao36, co36, eo36⟩ := Kd.R_slice HO856.out
      (first | subst eo36 | (injection eo36 with f1_ f2_ f3_; have f4_ := f1_.symm; have f5_ := f3_.symm; clear f1_ f2_ f3_; subst f4_; subst f5_))
      obtain ⟨Ao37, co37, eo37⟩ := Kd.R_slice HO859.out
      (first | subst eo37 | (injection eo37 with f1_ f2_ f3_; have f4_ := f1_.symm; have f5_ := f3_.symm; clear f1_ f2_ f3_; subst f4_; subst f5_))
      refine hK.out _ _ ⟨bc BK824 0, bc BK824 1, bc BK824 2, bc BK852 0, bc BK852 1⟩ (fun hHeld => ?_)
      clear hK K
      refine norm_ (a' := ?_) ?_ ?_
      rotate_left
      ·show Act.put _ (some 13) _ = _
       simp only [Act.put, List.setIfInBounds_toArray, List.set_cons_zero, List.set_cons_succ, i64_w, i32_w]
       rfl
      refine one_ (i := 3) (N := some 54) (ba 10 143) rfl rfl (one_of HT_.out (by kernel_rfl)) (by decide) (fun K hK => ?_)
      refine gC Try.func14 #[.agg #[.int .i64 t853, .slice Ao36 t854.length co36, .slice Ao37 t857.length co37], .agg #[.int .i64 ((rd_T26 y844 x46_1).f0), .int .i64 ((rd_T26 y844 x46_1).f1)]] ?_
      with_reducible refine (curves_Value.calls k1 t853 _ _ t854 _ _ t857 ((rd_T26 y844 x46_1).f0) ((rd_T26 y844 x46_1).f1) t860 t861 t862 _ ?side1 ?side2 ?side3 ?side4 A26.out).mono ?_
      (case side1 => exact kD (Kd.R_reads' HO856.out).2.2)
      (case side2 => exact (Kd.R_reads' HO856.out).2.1)
      (case side3 => exact kD (Kd.R_reads' HO859.out).2.2)
      (case side4 => exact (Kd.R_reads' HO859.out).2.1)
      rintro e w38 ⟨rfl, hb⟩
      refine ⟨_, rfl, ?_⟩
      replace HO_9 := kO HO_9 hb
      replace HO856 := kO HO856 hb
      replace HO859 := kO HO859 hb
      replace BK824 := kB BK824 hb
      replace BK843 := kB BK843 hb
      replace BK852 := kB BK852 hb
      replace BK863 := kB BK863 hb
      replace HB := kH _ hb
      (try clear hb)
      (try clear hb2)
      (try clear hk)
      (try clear hi)
      refine hK.out _ _ ⟨bc BK824 0, bc BK824 1, bc BK824 2, bc BK852 0, bc BK852 1⟩ (fun hHeld => ?_)
      clear hK K
      refine norm_ (a' := ?_) ?_ ?_
      rotate_left
      ·show Act.put _ (some 54) _ = _
       simp only [Act.put, List.setIfInBounds_toArray, List.set_cons_zero, List.set_cons_succ, i64_w, i32_w]
       rfl
      refine pS 4 50 10 159 ?_
      refine pS 5 55 10 191 ?_
      refine pS 6 56 10 255 ?_
      exact norm_ (by simp only [putAll, Act.put, List.setIfInBounds_toArray, List.set_cons_zero, List.set_cons_succ]) (hCont (.slice Ao36 t854.length co36, .slice Ao37 t857.length co37, gb863) _ ⟨hHeld, (rC HO856), (rC HO859), (rD (Kd.R_mono HO_9.out (fun _ hk => ⟨hk.1.2, hk.2⟩))), (bkC BK824), (bkC BK843), (bkC BK852), (bkC BK863), GW863.out, GE863.out, NB824_863.out, NB863_824.out, NB843_863.out, NB863_843.out, NB852_863.out, NB863_852.out, (hbC _)⟩)
    ·skip
     refine box_step ?hg (N := 13) ?hd (cs := #[.int .i64 0, .int .i64 0]) (t := 26) ?hr ?_; (case hd => rfl); (case hg => rfl); (case hr => first | (go_simp; done) | (go_simp; rfl))
     intro gb863 hg w34 hbox hb
     replace HO_9 := kO HO_9 hb
     have BK863 := ak (hbox)
     have GW863 := kG w hg
     have GE863 := kG w hg
     replace HB := kH _ hb
     have NB824_863 := kL BK824 hg
     have NB863_824 := kR BK824 hg
     replace BK824 := kB BK824 hb
     have NB843_863 := kL BK843 hg
     have NB863_843 := kR BK843 hg
     replace BK843 := kB BK843 hb
     have NB852_863 := kL BK852 hg
     have NB863_852 := kR BK852 hg
     replace BK852 := kB BK852 hb
     clear hb hbox hg
     refine hK.out _ _ ⟨bc BK824 0, bc BK824 1, bc BK824 2, bc BK852 0, bc BK852 1⟩ (fun hHeld => ?_)
     clear hK K
     refine norm_ (a' := ?_) ?_ ?_
     rotate_left
     ·show Act.put _ (some 13) _ = _
      simp only [Act.put, List.setIfInBounds_toArray, List.set_cons_zero, List.set_cons_succ, i64_w, i32_w]
      rfl
     refine one_ (i := 1) (N := some 52) (ba 10 135) rfl rfl (one_of HT_.out (by kernel_rfl)) (by decide) (fun K hK => ?_)
     refine gC Try.func15 #[.agg #[.int .i64 a0_0, .slice A0_1 l0_1.length c0_1, .slice A0_2 l0_2.length c0_2]] ?_
     with_reducible refine (congoulaw04_Of.calls a0_0 _ _ l0_1 _ _ l0_2 t853 t854 t857 _ ?side1 ?side2 ?side3 ?side4 A25.out).mono ?_
     (case side1 => exact kC HR0_1)
     (case side2 => exact HC0_1.out)
     (case side3 => exact kC HR0_2)
     (case side4 => exact HC0_2.out)
     rintro e w35 ⟨v855, v858, rfl, ho0, ho1, hb⟩
     refine ⟨_, rfl, ?_⟩
     have HO856 := ak (Kd.R_lower (Kd.R_new' ho0 (Kd.R_lt (rC HO_9))) (below_size (hbC _)))
     have HO859 := ak (Kd.R_lower (Kd.R_new' ho1 (Kd.R_lt (rC HO_9))) (below_size (hbC _)))
     replace HO_9 := kT HO_9 hb ho0 ho1
     replace BK824 := kB BK824 hb
     replace BK843 := kB BK843 hb
     replace BK852 := kB BK852 hb
     replace BK863 := kB BK863 hb
     replace HB := kH _ hb
     (try clear hb)
     (try clear hb2)
     (try clear hk)
     (try clear hi)
     (try clear ho0)
     (try clear ho1)
     obtain ⟨Ao36, co36, eo36⟩ := Kd.R_slice HO856.out
     (first | subst eo36 | (injection eo36 with f1_ f2_ f3_; have f4_ := f1_.symm; have f5_ := f3_.symm; clear f1_ f2_ f3_; subst f4_; subst f5_))
     obtain ⟨Ao37, co37, eo37⟩ := Kd.R_slice HO859.out
     (first | subst eo37 | (injection eo37 with f1_ f2_ f3_; have f4_ := f1_.symm; have f5_ := f3_.symm; clear f1_ f2_ f3_; subst f4_; subst f5_))
     refine hK.out _ _ ⟨bc BK824 0, bc BK824 1, bc BK824 2, bc BK852 0, bc BK852 1⟩ (fun hHeld => ?_)
     clear hK K
     refine norm_ (a' := ?_) ?_ ?_
     rotate_left
     ·show Act.put _ (some 52) _ = _
      simp only [Act.put, List.setIfInBounds_toArray, List.set_cons_zero, List.set_cons_succ, i64_w, i32_w]
      rfl
     refine one_ (i := 3) (N := some 54) (ba 10 143) rfl rfl (one_of HT_.out (by kernel_rfl)) (by decide) (fun K hK => ?_)
     refine gC Try.func14 #[.agg #[.int .i64 t853, .slice Ao36 t854.length co36, .slice Ao37 t857.length co37], .agg #[.int .i64 ((rd_T26 y844 x46_1).f0), .int .i64 ((rd_T26 y844 x46_1).f1)]] ?_
     with_reducible refine (curves_Value.calls k1 t853 _ _ t854 _ _ t857 ((rd_T26 y844 x46_1).f0) ((rd_T26 y844 x46_1).f1) t860 t861 t862 _ ?side1 ?side2 ?side3 ?side4 A26.out).mono ?_
     (case side1 => exact kD (Kd.R_reads' HO856.out).2.2)
     (case side2 => exact (Kd.R_reads' HO856.out).2.1)
     (case side3 => exact kD (Kd.R_reads' HO859.out).2.2)
     (case side4 => exact (Kd.R_reads' HO859.out).2.1)
     rintro e w38 ⟨rfl, hb⟩
     refine ⟨_, rfl, ?_⟩
     replace HO_9 := kO HO_9 hb
     replace HO856 := kO HO856 hb
     replace HO859 := kO HO859 hb
     replace BK824 := kB BK824 hb
     replace BK843 := kB BK843 hb
     replace BK852 := kB BK852 hb
     replace BK863 := kB BK863 hb
     replace HB := kH _ hb
     (try clear hb)
     (try clear hb2)
     (try clear hk)
     (try clear hi)
     refine hK.out _ _ ⟨bc BK824 0, bc BK824 1, bc BK824 2, bc BK852 0, bc BK852 1⟩ (fun hHeld => ?_)
     clear hK K
     refine norm_ (a' := ?_) ?_ ?_
     rotate_left
     ·show Act.put _ (some 54) _ = _
      simp only [Act.put, List.setIfInBounds_toArray, List.set_cons_zero, List.set_cons_succ, i64_w, i32_w]
      rfl
     refine pS 4 50 10 159 ?_
     refine pS 5 55 10 191 ?_
     refine pS 6 56 10 255 ?_
     exact norm_ (by simp only [putAll, Act.put, List.setIfInBounds_toArray, List.set_cons_zero, List.set_cons_succ]) (hCont (.slice Ao36 t854.length co36, .slice Ao37 t857.length co37, gb863) _ ⟨hHeld, (rC HO856), (rC HO859), (rD (Kd.R_mono HO_9.out (fun _ hk => ⟨hk.1.2, hk.2⟩))), (bkC BK824), (bkC BK843), (bkC BK852), (bkC BK863), GW863.out, GE863.out, NB824_863.out, NB863_824.out, NB843_863.out, NB863_843.out, NB852_863.out, NB863_852.out, (hbC _)⟩)
   rintro ⟨v855, v858, gb863⟩ w39 ⟨hS_, h0_, h1_, h2_, h3_, h4_, h5_, h6_, h7_, h8_, h9_, h10_, h11_, h12_, h13_, h14_, h15_⟩
   have n0_ : Aside0 (Kd.R (Kd.int .i64) 3 w39 w.heap.size (fun k_ => nb k_ v858 ∧ nb k_ u9) v855 t854) := ⟨h0_⟩
   have n1_ : Aside0 (Kd.R (Kd.int .i64) 3 w39 w.heap.size (fun k_ => nb k_ v855 ∧ nb k_ u9) v858 t857) := ⟨h1_⟩
   have n2_ : Aside0 (Kd.R (Kd.int .i64) 3 w39 w.heap.size (fun k_ => nb k_ v855 ∧ nb k_ v858) u9 x9_1) := ⟨h2_⟩
   have n3_ : Aside0 (w39.heap[gb824]? = some (.cells #[.int .i64 a0_0, .slice A0_1 l0_1.length c0_1, .slice A0_2 l0_2.length c0_2] 24 (0, 0))) := ⟨h3_⟩
   have n4_ : Aside0 (w39.heap[gb843]? = some (.cells #[.int .i64 x844000_1, .int .i64 x844001_1] 26 (0, 0))) := ⟨h4_⟩
   have n5_ : Aside0 (w39.heap[gb852]? = some (.cells #[.int .i64 ((rd_T26 y844 x46_1).f0), .int .i64 ((rd_T26 y844 x46_1).f1)] 26 (0, 0))) := ⟨h5_⟩
   have n6_ : Aside0 (w39.heap[gb863]? = some (.cells #[.int .i64 0, .int .i64 0] 26 (0, 0))) := ⟨h6_⟩
   have n7_ : Aside0 (w.heap.size ≤ gb863) := ⟨h7_⟩
   have n8_ : Aside0 (w.heap.size ≤ gb863) := ⟨h8_⟩
   have n9_ : Aside0 (gb824 ≠ gb863) := ⟨h9_⟩
   have n10_ : Aside0 (gb863 ≠ gb824) := ⟨h10_⟩
   have n11_ : Aside0 (gb843 ≠ gb863) := ⟨h11_⟩
   have n12_ : Aside0 (gb863 ≠ gb843) := ⟨h12_⟩
   have n13_ : Aside0 (gb852 ≠ gb863) := ⟨h13_⟩
   have n14_ : Aside0 (gb863 ≠ gb852) := ⟨h14_⟩
   have n15_ : Aside0 (Below w.heap.size w w39) := ⟨h15_⟩
   clear HO_9
   clear BK824
   clear BK843
   clear BK852
   clear HB
   clear h0_ h1_ h2_ h3_ h4_ h5_ h6_ h7_ h8_ h9_ h10_ h11_ h12_ h13_ h14_ h15_
   have HO856 := n0_
   have HO859 := n1_
   have HO_9 := n2_
   have BK824 := n3_
   have BK843 := n4_
   have BK852 := n5_
   have BK863 := n6_
   have GW863 := n7_
   have GE863 := n8_
   have NB824_863 := n9_
   have NB863_824 := n10_
   have NB843_863 := n11_
   have NB863_843 := n12_
   have NB852_863 := n13_
   have NB863_852 := n14_
   have HB := n15_
   clear n0_ n1_ n2_ n3_ n4_ n5_ n6_ n7_ n8_ n9_ n10_ n11_ n12_ n13_ n14_ n15_
   have hHeld : w39.cell? ⟨gb824, 0, none⟩ = some (.int .i64 a0_0) ∧ w39.cell? ⟨gb824, 1, none⟩ = some (.slice A0_1 l0_1.length c0_1) ∧ w39.cell? ⟨gb824, 2, none⟩ = some (.slice A0_2 l0_2.length c0_2) ∧ w39.cell? ⟨gb852, 0, none⟩ = some (.int .i64 ((rd_T26 y844 x46_1).f0)) ∧ w39.cell? ⟨gb852, 1, none⟩ = some (.int .i64 ((rd_T26 y844 x46_1).f1)) := hS_
   refine norm_ (a' := ?_) ?_ ?_
   rotate_left
   ·simp only [putAll, Act.put, List.setIfInBounds_toArray, List.set_cons_zero, List.set_cons_succ]
    rfl
   refine one_ (i := 8) (N := none) (ba 10 511) rfl rfl (one_of HT_.out (by kernel_rfl)) (by decide) (fun K hK => ?_)
   have hs40 : w39.cell? ⟨gb863, 0, none⟩ = some (.int .i64 0) := bc BK863 0
   have hfs40 := fz BK863 0
   have hns40_0 := NB824_863.out
   have hns40_1 := NB843_863.out
   have hns40_2 := NB852_863.out
   have hms40_0 := NB863_824.out
   have hms40_1 := NB863_843.out
   have hms40_2 := NB863_852.out
   have hs41 : w39.cell? ⟨gb863, 1, none⟩ = some (.int .i64 0) := bc BK863 1
   have hfs41 := fz BK863 1
   have hns41_0 := NB824_863.out
   have hns41_1 := NB843_863.out
   have hns41_2 := NB852_863.out
   have hms41_0 := NB863_824.out
   have hms41_1 := NB863_843.out
   have hms41_2 := NB863_852.out
   refine skip_ (w1 := ?_) (by rfl) rfl ?_ ?_
   rotate_left
   ·go_simp
    rfl
   refine hK.out _ _ ⟨((cell_far (p := ⟨gb863, _, none⟩) NB824_863.out _).trans (((cell_far (p := ⟨gb863, _, none⟩) NB824_863.out _).trans (hHeld.1)))), ((cell_far (p := ⟨gb863, _, none⟩) NB824_863.out _).trans (((cell_far (p := ⟨gb863, _, none⟩) NB824_863.out _).trans (hHeld.2.1)))), ((cell_far (p := ⟨gb863, _, none⟩) NB824_863.out _).trans (((cell_far (p := ⟨gb863, _, none⟩) NB824_863.out _).trans (hHeld.2.2.1)))), ((cell_far (p := ⟨gb863, _, none⟩) NB852_863.out _).trans (((cell_far (p := ⟨gb863, _, none⟩) NB852_863.out _).trans (hHeld.2.2.2.1)))), ((cell_far (p := ⟨gb863, _, none⟩) NB852_863.out _).trans (((cell_far (p := ⟨gb863, _, none⟩) NB852_863.out _).trans (hHeld.2.2.2.2))))⟩ (fun hHeld => ?_)
   clear hK K
   refine pS 9 14 10 1023 ?_
   refine done_ (done_of HT_.out (by kernel_rfl)) ?_
   go_upto_region 13 with (fail)
   go_cut [64] (fun v64 wc => ∃ (kq : Nat) (x64_26 : Bool), v64 = .bool x64_26 ∧ Aside0 (congoulaw04_CurvesTurns.j1 kq t828 x9_1 t862 y844 (y844.length : Int) x46_1 x64_26 a0_0 l0_1 l0_2 x844000_1 x844001_1 ((rd_T26 y844 x46_1).f0) ((rd_T26 y844 x46_1).f1) t860 t861 = some r) ∧ Aside0 (kq ≤ k1) ∧ Aside0 (Kd.R (Kd.int .i64) 3 wc w.heap.size (fun _ => True) u9 x9_1) ∧ Aside0 (wc.heap[gb824]? = some (.cells #[.int .i64 a0_0, (.slice A0_1 l0_1.length c0_1), (.slice A0_2 l0_2.length c0_2)] 24 (0, 0))) ∧ Aside0 (wc.heap[gb843]? = some (.cells #[.int .i64 x844000_1, .int .i64 x844001_1] 26 (0, 0))) ∧ Aside0 (wc.heap[gb852]? = some (.cells #[.int .i64 ((rd_T26 y844 x46_1).f0), .int .i64 ((rd_T26 y844 x46_1).f1)] 26 (0, 0))) ∧ Aside0 (wc.heap[gb863]? = some (.cells #[.int .i64 t860, .int .i64 t861] 26 (0, 0))) ∧ Aside0 (Below w.heap.size w wc))
   case first =>
    have H := HC27.out
    clear HC27
    by_cases c42 : t862 = 0
    rotate_left
    ·rw [if_neg c42] at H
     have c42b0 : (t862 == 0) = false := beq_eq_false_iff_ne.mpr c42
     have c42b1 : (t862 != 0) = true := bne_iff_ne.mpr c42
     (first | rw [c42b0] | (simp only [i64_w, i32_w]; rw [c42b0]) | skip)
     have H' := Aside0.mk H
     clear H
     go_wp2
     go_meet
     case rel => exact ⟨_, (true), (by first | rfl | (simp; done) | (simp [*]; done)), H', ⟨by have := HK1.out; first | omega | exact Nat.le_refl _⟩, ⟨rD (Kd.R_mono (Kd.R_far (p := ⟨gb863, 1, none⟩) (Kd.R_far (p := ⟨gb863, 0, none⟩) (Kd.R_types HO_9.out BK863.out (by decide)) (fun _ hk => hk.2) (.int .i64 t860)) (fun _ hk => hk.2) (.int .i64 t861)) (fun _ hk => trivial))⟩, ⟨bF BK824⟩, ⟨bF BK843⟩, ⟨bF BK852⟩, ⟨by (with_reducible repeat (first | refine blk_drewN ?_ _ | refine blk_drew ?_ | refine blk_alloc ?_ _)); refine blk_put (cs := #[.int .i64 t860, .int .i64 0]) ?_ 1 _ rfl; (with_reducible repeat (first | refine blk_drewN ?_ _ | refine blk_drew ?_ | refine blk_alloc ?_ _)); refine blk_put (cs := #[.int .i64 0, .int .i64 0]) ?_ 0 _ rfl; (with_reducible repeat (first | refine blk_drewN ?_ _ | refine blk_drew ?_ | refine blk_alloc ?_ _)); exact BK863.out⟩, ⟨hbC _⟩⟩
    rw [if_pos c42] at H
    have c42b0 : (t862 == 0) = true := beq_iff_eq.mpr c42
    have c42b1 : (t862 != 0) = false := bne_eq_false_iff_eq.mpr c42
    clear c42
    (first | rw [c42b0] | (simp only [i64_w, i32_w]; rw [c42b0]) | skip)
    replace H := Option.bind_eq_some_iff.mp H
    obtain ⟨t864, A430, H⟩ := H
    replace H : (congoulaw04_CurvesTurns.j1 k1 t828 x9_1 t862 y844 (y844.length : Int) x46_1 (!t864) a0_0 l0_1 l0_2 x844000_1 x844001_1 ((rd_T26 y844 x46_1).f0) ((rd_T26 y844 x46_1).f1) t860 t861) = some r := H
    have A43 := Aside0.mk A430
    clear A430
    have H' := Aside0.mk H
    clear H
    have hnb44 := NB824_843.out
    have hnc44 := NB843_824.out
    have hnb45 := NB824_852.out
    have hnc45 := NB852_824.out
    have hnb46 := NB824_863.out
    have hnc46 := NB863_824.out
    have hcz47_0 : w39.cell? ⟨gb824, 0, none⟩ = some (.int .i64 a0_0) := bc BK824 0
    have hcz47_1 : w39.cell? ⟨gb824, 1, none⟩ = some (.slice A0_1 l0_1.length c0_1) := bc BK824 1
    have hcz47_2 : w39.cell? ⟨gb824, 2, none⟩ = some (.slice A0_2 l0_2.length c0_2) := bc BK824 2
    have hfz47_0 := fz BK824 0
    have hfz47_1 := fz BK824 1
    have hfz47_2 := fz BK824 2
    have hnb48 := NB852_843.out
    have hnc48 := NB843_852.out
    have hnb49 := NB852_863.out
    have hnc49 := NB863_852.out
    have hcz50_0 : w39.cell? ⟨gb852, 0, none⟩ = some (.int .i64 ((rd_T26 y844 x46_1).f0)) := bc BK852 0
    have hcz50_1 : w39.cell? ⟨gb852, 1, none⟩ = some (.int .i64 ((rd_T26 y844 x46_1).f1)) := bc BK852 1
    have hfz50_0 := fz BK852 0
    have hfz50_1 := fz BK852 1
    go_wp2_with (first | (go_at_call 32; (with_reducible refine (congouref04_In.calls k1 a0_0 _ _ l0_1 _ _ l0_2 ((rd_T26 y844 x46_1).f0) ((rd_T26 y844 x46_1).f1) t864 _ ?side1 ?side2 ?side3 ?side4 A43.out).mono ?_); (case side1 => exact Kd.C_below HR0_1.out (hbC _)); (case side2 => exact HC0_1.out); (case side3 => exact Kd.C_below HR0_2.out (hbC _)); (case side4 => exact HC0_2.out); rintro e w51 ⟨rfl, hb⟩; replace HO_9 := ak (Kd.R_below (rD ((Kd.R_mono (Kd.R_far (p := ⟨gb863, 1, none⟩) (Kd.R_far (p := ⟨gb863, 0, none⟩) (Kd.R_types HO_9.out BK863.out (by decide)) (fun _ hk => hk.2) (.int .i64 t860)) (fun _ hk => hk.2) (.int .i64 t861)) (fun _ h_ => h_.1)))) hb); replace HO856 := ak (Kd.R_below (rD ((Kd.R_mono (Kd.R_far (p := ⟨gb863, 1, none⟩) (Kd.R_far (p := ⟨gb863, 0, none⟩) (Kd.R_types HO856.out BK863.out (by decide)) (fun _ hk => hk.2) (.int .i64 t860)) (fun _ hk => hk.2) (.int .i64 t861)) (fun _ h_ => h_.1)))) hb); replace HO859 := ak (Kd.R_below (rD ((Kd.R_mono (Kd.R_far (p := ⟨gb863, 1, none⟩) (Kd.R_far (p := ⟨gb863, 0, none⟩) (Kd.R_types HO859.out BK863.out (by decide)) (fun _ hk => hk.2) (.int .i64 t860)) (fun _ hk => hk.2) (.int .i64 t861)) (fun _ h_ => h_.1)))) hb); replace BK824 := ak (blk_below (g := gb824) (o := .cells #[.int .i64 a0_0, .slice A0_1 l0_1.length c0_1, .slice A0_2 l0_2.length c0_2] 24 (0, 0)) (bF BK824) hb); replace BK843 := ak (blk_below (g := gb843) (o := .cells #[.int .i64 x844000_1, .int .i64 x844001_1] 26 (0, 0)) (bF BK843) hb); replace BK852 := ak (blk_below (g := gb852) (o := .cells #[.int .i64 ((rd_T26 y844 x46_1).f0), .int .i64 ((rd_T26 y844 x46_1).f1)] 26 (0, 0)) (bF BK852) hb); replace BK863 := ak (blk_below (g := gb863) (o := .cells #[.int .i64 t860, .int .i64 t861] 26 (0, 0)) (by (with_reducible repeat (first | refine blk_drewN ?_ _ | refine blk_drew ?_ | refine blk_alloc ?_ _)); refine blk_put (cs := #[.int .i64 t860, .int .i64 0]) ?_ 1 _ rfl; (with_reducible repeat (first | refine blk_drewN ?_ _ | refine blk_drew ?_ | refine blk_alloc ?_ _)); refine blk_put (cs := #[.int .i64 0, .int .i64 0]) ?_ 0 _ rfl; (with_reducible repeat (first | refine blk_drewN ?_ _ | refine blk_drew ?_ | refine blk_alloc ?_ _)); exact BK863.out) hb); replace HB := kH _ hb; (try clear hb); (try clear hb2); (try clear hk); (try clear hi)))
    go_meet
    case rel => exact ⟨_, (!t864), (by first | rfl | (simp; done) | (simp [*]; done)), H', ⟨by have := HK1.out; first | omega | exact Nat.le_refl _⟩, ⟨rD (Kd.R_mono HO_9.out (fun _ hk => trivial))⟩, ⟨bkC BK824⟩, ⟨bkC BK843⟩, ⟨bkC BK852⟩, ⟨bkC BK863⟩, ⟨hbC _⟩⟩
   case rest =>
    clear HC27
    try clear c1
    try clear p2
    try clear c4
    try clear c14
    try clear c15
    try clear c42
    try clear c42b0
    try clear c42b1
    try clear c44
    try clear c45
    try clear c46
    try clear c48
    try clear c49
    try clear hcz47_0
    try clear hcz47_1
    try clear hcz47_2
    try clear hcz50_0
    try clear hcz50_1
    try clear hfz47_0
    try clear hfz47_1
    try clear hfz47_2
    try clear hfz50_0
    try clear hfz50_1
    obtain ⟨kq, x64_26, rfl, HA, HJ26, HO_9, BK824, BK843, BK852, BK863, HB⟩ := hcut
    cases kq with
    | zero => exact absurd HA.out (by simp [congoulaw04_CurvesTurns.j1])
    | succ kj26 =>
     have H := HA.out
     clear HA
     simp only [congoulaw04_CurvesTurns.j1] at H
     by_cases c52 : x64_26 = true
     ·subst c52
      have H1 : (if t862 = 2 then ((congouref04_In.f kj26 a0_0 l0_1 l0_2 ((rd_T26 y844 x46_1).f0) ((rd_T26 y844 x46_1).f1)).bind fun t865 => (congoulaw04_CurvesTurns.j2 kj26 t828 x9_1 y844 (y844.length : Int) x46_1 t865 a0_0 l0_1 l0_2 x844000_1 x844001_1)) else (congoulaw04_CurvesTurns.j2 kj26 t828 x9_1 y844 (y844.length : Int) x46_1 true a0_0 l0_1 l0_2 x844000_1 x844001_1)) = some r := by rw [if_pos rfl] at H; exact H
      clear H
      have H := H1
      clear H1
      have HC53 := Aside0.mk H
      clear H
      go_upto_region 14 with (fail)
      go_cut [71] (fun v71 wc => ∃ (kq : Nat) (x71_52 : Bool), v71 = .bool x71_52 ∧ Aside0 (congoulaw04_CurvesTurns.j2 kq t828 x9_1 y844 (y844.length : Int) x46_1 x71_52 a0_0 l0_1 l0_2 x844000_1 x844001_1 = some r) ∧ Aside0 (kq ≤ kj26) ∧ Aside0 (Kd.R (Kd.int .i64) 3 wc w.heap.size (fun _ => True) u9 x9_1) ∧ Aside0 (wc.heap[gb824]? = some (.cells #[.int .i64 a0_0, (.slice A0_1 l0_1.length c0_1), (.slice A0_2 l0_2.length c0_2)] 24 (0, 0))) ∧ Aside0 (wc.heap[gb843]? = some (.cells #[.int .i64 x844000_1, .int .i64 x844001_1] 26 (0, 0))) ∧ Aside0 (wc.heap[gb852]? = some (.cells #[.int .i64 ((rd_T26 y844 x46_1).f0), .int .i64 ((rd_T26 y844 x46_1).f1)] 26 (0, 0))) ∧ Aside0 (wc.heap[gb863]? = some (.cells #[.int .i64 t860, .int .i64 t861] 26 (0, 0))) ∧ Aside0 (Below w.heap.size w wc))
      case first =>
       have H := HC53.out
       clear HC53
       by_cases c54 : t862 = 2
       rotate_left
       ·rw [if_neg c54] at H
        have c54b0 : (t862 == 2) = false := beq_eq_false_iff_ne.mpr c54
        have c54b1 : (t862 != 2) = true := bne_iff_ne.mpr c54
        (first | rw [c54b0] | (simp only [i64_w, i32_w]; rw [c54b0]) | skip)
        have H' := Aside0.mk H
        clear H
        go_wp2
        go_meet
        case rel => exact ⟨_, (true), (by first | rfl | (simp; done) | (simp [*]; done)), H', ⟨by have := HK1.out; have := HJ26.out; first | omega | exact Nat.le_refl _⟩, ⟨rC HO_9⟩, ⟨bkC BK824⟩, ⟨bkC BK843⟩, ⟨bkC BK852⟩, ⟨bkC BK863⟩, ⟨hbC _⟩⟩
       rw [if_pos c54] at H
       have c54b0 : (t862 == 2) = true := beq_iff_eq.mpr c54
       have c54b1 : (t862 != 2) = false := bne_eq_false_iff_eq.mpr c54
       clear c54
       (first | rw [c54b0] | (simp only [i64_w, i32_w]; rw [c54b0]) | skip)
       replace H := Option.bind_eq_some_iff.mp H
       obtain ⟨t865, A550, H⟩ := H
       replace H : (congoulaw04_CurvesTurns.j2 kj26 t828 x9_1 y844 (y844.length : Int) x46_1 t865 a0_0 l0_1 l0_2 x844000_1 x844001_1) = some r := H
       have A55 := Aside0.mk A550
       clear A550
       have H' := Aside0.mk H
       clear H
       have hnb56 := NB824_843.out
       have hnc56 := NB843_824.out
       have hnb57 := NB824_852.out
       have hnc57 := NB852_824.out
       have hnb58 := NB824_863.out
       have hnc58 := NB863_824.out
       have hcz59_0 : wc.cell? ⟨gb824, 0, none⟩ = some (.int .i64 a0_0) := bc BK824 0
       have hcz59_1 : wc.cell? ⟨gb824, 1, none⟩ = some (.slice A0_1 l0_1.length c0_1) := bc BK824 1
       have hcz59_2 : wc.cell? ⟨gb824, 2, none⟩ = some (.slice A0_2 l0_2.length c0_2) := bc BK824 2
       have hfz59_0 := fz BK824 0
       have hfz59_1 := fz BK824 1
       have hfz59_2 := fz BK824 2
       have hnb60 := NB852_843.out
       have hnc60 := NB843_852.out
       have hnb61 := NB852_863.out
       have hnc61 := NB863_852.out
       have hcz62_0 : wc.cell? ⟨gb852, 0, none⟩ = some (.int .i64 ((rd_T26 y844 x46_1).f0)) := bc BK852 0
       have hcz62_1 : wc.cell? ⟨gb852, 1, none⟩ = some (.int .i64 ((rd_T26 y844 x46_1).f1)) := bc BK852 1
       have hfz62_0 := fz BK852 0
       have hfz62_1 := fz BK852 1
       go_wp2_with (first | (go_at_call 32; (with_reducible refine (congouref04_In.calls kj26 a0_0 _ _ l0_1 _ _ l0_2 ((rd_T26 y844 x46_1).f0) ((rd_T26 y844 x46_1).f1) t865 _ ?side1 ?side2 ?side3 ?side4 A55.out).mono ?_); (case side1 => exact kC HR0_1); (case side2 => exact HC0_1.out); (case side3 => exact kC HR0_2); (case side4 => exact HC0_2.out); rintro e w63 ⟨rfl, hb⟩; replace HO_9 := kO HO_9 hb; replace BK824 := kB BK824 hb; replace BK843 := kB BK843 hb; replace BK852 := kB BK852 hb; replace BK863 := kB BK863 hb; replace HB := kH _ hb; (try clear hb); (try clear hb2); (try clear hk); (try clear hi)))
       go_meet
       case rel => exact ⟨_, (t865), (by first | rfl | (simp; done) | (simp [*]; done)), H', ⟨by have := HK1.out; have := HJ26.out; first | omega | exact Nat.le_refl _⟩, ⟨rC HO_9⟩, ⟨bkC BK824⟩, ⟨bkC BK843⟩, ⟨bkC BK852⟩, ⟨bkC BK863⟩, ⟨hbC _⟩⟩
      case rest =>
       clear HC53
       try clear c1
       try clear p2
       try clear c4
       try clear c5
       try clear c6
       try clear c14
       try clear c15
       try clear c42
       try clear c42b0
       try clear c42b1
       try clear c44
       try clear c45
       try clear c46
       try clear c48
       try clear c49
       try clear c52
       try clear c54
       try clear c54b0
       try clear c54b1
       try clear c56
       try clear c57
       try clear c58
       try clear c60
       try clear c61
       try clear hcz47_0
       try clear hcz47_1
       try clear hcz47_2
       try clear hcz50_0
       try clear hcz50_1
       try clear hcz59_0
       try clear hcz59_1
       try clear hcz59_2
       try clear hcz62_0
       try clear hcz62_1
       try clear hfz47_0
       try clear hfz47_1
       try clear hfz47_2
       try clear hfz50_0
       try clear hfz50_1
       try clear hfz59_0
       try clear hfz59_1
       try clear hfz59_2
       try clear hfz62_0
       try clear hfz62_1
       try clear p2
       obtain ⟨kq, x71_52, rfl, HA, HJ52, HO_9, BK824, BK843, BK852, BK863, HB⟩ := hcut
       cases kq with
       | zero => exact absurd HA.out (by simp [congoulaw04_CurvesTurns.j2])
       | succ kj52 =>
        have H := HA.out
        clear HA
        simp only [congoulaw04_CurvesTurns.j2] at H
        by_cases c64 : x71_52 = true
        ·subst c64
         have H1 : (some false) = some r := by rw [if_pos rfl] at H; exact H
         clear H
         have H := H1
         clear H1
         exact absurd (H.trans (congrArg some HRT.out)) (by simp)
        replace c64 := Bool.eq_false_iff.mpr c64
        subst c64
        have H1 : (congoulaw04_CurvesTurns.l0 kj52 t828 x9_1 y844 (y844.length : Int) (wrap64 (x46_1 + 1)) a0_0 l0_1 l0_2 x844000_1 x844001_1) = some r := by rw [if_neg (show ¬ (false = true) by decide)] at H; exact H
        clear H
        have H := H1
        clear H1
        have H' := Aside0.mk H
        clear H
        go_wp2
        go_roundg kj52
        case measure => have := HK1.out; have := HJ26.out; have := HJ52.out; omega
        case rel => exact ⟨(x9_1), (wrap64 (x46_1 + 1)), (x844000_1), (x844001_1), (by first | rfl | (simp; done) | (simp [*]; done)), H', ⟨by have := HK1.out; have := HJ26.out; have := HJ52.out; omega⟩, ⟨rC HO_9⟩, ⟨bkC BK824⟩, ⟨bkC BK843⟩, ⟨hbC _⟩⟩
     replace c52 := Bool.eq_false_iff.mpr c52
     subst c52
     have H1 : ((congouref04_Less.f x844000_1 x844001_1 ((rd_T26 y844 x46_1).f0) ((rd_T26 y844 x46_1).f1)).bind fun t866 => (if t866 = true then (if x9_1.length < 17592186044416 then (congoulaw04_CurvesTurns.l0 kj26 t828 (x9_1 ++ [mx (-1) (mn 1 t860)]) y844 (y844.length : Int) (wrap64 (x46_1 + 1)) a0_0 l0_1 l0_2 ((rd_T26 y844 x46_1).f0) ((rd_T26 y844 x46_1).f1)) else (none)) else (congoulaw04_CurvesTurns.l0 kj26 t828 x9_1 y844 (y844.length : Int) (wrap64 (x46_1 + 1)) a0_0 l0_1 l0_2 x844000_1 x844001_1))) = some r := by rw [if_neg (show ¬ (false = true) by decide)] at H; exact H
     clear H
     have H := H1
     clear H1
     replace H := Option.bind_eq_some_iff.mp H
     obtain ⟨t866, A650, H⟩ := H
     replace H : (if t866 = true then (if x9_1.length < 17592186044416 then (congoulaw04_CurvesTurns.l0 kj26 t828 (x9_1 ++ [mx (-1) (mn 1 t860)]) y844 (y844.length : Int) (wrap64 (x46_1 + 1)) a0_0 l0_1 l0_2 ((rd_T26 y844 x46_1).f0) ((rd_T26 y844 x46_1).f1)) else (none)) else (congoulaw04_CurvesTurns.l0 kj26 t828 x9_1 y844 (y844.length : Int) (wrap64 (x46_1 + 1)) a0_0 l0_1 l0_2 x844000_1 x844001_1)) = some r := H
     have A65 := Aside0.mk A650
     clear A650
     by_cases c66 : t866 = true
     rotate_left
     ·replace c66 := Bool.eq_false_iff.mpr c66
      subst c66
      have H1 : (congoulaw04_CurvesTurns.l0 kj26 t828 x9_1 y844 (y844.length : Int) (wrap64 (x46_1 + 1)) a0_0 l0_1 l0_2 x844000_1 x844001_1) = some r := by rw [if_neg (show ¬ (false = true) by decide)] at H; exact H
      clear H
      have H := H1
      clear H1
      have H' := Aside0.mk H
      clear H
      have hnb83 := NB843_824.out
      have hnc83 := NB824_843.out
      have hnb84 := NB843_852.out
      have hnc84 := NB852_843.out
      have hnb85 := NB843_863.out
      have hnc85 := NB863_843.out
      have hcz86_0 : wc.cell? ⟨gb843, 0, none⟩ = some (.int .i64 x844000_1) := bc BK843 0
      have hcz86_1 : wc.cell? ⟨gb843, 1, none⟩ = some (.int .i64 x844001_1) := bc BK843 1
      have hfz86_0 := fz BK843 0
      have hfz86_1 := fz BK843 1
      have hnb87 := NB852_824.out
      have hnc87 := NB824_852.out
      have hnb88 := NB852_863.out
      have hnc88 := NB863_852.out
      have hcz89_0 : wc.cell? ⟨gb852, 0, none⟩ = some (.int .i64 ((rd_T26 y844 x46_1).f0)) := bc BK852 0
      have hcz89_1 : wc.cell? ⟨gb852, 1, none⟩ = some (.int .i64 ((rd_T26 y844 x46_1).f1)) := bc BK852 1
      have hfz89_0 := fz BK852 0
      have hfz89_1 := fz BK852 1
      go_wp2_with (first | ((with_reducible refine gate_callee (f := 39) rfl ?_); refine gL 74 Try.func39 #[.agg #[.int .i64 x844000_1, .int .i64 x844001_1], .agg #[.int .i64 ((rd_T26 y844 x46_1).f0), .int .i64 ((rd_T26 y844 x46_1).f1)]] ?_; (with_reducible refine (congouref04_Less.calls x844000_1 x844001_1 ((rd_T26 y844 x46_1).f0) ((rd_T26 y844 x46_1).f1) false _ A65.out).mono ?_); rintro e w90 ⟨rfl, hb⟩; refine ⟨_, rfl, ?_⟩; replace HO_9 := kO HO_9 hb; replace BK824 := kB BK824 hb; replace BK843 := kB BK843 hb; replace BK852 := kB BK852 hb; replace BK863 := kB BK863 hb; replace HB := kH _ hb; (try clear hb); (try clear hb2); (try clear hk); (try clear hi)))
      go_roundg kj26
      case measure => have := HK1.out; have := HJ26.out; omega
      case rel => exact ⟨(x9_1), (wrap64 (x46_1 + 1)), (x844000_1), (x844001_1), (by first | rfl | (simp; done) | (simp [*]; done)), H', ⟨by have := HK1.out; have := HJ26.out; omega⟩, ⟨rC HO_9⟩, ⟨bkC BK824⟩, ⟨bkC BK843⟩, ⟨hbC _⟩⟩
     subst c66
     have H1 : (if x9_1.length < 17592186044416 then (congoulaw04_CurvesTurns.l0 kj26 t828 (x9_1 ++ [mx (-1) (mn 1 t860)]) y844 (y844.length : Int) (wrap64 (x46_1 + 1)) a0_0 l0_1 l0_2 ((rd_T26 y844 x46_1).f0) ((rd_T26 y844 x46_1).f1)) else (none)) = some r := by rw [if_pos rfl] at H; exact H
     clear H
     have H := H1
     clear H1
     obtain ⟨ji67, hji67⟩ : ∃ j_ : Int, (mn 1 t860) = j_ := ⟨_, rfl⟩
     replace H : (if x9_1.length < 17592186044416 then (congoulaw04_CurvesTurns.l0 kj26 t828 (x9_1 ++ [mx (-1) (ji67)]) y844 (y844.length : Int) (wrap64 (x46_1 + 1)) a0_0 l0_1 l0_2 ((rd_T26 y844 x46_1).f0) ((rd_T26 y844 x46_1).f1)) else (none)) = some r := by first | (rw [hji67] at H; exact H) | (simp only [hji67] at H ⊢; exact H)
     (try rw [hji67] at A65)
     have hji67_ : (if t860 < 1 then t860 else 1) = ji67 := hji67
     obtain ⟨ji68, hji68⟩ : ∃ j_ : Int, (mx (-1) (ji67)) = j_ := ⟨_, rfl⟩
     replace H : (if x9_1.length < 17592186044416 then (congoulaw04_CurvesTurns.l0 kj26 t828 (x9_1 ++ [ji68]) y844 (y844.length : Int) (wrap64 (x46_1 + 1)) a0_0 l0_1 l0_2 ((rd_T26 y844 x46_1).f0) ((rd_T26 y844 x46_1).f1)) else (none)) = some r := by first | (rw [hji68] at H; exact H) | (simp only [hji68] at H ⊢; exact H)
     (try rw [hji68] at A65)
     have hji68_ : (if (-1) < (ji67) then (ji67) else (-1)) = ji68 := hji68
     by_cases c69 : x9_1.length < 17592186044416
     rotate_left
     ·rw [if_neg c69] at H
      exact absurd H (by simp)
     rw [if_pos c69] at H
     have LMc69 := Aside0.mk c69
     clear c69
     obtain ⟨y867, hy867⟩ : ∃ y_ : List Int, y_ = (x9_1 ++ [ji68]) := ⟨_, rfl⟩
     replace H : (congoulaw04_CurvesTurns.l0 kj26 t828 y867 y844 (y844.length : Int) (wrap64 (x46_1 + 1)) a0_0 l0_1 l0_2 ((rd_T26 y844 x46_1).f0) ((rd_T26 y844 x46_1).f1)) = some r := by first | (rw [hy867]; with_reducible exact H) | (have H2_ := (Option.bind_some _ _).symm.trans H; rw [hy867]; with_reducible exact H2_) | (have H2_ := (Option.bind_some _ _).symm.trans H; with_reducible exact H2_) | with_reducible exact H | (rw [hy867]; exact H) | exact H
     have Ny867 := Aside0.mk hy867
     clear hy867
     have H' := Aside0.mk H
     clear H
     have hnb70 := NB843_824.out
     have hnc70 := NB824_843.out
     have hnb71 := NB843_852.out
     have hnc71 := NB852_843.out
     have hnb72 := NB843_863.out
     have hnc72 := NB863_843.out
     have hcz73_0 : wc.cell? ⟨gb843, 0, none⟩ = some (.int .i64 x844000_1) := bc BK843 0
     have hcz73_1 : wc.cell? ⟨gb843, 1, none⟩ = some (.int .i64 x844001_1) := bc BK843 1
     have hfz73_0 := fz BK843 0
     have hfz73_1 := fz BK843 1
     have hnb74 := NB852_824.out
     have hnc74 := NB824_852.out
     have hnb75 := NB852_863.out
     have hnc75 := NB863_852.out
     have hcz76_0 : wc.cell? ⟨gb852, 0, none⟩ = some (.int .i64 ((rd_T26 y844 x46_1).f0)) := bc BK852 0
     have hcz76_1 : wc.cell? ⟨gb852, 1, none⟩ = some (.int .i64 ((rd_T26 y844 x46_1).f1)) := bc BK852 1
     have hfz76_0 := fz BK852 0
     have hfz76_1 := fz BK852 1
     go_wp2_with (first | ((with_reducible refine gate_callee (f := 39) rfl ?_); refine gL 74 Try.func39 #[.agg #[.int .i64 x844000_1, .int .i64 x844001_1], .agg #[.int .i64 ((rd_T26 y844 x46_1).f0), .int .i64 ((rd_T26 y844 x46_1).f1)]] ?_; (with_reducible refine (congouref04_Less.calls x844000_1 x844001_1 ((rd_T26 y844 x46_1).f0) ((rd_T26 y844 x46_1).f1) true _ A65.out).mono ?_); rintro e w77 ⟨rfl, hb⟩; refine ⟨_, rfl, ?_⟩; replace HO_9 := kO HO_9 hb; replace BK824 := kB BK824 hb; replace BK843 := kB BK843 hb; replace BK852 := kB BK852 hb; replace BK863 := kB BK863 hb; replace HB := kH _ hb; (try clear hb); (try clear hb2); (try clear hk); (try clear hi); have hcz78_0 : w77.cell? ⟨gb852, 0, none⟩ = some (.int .i64 ((rd_T26 y844 x46_1).f0)) := bc BK852 0; have hcz78_1 : w77.cell? ⟨gb852, 1, none⟩ = some (.int .i64 ((rd_T26 y844 x46_1).f1)) := bc BK852 1; have hfz78_0 := fz BK852 0; have hfz78_1 := fz BK852 1; have hcz79_0 : w77.cell? ⟨gb843, 0, none⟩ = some (.int .i64 x844000_1) := bc BK843 0; have hcz79_1 : w77.cell? ⟨gb843, 1, none⟩ = some (.int .i64 x844001_1) := bc BK843 1; have hfz79_0 := fz BK843 0; have hfz79_1 := fz BK843 1; have hnb80 := NB863_824.out; have hnc80 := NB824_863.out; have hcz81_0 : w77.cell? ⟨gb863, 0, none⟩ = some (.int .i64 t860) := bc BK863 0; have hcz81_1 : w77.cell? ⟨gb863, 1, none⟩ = some (.int .i64 t861) := bc BK863 1; have hfz81_0 := fz BK863 0; have hfz81_1 := fz BK863 1) | ((with_reducible refine gate_builtin (b := .append) (xs := #[.tmp 77, .tmp 82]) rfl ?_); at_builtin; refine Kd.R_append (Kd.int .i64) (w0 := w) w.heap.size rfl (.tmp 77) (.tmp 82) 22 3 (.int .i64 0) 8 rfl Try.underlying22 info3 rfl (by decide) (by omega) u9 x9_1 ji68 [.int .i64 ji68] (fun _ => True) (fun _ => False) rfl (by first | (go_simp; done) | (go_simp; rfl)) ?aP (fun _ hk => hk.elim) ?aF ?aO ?aB ?aS ?aL ?_; (case aP => exact rfl); (case aB => exact (hbC _)); (case aF => exact (fun _ _ => trivial)); (case aO => exact (rD (Kd.R_mono (Kd.R_far (p := ⟨gb843, 1, none⟩) (Kd.R_far (p := ⟨gb843, 0, none⟩) (Kd.R_types HO_9.out BK843.out (by decide)) (fun _ hk => hk.2) (.int .i64 ((rd_T26 y844 x46_1).f0))) (fun _ hk => hk.2) (.int .i64 ((rd_T26 y844 x46_1).f1))) (fun _ hk => trivial)))); (case aS => exact (below_size (hbC _))); (case aL => have := LMc69.out; omega); intro v868 w82 ho hb hg hat; rw [← Ny867.out] at ho; have n0_ := ak (blk_grown (g := gb824) (o := .cells #[.int .i64 a0_0, .slice A0_1 l0_1.length c0_1, .slice A0_2 l0_2.length c0_2] 24 (0, 0)) (bF BK824) hg (Kd.R_ne HO_9.out BK824.out (by decide))); have n1_ := ak (blk_grown (g := gb843) (o := .cells #[.int .i64 ((rd_T26 y844 x46_1).f0), .int .i64 ((rd_T26 y844 x46_1).f1)] 26 (0, 0)) (by (with_reducible repeat (first | refine blk_drewN ?_ _ | refine blk_drew ?_ | refine blk_alloc ?_ _)); refine blk_put (cs := #[.int .i64 ((rd_T26 y844 x46_1).f0), .int .i64 x844001_1]) ?_ 1 _ rfl; (with_reducible repeat (first | refine blk_drewN ?_ _ | refine blk_drew ?_ | refine blk_alloc ?_ _)); refine blk_put (cs := #[.int .i64 x844000_1, .int .i64 x844001_1]) ?_ 0 _ rfl; (with_reducible repeat (first | refine blk_drewN ?_ _ | refine blk_drew ?_ | refine blk_alloc ?_ _)); exact BK843.out) hg (Kd.R_ne HO_9.out BK843.out (by decide))); have n2_ := ak (blk_grown (g := gb852) (o := .cells #[.int .i64 ((rd_T26 y844 x46_1).f0), .int .i64 ((rd_T26 y844 x46_1).f1)] 26 (0, 0)) (bF BK852) hg (Kd.R_ne HO_9.out BK852.out (by decide))); have n3_ := ak (blk_grown (g := gb863) (o := .cells #[.int .i64 t860, .int .i64 t861] 26 (0, 0)) (bF BK863) hg (Kd.R_ne HO_9.out BK863.out (by decide))); have n4_ := ak (hb); have n5_ := ak (ho); clear BK824; clear BK843; clear BK852; clear BK863; clear HB; clear HO_9; have BK824 := n0_; have BK843 := n1_; have BK852 := n2_; have BK863 := n3_; have HB := n4_; have HO869 := n5_; clear n0_ n1_ n2_ n3_ n4_ n5_; clear ho hb hg hat))
     go_roundg kj26
     case measure => have := HK1.out; have := HJ26.out; omega
     case rel => exact ⟨(y867), (wrap64 (x46_1 + 1)), (((rd_T26 y844 x46_1).f0)), (((rd_T26 y844 x46_1).f1)), (by first | rfl | (simp; done) | (simp [*]; done)), H', ⟨by have := HK1.out; have := HJ26.out; omega⟩, ⟨rC HO869⟩, ⟨bkC BK824⟩, ⟨bkC BK843⟩, ⟨hbC _⟩⟩

end Go.Proofs.Ytpnocmkpeogifaa.X
