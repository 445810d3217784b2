-- Written by a program of this work (wip/xprint.py, over the kit's printer) out of the translation.
import Derived.Test.YtpnocmkpeogifaaX0
import Derived.Test.YtpnocmkpeogifaaXG2a
import Derived.Test.YtpnocmkpeogifaaXG4a
import Derived.Test.YtpnocmkpeogifaaXG5a
import Derived.Test.YtpnocmkpeogifaaXf14
import Derived.Test.YtpnocmkpeogifaaXf15
import Derived.Test.YtpnocmkpeogifaaXf17
import Derived.Test.YtpnocmkpeogifaaXf18
import Derived.Test.YtpnocmkpeogifaaXf25
import Derived.Test.YtpnocmkpeogifaaXq0
namespace Go.Proofs.Ytpnocmkpeogifaa.X
open Go.RowKit Go.Proofs.YtpnocmkpeogifaaW.PrintWords Go.Proofs.YtpnocmkpeogifaaW.PrintLast Go.Proofs.YtpnocmkpeogifaaW.PrintMore
attribute [local go_sem] max2_int min2_int max_two min_two max_three min_three max_four min_four   -- for this text's walks alone
set_option linter.unusedVariables false
set_option linter.unusedSimpArgs false

attribute [local go_sem high] eqA26
/-! ### congoulaw04_CurvesValues: function 5 -/
def congoulaw04_CurvesValues.f (k : Nat) (a0_0 : Int) (l0_1 : List Int) (l0_2 : List Int) (a1_0 : Int) (a1_1 : Int) : Option (Bool) := (congoulaw04_Of.f a0_0 l0_1 l0_2).bind fun bt503 => ((curves_Basic.f k bt503.1 bt503.2.1 bt503.2.2 a1_0 a1_1).bind fun bt510 => ((congoulaw04_Of.f a0_0 l0_1 l0_2).bind fun bt514 => ((curves_Value.f k bt514.1 bt514.2.1 bt514.2.2 a1_0 a1_1).bind fun bt521 => ((congoulaw04_fine.f k a0_0 l0_1 l0_2 a1_0 a1_1).bind fun t525 => (if t525 = true then ((congouref04_Basic.f k a0_0 l0_1 l0_2 a1_0 a1_1).bind fun t528 => ((api_Frac.f k bt510.1 t528).bind fun t531 => (if t531 = true then ((congouref04_Value.f k a0_0 l0_1 l0_2 a1_0 a1_1).bind fun bt532 => (if (bt521.1 == bt532.1 && (bt521.2.1 == bt532.2)) = true then (if bt510.2 = 0 then (if bt521.2.2 = 0 then ((congoulaw04_awake.f k).bind fun t534 => (some t534)) else (some false)) else (some false)) else (some false))) else (some false)))) else (if (bt510.1.length : Int) = 0 then ((congoulaw04_none.f bt521.1 bt521.2.1).bind fun t526 => (if t526 = true then (if bt510.2 = 2 then (if bt521.2.2 = 2 then ((congoulaw04_awake.f k).bind fun t527 => (some t527)) else (some false)) else (some false)) else (some false))) else (some false)))))))
theorem congoulaw04_CurvesValues.mono : ∀ a0 a1 a2 a3 a4 k, LeO (congoulaw04_CurvesValues.f k a0 a1 a2 a3 a4) (congoulaw04_CurvesValues.f (k + 1) a0 a1 a2 a3 a4) := by
 intro a0 a1 a2 a3 a4 k
 unfold congoulaw04_CurvesValues.f
 repeat' first
   | (with_reducible exact api_Frac.mono _ _ _)
   | (with_reducible exact congoulaw04_awake.mono _)
   | (with_reducible exact congoulaw04_fine.mono _ _ _ _ _ _)
   | (with_reducible exact congouref04_Basic.mono _ _ _ _ _ _)
   | (with_reducible exact congouref04_Value.mono _ _ _ _ _ _)
   | (with_reducible exact curves_Basic.mono _ _ _ _ _ _)
   | (with_reducible exact curves_Value.mono _ _ _ _ _ _)
   | (with_reducible exact LeO.refl _)
   | (with_reducible exact LeO.none _)
   | (with_reducible refine LeO.ite ?_ ?_)
   | (with_reducible refine LeO.bind ?_ (fun _ => ?_))
   | exact api_Frac.mono _ _ _
   | exact congoulaw04_awake.mono _
   | exact congoulaw04_fine.mono _ _ _ _ _ _
   | exact congouref04_Basic.mono _ _ _ _ _ _
   | exact congouref04_Value.mono _ _ _ _ _ _
   | exact curves_Basic.mono _ _ _ _ _ _
   | exact curves_Value.mono _ _ _ _ _ _
   | exact LeO.none _
   | refine LeO.ite ?_ ?_
   | refine LeO.bind ?_ (fun _ => ?_)
def congoulaw04_CurvesValues.T1 : Bool × List (List Nat × List Nat) := (true, [([], []), ([0], [0]), ([], []), ([1, 2, 1], [1, 2]), ([3], [3]), ([4], [4]), ([4], [4]), ([5, 3, 0, 1, 2, 3, 4, 5], [5]), ([6, 7, 0, 1, 2, 3, 4, 5, 6, 7], [6])])
def congoulaw04_CurvesValues.B1 : List Nat := [0, 1, 0, 7, 15, 31, 31, 63, 255]
theorem congoulaw04_CurvesValues.tab1 : rtab .any (opsOf Try.f5 1) = congoulaw04_CurvesValues.T1 := by kernel_rfl
theorem congoulaw04_CurvesValues.bits1 : waitsOk congoulaw04_CurvesValues.T1.2 congoulaw04_CurvesValues.B1 = true := by kernel_rfl
def congoulaw04_CurvesValues.T2 : Bool × List (List Nat × List Nat) := (true, [([], []), ([0], [0]), ([], []), ([1, 2, 1], [1, 2]), ([3], [3]), ([4], [4]), ([4], [4]), ([], []), ([7, 5, 3, 0, 1, 2, 3, 4, 5, 7], [5, 7]), ([6, 8, 0, 1, 2, 3, 4, 5, 6, 7, 8], [6])])
def congoulaw04_CurvesValues.B2 : List Nat := [0, 1, 0, 7, 15, 31, 31, 0, 191, 511]
theorem congoulaw04_CurvesValues.tab2 : rtab .any (opsOf Try.f5 2) = congoulaw04_CurvesValues.T2 := by kernel_rfl
theorem congoulaw04_CurvesValues.bits2 : waitsOk congoulaw04_CurvesValues.T2.2 congoulaw04_CurvesValues.B2 = true := by kernel_rfl
def congoulaw04_CurvesValues.T5 : Bool × List (List Nat × List Nat) := (true, [([], []), ([], []), ([], []), ([1, 2], [1, 2]), ([0, 3, 3], [0, 3]), ([4, 4], [4]), ([5], [5]), ([5], [5]), ([5], [5]), ([7, 8, 5, 5], [5, 7, 8]), ([6, 9, 5], [5, 6, 9]), ([5, 10], [5, 10]), ([11, 9], [11]), ([12], [12]), ([13, 12], [12, 13]), ([12, 14], [12, 14]), ([15, 12], [15]), ([16], [16]), ([17, 16], [16, 17]), ([16, 18], [16, 18]), ([19, 16], [19]), ([20, 20], [20]), ([20, 21], [20, 21]), ([22, 21, 0, 1, 2, 3, 4, 5, 6, 7, 8, 9, 10, 11, 12, 13, 14, 15, 16, 17, 18, 19, 20, 21, 22], [22])])
def congoulaw04_CurvesValues.B5 : List Nat := [0, 0, 0, 6, 15, 31, 63, 63, 63, 447, 1023, 2047, 4095, 8191, 16383, 32767, 65535, 131071, 262143, 524287, 1048575, 2097151, 4194303, 8388607]
theorem congoulaw04_CurvesValues.tab5 : rtab .any (opsOf Try.f5 5) = congoulaw04_CurvesValues.T5 := by kernel_rfl
theorem congoulaw04_CurvesValues.bits5 : waitsOk congoulaw04_CurvesValues.T5.2 congoulaw04_CurvesValues.B5 = true := by kernel_rfl
set_option maxHeartbeats 8000000 in
set_option maxRecDepth 100000 in
theorem congoulaw04_CurvesValues.calls (k : Nat) (a0_0 : Int) (A0_1 : Option Addr) (c0_1 : Nat) (l0_1 : List Int) (A0_2 : Option Addr) (c0_2 : Nat) (l0_2 : List Int) (a1_0 : Int) (a1_1 : Int) (r : Bool) (w : World) (hr0_1 : Kd.C (Kd.int .i64) w A0_1 l0_1.length l0_1) (hc0_1 : l0_1.length ≤ c0_1) (hr0_2 : Kd.C (Kd.int .i64) w A0_2 l0_2.length l0_2) (hc0_2 : l0_2.length ≤ c0_2) (hrt : r = true) (h : congoulaw04_CurvesValues.f k a0_0 l0_1 l0_2 a1_0 a1_1 = some r) :
  Calls Try.prog 5 #[.agg #[.int .i64 a0_0, .slice A0_1 l0_1.length c0_1, .slice A0_2 l0_2.length c0_2], .agg #[.int .i64 a1_0, .int .i64 a1_1]] w fun e w' => e = .returned (.bool r) ∧ Below w.heap.size w w' := by
 have hu24 := Try.underlying24
 have hu26 := Try.underlying26
 have HR0_1 := Aside0.mk hr0_1
 have HC0_1 := Aside0.mk hc0_1
 clear hr0_1 hc0_1
 have HR0_2 := Aside0.mk hr0_2
 have HC0_2 := Aside0.mk hc0_2
 clear hr0_2 hc0_2
 have HB := Aside0.mk (Below.refl w.heap.size w)
 have H : ((congoulaw04_Of.f a0_0 l0_1 l0_2).bind fun bt503 => ((curves_Basic.f k bt503.1 bt503.2.1 bt503.2.2 a1_0 a1_1).bind fun bt510 => ((congoulaw04_Of.f a0_0 l0_1 l0_2).bind fun bt514 => ((curves_Value.f k bt514.1 bt514.2.1 bt514.2.2 a1_0 a1_1).bind fun bt521 => ((congoulaw04_fine.f k a0_0 l0_1 l0_2 a1_0 a1_1).bind fun t525 => (if t525 = true then ((congouref04_Basic.f k a0_0 l0_1 l0_2 a1_0 a1_1).bind fun t528 => ((api_Frac.f k bt510.1 t528).bind fun t531 => (if t531 = true then ((congouref04_Value.f k a0_0 l0_1 l0_2 a1_0 a1_1).bind fun bt532 => (if (bt521.1 == bt532.1 && (bt521.2.1 == bt532.2)) = true then (if bt510.2 = 0 then (if bt521.2.2 = 0 then ((congoulaw04_awake.f k).bind fun t534 => (some t534)) else (some false)) else (some false)) else (some false))) else (some false)))) else (if (bt510.1.length : Int) = 0 then ((congoulaw04_none.f bt521.1 bt521.2.1).bind fun t526 => (if t526 = true then (if bt510.2 = 2 then (if bt521.2.2 = 2 then ((congoulaw04_awake.f k).bind fun t527 => (some t527)) else (some false)) else (some false)) else (some false))) else (some false)))))))) = some r := h
 clear h
 have HRT := Aside0.mk hrt
 clear hrt
 replace H := Option.bind_eq_some_iff.mp H
 obtain ⟨⟨t503, t504, t507⟩, A30, H⟩ := H
 replace H : ((curves_Basic.f k t503 t504 t507 a1_0 a1_1).bind fun bt510 => ((congoulaw04_Of.f a0_0 l0_1 l0_2).bind fun bt514 => ((curves_Value.f k bt514.1 bt514.2.1 bt514.2.2 a1_0 a1_1).bind fun bt521 => ((congoulaw04_fine.f k a0_0 l0_1 l0_2 a1_0 a1_1).bind fun t525 => (if t525 = true then ((congouref04_Basic.f k a0_0 l0_1 l0_2 a1_0 a1_1).bind fun t528 => ((api_Frac.f k bt510.1 t528).bind fun t531 => (if t531 = true then ((congouref04_Value.f k a0_0 l0_1 l0_2 a1_0 a1_1).bind fun bt532 => (if (bt521.1 == bt532.1 && (bt521.2.1 == bt532.2)) = true then (if bt510.2 = 0 then (if bt521.2.2 = 0 then ((congoulaw04_awake.f k).bind fun t534 => (some t534)) else (some false)) else (some false)) else (some false))) else (some false)))) else (if (bt510.1.length : Int) = 0 then ((congoulaw04_none.f bt521.1 bt521.2.1).bind fun t526 => (if t526 = true then (if bt510.2 = 2 then (if bt521.2.2 = 2 then ((congoulaw04_awake.f k).bind fun t527 => (some t527)) else (some false)) else (some false)) else (some false))) else (some false))))))) = some r := H
 have A3 := Aside0.mk A30
 clear A30
 replace H := Option.bind_eq_some_iff.mp H
 obtain ⟨⟨t510, t513⟩, A40, H⟩ := H
 replace H : ((congoulaw04_Of.f a0_0 l0_1 l0_2).bind fun bt514 => ((curves_Value.f k bt514.1 bt514.2.1 bt514.2.2 a1_0 a1_1).bind fun bt521 => ((congoulaw04_fine.f k a0_0 l0_1 l0_2 a1_0 a1_1).bind fun t525 => (if t525 = true then ((congouref04_Basic.f k a0_0 l0_1 l0_2 a1_0 a1_1).bind fun t528 => ((api_Frac.f k t510 t528).bind fun t531 => (if t531 = true then ((congouref04_Value.f k a0_0 l0_1 l0_2 a1_0 a1_1).bind fun bt532 => (if (bt521.1 == bt532.1 && (bt521.2.1 == bt532.2)) = true then (if t513 = 0 then (if bt521.2.2 = 0 then ((congoulaw04_awake.f k).bind fun t534 => (some t534)) else (some false)) else (some false)) else (some false))) else (some false)))) else (if (t510.length : Int) = 0 then ((congoulaw04_none.f bt521.1 bt521.2.1).bind fun t526 => (if t526 = true then (if t513 = 2 then (if bt521.2.2 = 2 then ((congoulaw04_awake.f k).bind fun t527 => (some t527)) else (some false)) else (some false)) else (some false))) else (some false)))))) = some r := H
 have A4 := Aside0.mk A40
 clear A40
 replace H := Option.bind_eq_some_iff.mp H
 obtain ⟨⟨t514, t515, t518⟩, A50, H⟩ := H
 replace H : ((curves_Value.f k t514 t515 t518 a1_0 a1_1).bind fun bt521 => ((congoulaw04_fine.f k a0_0 l0_1 l0_2 a1_0 a1_1).bind fun t525 => (if t525 = true then ((congouref04_Basic.f k a0_0 l0_1 l0_2 a1_0 a1_1).bind fun t528 => ((api_Frac.f k t510 t528).bind fun t531 => (if t531 = true then ((congouref04_Value.f k a0_0 l0_1 l0_2 a1_0 a1_1).bind fun bt532 => (if (bt521.1 == bt532.1 && (bt521.2.1 == bt532.2)) = true then (if t513 = 0 then (if bt521.2.2 = 0 then ((congoulaw04_awake.f k).bind fun t534 => (some t534)) else (some false)) else (some false)) else (some false))) else (some false)))) else (if (t510.length : Int) = 0 then ((congoulaw04_none.f bt521.1 bt521.2.1).bind fun t526 => (if t526 = true then (if t513 = 2 then (if bt521.2.2 = 2 then ((congoulaw04_awake.f k).bind fun t527 => (some t527)) else (some false)) else (some false)) else (some false))) else (some false))))) = some r := H
 have A5 := Aside0.mk A50
 clear A50
 replace H := Option.bind_eq_some_iff.mp H
 obtain ⟨⟨t521, t522, t523⟩, A60, H⟩ := H
 replace H : ((congoulaw04_fine.f k a0_0 l0_1 l0_2 a1_0 a1_1).bind fun t525 => (if t525 = true then ((congouref04_Basic.f k a0_0 l0_1 l0_2 a1_0 a1_1).bind fun t528 => ((api_Frac.f k t510 t528).bind fun t531 => (if t531 = true then ((congouref04_Value.f k a0_0 l0_1 l0_2 a1_0 a1_1).bind fun bt532 => (if (t521 == bt532.1 && (t522 == bt532.2)) = true then (if t513 = 0 then (if t523 = 0 then ((congoulaw04_awake.f k).bind fun t534 => (some t534)) else (some false)) else (some false)) else (some false))) else (some false)))) else (if (t510.length : Int) = 0 then ((congoulaw04_none.f t521 t522).bind fun t526 => (if t526 = true then (if t513 = 2 then (if t523 = 2 then ((congoulaw04_awake.f k).bind fun t527 => (some t527)) else (some false)) else (some false)) else (some false))) else (some false)))) = some r := H
 have A6 := Aside0.mk A60
 clear A60
 replace H := Option.bind_eq_some_iff.mp H
 obtain ⟨t525, A70, H⟩ := H
 replace H : (if t525 = true then ((congouref04_Basic.f k a0_0 l0_1 l0_2 a1_0 a1_1).bind fun t528 => ((api_Frac.f k t510 t528).bind fun t531 => (if t531 = true then ((congouref04_Value.f k a0_0 l0_1 l0_2 a1_0 a1_1).bind fun bt532 => (if (t521 == bt532.1 && (t522 == bt532.2)) = true then (if t513 = 0 then (if t523 = 0 then ((congoulaw04_awake.f k).bind fun t534 => (some t534)) else (some false)) else (some false)) else (some false))) else (some false)))) else (if (t510.length : Int) = 0 then ((congoulaw04_none.f t521 t522).bind fun t526 => (if t526 = true then (if t513 = 2 then (if t523 = 2 then ((congoulaw04_awake.f k).bind fun t527 => (some t527)) else (some false)) else (some false)) else (some false))) else (some false))) = some r := H
 have A7 := Aside0.mk A70
 clear A70
 by_cases c8 : t525 = true
 ·subst c8
  have H1 : ((congouref04_Basic.f k a0_0 l0_1 l0_2 a1_0 a1_1).bind fun t528 => ((api_Frac.f k t510 t528).bind fun t531 => (if t531 = true then ((congouref04_Value.f k a0_0 l0_1 l0_2 a1_0 a1_1).bind fun bt532 => (if (t521 == bt532.1 && (t522 == bt532.2)) = true then (if t513 = 0 then (if t523 = 0 then ((congoulaw04_awake.f k).bind fun t534 => (some t534)) else (some false)) else (some false)) else (some false))) else (some false)))) = some r := by rw [if_pos rfl] at H; exact H
  clear H
  have H := H1
  clear H1
  replace H := Option.bind_eq_some_iff.mp H
  obtain ⟨t528, A90, H⟩ := H
  replace H : ((api_Frac.f k t510 t528).bind fun t531 => (if t531 = true then ((congouref04_Value.f k a0_0 l0_1 l0_2 a1_0 a1_1).bind fun bt532 => (if (t521 == bt532.1 && (t522 == bt532.2)) = true then (if t513 = 0 then (if t523 = 0 then ((congoulaw04_awake.f k).bind fun t534 => (some t534)) else (some false)) else (some false)) else (some false))) else (some false))) = some r := H
  have A9 := Aside0.mk A90
  clear A90
  replace H := Option.bind_eq_some_iff.mp H
  obtain ⟨t531, A100, H⟩ := H
  replace H : (if t531 = true then ((congouref04_Value.f k a0_0 l0_1 l0_2 a1_0 a1_1).bind fun bt532 => (if (t521 == bt532.1 && (t522 == bt532.2)) = true then (if t513 = 0 then (if t523 = 0 then ((congoulaw04_awake.f k).bind fun t534 => (some t534)) else (some false)) else (some false)) else (some false))) else (some false)) = some r := H
  have A10 := Aside0.mk A100
  clear A100
  by_cases c11 : t531 = true
  ·subst c11
   have H1 : ((congouref04_Value.f k a0_0 l0_1 l0_2 a1_0 a1_1).bind fun bt532 => (if (t521 == bt532.1 && (t522 == bt532.2)) = true then (if t513 = 0 then (if t523 = 0 then ((congoulaw04_awake.f k).bind fun t534 => (some t534)) else (some false)) else (some false)) else (some false))) = some r := by rw [if_pos rfl] at H; exact H
   clear H
   have H := H1
   clear H1
   replace H := Option.bind_eq_some_iff.mp H
   obtain ⟨⟨t532, t533⟩, A120, H⟩ := H
   replace H : (if (t521 == t532 && (t522 == t533)) = true then (if t513 = 0 then (if t523 = 0 then ((congoulaw04_awake.f k).bind fun t534 => (some t534)) else (some false)) else (some false)) else (some false)) = some r := H
   have A12 := Aside0.mk A120
   clear A120
   by_cases c13 : (t521 == t532 && (t522 == t533)) = true
   ·rw [if_pos c13] at H
    have c13b0 : (t521 == t532 && (t522 == t533)) = true := c13
    (try (have c13b1 : decide (t521 = t532 && (t522 == t533)) = true := by simpa using c13))
    (try (have c13b2 : (t521 == t532 && (t522 == t533)) = true := by simpa using c13))
    clear c13
    by_cases c14 : t513 = 0
    ·rw [if_pos c14] at H
     have c14b0 : (t513 == 0) = true := beq_iff_eq.mpr c14
     have c14b1 : (t513 != 0) = false := bne_eq_false_iff_eq.mpr c14
     clear c14
     by_cases c15 : t523 = 0
     ·rw [if_pos c15] at H
      have c15b0 : (t523 == 0) = true := beq_iff_eq.mpr c15
      have c15b1 : (t523 != 0) = false := bne_eq_false_iff_eq.mpr c15
      clear c15
      replace H := Option.bind_eq_some_iff.mp H
      obtain ⟨t534, A160, H⟩ := H
      replace H : (some t534) = some r := H
      have A16 := Aside0.mk A160
      clear A160
      obtain rfl := Option.some.inj H
      go_enter Try.func5, Try.ntmps5
      try go_wp2_with (first | ((with_reducible refine gate_dst (N := 2) rfl ?_); refine box_event ?hg (N := 2) ?hd (cs := #[.int .i64 a0_0, .slice A0_1 l0_1.length c0_1, .slice A0_2 l0_2.length c0_2]) (t := 24) ?hr ?_; (case hd => rfl); (case hg => rfl); (case hr => first | (go_simp; done) | (go_simp; rfl)); intro gb501 hg w17 hbox hb; have BK501 := Aside0.mk (hbox); have GW501 := kG w hg; have GE501 := kG w hg; replace HB := kH _ hb; clear hb hbox hg) | ((with_reducible refine gate_dst (N := 3) rfl ?_); refine box_event ?hg (N := 3) ?hd (cs := #[.int .i64 a1_0, .int .i64 a1_1]) (t := 26) ?hr ?_; (case hd => rfl); (case hg => rfl); (case hr => first | (go_simp; done) | (go_simp; rfl)); intro gb502 hg w18 hbox hb; have BK502 := Aside0.mk (hbox); have GW502 := kG w hg; have GE502 := kG w hg; replace HB := kH _ hb; have NB501_502 := kL BK501 hg; have NB502_501 := kR BK501 hg; replace BK501 := kB BK501 hb; clear hb hbox hg))
      replace BK501 := Aside0.mk (blk_drew BK501.out)
      replace BK502 := Aside0.mk (blk_drew BK502.out)
      replace HB := Aside0.mk (below_drew1 HB.out)
      refine sS (n := 9) (S := fun w' => w'.cell? ⟨gb501, 0, none⟩ = some (.int .i64 a0_0) ∧ w'.cell? ⟨gb501, 1, none⟩ = some (.slice A0_1 l0_1.length c0_1) ∧ w'.cell? ⟨gb501, 2, none⟩ = some (.slice A0_2 l0_2.length c0_2) ∧ w'.cell? ⟨gb502, 0, none⟩ = some (.int .i64 a1_0) ∧ w'.cell? ⟨gb502, 1, none⟩ = some (.int .i64 a1_1)) (ds := []) ⟨bc BK501 0, bc BK501 1, bc BK501 2, bc BK502 0, bc BK502 1⟩ (fun hHeld => ?_); refine with_tabW congoulaw04_CurvesValues.tab1 congoulaw04_CurvesValues.bits1 (fun HT_ HW_ => ?_)
      generalize w18.drew = w19 at BK501 BK502 HB hHeld ⊢
      refine tS HT_ HW_ hHeld 0 (some 10) (ba 9 1) ?_
      refine tS HT_ HW_ hHeld 2 (some 12) (ba 9 5) ?_
      refine one_ (i := 1) (N := some 11) (ba 9 7) rfl rfl (one_of HT_.out (by kernel_rfl)) (by decide) (fun K hK => ?_)
      refine goes_ Try.func15 (by kernel_rfl) rfl #[.agg #[.int .i64 a0_0, .slice A0_1 l0_1.length c0_1, .slice A0_2 l0_2.length c0_2]] (by rfl) rfl rfl (by (try simp only [List.map_toArray, List.map_cons, List.map_nil]); first | done | rfl | (simp only [List.length_drop, List.length_take]; rfl)) ?_
      with_reducible refine (congoulaw04_Of.calls a0_0 _ _ l0_1 _ _ l0_2 t503 t504 t507 _ ?side1 ?side2 ?side3 ?side4 A3.out).mono ?_
      (case side1 => exact kC HR0_1)
      (case side2 => exact HC0_1.out)
      (case side3 => exact kC HR0_2)
      (case side4 => exact HC0_2.out)
      rintro e w20 ⟨v505, v508, rfl, ho0, ho1, hb⟩
      refine ⟨_, rfl, ?_⟩
      have HO506 := Aside0.mk (Kd.R_lower ho0 (below_size (hbC _)))
      have HO509 := Aside0.mk (Kd.R_lower ho1 (below_size (hbC _)))
      replace BK501 := kB BK501 hb
      replace BK502 := kB BK502 hb
      replace HB := kH _ hb
      (try clear hb)
      (try clear hb2)
      (try clear hk)
      (try clear hi)
      (try clear ho0)
      (try clear ho1)
      obtain ⟨Ao21, co21, eo21⟩ := Kd.R_slice HO506.out
      (first | subst eo21 | (injection eo21 with f1_ f2_ f3_; have f4_ := f1_.symm; have f5_ := f3_.symm; clear f1_ f2_ f3_; subst f4_; subst f5_))
      obtain ⟨Ao22, co22, eo22⟩ := Kd.R_slice HO509.out
      (first | subst eo22 | (injection eo22 with f1_ f2_ f3_; have f4_ := f1_.symm; have f5_ := f3_.symm; clear f1_ f2_ f3_; subst f4_; subst f5_))
      refine hK.out _ _ ⟨bc BK501 0, bc BK501 1, bc BK501 2, bc BK502 0, bc BK502 1⟩ (fun hHeld => ?_)
      clear hK K
      refine norm_ (a' := ?_) ?_ ?_
      rotate_left
      ·show Act.put _ (some 11) _ = _
       simp only [Act.put, List.setIfInBounds_toArray, List.set_cons_zero, List.set_cons_succ, i64_w, i32_w]
       rfl
      refine one_ (i := 3) (N := some 13) (ba 9 15) rfl rfl (one_of HT_.out (by kernel_rfl)) (by decide) (fun K hK => ?_)
      refine goes_ Try.func18 (by kernel_rfl) rfl #[.agg #[.int .i64 t503, .slice Ao21 t504.length co21, .slice Ao22 t507.length co22], .agg #[.int .i64 a1_0, .int .i64 a1_1]] (by rfl) rfl rfl (by (try simp only [List.map_toArray, List.map_cons, List.map_nil]); first | done | rfl | (simp only [List.length_drop, List.length_take]; rfl)) ?_
      with_reducible refine (curves_Basic.calls k t503 _ _ t504 _ _ t507 a1_0 a1_1 t510 t513 _ ?side1 ?side2 ?side3 ?side4 A4.out).mono ?_
      (case side1 => exact kD (Kd.R_reads' HO506.out).2.2)
      (case side2 => exact (Kd.R_reads' HO506.out).2.1)
      (case side3 => exact kD (Kd.R_reads' HO509.out).2.2)
      (case side4 => exact (Kd.R_reads' HO509.out).2.1)
      rintro e w23 ⟨v511, rfl, ho0, hb⟩
      refine ⟨_, rfl, ?_⟩
      replace HO506 := kO HO506 hb
      replace HO509 := kO HO509 hb
      have HO512 := Aside0.mk (Kd.R_lower (Kd.R_newB ho0 (g := gb502) (o := .cells #[.int .i64 a1_0, .int .i64 a1_1] 26 (0, 0)) (bkC BK502)) (below_size (hbC _)))
      replace BK501 := kB BK501 hb
      replace BK502 := kB BK502 hb
      replace HB := kH _ hb
      (try clear hb)
      (try clear hb2)
      (try clear hk)
      (try clear hi)
      (try clear ho0)
      refine hK.out _ _ ⟨bc BK501 0, bc BK501 1, bc BK501 2, bc BK502 0, bc BK502 1⟩ (fun hHeld => ?_)
      clear hK K
      refine norm_ (a' := ?_) ?_ ?_
      rotate_left
      ·show Act.put _ (some 13) _ = _
       simp only [Act.put, List.setIfInBounds_toArray, List.set_cons_zero, List.set_cons_succ, i64_w, i32_w]
       rfl
      refine pS HT_ 4 (some 9) (ba 9 31) ?_
      refine pS HT_ 5 (some 14) (ba 9 63) ?_
      refine pS HT_ 6 (some 15) (ba 9 127) ?_
      refine pS HT_ 7 (some 5) (ba 9 255) ?_
      refine pS HT_ 8 (some 6) (ba 9 511) ?_
      refine done_ (done_of HT_.out (by kernel_rfl)) ?_
      try go_wp2
      replace HO506 := Aside0.mk (Kd.R_drew HO506.out)
      replace HO509 := Aside0.mk (Kd.R_drew HO509.out)
      replace HO512 := Aside0.mk (Kd.R_drew HO512.out)
      replace BK501 := Aside0.mk (blk_drew BK501.out)
      replace BK502 := Aside0.mk (blk_drew BK502.out)
      replace HB := Aside0.mk (below_drew1 HB.out)
      refine sS (n := 10) (S := fun w' => w'.cell? ⟨gb501, 0, none⟩ = some (.int .i64 a0_0) ∧ w'.cell? ⟨gb501, 1, none⟩ = some (.slice A0_1 l0_1.length c0_1) ∧ w'.cell? ⟨gb501, 2, none⟩ = some (.slice A0_2 l0_2.length c0_2) ∧ w'.cell? ⟨gb502, 0, none⟩ = some (.int .i64 a1_0) ∧ w'.cell? ⟨gb502, 1, none⟩ = some (.int .i64 a1_1)) (ds := []) ⟨bc BK501 0, bc BK501 1, bc BK501 2, bc BK502 0, bc BK502 1⟩ (fun hHeld => ?_); refine with_tabW congoulaw04_CurvesValues.tab2 congoulaw04_CurvesValues.bits2 (fun HT_ HW_ => ?_)
      generalize w23.drew = w24 at HO506 HO509 HO512 BK501 BK502 HB hHeld ⊢
      refine tS HT_ HW_ hHeld 0 (some 17) (ba 10 1) ?_
      refine tS HT_ HW_ hHeld 2 (some 19) (ba 10 5) ?_
      refine join_ (σ := Value × Value × Nat) 2 (ba 10 255) (fun s_ => [(18, .agg #[.int .i64 t514, s_.1, s_.2.1]), (20, .tuple #[.agg #[.int .i64 t521, .int .i64 t522], .int .i64 t523]), (7, .pointer (some ⟨s_.2.2, 0, none⟩)), (16, .tuple #[.agg #[.int .i64 t521, .int .i64 t522], .int .i64 t523]), (21, .agg #[.int .i64 t521, .int .i64 t522]), (22, .int .i64 t523)]) (fun s_ w' => (w'.cell? ⟨gb501, 0, none⟩ = some (.int .i64 a0_0) ∧ w'.cell? ⟨gb501, 1, none⟩ = some (.slice A0_1 l0_1.length c0_1) ∧ w'.cell? ⟨gb501, 2, none⟩ = some (.slice A0_2 l0_2.length c0_2) ∧ w'.cell? ⟨gb502, 0, none⟩ = some (.int .i64 a1_0) ∧ w'.cell? ⟨gb502, 1, none⟩ = some (.int .i64 a1_1)) ∧ (Kd.R (Kd.int .i64) 3 w' w.heap.size (fun k_ => some k_ ≠ (.slice Ao22 t507.length co22 : Value).ownBlock ∧ some k_ ≠ (s_.1 : Value).ownBlock ∧ some k_ ≠ (s_.2.1 : Value).ownBlock) (.slice Ao21 t504.length co21) t504) ∧ (Kd.R (Kd.int .i64) 3 w' w.heap.size (fun k_ => some k_ ≠ (.slice Ao21 t504.length co21 : Value).ownBlock ∧ some k_ ≠ (s_.1 : Value).ownBlock ∧ some k_ ≠ (s_.2.1 : Value).ownBlock) (.slice Ao22 t507.length co22) t507) ∧ (Kd.R k26 26 w' w.heap.size (fun k_ => k_ ≠ gb502 ∧ k_ ≠ s_.2.2) v511 t510) ∧ (Kd.R (Kd.int .i64) 3 w' w.heap.size (fun k_ => some k_ ≠ (.slice Ao21 t504.length co21 : Value).ownBlock ∧ some k_ ≠ (.slice Ao22 t507.length co22 : Value).ownBlock ∧ some k_ ≠ (s_.2.1 : Value).ownBlock) s_.1 t515) ∧ (Kd.R (Kd.int .i64) 3 w' w.heap.size (fun k_ => some k_ ≠ (.slice Ao21 t504.length co21 : Value).ownBlock ∧ some k_ ≠ (.slice Ao22 t507.length co22 : Value).ownBlock ∧ some k_ ≠ (s_.1 : Value).ownBlock) s_.2.1 t518) ∧ (w'.heap[gb501]? = some (.cells #[.int .i64 a0_0, .slice A0_1 l0_1.length c0_1, .slice A0_2 l0_2.length c0_2] 24 (0, 0))) ∧ (w'.heap[gb502]? = some (.cells #[.int .i64 a1_0, .int .i64 a1_1] 26 (0, 0))) ∧ (w'.heap[s_.2.2]? = some (.cells #[.int .i64 0, .int .i64 0] 26 (0, 0))) ∧ (w.heap.size ≤ s_.2.2) ∧ (w.heap.size ≤ s_.2.2) ∧ (gb501 ≠ s_.2.2) ∧ (s_.2.2 ≠ gb501) ∧ (gb502 ≠ s_.2.2) ∧ (s_.2.2 ≠ gb502) ∧ (Below w.heap.size w w')) ?_ ?_
      rotate_left
      ·intro hCont
       refine two_ (i := 1) (j := 7) (Ni := some 18) (Nj := some 7) (ba 10 7) (ba 10 133) rfl rfl rfl rfl (two_of HT_.out (by kernel_rfl)) (by decide) (by decide) (fun K hK => ?_) (fun K hK => ?_)
       ·skip
        refine goes_ Try.func15 (by kernel_rfl) rfl #[.agg #[.int .i64 a0_0, .slice A0_1 l0_1.length c0_1, .slice A0_2 l0_2.length c0_2]] (by rfl) rfl rfl (by (try simp only [List.map_toArray, List.map_cons, List.map_nil]); first | done | rfl | (simp only [List.length_drop, List.length_take]; rfl)) ?_
        with_reducible refine (congoulaw04_Of.calls a0_0 _ _ l0_1 _ _ l0_2 t514 t515 t518 _ ?side1 ?side2 ?side3 ?side4 A5.out).mono ?_
        (case side1 => exact kC HR0_1)
        (case side2 => exact HC0_1.out)
        (case side3 => exact kC HR0_2)
        (case side4 => exact HC0_2.out)
        rintro e w25 ⟨v516, v519, rfl, ho0, ho1, hb⟩
        refine ⟨_, rfl, ?_⟩
        replace HO512 := kO HO512 hb
        have HO517 := Aside0.mk (Kd.R_lower (Kd.R_new' (Kd.R_new' ho0 (Kd.R_lt (rC HO506))) (Kd.R_lt (rC HO509))) (below_size (hbC _)))
        have HO520 := Aside0.mk (Kd.R_lower (Kd.R_new' (Kd.R_new' ho1 (Kd.R_lt (rC HO506))) (Kd.R_lt (rC HO509))) (below_size (hbC _)))
        replace HO506 := Aside0.mk (Kd.R_mono (Kd.R_told (Kd.R_told (Kd.R_old (rC HO506) hb) (Kd.R_base ho0)) (Kd.R_base ho1)) (fun _ h_ => h_.1))
        replace HO509 := Aside0.mk (Kd.R_mono (Kd.R_told (Kd.R_told (Kd.R_old (rC HO509) hb) (Kd.R_base ho0)) (Kd.R_base ho1)) (fun _ h_ => h_.1))
        replace BK501 := kB BK501 hb
        replace BK502 := kB BK502 hb
        replace HB := kH _ hb
        (try clear hb)
        (try clear hb2)
        (try clear hk)
        (try clear hi)
        (try clear ho0)
        (try clear ho1)
        obtain ⟨Ao26, co26, eo26⟩ := Kd.R_slice HO517.out
        (first | subst eo26 | (injection eo26 with f1_ f2_ f3_; have f4_ := f1_.symm; have f5_ := f3_.symm; clear f1_ f2_ f3_; subst f4_; subst f5_))
        obtain ⟨Ao27, co27, eo27⟩ := Kd.R_slice HO520.out
        (first | subst eo27 | (injection eo27 with f1_ f2_ f3_; have f4_ := f1_.symm; have f5_ := f3_.symm; clear f1_ f2_ f3_; subst f4_; subst f5_))
        refine hK.out _ _ ⟨bc BK501 0, bc BK501 1, bc BK501 2, bc BK502 0, bc BK502 1⟩ (fun hHeld => ?_)
        clear hK K
        refine norm_ (a' := ?_) ?_ ?_
        rotate_left
        ·show Act.put _ (some 18) _ = _
         simp only [Act.put, List.setIfInBounds_toArray, List.set_cons_zero, List.set_cons_succ, i64_w, i32_w]
         rfl
        refine two_ (i := 3) (j := 7) (Ni := some 20) (Nj := some 7) (ba 10 15) (ba 10 135) rfl rfl rfl rfl (two_of HT_.out (by kernel_rfl)) (by decide) (by decide) (fun K hK => ?_) (fun K hK => ?_)
        ·skip
         refine goes_ Try.func14 (by kernel_rfl) rfl #[.agg #[.int .i64 t514, .slice Ao26 t515.length co26, .slice Ao27 t518.length co27], .agg #[.int .i64 a1_0, .int .i64 a1_1]] (by rfl) rfl rfl (by (try simp only [List.map_toArray, List.map_cons, List.map_nil]); first | done | rfl | (simp only [List.length_drop, List.length_take]; rfl)) ?_
         with_reducible refine (curves_Value.calls k t514 _ _ t515 _ _ t518 a1_0 a1_1 t521 t522 t523 _ ?side1 ?side2 ?side3 ?side4 A6.out).mono ?_
         (case side1 => exact kD (Kd.R_reads' HO517.out).2.2)
         (case side2 => exact (Kd.R_reads' HO517.out).2.1)
         (case side3 => exact kD (Kd.R_reads' HO520.out).2.2)
         (case side4 => exact (Kd.R_reads' HO520.out).2.1)
         rintro e w28 ⟨rfl, hb⟩
         refine ⟨_, rfl, ?_⟩
         replace HO506 := kO HO506 hb
         replace HO509 := kO HO509 hb
         replace HO512 := kO HO512 hb
         replace HO517 := kO HO517 hb
         replace HO520 := kO HO520 hb
         replace BK501 := kB BK501 hb
         replace BK502 := kB BK502 hb
         replace HB := kH _ hb
         (try clear hb)
         (try clear hb2)
         (try clear hk)
         (try clear hi)
         refine hK.out _ _ ⟨bc BK501 0, bc BK501 1, bc BK501 2, bc BK502 0, bc BK502 1⟩ (fun hHeld => ?_)
         clear hK K
         refine norm_ (a' := ?_) ?_ ?_
         rotate_left
         ·show Act.put _ (some 20) _ = _
          simp only [Act.put, List.setIfInBounds_toArray, List.set_cons_zero, List.set_cons_succ, i64_w, i32_w]
          rfl
         refine pS HT_ 4 (some 16) (ba 10 31) ?_
         refine pS HT_ 5 (some 21) (ba 10 63) ?_
         refine pS HT_ 6 (some 22) (ba 10 127) ?_
         refine one_ (i := 7) (N := some 7) (ba 10 255) rfl rfl (one_of HT_.out (by kernel_rfl)) (by decide) (fun K hK => ?_)
         refine box_step ?hg (N := 7) ?hd (cs := #[.int .i64 0, .int .i64 0]) (t := 26) ?hr ?_; (case hd => rfl); (case hg => rfl); (case hr => first | (go_simp; done) | (go_simp; rfl))
         intro gb524 hg w29 hbox hb
         replace HO506 := kO HO506 hb
         replace HO509 := kO HO509 hb
         replace HO512 := Aside0.mk (Kd.R_below (Kd.R_elderB (rC HO512) gb524 (Nat.le_of_eq hg.symm)) hb)
         replace HO517 := kO HO517 hb
         replace HO520 := kO HO520 hb
         have BK524 := Aside0.mk (hbox)
         have GW524 := kG w hg
         have GE524 := kG w hg
         replace HB := kH _ hb
         have NB501_524 := kL BK501 hg
         have NB524_501 := kR BK501 hg
         replace BK501 := kB BK501 hb
         have NB502_524 := kL BK502 hg
         have NB524_502 := kR BK502 hg
         replace BK502 := kB BK502 hb
         clear hb hbox hg
         refine hK.out _ _ ⟨bc BK501 0, bc BK501 1, bc BK501 2, bc BK502 0, bc BK502 1⟩ (fun hHeld => ?_)
         clear hK K
         refine norm_ (a' := ?_) ?_ ?_
         rotate_left
         ·show Act.put _ (some 7) _ = _
          simp only [Act.put, List.setIfInBounds_toArray, List.set_cons_zero, List.set_cons_succ, i64_w, i32_w]
          rfl
         exact norm_ (by simp only [putAll, Act.put, List.setIfInBounds_toArray, List.set_cons_zero, List.set_cons_succ]) (hCont (.slice Ao26 t515.length co26, .slice Ao27 t518.length co27, gb524) _ ⟨hHeld, (by (with_reducible repeat (first | apply Kd.R_alloc | apply Kd.R_drewN | apply Kd.R_drew)); exact Kd.R_mono HO506.out (fun _ hk => ⟨hk.1.1, ⟨hk.1.2, hk.2⟩⟩)), (by (with_reducible repeat (first | apply Kd.R_alloc | apply Kd.R_drewN | apply Kd.R_drew)); exact Kd.R_mono HO509.out (fun _ hk => ⟨hk.1.1, ⟨hk.1.2, hk.2⟩⟩)), (by (with_reducible repeat (first | apply Kd.R_alloc | apply Kd.R_drewN | apply Kd.R_drew)); exact Kd.R_mono HO512.out (fun _ hk => ⟨hk.1.2, hk.2⟩)), (by (with_reducible repeat (first | apply Kd.R_alloc | apply Kd.R_drewN | apply Kd.R_drew)); exact Kd.R_mono HO517.out (fun _ hk => ⟨hk.1.2, ⟨hk.2, hk.1.1⟩⟩)), (by (with_reducible repeat (first | apply Kd.R_alloc | apply Kd.R_drewN | apply Kd.R_drew)); exact Kd.R_mono HO520.out (fun _ hk => ⟨hk.1.2, ⟨hk.2, hk.1.1⟩⟩)), (bkC BK501), (bkC BK502), (bkC BK524), GW524.out, GE524.out, NB501_524.out, NB524_501.out, NB502_524.out, NB524_502.out, (hbC _)⟩)
        ·skip
         refine box_step ?hg (N := 7) ?hd (cs := #[.int .i64 0, .int .i64 0]) (t := 26) ?hr ?_; (case hd => rfl); (case hg => rfl); (case hr => first | (go_simp; done) | (go_simp; rfl))
         intro gb524 hg w26 hbox hb
         replace HO506 := kO HO506 hb
         replace HO509 := kO HO509 hb
         replace HO512 := Aside0.mk (Kd.R_below (Kd.R_elderB (rC HO512) gb524 (Nat.le_of_eq hg.symm)) hb)
         replace HO517 := kO HO517 hb
         replace HO520 := kO HO520 hb
         have BK524 := Aside0.mk (hbox)
         have GW524 := kG w hg
         have GE524 := kG w hg
         replace HB := kH _ hb
         have NB501_524 := kL BK501 hg
         have NB524_501 := kR BK501 hg
         replace BK501 := kB BK501 hb
         have NB502_524 := kL BK502 hg
         have NB524_502 := kR BK502 hg
         replace BK502 := kB BK502 hb
         clear hb hbox hg
         obtain ⟨Ao27, co27, eo27⟩ := Kd.R_slice HO517.out
         (first | subst eo27 | (injection eo27 with f1_ f2_ f3_; have f4_ := f1_.symm; have f5_ := f3_.symm; clear f1_ f2_ f3_; subst f4_; subst f5_))
         obtain ⟨Ao28, co28, eo28⟩ := Kd.R_slice HO520.out
         (first | subst eo28 | (injection eo28 with f1_ f2_ f3_; have f4_ := f1_.symm; have f5_ := f3_.symm; clear f1_ f2_ f3_; subst f4_; subst f5_))
         refine hK.out _ _ ⟨bc BK501 0, bc BK501 1, bc BK501 2, bc BK502 0, bc BK502 1⟩ (fun hHeld => ?_)
         clear hK K
         refine norm_ (a' := ?_) ?_ ?_
         rotate_left
         ·show Act.put _ (some 7) _ = _
          simp only [Act.put, List.setIfInBounds_toArray, List.set_cons_zero, List.set_cons_succ, i64_w, i32_w]
          rfl
         refine one_ (i := 3) (N := some 20) (ba 10 143) rfl rfl (one_of HT_.out (by kernel_rfl)) (by decide) (fun K hK => ?_)
         refine goes_ Try.func14 (by kernel_rfl) rfl #[.agg #[.int .i64 t514, .slice Ao27 t515.length co27, .slice Ao28 t518.length co28], .agg #[.int .i64 a1_0, .int .i64 a1_1]] (by rfl) rfl rfl (by (try simp only [List.map_toArray, List.map_cons, List.map_nil]); first | done | rfl | (simp only [List.length_drop, List.length_take]; rfl)) ?_
         with_reducible refine (curves_Value.calls k t514 _ _ t515 _ _ t518 a1_0 a1_1 t521 t522 t523 _ ?side1 ?side2 ?side3 ?side4 A6.out).mono ?_
         (case side1 => exact kD (Kd.R_reads' HO517.out).2.2)
         (case side2 => exact (Kd.R_reads' HO517.out).2.1)
         (case side3 => exact kD (Kd.R_reads' HO520.out).2.2)
         (case side4 => exact (Kd.R_reads' HO520.out).2.1)
         rintro e w29 ⟨rfl, hb⟩
         refine ⟨_, rfl, ?_⟩
         replace HO506 := kO HO506 hb
         replace HO509 := kO HO509 hb
         replace HO512 := kO HO512 hb
         replace HO517 := kO HO517 hb
         replace HO520 := kO HO520 hb
         replace BK501 := kB BK501 hb
         replace BK502 := kB BK502 hb
         replace BK524 := kB BK524 hb
         replace HB := kH _ hb
         (try clear hb)
         (try clear hb2)
         (try clear hk)
         (try clear hi)
         refine hK.out _ _ ⟨bc BK501 0, bc BK501 1, bc BK501 2, bc BK502 0, bc BK502 1⟩ (fun hHeld => ?_)
         clear hK K
         refine norm_ (a' := ?_) ?_ ?_
         rotate_left
         ·show Act.put _ (some 20) _ = _
          simp only [Act.put, List.setIfInBounds_toArray, List.set_cons_zero, List.set_cons_succ, i64_w, i32_w]
          rfl
         refine pS HT_ 4 (some 16) (ba 10 159) ?_
         refine pS HT_ 5 (some 21) (ba 10 191) ?_
         refine pS HT_ 6 (some 22) (ba 10 255) ?_
         exact norm_ (by simp only [putAll, Act.put, List.setIfInBounds_toArray, List.set_cons_zero, List.set_cons_succ]) (hCont (.slice Ao27 t515.length co27, .slice Ao28 t518.length co28, gb524) _ ⟨hHeld, (by (with_reducible repeat (first | apply Kd.R_alloc | apply Kd.R_drewN | apply Kd.R_drew)); exact Kd.R_mono HO506.out (fun _ hk => ⟨hk.1.1, ⟨hk.1.2, hk.2⟩⟩)), (by (with_reducible repeat (first | apply Kd.R_alloc | apply Kd.R_drewN | apply Kd.R_drew)); exact Kd.R_mono HO509.out (fun _ hk => ⟨hk.1.1, ⟨hk.1.2, hk.2⟩⟩)), (by (with_reducible repeat (first | apply Kd.R_alloc | apply Kd.R_drewN | apply Kd.R_drew)); exact Kd.R_mono HO512.out (fun _ hk => ⟨hk.1.2, hk.2⟩)), (by (with_reducible repeat (first | apply Kd.R_alloc | apply Kd.R_drewN | apply Kd.R_drew)); exact Kd.R_mono HO517.out (fun _ hk => ⟨hk.1.2, ⟨hk.2, hk.1.1⟩⟩)), (by (with_reducible repeat (first | apply Kd.R_alloc | apply Kd.R_drewN | apply Kd.R_drew)); exact Kd.R_mono HO520.out (fun _ hk => ⟨hk.1.2, ⟨hk.2, hk.1.1⟩⟩)), (bkC BK501), (bkC BK502), (bkC BK524), GW524.out, GE524.out, NB501_524.out, NB524_501.out, NB502_524.out, NB524_502.out, (hbC _)⟩)
       ·skip
        refine box_step ?hg (N := 7) ?hd (cs := #[.int .i64 0, .int .i64 0]) (t := 26) ?hr ?_; (case hd => rfl); (case hg => rfl); (case hr => first | (go_simp; done) | (go_simp; rfl))
        intro gb524 hg w25 hbox hb
        replace HO506 := kO HO506 hb
        replace HO509 := kO HO509 hb
        replace HO512 := Aside0.mk (Kd.R_below (Kd.R_elderB (rC HO512) gb524 (Nat.le_of_eq hg.symm)) hb)
        have BK524 := Aside0.mk (hbox)
        have GW524 := kG w hg
        have GE524 := kG w hg
        replace HB := kH _ hb
        have NB501_524 := kL BK501 hg
        have NB524_501 := kR BK501 hg
        replace BK501 := kB BK501 hb
        have NB502_524 := kL BK502 hg
        have NB524_502 := kR BK502 hg
        replace BK502 := kB BK502 hb
        clear hb hbox hg
        refine hK.out _ _ ⟨bc BK501 0, bc BK501 1, bc BK501 2, bc BK502 0, bc BK502 1⟩ (fun hHeld => ?_)
        clear hK K
        refine norm_ (a' := ?_) ?_ ?_
        rotate_left
        ·show Act.put _ (some 7) _ = _
         simp only [Act.put, List.setIfInBounds_toArray, List.set_cons_zero, List.set_cons_succ, i64_w, i32_w]
         rfl
        refine one_ (i := 1) (N := some 18) (ba 10 135) rfl rfl (one_of HT_.out (by kernel_rfl)) (by decide) (fun K hK => ?_)
        refine goes_ Try.func15 (by kernel_rfl) rfl #[.agg #[.int .i64 a0_0, .slice A0_1 l0_1.length c0_1, .slice A0_2 l0_2.length c0_2]] (by rfl) rfl rfl (by (try simp only [List.map_toArray, List.map_cons, List.map_nil]); first | done | rfl | (simp only [List.length_drop, List.length_take]; rfl)) ?_
        with_reducible refine (congoulaw04_Of.calls a0_0 _ _ l0_1 _ _ l0_2 t514 t515 t518 _ ?side1 ?side2 ?side3 ?side4 A5.out).mono ?_
        (case side1 => exact kC HR0_1)
        (case side2 => exact HC0_1.out)
        (case side3 => exact kC HR0_2)
        (case side4 => exact HC0_2.out)
        rintro e w26 ⟨v516, v519, rfl, ho0, ho1, hb⟩
        refine ⟨_, rfl, ?_⟩
        replace HO512 := kO HO512 hb
        have HO517 := Aside0.mk (Kd.R_lower (Kd.R_new' (Kd.R_new' ho0 (Kd.R_lt (rC HO506))) (Kd.R_lt (rC HO509))) (below_size (hbC _)))
        have HO520 := Aside0.mk (Kd.R_lower (Kd.R_new' (Kd.R_new' ho1 (Kd.R_lt (rC HO506))) (Kd.R_lt (rC HO509))) (below_size (hbC _)))
        replace HO506 := Aside0.mk (Kd.R_mono (Kd.R_told (Kd.R_told (Kd.R_old (rC HO506) hb) (Kd.R_base ho0)) (Kd.R_base ho1)) (fun _ h_ => h_.1))
        replace HO509 := Aside0.mk (Kd.R_mono (Kd.R_told (Kd.R_told (Kd.R_old (rC HO509) hb) (Kd.R_base ho0)) (Kd.R_base ho1)) (fun _ h_ => h_.1))
        replace BK501 := kB BK501 hb
        replace BK502 := kB BK502 hb
        replace BK524 := kB BK524 hb
        replace HB := kH _ hb
        (try clear hb)
        (try clear hb2)
        (try clear hk)
        (try clear hi)
        (try clear ho0)
        (try clear ho1)
        obtain ⟨Ao27, co27, eo27⟩ := Kd.R_slice HO517.out
        (first | subst eo27 | (injection eo27 with f1_ f2_ f3_; have f4_ := f1_.symm; have f5_ := f3_.symm; clear f1_ f2_ f3_; subst f4_; subst f5_))
        obtain ⟨Ao28, co28, eo28⟩ := Kd.R_slice HO520.out
        (first | subst eo28 | (injection eo28 with f1_ f2_ f3_; have f4_ := f1_.symm; have f5_ := f3_.symm; clear f1_ f2_ f3_; subst f4_; subst f5_))
        refine hK.out _ _ ⟨bc BK501 0, bc BK501 1, bc BK501 2, bc BK502 0, bc BK502 1⟩ (fun hHeld => ?_)
        clear hK K
        refine norm_ (a' := ?_) ?_ ?_
        rotate_left
        ·show Act.put _ (some 18) _ = _
         simp only [Act.put, List.setIfInBounds_toArray, List.set_cons_zero, List.set_cons_succ, i64_w, i32_w]
         rfl
        refine one_ (i := 3) (N := some 20) (ba 10 143) rfl rfl (one_of HT_.out (by kernel_rfl)) (by decide) (fun K hK => ?_)
        refine goes_ Try.func14 (by kernel_rfl) rfl #[.agg #[.int .i64 t514, .slice Ao27 t515.length co27, .slice Ao28 t518.length co28], .agg #[.int .i64 a1_0, .int .i64 a1_1]] (by rfl) rfl rfl (by (try simp only [List.map_toArray, List.map_cons, List.map_nil]); first | done | rfl | (simp only [List.length_drop, List.length_take]; rfl)) ?_
        with_reducible refine (curves_Value.calls k t514 _ _ t515 _ _ t518 a1_0 a1_1 t521 t522 t523 _ ?side1 ?side2 ?side3 ?side4 A6.out).mono ?_
        (case side1 => exact kD (Kd.R_reads' HO517.out).2.2)
        (case side2 => exact (Kd.R_reads' HO517.out).2.1)
        (case side3 => exact kD (Kd.R_reads' HO520.out).2.2)
        (case side4 => exact (Kd.R_reads' HO520.out).2.1)
        rintro e w29 ⟨rfl, hb⟩
        refine ⟨_, rfl, ?_⟩
        replace HO506 := kO HO506 hb
        replace HO509 := kO HO509 hb
        replace HO512 := kO HO512 hb
        replace HO517 := kO HO517 hb
        replace HO520 := kO HO520 hb
        replace BK501 := kB BK501 hb
        replace BK502 := kB BK502 hb
        replace BK524 := kB BK524 hb
        replace HB := kH _ hb
        (try clear hb)
        (try clear hb2)
        (try clear hk)
        (try clear hi)
        refine hK.out _ _ ⟨bc BK501 0, bc BK501 1, bc BK501 2, bc BK502 0, bc BK502 1⟩ (fun hHeld => ?_)
        clear hK K
        refine norm_ (a' := ?_) ?_ ?_
        rotate_left
        ·show Act.put _ (some 20) _ = _
         simp only [Act.put, List.setIfInBounds_toArray, List.set_cons_zero, List.set_cons_succ, i64_w, i32_w]
         rfl
        refine pS HT_ 4 (some 16) (ba 10 159) ?_
        refine pS HT_ 5 (some 21) (ba 10 191) ?_
        refine pS HT_ 6 (some 22) (ba 10 255) ?_
        exact norm_ (by simp only [putAll, Act.put, List.setIfInBounds_toArray, List.set_cons_zero, List.set_cons_succ]) (hCont (.slice Ao27 t515.length co27, .slice Ao28 t518.length co28, gb524) _ ⟨hHeld, (by (with_reducible repeat (first | apply Kd.R_alloc | apply Kd.R_drewN | apply Kd.R_drew)); exact Kd.R_mono HO506.out (fun _ hk => ⟨hk.1.1, ⟨hk.1.2, hk.2⟩⟩)), (by (with_reducible repeat (first | apply Kd.R_alloc | apply Kd.R_drewN | apply Kd.R_drew)); exact Kd.R_mono HO509.out (fun _ hk => ⟨hk.1.1, ⟨hk.1.2, hk.2⟩⟩)), (by (with_reducible repeat (first | apply Kd.R_alloc | apply Kd.R_drewN | apply Kd.R_drew)); exact Kd.R_mono HO512.out (fun _ hk => ⟨hk.1.2, hk.2⟩)), (by (with_reducible repeat (first | apply Kd.R_alloc | apply Kd.R_drewN | apply Kd.R_drew)); exact Kd.R_mono HO517.out (fun _ hk => ⟨hk.1.2, ⟨hk.2, hk.1.1⟩⟩)), (by (with_reducible repeat (first | apply Kd.R_alloc | apply Kd.R_drewN | apply Kd.R_drew)); exact Kd.R_mono HO520.out (fun _ hk => ⟨hk.1.2, ⟨hk.2, hk.1.1⟩⟩)), (bkC BK501), (bkC BK502), (bkC BK524), GW524.out, GE524.out, NB501_524.out, NB524_501.out, NB502_524.out, NB524_502.out, (hbC _)⟩)
      rintro ⟨v516, v519, gb524⟩ w30 ⟨hS_, h0_, h1_, h2_, h3_, h4_, h5_, h6_, h7_, h8_, h9_, h10_, h11_, h12_, h13_, h14_⟩
      have n0_ : Aside0 (Kd.R (Kd.int .i64) 3 w30 w.heap.size (fun k_ => some k_ ≠ (.slice Ao22 t507.length co22 : Value).ownBlock ∧ some k_ ≠ (v516 : Value).ownBlock ∧ some k_ ≠ (v519 : Value).ownBlock) (.slice Ao21 t504.length co21) t504) := ⟨h0_⟩
      have n1_ : Aside0 (Kd.R (Kd.int .i64) 3 w30 w.heap.size (fun k_ => some k_ ≠ (.slice Ao21 t504.length co21 : Value).ownBlock ∧ some k_ ≠ (v516 : Value).ownBlock ∧ some k_ ≠ (v519 : Value).ownBlock) (.slice Ao22 t507.length co22) t507) := ⟨h1_⟩
      have n2_ : Aside0 (Kd.R k26 26 w30 w.heap.size (fun k_ => k_ ≠ gb502 ∧ k_ ≠ gb524) v511 t510) := ⟨h2_⟩
      have n3_ : Aside0 (Kd.R (Kd.int .i64) 3 w30 w.heap.size (fun k_ => some k_ ≠ (.slice Ao21 t504.length co21 : Value).ownBlock ∧ some k_ ≠ (.slice Ao22 t507.length co22 : Value).ownBlock ∧ some k_ ≠ (v519 : Value).ownBlock) v516 t515) := ⟨h3_⟩
      have n4_ : Aside0 (Kd.R (Kd.int .i64) 3 w30 w.heap.size (fun k_ => some k_ ≠ (.slice Ao21 t504.length co21 : Value).ownBlock ∧ some k_ ≠ (.slice Ao22 t507.length co22 : Value).ownBlock ∧ some k_ ≠ (v516 : Value).ownBlock) v519 t518) := ⟨h4_⟩
      have n5_ : Aside0 (w30.heap[gb501]? = some (.cells #[.int .i64 a0_0, .slice A0_1 l0_1.length c0_1, .slice A0_2 l0_2.length c0_2] 24 (0, 0))) := ⟨h5_⟩
      have n6_ : Aside0 (w30.heap[gb502]? = some (.cells #[.int .i64 a1_0, .int .i64 a1_1] 26 (0, 0))) := ⟨h6_⟩
      have n7_ : Aside0 (w30.heap[gb524]? = some (.cells #[.int .i64 0, .int .i64 0] 26 (0, 0))) := ⟨h7_⟩
      have n8_ : Aside0 (w.heap.size ≤ gb524) := ⟨h8_⟩
      have n9_ : Aside0 (w.heap.size ≤ gb524) := ⟨h9_⟩
      have n10_ : Aside0 (gb501 ≠ gb524) := ⟨h10_⟩
      have n11_ : Aside0 (gb524 ≠ gb501) := ⟨h11_⟩
      have n12_ : Aside0 (gb502 ≠ gb524) := ⟨h12_⟩
      have n13_ : Aside0 (gb524 ≠ gb502) := ⟨h13_⟩
      have n14_ : Aside0 (Below w.heap.size w w30) := ⟨h14_⟩
      clear HO506
      clear HO509
      clear HO512
      clear BK501
      clear BK502
      clear HB
      clear h0_ h1_ h2_ h3_ h4_ h5_ h6_ h7_ h8_ h9_ h10_ h11_ h12_ h13_ h14_
      have HO506 := n0_
      have HO509 := n1_
      have HO512 := n2_
      have HO517 := n3_
      have HO520 := n4_
      have BK501 := n5_
      have BK502 := n6_
      have BK524 := n7_
      have GW524 := n8_
      have GE524 := n9_
      have NB501_524 := n10_
      have NB524_501 := n11_
      have NB502_524 := n12_
      have NB524_502 := n13_
      have HB := n14_
      clear n0_ n1_ n2_ n3_ n4_ n5_ n6_ n7_ n8_ n9_ n10_ n11_ n12_ n13_ n14_
      have hHeld : w30.cell? ⟨gb501, 0, none⟩ = some (.int .i64 a0_0) ∧ w30.cell? ⟨gb501, 1, none⟩ = some (.slice A0_1 l0_1.length c0_1) ∧ w30.cell? ⟨gb501, 2, none⟩ = some (.slice A0_2 l0_2.length c0_2) ∧ w30.cell? ⟨gb502, 0, none⟩ = some (.int .i64 a1_0) ∧ w30.cell? ⟨gb502, 1, none⟩ = some (.int .i64 a1_1) := hS_
      refine norm_ (a' := ?_) ?_ ?_
      rotate_left
      ·simp only [putAll, Act.put, List.setIfInBounds_toArray, List.set_cons_zero, List.set_cons_succ]
       rfl
      refine one_ (i := 8) (N := none) (ba 10 511) rfl rfl (one_of HT_.out (by kernel_rfl)) (by decide) (fun K hK => ?_)
      have hs31 : w30.cell? ⟨gb524, 0, none⟩ = some (.int .i64 0) := bc BK524 0
      have hfs31 := blk_frozen BK524.out 0
      have hns31_0 := NB501_524.out
      have hns31_1 := NB502_524.out
      have hms31_0 := NB524_501.out
      have hms31_1 := NB524_502.out
      have hs32 : w30.cell? ⟨gb524, 1, none⟩ = some (.int .i64 0) := bc BK524 1
      have hfs32 := blk_frozen BK524.out 1
      have hns32_0 := NB501_524.out
      have hns32_1 := NB502_524.out
      have hms32_0 := NB524_501.out
      have hms32_1 := NB524_502.out
      refine skip_ (w1 := ?_) (by rfl) rfl ?_ ?_
      rotate_left
      ·go_simp
       rfl
      refine hK.out _ _ ⟨((cell_far (p := ⟨gb524, _, none⟩) NB501_524.out _).trans (((cell_far (p := ⟨gb524, _, none⟩) NB501_524.out _).trans (hHeld.1)))), ((cell_far (p := ⟨gb524, _, none⟩) NB501_524.out _).trans (((cell_far (p := ⟨gb524, _, none⟩) NB501_524.out _).trans (hHeld.2.1)))), ((cell_far (p := ⟨gb524, _, none⟩) NB501_524.out _).trans (((cell_far (p := ⟨gb524, _, none⟩) NB501_524.out _).trans (hHeld.2.2.1)))), ((cell_far (p := ⟨gb524, _, none⟩) NB502_524.out _).trans (((cell_far (p := ⟨gb524, _, none⟩) NB502_524.out _).trans (hHeld.2.2.2.1)))), ((cell_far (p := ⟨gb524, _, none⟩) NB502_524.out _).trans (((cell_far (p := ⟨gb524, _, none⟩) NB502_524.out _).trans (hHeld.2.2.2.2))))⟩ (fun hHeld => ?_)
      clear hK K
      refine pS HT_ 9 (some 8) (ba 10 1023) ?_
      refine done_ (done_of HT_.out (by kernel_rfl)) ?_
      have hnb33 := NB501_502.out
      have hnc33 := NB502_501.out
      have hnb34 := NB501_524.out
      have hnc34 := NB524_501.out
      have hcz35_0 : w30.cell? ⟨gb501, 0, none⟩ = some (.int .i64 a0_0) := bc BK501 0
      have hcz35_1 : w30.cell? ⟨gb501, 1, none⟩ = some (.slice A0_1 l0_1.length c0_1) := bc BK501 1
      have hcz35_2 : w30.cell? ⟨gb501, 2, none⟩ = some (.slice A0_2 l0_2.length c0_2) := bc BK501 2
      have hfz35_0 := blk_frozen BK501.out 0
      have hfz35_1 := blk_frozen BK501.out 1
      have hfz35_2 := blk_frozen BK501.out 2
      have hnb36 := NB502_524.out
      have hnc36 := NB524_502.out
      have hcz37_0 : w30.cell? ⟨gb502, 0, none⟩ = some (.int .i64 a1_0) := bc BK502 0
      have hcz37_1 : w30.cell? ⟨gb502, 1, none⟩ = some (.int .i64 a1_1) := bc BK502 1
      have hfz37_0 := blk_frozen BK502.out 0
      have hfz37_1 := blk_frozen BK502.out 1
      try go_wp2_with (first | ((with_reducible refine gate_callee (f := 16) rfl ?_); refine goesL_ (some 25) rfl rfl Try.func16 (by kernel_rfl) rfl #[.agg #[.int .i64 a0_0, .slice A0_1 l0_1.length c0_1, .slice A0_2 l0_2.length c0_2], .agg #[.int .i64 a1_0, .int .i64 a1_1]] rfl (by (try simp only [List.map_toArray, List.map_cons, List.map_nil]); first | done | rfl | (simp only [List.length_drop, List.length_take]; rfl)) ?_; (with_reducible refine (congoulaw04_fine.calls k a0_0 _ _ l0_1 _ _ l0_2 a1_0 a1_1 true _ ?side1 ?side2 ?side3 ?side4 A7.out).mono ?_); (case side1 => exact Kd.C_below HR0_1.out (hbC _)); (case side2 => exact HC0_1.out); (case side3 => exact Kd.C_below HR0_2.out (hbC _)); (case side4 => exact HC0_2.out); rintro e w38 ⟨rfl, hb⟩; refine ⟨_, rfl, ?_⟩; replace HO506 := Aside0.mk (Kd.R_below (by (with_reducible repeat (first | apply Kd.R_alloc | apply Kd.R_drewN | apply Kd.R_drew)); exact (Kd.R_mono (Kd.R_far (p := ⟨gb524, 1, none⟩) (Kd.R_far (p := ⟨gb524, 0, none⟩) (Kd.R_types HO506.out BK524.out (by decide)) (fun _ hk => hk.2) (.int .i64 t521)) (fun _ hk => hk.2) (.int .i64 t522)) (fun _ h_ => h_.1))) hb); replace HO509 := Aside0.mk (Kd.R_below (by (with_reducible repeat (first | apply Kd.R_alloc | apply Kd.R_drewN | apply Kd.R_drew)); exact (Kd.R_mono (Kd.R_far (p := ⟨gb524, 1, none⟩) (Kd.R_far (p := ⟨gb524, 0, none⟩) (Kd.R_types HO509.out BK524.out (by decide)) (fun _ hk => hk.2) (.int .i64 t521)) (fun _ hk => hk.2) (.int .i64 t522)) (fun _ h_ => h_.1))) hb); replace HO512 := Aside0.mk (Kd.R_below (by (with_reducible repeat (first | apply Kd.R_alloc | apply Kd.R_drewN | apply Kd.R_drew)); exact (Kd.R_mono (Kd.R_far (p := ⟨gb524, 1, none⟩) (Kd.R_far (p := ⟨gb524, 0, none⟩) (Kd.R_mono HO512.out (fun k_ hk => (⟨hk, hk.2⟩ : _ ∧ k_ ≠ gb524))) (fun _ hk => hk.2) (.int .i64 t521)) (fun _ hk => hk.2) (.int .i64 t522)) (fun _ h_ => h_.1))) hb); replace HO517 := Aside0.mk (Kd.R_below (by (with_reducible repeat (first | apply Kd.R_alloc | apply Kd.R_drewN | apply Kd.R_drew)); exact (Kd.R_mono (Kd.R_far (p := ⟨gb524, 1, none⟩) (Kd.R_far (p := ⟨gb524, 0, none⟩) (Kd.R_types HO517.out BK524.out (by decide)) (fun _ hk => hk.2) (.int .i64 t521)) (fun _ hk => hk.2) (.int .i64 t522)) (fun _ h_ => h_.1))) hb); replace HO520 := Aside0.mk (Kd.R_below (by (with_reducible repeat (first | apply Kd.R_alloc | apply Kd.R_drewN | apply Kd.R_drew)); exact (Kd.R_mono (Kd.R_far (p := ⟨gb524, 1, none⟩) (Kd.R_far (p := ⟨gb524, 0, none⟩) (Kd.R_types HO520.out BK524.out (by decide)) (fun _ hk => hk.2) (.int .i64 t521)) (fun _ hk => hk.2) (.int .i64 t522)) (fun _ h_ => h_.1))) hb); replace BK501 := Aside0.mk (blk_below (g := gb501) (o := .cells #[.int .i64 a0_0, .slice A0_1 l0_1.length c0_1, .slice A0_2 l0_2.length c0_2] 24 (0, 0)) (bF BK501) hb); replace BK502 := Aside0.mk (blk_below (g := gb502) (o := .cells #[.int .i64 a1_0, .int .i64 a1_1] 26 (0, 0)) (bF BK502) hb); replace BK524 := Aside0.mk (blk_below (g := gb524) (o := .cells #[.int .i64 t521, .int .i64 t522] 26 (0, 0)) (by (with_reducible repeat (first | refine blk_drewN ?_ _ | refine blk_drew ?_ | refine blk_alloc ?_ _)); refine blk_put (cs := #[.int .i64 t521, .int .i64 0]) ?_ 1 _ rfl; (with_reducible repeat (first | refine blk_drewN ?_ _ | refine blk_drew ?_ | refine blk_alloc ?_ _)); refine blk_put (cs := #[.int .i64 0, .int .i64 0]) ?_ 0 _ rfl; (with_reducible repeat (first | refine blk_drewN ?_ _ | refine blk_drew ?_ | refine blk_alloc ?_ _)); exact BK524.out) hb); replace HB := kH _ hb; (try clear hb); (try clear hb2); (try clear hk); (try clear hi)))
      replace HO506 := Aside0.mk (Kd.R_drew HO506.out)
      replace HO509 := Aside0.mk (Kd.R_drew HO509.out)
      replace HO512 := Aside0.mk (Kd.R_drew HO512.out)
      replace HO517 := Aside0.mk (Kd.R_drew HO517.out)
      replace HO520 := Aside0.mk (Kd.R_drew HO520.out)
      replace BK501 := Aside0.mk (blk_drew BK501.out)
      replace BK502 := Aside0.mk (blk_drew BK502.out)
      replace BK524 := Aside0.mk (blk_drew BK524.out)
      replace HB := Aside0.mk (below_drew1 HB.out)
      refine sS (n := 24) (S := fun w' => w'.cell? ⟨gb501, 0, none⟩ = some (.int .i64 a0_0) ∧ w'.cell? ⟨gb501, 1, none⟩ = some (.slice A0_1 l0_1.length c0_1) ∧ w'.cell? ⟨gb501, 2, none⟩ = some (.slice A0_2 l0_2.length c0_2) ∧ w'.cell? ⟨gb502, 0, none⟩ = some (.int .i64 a1_0) ∧ w'.cell? ⟨gb502, 1, none⟩ = some (.int .i64 a1_1) ∧ w'.cell? ⟨gb524, 0, none⟩ = some (.int .i64 t521) ∧ w'.cell? ⟨gb524, 1, none⟩ = some (.int .i64 t522)) (ds := []) ⟨bc BK501 0, bc BK501 1, bc BK501 2, bc BK502 0, bc BK502 1, bc BK524 0, bc BK524 1⟩ (fun hHeld => ?_); refine with_tabW congoulaw04_CurvesValues.tab5 congoulaw04_CurvesValues.bits5 (fun HT_ HW_ => ?_)
      generalize w38.drew = w39 at HO506 HO509 HO512 HO517 HO520 BK501 BK502 BK524 HB hHeld ⊢
      refine pS HT_ 0 (some 45) (ba 24 1) ?_
      refine tS HT_ HW_ hHeld 1 (some 46) (ba 24 3) ?_
      refine tS HT_ HW_ hHeld 2 (some 47) (ba 24 7) ?_
      refine one_ (i := 3) (N := some 48) (ba 24 15) rfl rfl (one_of HT_.out (by kernel_rfl)) (by decide) (fun K hK => ?_)
      refine goes_ Try.func24 (by kernel_rfl) rfl #[.agg #[.int .i64 a0_0, .slice A0_1 l0_1.length c0_1, .slice A0_2 l0_2.length c0_2], .agg #[.int .i64 a1_0, .int .i64 a1_1]] (by rfl) rfl rfl (by (try simp only [List.map_toArray, List.map_cons, List.map_nil]); first | done | rfl | (simp only [List.length_drop, List.length_take]; rfl)) ?_
      with_reducible refine (congouref04_Basic.calls k a0_0 _ _ l0_1 _ _ l0_2 a1_0 a1_1 t528 _ ?side1 ?side2 ?side3 ?side4 A9.out).mono ?_
      (case side1 => exact kC HR0_1)
      (case side2 => exact HC0_1.out)
      (case side3 => exact kC HR0_2)
      (case side4 => exact HC0_2.out)
      rintro e w40 ⟨v529, rfl, ho0, hb⟩
      refine ⟨_, rfl, ?_⟩
      replace HO506 := kO HO506 hb
      replace HO509 := kO HO509 hb
      replace HO517 := kO HO517 hb
      replace HO520 := kO HO520 hb
      have HO530 := Aside0.mk (Kd.R_lower (Kd.R_newB (Kd.R_newB (Kd.R_new' ho0 (Kd.R_lt (rC HO512))) (g := gb502) (o := .cells #[.int .i64 a1_0, .int .i64 a1_1] 26 (0, 0)) (bkC BK502)) (g := gb524) (o := .cells #[.int .i64 t521, .int .i64 t522] 26 (0, 0)) (bkC BK524)) (below_size (hbC _)))
      replace HO512 := Aside0.mk (Kd.R_elder' (rC HO512) (Kd.R_base ho0) hb)
      replace BK501 := kB BK501 hb
      replace BK502 := kB BK502 hb
      replace BK524 := kB BK524 hb
      replace HB := kH _ hb
      (try clear hb)
      (try clear hb2)
      (try clear hk)
      (try clear hi)
      (try clear ho0)
      obtain ⟨Ao41, co41, eo41⟩ := Kd.R_slice HO512.out
      (first | subst eo41 | (injection eo41 with f1_ f2_ f3_; have f4_ := f1_.symm; have f5_ := f3_.symm; clear f1_ f2_ f3_; subst f4_; subst f5_))
      obtain ⟨Ao42, co42, eo42⟩ := Kd.R_slice HO530.out
      (first | subst eo42 | (injection eo42 with f1_ f2_ f3_; have f4_ := f1_.symm; have f5_ := f3_.symm; clear f1_ f2_ f3_; subst f4_; subst f5_))
      refine hK.out _ _ ⟨bc BK501 0, bc BK501 1, bc BK501 2, bc BK502 0, bc BK502 1, bc BK524 0, bc BK524 1⟩ (fun hHeld => ?_)
      clear hK K
      refine norm_ (a' := ?_) ?_ ?_
      rotate_left
      ·show Act.put _ (some 48) _ = _
       simp only [Act.put, List.setIfInBounds_toArray, List.set_cons_zero, List.set_cons_succ, i64_w, i32_w]
       rfl
      refine one_ (i := 4) (N := some 49) (ba 24 31) rfl rfl (one_of HT_.out (by kernel_rfl)) (by decide) (fun K hK => ?_)
      refine goes_ Try.func23 (by kernel_rfl) rfl #[.slice Ao41 t510.length co41, .slice Ao42 t528.length co42] (by rfl) rfl rfl (by (try simp only [List.map_toArray, List.map_cons, List.map_nil]); first | done | rfl | (simp only [List.length_drop, List.length_take]; rfl)) ?_
      with_reducible refine (api_Frac.calls k _ _ t510 _ _ t528 true _ ?side1 ?side2 ?side3 ?side4 A10.out).mono ?_
      (case side1 => exact kD (Kd.R_reads' HO512.out).2.2)
      (case side2 => exact (Kd.R_reads' HO512.out).2.1)
      (case side3 => exact kD (Kd.R_reads' HO530.out).2.2)
      (case side4 => exact (Kd.R_reads' HO530.out).2.1)
      rintro e w' ⟨rfl, ⟨nd, rfl⟩⟩
      refine ⟨_, rfl, ?_⟩
      refine hK.out _ _ ⟨bc BK501 0, bc BK501 1, bc BK501 2, bc BK502 0, bc BK502 1, bc BK524 0, bc BK524 1⟩ (fun hHeld => ?_)
      clear hK K
      refine norm_ (a' := ?_) ?_ ?_
      rotate_left
      ·show Act.put _ (some 49) _ = _
       simp only [Act.put, List.setIfInBounds_toArray, List.set_cons_zero, List.set_cons_succ, i64_w, i32_w]
       rfl
      refine pS HT_ 5 (some 50) (ba 24 63) ?_
      refine tS HT_ HW_ hHeld 6 (some 51) (ba 24 127) ?_
      refine tS HT_ HW_ hHeld 7 (some 52) (ba 24 255) ?_
      refine tS HT_ HW_ hHeld 8 (some 53) (ba 24 511) ?_
      refine one_ (i := 9) (N := some 54) (ba 24 1023) rfl rfl (one_of HT_.out (by kernel_rfl)) (by decide) (fun K hK => ?_)
      refine goes_ Try.func25 (by kernel_rfl) rfl #[.agg #[.int .i64 a0_0, .slice A0_1 l0_1.length c0_1, .slice A0_2 l0_2.length c0_2], .agg #[.int .i64 a1_0, .int .i64 a1_1]] (by rfl) rfl rfl (by (try simp only [List.map_toArray, List.map_cons, List.map_nil]); first | done | rfl | (simp only [List.length_drop, List.length_take]; rfl)) ?_
      with_reducible refine (congouref04_Value.calls k a0_0 _ _ l0_1 _ _ l0_2 a1_0 a1_1 t532 t533 _ ?side1 ?side2 ?side3 ?side4 A12.out).mono ?_
      (case side1 => repeat (first | exact (Kd.C_below HR0_1.out (hbC _)) | (with_reducible refine Kd.C_alloc ?_ _) | (with_reducible refine Kd.C_drewN ?_ _) | (with_reducible refine Kd.C_drew ?_)))
      (case side2 => exact HC0_1.out)
      (case side3 => repeat (first | exact (Kd.C_below HR0_2.out (hbC _)) | (with_reducible refine Kd.C_alloc ?_ _) | (with_reducible refine Kd.C_drewN ?_ _) | (with_reducible refine Kd.C_drew ?_)))
      (case side4 => exact HC0_2.out)
      rintro e w43 ⟨rfl, hb⟩
      refine ⟨_, rfl, ?_⟩
      replace HO506 := kO HO506 hb
      replace HO509 := kO HO509 hb
      replace HO512 := kO HO512 hb
      replace HO517 := kO HO517 hb
      replace HO520 := kO HO520 hb
      replace HO530 := kO HO530 hb
      replace BK501 := kB BK501 hb
      replace BK502 := kB BK502 hb
      replace BK524 := kB BK524 hb
      replace HB := kH _ hb
      (try clear hb)
      (try clear hb2)
      (try clear hk)
      (try clear hi)
      refine hK.out _ _ ⟨bc BK501 0, bc BK501 1, bc BK501 2, bc BK502 0, bc BK502 1, bc BK524 0, bc BK524 1⟩ (fun hHeld => ?_)
      clear hK K
      refine norm_ (a' := ?_) ?_ ?_
      rotate_left
      ·show Act.put _ (some 54) _ = _
       simp only [Act.put, List.setIfInBounds_toArray, List.set_cons_zero, List.set_cons_succ, i64_w, i32_w]
       rfl
      refine pS HT_ 10 (some 55) (ba 24 2047) ?_
      refine pS HT_ 11 (some 56) (ba 24 4095) ?_
      refine pS HT_ 12 (some 57) (ba 24 8191) ?_
      refine pS HT_ 13 (some 58) (ba 24 16383) ?_
      refine pS HT_ 14 (some 59) (ba 24 32767) ?_
      refine pS HT_ 15 (some 60) (ba 24 65535) ?_
      refine pS HT_ 16 (some 61) (ba 24 131071) ?_
      refine pS HT_ 17 (some 62) (ba 24 262143) ?_
      refine pS HT_ 18 (some 63) (ba 24 524287) ?_
      refine pS HT_ 19 (some 64) (ba 24 1048575) ?_
      refine pS HT_ 20 (some 65) (ba 24 2097151) ?_
      refine one_ (i := 21) (N := some 66) (ba 24 4194303) rfl rfl (one_of HT_.out (by kernel_rfl)) (by decide) (fun K hK => ?_)
      refine goes_ Try.func17 (by kernel_rfl) rfl #[] (by rfl) rfl rfl (by (try simp only [List.map_toArray, List.map_cons, List.map_nil]); first | done | rfl | (simp only [List.length_drop, List.length_take]; rfl)) ?_
      with_reducible refine (congoulaw04_awake.calls k  t534 _ A16.out).mono ?_
      rintro e w44 ⟨rfl, hb⟩
      refine ⟨_, rfl, ?_⟩
      replace HO506 := kO HO506 hb
      replace HO509 := kO HO509 hb
      replace HO512 := kO HO512 hb
      replace HO517 := kO HO517 hb
      replace HO520 := kO HO520 hb
      replace HO530 := kO HO530 hb
      replace BK501 := kB BK501 hb
      replace BK502 := kB BK502 hb
      replace BK524 := kB BK524 hb
      replace HB := kH _ hb
      (try clear hb)
      (try clear hb2)
      (try clear hk)
      (try clear hi)
      refine hK.out _ _ ⟨bc BK501 0, bc BK501 1, bc BK501 2, bc BK502 0, bc BK502 1, bc BK524 0, bc BK524 1⟩ (fun hHeld => ?_)
      clear hK K
      refine norm_ (a' := ?_) ?_ ?_
      rotate_left
      ·show Act.put _ (some 66) _ = _
       simp only [Act.put, List.setIfInBounds_toArray, List.set_cons_zero, List.set_cons_succ, i64_w, i32_w]
       rfl
      refine pS HT_ 22 (some 67) (ba 24 8388607) ?_
      refine pS HT_ 23 (some 4) (ba 24 16777215) ?_
      refine done_ (done_of HT_.out (by kernel_rfl)) ?_
      try go_wp2
      go_ret
      exact ⟨by first | rfl | (simp [errW_none, errW_some] <;> rfl) | (simp [*, errW_none, errW_some] <;> rfl), hbC _⟩
     ·rw [if_neg c15] at H
      have c15b0 : (t523 == 0) = false := beq_eq_false_iff_ne.mpr c15
      have c15b1 : (t523 != 0) = true := bne_iff_ne.mpr c15
      exact absurd (H.trans (congrArg some HRT.out)) (by simp)
    ·rw [if_neg c14] at H
     have c14b0 : (t513 == 0) = false := beq_eq_false_iff_ne.mpr c14
     have c14b1 : (t513 != 0) = true := bne_iff_ne.mpr c14
     exact absurd (H.trans (congrArg some HRT.out)) (by simp)
   ·rw [if_neg c13] at H
    have c13b0 : (t521 == t532 && (t522 == t533)) = false := by simpa using c13
    (try (have c13b1 : decide (t521 = t532 && (t522 == t533)) = false := by simpa using c13))
    (try (have c13b2 : (t521 == t532 && (t522 == t533)) = false := by simpa using c13))
    (try (have c13b3 : ¬ (t521 = t532 && (t522 == t533)) := by simpa using c13))
    clear c13
    exact absurd (H.trans (congrArg some HRT.out)) (by simp)
  ·replace c11 := Bool.eq_false_iff.mpr c11
   subst c11
   have H1 : (some false) = some r := by rw [if_neg (show ¬ (false = true) by decide)] at H; exact H
   clear H
   have H := H1
   clear H1
   exact absurd (H.trans (congrArg some HRT.out)) (by simp)
 ·replace c8 := Bool.eq_false_iff.mpr c8
  subst c8
  have H1 : (if (t510.length : Int) = 0 then ((congoulaw04_none.f t521 t522).bind fun t526 => (if t526 = true then (if t513 = 2 then (if t523 = 2 then ((congoulaw04_awake.f k).bind fun t527 => (some t527)) else (some false)) else (some false)) else (some false))) else (some false)) = some r := by rw [if_neg (show ¬ (false = true) by decide)] at H; exact H
  clear H
  have H := H1
  clear H1
  by_cases c45 : (t510.length : Int) = 0
  ·rw [if_pos c45] at H
   have c45b0 : ((t510.length : Int) == 0) = true := beq_iff_eq.mpr c45
   have c45b1 : ((t510.length : Int) != 0) = false := bne_eq_false_iff_eq.mpr c45
   clear c45
   replace H := Option.bind_eq_some_iff.mp H
   obtain ⟨t526, A460, H⟩ := H
   replace H : (if t526 = true then (if t513 = 2 then (if t523 = 2 then ((congoulaw04_awake.f k).bind fun t527 => (some t527)) else (some false)) else (some false)) else (some false)) = some r := H
   have A46 := Aside0.mk A460
   clear A460
   by_cases c47 : t526 = true
   ·subst c47
    have H1 : (if t513 = 2 then (if t523 = 2 then ((congoulaw04_awake.f k).bind fun t527 => (some t527)) else (some false)) else (some false)) = some r := by rw [if_pos rfl] at H; exact H
    clear H
    have H := H1
    clear H1
    by_cases c48 : t513 = 2
    ·rw [if_pos c48] at H
     have c48b0 : (t513 == 2) = true := beq_iff_eq.mpr c48
     have c48b1 : (t513 != 2) = false := bne_eq_false_iff_eq.mpr c48
     clear c48
     by_cases c49 : t523 = 2
     ·rw [if_pos c49] at H
      have c49b0 : (t523 == 2) = true := beq_iff_eq.mpr c49
      have c49b1 : (t523 != 2) = false := bne_eq_false_iff_eq.mpr c49
      clear c49
      replace H := Option.bind_eq_some_iff.mp H
      obtain ⟨t527, A500, H⟩ := H
      replace H : (some t527) = some r := H
      have A50 := Aside0.mk A500
      clear A500
      obtain rfl := Option.some.inj H
      go_enter Try.func5, Try.ntmps5
      try go_wp2_with (first | ((with_reducible refine gate_dst (N := 2) rfl ?_); refine box_event ?hg (N := 2) ?hd (cs := #[.int .i64 a0_0, .slice A0_1 l0_1.length c0_1, .slice A0_2 l0_2.length c0_2]) (t := 24) ?hr ?_; (case hd => rfl); (case hg => rfl); (case hr => first | (go_simp; done) | (go_simp; rfl)); intro gb501 hg w51 hbox hb; have BK501 := Aside0.mk (hbox); have GW501 := kG w hg; have GE501 := kG w hg; replace HB := kH _ hb; clear hb hbox hg) | ((with_reducible refine gate_dst (N := 3) rfl ?_); refine box_event ?hg (N := 3) ?hd (cs := #[.int .i64 a1_0, .int .i64 a1_1]) (t := 26) ?hr ?_; (case hd => rfl); (case hg => rfl); (case hr => first | (go_simp; done) | (go_simp; rfl)); intro gb502 hg w52 hbox hb; have BK502 := Aside0.mk (hbox); have GW502 := kG w hg; have GE502 := kG w hg; replace HB := kH _ hb; have NB501_502 := kL BK501 hg; have NB502_501 := kR BK501 hg; replace BK501 := kB BK501 hb; clear hb hbox hg))
      replace BK501 := Aside0.mk (blk_drew BK501.out)
      replace BK502 := Aside0.mk (blk_drew BK502.out)
      replace HB := Aside0.mk (below_drew1 HB.out)
      refine sS (n := 9) (S := fun w' => w'.cell? ⟨gb501, 0, none⟩ = some (.int .i64 a0_0) ∧ w'.cell? ⟨gb501, 1, none⟩ = some (.slice A0_1 l0_1.length c0_1) ∧ w'.cell? ⟨gb501, 2, none⟩ = some (.slice A0_2 l0_2.length c0_2) ∧ w'.cell? ⟨gb502, 0, none⟩ = some (.int .i64 a1_0) ∧ w'.cell? ⟨gb502, 1, none⟩ = some (.int .i64 a1_1)) (ds := []) ⟨bc BK501 0, bc BK501 1, bc BK501 2, bc BK502 0, bc BK502 1⟩ (fun hHeld => ?_); refine with_tabW congoulaw04_CurvesValues.tab1 congoulaw04_CurvesValues.bits1 (fun HT_ HW_ => ?_)
      generalize w52.drew = w53 at BK501 BK502 HB hHeld ⊢
      refine tS HT_ HW_ hHeld 0 (some 10) (ba 9 1) ?_
      refine tS HT_ HW_ hHeld 2 (some 12) (ba 9 5) ?_
      refine one_ (i := 1) (N := some 11) (ba 9 7) rfl rfl (one_of HT_.out (by kernel_rfl)) (by decide) (fun K hK => ?_)
      refine goes_ Try.func15 (by kernel_rfl) rfl #[.agg #[.int .i64 a0_0, .slice A0_1 l0_1.length c0_1, .slice A0_2 l0_2.length c0_2]] (by rfl) rfl rfl (by (try simp only [List.map_toArray, List.map_cons, List.map_nil]); first | done | rfl | (simp only [List.length_drop, List.length_take]; rfl)) ?_
      with_reducible refine (congoulaw04_Of.calls a0_0 _ _ l0_1 _ _ l0_2 t503 t504 t507 _ ?side1 ?side2 ?side3 ?side4 A3.out).mono ?_
      (case side1 => exact kC HR0_1)
      (case side2 => exact HC0_1.out)
      (case side3 => exact kC HR0_2)
      (case side4 => exact HC0_2.out)
      rintro e w54 ⟨v505, v508, rfl, ho0, ho1, hb⟩
      refine ⟨_, rfl, ?_⟩
      have HO506 := Aside0.mk (Kd.R_lower ho0 (below_size (hbC _)))
      have HO509 := Aside0.mk (Kd.R_lower ho1 (below_size (hbC _)))
      replace BK501 := kB BK501 hb
      replace BK502 := kB BK502 hb
      replace HB := kH _ hb
      (try clear hb)
      (try clear hb2)
      (try clear hk)
      (try clear hi)
      (try clear ho0)
      (try clear ho1)
      obtain ⟨Ao55, co55, eo55⟩ := Kd.R_slice HO506.out
      (first | subst eo55 | (injection eo55 with f1_ f2_ f3_; have f4_ := f1_.symm; have f5_ := f3_.symm; clear f1_ f2_ f3_; subst f4_; subst f5_))
      obtain ⟨Ao56, co56, eo56⟩ := Kd.R_slice HO509.out
      (first | subst eo56 | (injection eo56 with f1_ f2_ f3_; have f4_ := f1_.symm; have f5_ := f3_.symm; clear f1_ f2_ f3_; subst f4_; subst f5_))
      refine hK.out _ _ ⟨bc BK501 0, bc BK501 1, bc BK501 2, bc BK502 0, bc BK502 1⟩ (fun hHeld => ?_)
      clear hK K
      refine norm_ (a' := ?_) ?_ ?_
      rotate_left
      ·show Act.put _ (some 11) _ = _
       simp only [Act.put, List.setIfInBounds_toArray, List.set_cons_zero, List.set_cons_succ, i64_w, i32_w]
       rfl
      refine one_ (i := 3) (N := some 13) (ba 9 15) rfl rfl (one_of HT_.out (by kernel_rfl)) (by decide) (fun K hK => ?_)
      refine goes_ Try.func18 (by kernel_rfl) rfl #[.agg #[.int .i64 t503, .slice Ao55 t504.length co55, .slice Ao56 t507.length co56], .agg #[.int .i64 a1_0, .int .i64 a1_1]] (by rfl) rfl rfl (by (try simp only [List.map_toArray, List.map_cons, List.map_nil]); first | done | rfl | (simp only [List.length_drop, List.length_take]; rfl)) ?_
      with_reducible refine (curves_Basic.calls k t503 _ _ t504 _ _ t507 a1_0 a1_1 t510 t513 _ ?side1 ?side2 ?side3 ?side4 A4.out).mono ?_
      (case side1 => exact kD (Kd.R_reads' HO506.out).2.2)
      (case side2 => exact (Kd.R_reads' HO506.out).2.1)
      (case side3 => exact kD (Kd.R_reads' HO509.out).2.2)
      (case side4 => exact (Kd.R_reads' HO509.out).2.1)
      rintro e w57 ⟨v511, rfl, ho0, hb⟩
      refine ⟨_, rfl, ?_⟩
      replace HO506 := kO HO506 hb
      replace HO509 := kO HO509 hb
      have HO512 := Aside0.mk (Kd.R_lower (Kd.R_newB ho0 (g := gb502) (o := .cells #[.int .i64 a1_0, .int .i64 a1_1] 26 (0, 0)) (bkC BK502)) (below_size (hbC _)))
      replace BK501 := kB BK501 hb
      replace BK502 := kB BK502 hb
      replace HB := kH _ hb
      (try clear hb)
      (try clear hb2)
      (try clear hk)
      (try clear hi)
      (try clear ho0)
      refine hK.out _ _ ⟨bc BK501 0, bc BK501 1, bc BK501 2, bc BK502 0, bc BK502 1⟩ (fun hHeld => ?_)
      clear hK K
      refine norm_ (a' := ?_) ?_ ?_
      rotate_left
      ·show Act.put _ (some 13) _ = _
       simp only [Act.put, List.setIfInBounds_toArray, List.set_cons_zero, List.set_cons_succ, i64_w, i32_w]
       rfl
      refine pS HT_ 4 (some 9) (ba 9 31) ?_
      refine pS HT_ 5 (some 14) (ba 9 63) ?_
      refine pS HT_ 6 (some 15) (ba 9 127) ?_
      refine pS HT_ 7 (some 5) (ba 9 255) ?_
      refine pS HT_ 8 (some 6) (ba 9 511) ?_
      refine done_ (done_of HT_.out (by kernel_rfl)) ?_
      try go_wp2
      replace HO506 := Aside0.mk (Kd.R_drew HO506.out)
      replace HO509 := Aside0.mk (Kd.R_drew HO509.out)
      replace HO512 := Aside0.mk (Kd.R_drew HO512.out)
      replace BK501 := Aside0.mk (blk_drew BK501.out)
      replace BK502 := Aside0.mk (blk_drew BK502.out)
      replace HB := Aside0.mk (below_drew1 HB.out)
      refine sS (n := 10) (S := fun w' => w'.cell? ⟨gb501, 0, none⟩ = some (.int .i64 a0_0) ∧ w'.cell? ⟨gb501, 1, none⟩ = some (.slice A0_1 l0_1.length c0_1) ∧ w'.cell? ⟨gb501, 2, none⟩ = some (.slice A0_2 l0_2.length c0_2) ∧ w'.cell? ⟨gb502, 0, none⟩ = some (.int .i64 a1_0) ∧ w'.cell? ⟨gb502, 1, none⟩ = some (.int .i64 a1_1)) (ds := []) ⟨bc BK501 0, bc BK501 1, bc BK501 2, bc BK502 0, bc BK502 1⟩ (fun hHeld => ?_); refine with_tabW congoulaw04_CurvesValues.tab2 congoulaw04_CurvesValues.bits2 (fun HT_ HW_ => ?_)
      generalize w57.drew = w58 at HO506 HO509 HO512 BK501 BK502 HB hHeld ⊢
      refine tS HT_ HW_ hHeld 0 (some 17) (ba 10 1) ?_
      refine tS HT_ HW_ hHeld 2 (some 19) (ba 10 5) ?_
      refine join_ (σ := Value × Value × Nat) 2 (ba 10 255) (fun s_ => [(18, .agg #[.int .i64 t514, s_.1, s_.2.1]), (20, .tuple #[.agg #[.int .i64 t521, .int .i64 t522], .int .i64 t523]), (7, .pointer (some ⟨s_.2.2, 0, none⟩)), (16, .tuple #[.agg #[.int .i64 t521, .int .i64 t522], .int .i64 t523]), (21, .agg #[.int .i64 t521, .int .i64 t522]), (22, .int .i64 t523)]) (fun s_ w' => (w'.cell? ⟨gb501, 0, none⟩ = some (.int .i64 a0_0) ∧ w'.cell? ⟨gb501, 1, none⟩ = some (.slice A0_1 l0_1.length c0_1) ∧ w'.cell? ⟨gb501, 2, none⟩ = some (.slice A0_2 l0_2.length c0_2) ∧ w'.cell? ⟨gb502, 0, none⟩ = some (.int .i64 a1_0) ∧ w'.cell? ⟨gb502, 1, none⟩ = some (.int .i64 a1_1)) ∧ (Kd.R (Kd.int .i64) 3 w' w.heap.size (fun k_ => some k_ ≠ (.slice Ao56 t507.length co56 : Value).ownBlock ∧ some k_ ≠ (s_.1 : Value).ownBlock ∧ some k_ ≠ (s_.2.1 : Value).ownBlock) (.slice Ao55 t504.length co55) t504) ∧ (Kd.R (Kd.int .i64) 3 w' w.heap.size (fun k_ => some k_ ≠ (.slice Ao55 t504.length co55 : Value).ownBlock ∧ some k_ ≠ (s_.1 : Value).ownBlock ∧ some k_ ≠ (s_.2.1 : Value).ownBlock) (.slice Ao56 t507.length co56) t507) ∧ (Kd.R k26 26 w' w.heap.size (fun k_ => k_ ≠ gb502 ∧ k_ ≠ s_.2.2) v511 t510) ∧ (Kd.R (Kd.int .i64) 3 w' w.heap.size (fun k_ => some k_ ≠ (.slice Ao55 t504.length co55 : Value).ownBlock ∧ some k_ ≠ (.slice Ao56 t507.length co56 : Value).ownBlock ∧ some k_ ≠ (s_.2.1 : Value).ownBlock) s_.1 t515) ∧ (Kd.R (Kd.int .i64) 3 w' w.heap.size (fun k_ => some k_ ≠ (.slice Ao55 t504.length co55 : Value).ownBlock ∧ some k_ ≠ (.slice Ao56 t507.length co56 : Value).ownBlock ∧ some k_ ≠ (s_.1 : Value).ownBlock) s_.2.1 t518) ∧ (w'.heap[gb501]? = some (.cells #[.int .i64 a0_0, .slice A0_1 l0_1.length c0_1, .slice A0_2 l0_2.length c0_2] 24 (0, 0))) ∧ (w'.heap[gb502]? = some (.cells #[.int .i64 a1_0, .int .i64 a1_1] 26 (0, 0))) ∧ (w'.heap[s_.2.2]? = some (.cells #[.int .i64 0, .int .i64 0] 26 (0, 0))) ∧ (w.heap.size ≤ s_.2.2) ∧ (w.heap.size ≤ s_.2.2) ∧ (gb501 ≠ s_.2.2) ∧ (s_.2.2 ≠ gb501) ∧ (gb502 ≠ s_.2.2) ∧ (s_.2.2 ≠ gb502) ∧ (Below w.heap.size w w')) ?_ ?_
      rotate_left
      ·intro hCont
       refine two_ (i := 1) (j := 7) (Ni := some 18) (Nj := some 7) (ba 10 7) (ba 10 133) rfl rfl rfl rfl (two_of HT_.out (by kernel_rfl)) (by decide) (by decide) (fun K hK => ?_) (fun K hK => ?_)
       ·skip
        refine goes_ Try.func15 (by kernel_rfl) rfl #[.agg #[.int .i64 a0_0, .slice A0_1 l0_1.length c0_1, .slice A0_2 l0_2.length c0_2]] (by rfl) rfl rfl (by (try simp only [List.map_toArray, List.map_cons, List.map_nil]); first | done | rfl | (simp only [List.length_drop, List.length_take]; rfl)) ?_
        with_reducible refine (congoulaw04_Of.calls a0_0 _ _ l0_1 _ _ l0_2 t514 t515 t518 _ ?side1 ?side2 ?side3 ?side4 A5.out).mono ?_
        (case side1 => exact kC HR0_1)
        (case side2 => exact HC0_1.out)
        (case side3 => exact kC HR0_2)
        (case side4 => exact HC0_2.out)
        rintro e w59 ⟨v516, v519, rfl, ho0, ho1, hb⟩
        refine ⟨_, rfl, ?_⟩
        replace HO512 := kO HO512 hb
        have HO517 := Aside0.mk (Kd.R_lower (Kd.R_new' (Kd.R_new' ho0 (Kd.R_lt (rC HO506))) (Kd.R_lt (rC HO509))) (below_size (hbC _)))
        have HO520 := Aside0.mk (Kd.R_lower (Kd.R_new' (Kd.R_new' ho1 (Kd.R_lt (rC HO506))) (Kd.R_lt (rC HO509))) (below_size (hbC _)))
        replace HO506 := Aside0.mk (Kd.R_mono (Kd.R_told (Kd.R_told (Kd.R_old (rC HO506) hb) (Kd.R_base ho0)) (Kd.R_base ho1)) (fun _ h_ => h_.1))
        replace HO509 := Aside0.mk (Kd.R_mono (Kd.R_told (Kd.R_told (Kd.R_old (rC HO509) hb) (Kd.R_base ho0)) (Kd.R_base ho1)) (fun _ h_ => h_.1))
        replace BK501 := kB BK501 hb
        replace BK502 := kB BK502 hb
        replace HB := kH _ hb
        (try clear hb)
        (try clear hb2)
        (try clear hk)
        (try clear hi)
        (try clear ho0)
        (try clear ho1)
        obtain ⟨Ao60, co60, eo60⟩ := Kd.R_slice HO517.out
        (first | subst eo60 | (injection eo60 with f1_ f2_ f3_; have f4_ := f1_.symm; have f5_ := f3_.symm; clear f1_ f2_ f3_; subst f4_; subst f5_))
        obtain ⟨Ao61, co61, eo61⟩ := Kd.R_slice HO520.out
        (first | subst eo61 | (injection eo61 with f1_ f2_ f3_; have f4_ := f1_.symm; have f5_ := f3_.symm; clear f1_ f2_ f3_; subst f4_; subst f5_))
        refine hK.out _ _ ⟨bc BK501 0, bc BK501 1, bc BK501 2, bc BK502 0, bc BK502 1⟩ (fun hHeld => ?_)
        clear hK K
        refine norm_ (a' := ?_) ?_ ?_
        rotate_left
        ·show Act.put _ (some 18) _ = _
         simp only [Act.put, List.setIfInBounds_toArray, List.set_cons_zero, List.set_cons_succ, i64_w, i32_w]
         rfl
        refine two_ (i := 3) (j := 7) (Ni := some 20) (Nj := some 7) (ba 10 15) (ba 10 135) rfl rfl rfl rfl (two_of HT_.out (by kernel_rfl)) (by decide) (by decide) (fun K hK => ?_) (fun K hK => ?_)
        ·skip
         refine goes_ Try.func14 (by kernel_rfl) rfl #[.agg #[.int .i64 t514, .slice Ao60 t515.length co60, .slice Ao61 t518.length co61], .agg #[.int .i64 a1_0, .int .i64 a1_1]] (by rfl) rfl rfl (by (try simp only [List.map_toArray, List.map_cons, List.map_nil]); first | done | rfl | (simp only [List.length_drop, List.length_take]; rfl)) ?_
         with_reducible refine (curves_Value.calls k t514 _ _ t515 _ _ t518 a1_0 a1_1 t521 t522 t523 _ ?side1 ?side2 ?side3 ?side4 A6.out).mono ?_
         (case side1 => exact kD (Kd.R_reads' HO517.out).2.2)
         (case side2 => exact (Kd.R_reads' HO517.out).2.1)
         (case side3 => exact kD (Kd.R_reads' HO520.out).2.2)
         (case side4 => exact (Kd.R_reads' HO520.out).2.1)
         rintro e w62 ⟨rfl, hb⟩
         refine ⟨_, rfl, ?_⟩
         replace HO506 := kO HO506 hb
         replace HO509 := kO HO509 hb
         replace HO512 := kO HO512 hb
         replace HO517 := kO HO517 hb
         replace HO520 := kO HO520 hb
         replace BK501 := kB BK501 hb
         replace BK502 := kB BK502 hb
         replace HB := kH _ hb
         (try clear hb)
         (try clear hb2)
         (try clear hk)
         (try clear hi)
         refine hK.out _ _ ⟨bc BK501 0, bc BK501 1, bc BK501 2, bc BK502 0, bc BK502 1⟩ (fun hHeld => ?_)
         clear hK K
         refine norm_ (a' := ?_) ?_ ?_
         rotate_left
         ·show Act.put _ (some 20) _ = _
          simp only [Act.put, List.setIfInBounds_toArray, List.set_cons_zero, List.set_cons_succ, i64_w, i32_w]
          rfl
         refine pS HT_ 4 (some 16) (ba 10 31) ?_
         refine pS HT_ 5 (some 21) (ba 10 63) ?_
         refine pS HT_ 6 (some 22) (ba 10 127) ?_
         refine one_ (i := 7) (N := some 7) (ba 10 255) rfl rfl (one_of HT_.out (by kernel_rfl)) (by decide) (fun K hK => ?_)
         refine box_step ?hg (N := 7) ?hd (cs := #[.int .i64 0, .int .i64 0]) (t := 26) ?hr ?_; (case hd => rfl); (case hg => rfl); (case hr => first | (go_simp; done) | (go_simp; rfl))
         intro gb524 hg w63 hbox hb
         replace HO506 := kO HO506 hb
         replace HO509 := kO HO509 hb
         replace HO512 := Aside0.mk (Kd.R_below (Kd.R_elderB (rC HO512) gb524 (Nat.le_of_eq hg.symm)) hb)
         replace HO517 := kO HO517 hb
         replace HO520 := kO HO520 hb
         have BK524 := Aside0.mk (hbox)
         have GW524 := kG w hg
         have GE524 := kG w hg
         replace HB := kH _ hb
         have NB501_524 := kL BK501 hg
         have NB524_501 := kR BK501 hg
         replace BK501 := kB BK501 hb
         have NB502_524 := kL BK502 hg
         have NB524_502 := kR BK502 hg
         replace BK502 := kB BK502 hb
         clear hb hbox hg
         refine hK.out _ _ ⟨bc BK501 0, bc BK501 1, bc BK501 2, bc BK502 0, bc BK502 1⟩ (fun hHeld => ?_)
         clear hK K
         refine norm_ (a' := ?_) ?_ ?_
         rotate_left
         ·show Act.put _ (some 7) _ = _
          simp only [Act.put, List.setIfInBounds_toArray, List.set_cons_zero, List.set_cons_succ, i64_w, i32_w]
          rfl
         exact norm_ (by simp only [putAll, Act.put, List.setIfInBounds_toArray, List.set_cons_zero, List.set_cons_succ]) (hCont (.slice Ao60 t515.length co60, .slice Ao61 t518.length co61, gb524) _ ⟨hHeld, (by (with_reducible repeat (first | apply Kd.R_alloc | apply Kd.R_drewN | apply Kd.R_drew)); exact Kd.R_mono HO506.out (fun _ hk => ⟨hk.1.1, ⟨hk.1.2, hk.2⟩⟩)), (by (with_reducible repeat (first | apply Kd.R_alloc | apply Kd.R_drewN | apply Kd.R_drew)); exact Kd.R_mono HO509.out (fun _ hk => ⟨hk.1.1, ⟨hk.1.2, hk.2⟩⟩)), (by (with_reducible repeat (first | apply Kd.R_alloc | apply Kd.R_drewN | apply Kd.R_drew)); exact Kd.R_mono HO512.out (fun _ hk => ⟨hk.1.2, hk.2⟩)), (by (with_reducible repeat (first | apply Kd.R_alloc | apply Kd.R_drewN | apply Kd.R_drew)); exact Kd.R_mono HO517.out (fun _ hk => ⟨hk.1.2, ⟨hk.2, hk.1.1⟩⟩)), (by (with_reducible repeat (first | apply Kd.R_alloc | apply Kd.R_drewN | apply Kd.R_drew)); exact Kd.R_mono HO520.out (fun _ hk => ⟨hk.1.2, ⟨hk.2, hk.1.1⟩⟩)), (bkC BK501), (bkC BK502), (bkC BK524), GW524.out, GE524.out, NB501_524.out, NB524_501.out, NB502_524.out, NB524_502.out, (hbC _)⟩)
        ·skip
         refine box_step ?hg (N := 7) ?hd (cs := #[.int .i64 0, .int .i64 0]) (t := 26) ?hr ?_; (case hd => rfl); (case hg => rfl); (case hr => first | (go_simp; done) | (go_simp; rfl))
         intro gb524 hg w60 hbox hb
         replace HO506 := kO HO506 hb
         replace HO509 := kO HO509 hb
         replace HO512 := Aside0.mk (Kd.R_below (Kd.R_elderB (rC HO512) gb524 (Nat.le_of_eq hg.symm)) hb)
         replace HO517 := kO HO517 hb
         replace HO520 := kO HO520 hb
         have BK524 := Aside0.mk (hbox)
         have GW524 := kG w hg
         have GE524 := kG w hg
         replace HB := kH _ hb
         have NB501_524 := kL BK501 hg
         have NB524_501 := kR BK501 hg
         replace BK501 := kB BK501 hb
         have NB502_524 := kL BK502 hg
         have NB524_502 := kR BK502 hg
         replace BK502 := kB BK502 hb
         clear hb hbox hg
         obtain ⟨Ao61, co61, eo61⟩ := Kd.R_slice HO517.out
         (first | subst eo61 | (injection eo61 with f1_ f2_ f3_; have f4_ := f1_.symm; have f5_ := f3_.symm; clear f1_ f2_ f3_; subst f4_; subst f5_))
         obtain ⟨Ao62, co62, eo62⟩ := Kd.R_slice HO520.out
         (first | subst eo62 | (injection eo62 with f1_ f2_ f3_; have f4_ := f1_.symm; have f5_ := f3_.symm; clear f1_ f2_ f3_; subst f4_; subst f5_))
         refine hK.out _ _ ⟨bc BK501 0, bc BK501 1, bc BK501 2, bc BK502 0, bc BK502 1⟩ (fun hHeld => ?_)
         clear hK K
         refine norm_ (a' := ?_) ?_ ?_
         rotate_left
         ·show Act.put _ (some 7) _ = _
          simp only [Act.put, List.setIfInBounds_toArray, List.set_cons_zero, List.set_cons_succ, i64_w, i32_w]
          rfl
         refine one_ (i := 3) (N := some 20) (ba 10 143) rfl rfl (one_of HT_.out (by kernel_rfl)) (by decide) (fun K hK => ?_)
         refine goes_ Try.func14 (by kernel_rfl) rfl #[.agg #[.int .i64 t514, .slice Ao61 t515.length co61, .slice Ao62 t518.length co62], .agg #[.int .i64 a1_0, .int .i64 a1_1]] (by rfl) rfl rfl (by (try simp only [List.map_toArray, List.map_cons, List.map_nil]); first | done | rfl | (simp only [List.length_drop, List.length_take]; rfl)) ?_
         with_reducible refine (curves_Value.calls k t514 _ _ t515 _ _ t518 a1_0 a1_1 t521 t522 t523 _ ?side1 ?side2 ?side3 ?side4 A6.out).mono ?_
         (case side1 => exact kD (Kd.R_reads' HO517.out).2.2)
         (case side2 => exact (Kd.R_reads' HO517.out).2.1)
         (case side3 => exact kD (Kd.R_reads' HO520.out).2.2)
         (case side4 => exact (Kd.R_reads' HO520.out).2.1)
         rintro e w63 ⟨rfl, hb⟩
         refine ⟨_, rfl, ?_⟩
         replace HO506 := kO HO506 hb
         replace HO509 := kO HO509 hb
         replace HO512 := kO HO512 hb
         replace HO517 := kO HO517 hb
         replace HO520 := kO HO520 hb
         replace BK501 := kB BK501 hb
         replace BK502 := kB BK502 hb
         replace BK524 := kB BK524 hb
         replace HB := kH _ hb
         (try clear hb)
         (try clear hb2)
         (try clear hk)
         (try clear hi)
         refine hK.out _ _ ⟨bc BK501 0, bc BK501 1, bc BK501 2, bc BK502 0, bc BK502 1⟩ (fun hHeld => ?_)
         clear hK K
         refine norm_ (a' := ?_) ?_ ?_
         rotate_left
         ·show Act.put _ (some 20) _ = _
          simp only [Act.put, List.setIfInBounds_toArray, List.set_cons_zero, List.set_cons_succ, i64_w, i32_w]
          rfl
         refine pS HT_ 4 (some 16) (ba 10 159) ?_
         refine pS HT_ 5 (some 21) (ba 10 191) ?_
         refine pS HT_ 6 (some 22) (ba 10 255) ?_
         exact norm_ (by simp only [putAll, Act.put, List.setIfInBounds_toArray, List.set_cons_zero, List.set_cons_succ]) (hCont (.slice Ao61 t515.length co61, .slice Ao62 t518.length co62, gb524) _ ⟨hHeld, (by (with_reducible repeat (first | apply Kd.R_alloc | apply Kd.R_drewN | apply Kd.R_drew)); exact Kd.R_mono HO506.out (fun _ hk => ⟨hk.1.1, ⟨hk.1.2, hk.2⟩⟩)), (by (with_reducible repeat (first | apply Kd.R_alloc | apply Kd.R_drewN | apply Kd.R_drew)); exact Kd.R_mono HO509.out (fun _ hk => ⟨hk.1.1, ⟨hk.1.2, hk.2⟩⟩)), (by (with_reducible repeat (first | apply Kd.R_alloc | apply Kd.R_drewN | apply Kd.R_drew)); exact Kd.R_mono HO512.out (fun _ hk => ⟨hk.1.2, hk.2⟩)), (by (with_reducible repeat (first | apply Kd.R_alloc | apply Kd.R_drewN | apply Kd.R_drew)); exact Kd.R_mono HO517.out (fun _ hk => ⟨hk.1.2, ⟨hk.2, hk.1.1⟩⟩)), (by (with_reducible repeat (first | apply Kd.R_alloc | apply Kd.R_drewN | apply Kd.R_drew)); exact Kd.R_mono HO520.out (fun _ hk => ⟨hk.1.2, ⟨hk.2, hk.1.1⟩⟩)), (bkC BK501), (bkC BK502), (bkC BK524), GW524.out, GE524.out, NB501_524.out, NB524_501.out, NB502_524.out, NB524_502.out, (hbC _)⟩)
       ·skip
        refine box_step ?hg (N := 7) ?hd (cs := #[.int .i64 0, .int .i64 0]) (t := 26) ?hr ?_; (case hd => rfl); (case hg => rfl); (case hr => first | (go_simp; done) | (go_simp; rfl))
        intro gb524 hg w59 hbox hb
        replace HO506 := kO HO506 hb
        replace HO509 := kO HO509 hb
        replace HO512 := Aside0.mk (Kd.R_below (Kd.R_elderB (rC HO512) gb524 (Nat.le_of_eq hg.symm)) hb)
        have BK524 := Aside0.mk (hbox)
        have GW524 := kG w hg
        have GE524 := kG w hg
        replace HB := kH _ hb
        have NB501_524 := kL BK501 hg
        have NB524_501 := kR BK501 hg
        replace BK501 := kB BK501 hb
        have NB502_524 := kL BK502 hg
        have NB524_502 := kR BK502 hg
        replace BK502 := kB BK502 hb
        clear hb hbox hg
        refine hK.out _ _ ⟨bc BK501 0, bc BK501 1, bc BK501 2, bc BK502 0, bc BK502 1⟩ (fun hHeld => ?_)
        clear hK K
        refine norm_ (a' := ?_) ?_ ?_
        rotate_left
        ·show Act.put _ (some 7) _ = _
         simp only [Act.put, List.setIfInBounds_toArray, List.set_cons_zero, List.set_cons_succ, i64_w, i32_w]
         rfl
        refine one_ (i := 1) (N := some 18) (ba 10 135) rfl rfl (one_of HT_.out (by kernel_rfl)) (by decide) (fun K hK => ?_)
        refine goes_ Try.func15 (by kernel_rfl) rfl #[.agg #[.int .i64 a0_0, .slice A0_1 l0_1.length c0_1, .slice A0_2 l0_2.length c0_2]] (by rfl) rfl rfl (by (try simp only [List.map_toArray, List.map_cons, List.map_nil]); first | done | rfl | (simp only [List.length_drop, List.length_take]; rfl)) ?_
        with_reducible refine (congoulaw04_Of.calls a0_0 _ _ l0_1 _ _ l0_2 t514 t515 t518 _ ?side1 ?side2 ?side3 ?side4 A5.out).mono ?_
        (case side1 => exact kC HR0_1)
        (case side2 => exact HC0_1.out)
        (case side3 => exact kC HR0_2)
        (case side4 => exact HC0_2.out)
        rintro e w60 ⟨v516, v519, rfl, ho0, ho1, hb⟩
        refine ⟨_, rfl, ?_⟩
        replace HO512 := kO HO512 hb
        have HO517 := Aside0.mk (Kd.R_lower (Kd.R_new' (Kd.R_new' ho0 (Kd.R_lt (rC HO506))) (Kd.R_lt (rC HO509))) (below_size (hbC _)))
        have HO520 := Aside0.mk (Kd.R_lower (Kd.R_new' (Kd.R_new' ho1 (Kd.R_lt (rC HO506))) (Kd.R_lt (rC HO509))) (below_size (hbC _)))
        replace HO506 := Aside0.mk (Kd.R_mono (Kd.R_told (Kd.R_told (Kd.R_old (rC HO506) hb) (Kd.R_base ho0)) (Kd.R_base ho1)) (fun _ h_ => h_.1))
        replace HO509 := Aside0.mk (Kd.R_mono (Kd.R_told (Kd.R_told (Kd.R_old (rC HO509) hb) (Kd.R_base ho0)) (Kd.R_base ho1)) (fun _ h_ => h_.1))
        replace BK501 := kB BK501 hb
        replace BK502 := kB BK502 hb
        replace BK524 := kB BK524 hb
        replace HB := kH _ hb
        (try clear hb)
        (try clear hb2)
        (try clear hk)
        (try clear hi)
        (try clear ho0)
        (try clear ho1)
        obtain ⟨Ao61, co61, eo61⟩ := Kd.R_slice HO517.out
        (first | subst eo61 | (injection eo61 with f1_ f2_ f3_; have f4_ := f1_.symm; have f5_ := f3_.symm; clear f1_ f2_ f3_; subst f4_; subst f5_))
        obtain ⟨Ao62, co62, eo62⟩ := Kd.R_slice HO520.out
        (first | subst eo62 | (injection eo62 with f1_ f2_ f3_; have f4_ := f1_.symm; have f5_ := f3_.symm; clear f1_ f2_ f3_; subst f4_; subst f5_))
        refine hK.out _ _ ⟨bc BK501 0, bc BK501 1, bc BK501 2, bc BK502 0, bc BK502 1⟩ (fun hHeld => ?_)
        clear hK K
        refine norm_ (a' := ?_) ?_ ?_
        rotate_left
        ·show Act.put _ (some 18) _ = _
         simp only [Act.put, List.setIfInBounds_toArray, List.set_cons_zero, List.set_cons_succ, i64_w, i32_w]
         rfl
        refine one_ (i := 3) (N := some 20) (ba 10 143) rfl rfl (one_of HT_.out (by kernel_rfl)) (by decide) (fun K hK => ?_)
        refine goes_ Try.func14 (by kernel_rfl) rfl #[.agg #[.int .i64 t514, .slice Ao61 t515.length co61, .slice Ao62 t518.length co62], .agg #[.int .i64 a1_0, .int .i64 a1_1]] (by rfl) rfl rfl (by (try simp only [List.map_toArray, List.map_cons, List.map_nil]); first | done | rfl | (simp only [List.length_drop, List.length_take]; rfl)) ?_
        with_reducible refine (curves_Value.calls k t514 _ _ t515 _ _ t518 a1_0 a1_1 t521 t522 t523 _ ?side1 ?side2 ?side3 ?side4 A6.out).mono ?_
        (case side1 => exact kD (Kd.R_reads' HO517.out).2.2)
        (case side2 => exact (Kd.R_reads' HO517.out).2.1)
        (case side3 => exact kD (Kd.R_reads' HO520.out).2.2)
        (case side4 => exact (Kd.R_reads' HO520.out).2.1)
        rintro e w63 ⟨rfl, hb⟩
        refine ⟨_, rfl, ?_⟩
        replace HO506 := kO HO506 hb
        replace HO509 := kO HO509 hb
        replace HO512 := kO HO512 hb
        replace HO517 := kO HO517 hb
        replace HO520 := kO HO520 hb
        replace BK501 := kB BK501 hb
        replace BK502 := kB BK502 hb
        replace BK524 := kB BK524 hb
        replace HB := kH _ hb
        (try clear hb)
        (try clear hb2)
        (try clear hk)
        (try clear hi)
        refine hK.out _ _ ⟨bc BK501 0, bc BK501 1, bc BK501 2, bc BK502 0, bc BK502 1⟩ (fun hHeld => ?_)
        clear hK K
        refine norm_ (a' := ?_) ?_ ?_
        rotate_left
        ·show Act.put _ (some 20) _ = _
         simp only [Act.put, List.setIfInBounds_toArray, List.set_cons_zero, List.set_cons_succ, i64_w, i32_w]
         rfl
        refine pS HT_ 4 (some 16) (ba 10 159) ?_
        refine pS HT_ 5 (some 21) (ba 10 191) ?_
        refine pS HT_ 6 (some 22) (ba 10 255) ?_
        exact norm_ (by simp only [putAll, Act.put, List.setIfInBounds_toArray, List.set_cons_zero, List.set_cons_succ]) (hCont (.slice Ao61 t515.length co61, .slice Ao62 t518.length co62, gb524) _ ⟨hHeld, (by (with_reducible repeat (first | apply Kd.R_alloc | apply Kd.R_drewN | apply Kd.R_drew)); exact Kd.R_mono HO506.out (fun _ hk => ⟨hk.1.1, ⟨hk.1.2, hk.2⟩⟩)), (by (with_reducible repeat (first | apply Kd.R_alloc | apply Kd.R_drewN | apply Kd.R_drew)); exact Kd.R_mono HO509.out (fun _ hk => ⟨hk.1.1, ⟨hk.1.2, hk.2⟩⟩)), (by (with_reducible repeat (first | apply Kd.R_alloc | apply Kd.R_drewN | apply Kd.R_drew)); exact Kd.R_mono HO512.out (fun _ hk => ⟨hk.1.2, hk.2⟩)), (by (with_reducible repeat (first | apply Kd.R_alloc | apply Kd.R_drewN | apply Kd.R_drew)); exact Kd.R_mono HO517.out (fun _ hk => ⟨hk.1.2, ⟨hk.2, hk.1.1⟩⟩)), (by (with_reducible repeat (first | apply Kd.R_alloc | apply Kd.R_drewN | apply Kd.R_drew)); exact Kd.R_mono HO520.out (fun _ hk => ⟨hk.1.2, ⟨hk.2, hk.1.1⟩⟩)), (bkC BK501), (bkC BK502), (bkC BK524), GW524.out, GE524.out, NB501_524.out, NB524_501.out, NB502_524.out, NB524_502.out, (hbC _)⟩)
      rintro ⟨v516, v519, gb524⟩ w64 ⟨hS_, h0_, h1_, h2_, h3_, h4_, h5_, h6_, h7_, h8_, h9_, h10_, h11_, h12_, h13_, h14_⟩
      have n0_ : Aside0 (Kd.R (Kd.int .i64) 3 w64 w.heap.size (fun k_ => some k_ ≠ (.slice Ao56 t507.length co56 : Value).ownBlock ∧ some k_ ≠ (v516 : Value).ownBlock ∧ some k_ ≠ (v519 : Value).ownBlock) (.slice Ao55 t504.length co55) t504) := ⟨h0_⟩
      have n1_ : Aside0 (Kd.R (Kd.int .i64) 3 w64 w.heap.size (fun k_ => some k_ ≠ (.slice Ao55 t504.length co55 : Value).ownBlock ∧ some k_ ≠ (v516 : Value).ownBlock ∧ some k_ ≠ (v519 : Value).ownBlock) (.slice Ao56 t507.length co56) t507) := ⟨h1_⟩
      have n2_ : Aside0 (Kd.R k26 26 w64 w.heap.size (fun k_ => k_ ≠ gb502 ∧ k_ ≠ gb524) v511 t510) := ⟨h2_⟩
      have n3_ : Aside0 (Kd.R (Kd.int .i64) 3 w64 w.heap.size (fun k_ => some k_ ≠ (.slice Ao55 t504.length co55 : Value).ownBlock ∧ some k_ ≠ (.slice Ao56 t507.length co56 : Value).ownBlock ∧ some k_ ≠ (v519 : Value).ownBlock) v516 t515) := ⟨h3_⟩
      have n4_ : Aside0 (Kd.R (Kd.int .i64) 3 w64 w.heap.size (fun k_ => some k_ ≠ (.slice Ao55 t504.length co55 : Value).ownBlock ∧ some k_ ≠ (.slice Ao56 t507.length co56 : Value).ownBlock ∧ some k_ ≠ (v516 : Value).ownBlock) v519 t518) := ⟨h4_⟩
      have n5_ : Aside0 (w64.heap[gb501]? = some (.cells #[.int .i64 a0_0, .slice A0_1 l0_1.length c0_1, .slice A0_2 l0_2.length c0_2] 24 (0, 0))) := ⟨h5_⟩
      have n6_ : Aside0 (w64.heap[gb502]? = some (.cells #[.int .i64 a1_0, .int .i64 a1_1] 26 (0, 0))) := ⟨h6_⟩
      have n7_ : Aside0 (w64.heap[gb524]? = some (.cells #[.int .i64 0, .int .i64 0] 26 (0, 0))) := ⟨h7_⟩
      have n8_ : Aside0 (w.heap.size ≤ gb524) := ⟨h8_⟩
      have n9_ : Aside0 (w.heap.size ≤ gb524) := ⟨h9_⟩
      have n10_ : Aside0 (gb501 ≠ gb524) := ⟨h10_⟩
      have n11_ : Aside0 (gb524 ≠ gb501) := ⟨h11_⟩
      have n12_ : Aside0 (gb502 ≠ gb524) := ⟨h12_⟩
      have n13_ : Aside0 (gb524 ≠ gb502) := ⟨h13_⟩
      have n14_ : Aside0 (Below w.heap.size w w64) := ⟨h14_⟩
      clear HO506
      clear HO509
      clear HO512
      clear BK501
      clear BK502
      clear HB
      clear h0_ h1_ h2_ h3_ h4_ h5_ h6_ h7_ h8_ h9_ h10_ h11_ h12_ h13_ h14_
      have HO506 := n0_
      have HO509 := n1_
      have HO512 := n2_
      have HO517 := n3_
      have HO520 := n4_
      have BK501 := n5_
      have BK502 := n6_
      have BK524 := n7_
      have GW524 := n8_
      have GE524 := n9_
      have NB501_524 := n10_
      have NB524_501 := n11_
      have NB502_524 := n12_
      have NB524_502 := n13_
      have HB := n14_
      clear n0_ n1_ n2_ n3_ n4_ n5_ n6_ n7_ n8_ n9_ n10_ n11_ n12_ n13_ n14_
      have hHeld : w64.cell? ⟨gb501, 0, none⟩ = some (.int .i64 a0_0) ∧ w64.cell? ⟨gb501, 1, none⟩ = some (.slice A0_1 l0_1.length c0_1) ∧ w64.cell? ⟨gb501, 2, none⟩ = some (.slice A0_2 l0_2.length c0_2) ∧ w64.cell? ⟨gb502, 0, none⟩ = some (.int .i64 a1_0) ∧ w64.cell? ⟨gb502, 1, none⟩ = some (.int .i64 a1_1) := hS_
      refine norm_ (a' := ?_) ?_ ?_
      rotate_left
      ·simp only [putAll, Act.put, List.setIfInBounds_toArray, List.set_cons_zero, List.set_cons_succ]
       rfl
      refine one_ (i := 8) (N := none) (ba 10 511) rfl rfl (one_of HT_.out (by kernel_rfl)) (by decide) (fun K hK => ?_)
      have hs65 : w64.cell? ⟨gb524, 0, none⟩ = some (.int .i64 0) := bc BK524 0
      have hfs65 := blk_frozen BK524.out 0
      have hns65_0 := NB501_524.out
      have hns65_1 := NB502_524.out
      have hms65_0 := NB524_501.out
      have hms65_1 := NB524_502.out
      have hs66 : w64.cell? ⟨gb524, 1, none⟩ = some (.int .i64 0) := bc BK524 1
      have hfs66 := blk_frozen BK524.out 1
      have hns66_0 := NB501_524.out
      have hns66_1 := NB502_524.out
      have hms66_0 := NB524_501.out
      have hms66_1 := NB524_502.out
      refine skip_ (w1 := ?_) (by rfl) rfl ?_ ?_
      rotate_left
      ·go_simp
       rfl
      refine hK.out _ _ ⟨((cell_far (p := ⟨gb524, _, none⟩) NB501_524.out _).trans (((cell_far (p := ⟨gb524, _, none⟩) NB501_524.out _).trans (hHeld.1)))), ((cell_far (p := ⟨gb524, _, none⟩) NB501_524.out _).trans (((cell_far (p := ⟨gb524, _, none⟩) NB501_524.out _).trans (hHeld.2.1)))), ((cell_far (p := ⟨gb524, _, none⟩) NB501_524.out _).trans (((cell_far (p := ⟨gb524, _, none⟩) NB501_524.out _).trans (hHeld.2.2.1)))), ((cell_far (p := ⟨gb524, _, none⟩) NB502_524.out _).trans (((cell_far (p := ⟨gb524, _, none⟩) NB502_524.out _).trans (hHeld.2.2.2.1)))), ((cell_far (p := ⟨gb524, _, none⟩) NB502_524.out _).trans (((cell_far (p := ⟨gb524, _, none⟩) NB502_524.out _).trans (hHeld.2.2.2.2))))⟩ (fun hHeld => ?_)
      clear hK K
      refine pS HT_ 9 (some 8) (ba 10 1023) ?_
      refine done_ (done_of HT_.out (by kernel_rfl)) ?_
      have hnb67 := NB501_502.out
      have hnc67 := NB502_501.out
      have hnb68 := NB501_524.out
      have hnc68 := NB524_501.out
      have hcz69_0 : w64.cell? ⟨gb501, 0, none⟩ = some (.int .i64 a0_0) := bc BK501 0
      have hcz69_1 : w64.cell? ⟨gb501, 1, none⟩ = some (.slice A0_1 l0_1.length c0_1) := bc BK501 1
      have hcz69_2 : w64.cell? ⟨gb501, 2, none⟩ = some (.slice A0_2 l0_2.length c0_2) := bc BK501 2
      have hfz69_0 := blk_frozen BK501.out 0
      have hfz69_1 := blk_frozen BK501.out 1
      have hfz69_2 := blk_frozen BK501.out 2
      have hnb70 := NB502_524.out
      have hnc70 := NB524_502.out
      have hcz71_0 : w64.cell? ⟨gb502, 0, none⟩ = some (.int .i64 a1_0) := bc BK502 0
      have hcz71_1 : w64.cell? ⟨gb502, 1, none⟩ = some (.int .i64 a1_1) := bc BK502 1
      have hfz71_0 := blk_frozen BK502.out 0
      have hfz71_1 := blk_frozen BK502.out 1
      try go_wp2_with (first | ((with_reducible refine gate_callee (f := 16) rfl ?_); refine goesL_ (some 25) rfl rfl Try.func16 (by kernel_rfl) rfl #[.agg #[.int .i64 a0_0, .slice A0_1 l0_1.length c0_1, .slice A0_2 l0_2.length c0_2], .agg #[.int .i64 a1_0, .int .i64 a1_1]] rfl (by (try simp only [List.map_toArray, List.map_cons, List.map_nil]); first | done | rfl | (simp only [List.length_drop, List.length_take]; rfl)) ?_; (with_reducible refine (congoulaw04_fine.calls k a0_0 _ _ l0_1 _ _ l0_2 a1_0 a1_1 false _ ?side1 ?side2 ?side3 ?side4 A7.out).mono ?_); (case side1 => exact Kd.C_below HR0_1.out (hbC _)); (case side2 => exact HC0_1.out); (case side3 => exact Kd.C_below HR0_2.out (hbC _)); (case side4 => exact HC0_2.out); rintro e w72 ⟨rfl, hb⟩; refine ⟨_, rfl, ?_⟩; replace HO506 := Aside0.mk (Kd.R_below (by (with_reducible repeat (first | apply Kd.R_alloc | apply Kd.R_drewN | apply Kd.R_drew)); exact (Kd.R_mono (Kd.R_far (p := ⟨gb524, 1, none⟩) (Kd.R_far (p := ⟨gb524, 0, none⟩) (Kd.R_types HO506.out BK524.out (by decide)) (fun _ hk => hk.2) (.int .i64 t521)) (fun _ hk => hk.2) (.int .i64 t522)) (fun _ h_ => h_.1))) hb); replace HO509 := Aside0.mk (Kd.R_below (by (with_reducible repeat (first | apply Kd.R_alloc | apply Kd.R_drewN | apply Kd.R_drew)); exact (Kd.R_mono (Kd.R_far (p := ⟨gb524, 1, none⟩) (Kd.R_far (p := ⟨gb524, 0, none⟩) (Kd.R_types HO509.out BK524.out (by decide)) (fun _ hk => hk.2) (.int .i64 t521)) (fun _ hk => hk.2) (.int .i64 t522)) (fun _ h_ => h_.1))) hb); replace HO512 := Aside0.mk (Kd.R_below (by (with_reducible repeat (first | apply Kd.R_alloc | apply Kd.R_drewN | apply Kd.R_drew)); exact (Kd.R_mono (Kd.R_far (p := ⟨gb524, 1, none⟩) (Kd.R_far (p := ⟨gb524, 0, none⟩) (Kd.R_mono HO512.out (fun k_ hk => (⟨hk, hk.2⟩ : _ ∧ k_ ≠ gb524))) (fun _ hk => hk.2) (.int .i64 t521)) (fun _ hk => hk.2) (.int .i64 t522)) (fun _ h_ => h_.1))) hb); replace HO517 := Aside0.mk (Kd.R_below (by (with_reducible repeat (first | apply Kd.R_alloc | apply Kd.R_drewN | apply Kd.R_drew)); exact (Kd.R_mono (Kd.R_far (p := ⟨gb524, 1, none⟩) (Kd.R_far (p := ⟨gb524, 0, none⟩) (Kd.R_types HO517.out BK524.out (by decide)) (fun _ hk => hk.2) (.int .i64 t521)) (fun _ hk => hk.2) (.int .i64 t522)) (fun _ h_ => h_.1))) hb); replace HO520 := Aside0.mk (Kd.R_below (by (with_reducible repeat (first | apply Kd.R_alloc | apply Kd.R_drewN | apply Kd.R_drew)); exact (Kd.R_mono (Kd.R_far (p := ⟨gb524, 1, none⟩) (Kd.R_far (p := ⟨gb524, 0, none⟩) (Kd.R_types HO520.out BK524.out (by decide)) (fun _ hk => hk.2) (.int .i64 t521)) (fun _ hk => hk.2) (.int .i64 t522)) (fun _ h_ => h_.1))) hb); replace BK501 := Aside0.mk (blk_below (g := gb501) (o := .cells #[.int .i64 a0_0, .slice A0_1 l0_1.length c0_1, .slice A0_2 l0_2.length c0_2] 24 (0, 0)) (bF BK501) hb); replace BK502 := Aside0.mk (blk_below (g := gb502) (o := .cells #[.int .i64 a1_0, .int .i64 a1_1] 26 (0, 0)) (bF BK502) hb); replace BK524 := Aside0.mk (blk_below (g := gb524) (o := .cells #[.int .i64 t521, .int .i64 t522] 26 (0, 0)) (by (with_reducible repeat (first | refine blk_drewN ?_ _ | refine blk_drew ?_ | refine blk_alloc ?_ _)); refine blk_put (cs := #[.int .i64 t521, .int .i64 0]) ?_ 1 _ rfl; (with_reducible repeat (first | refine blk_drewN ?_ _ | refine blk_drew ?_ | refine blk_alloc ?_ _)); refine blk_put (cs := #[.int .i64 0, .int .i64 0]) ?_ 0 _ rfl; (with_reducible repeat (first | refine blk_drewN ?_ _ | refine blk_drew ?_ | refine blk_alloc ?_ _)); exact BK524.out) hb); replace HB := kH _ hb; (try clear hb); (try clear hb2); (try clear hk); (try clear hi); obtain ⟨Ao73, co73, eo73⟩ := Kd.R_slice HO512.out; subst eo73; have hcz74_0 : w72.cell? ⟨gb524, 0, none⟩ = some (.int .i64 t521) := bc BK524 0; have hcz74_1 : w72.cell? ⟨gb524, 1, none⟩ = some (.int .i64 t522) := bc BK524 1; have hfz74_0 := blk_frozen BK524.out 0; have hfz74_1 := blk_frozen BK524.out 1) | (go_at_call 22; (with_reducible refine (congoulaw04_none.calls t521 t522 true _ A46.out).mono ?_); rintro e w75 ⟨rfl, hb⟩; replace HO506 := kO HO506 hb; replace HO509 := kO HO509 hb; replace HO512 := kO HO512 hb; replace HO517 := kO HO517 hb; replace HO520 := kO HO520 hb; replace BK501 := kB BK501 hb; replace BK502 := kB BK502 hb; replace BK524 := kB BK524 hb; replace HB := kH _ hb; (try clear hb); (try clear hb2); (try clear hk); (try clear hi)) | (go_at_call 17; (with_reducible refine (congoulaw04_awake.calls k  t527 _ A50.out).mono ?_); rintro e w76 ⟨rfl, hb⟩; replace HO506 := kO HO506 hb; replace HO509 := kO HO509 hb; replace HO512 := kO HO512 hb; replace HO517 := kO HO517 hb; replace HO520 := kO HO520 hb; replace BK501 := kB BK501 hb; replace BK502 := kB BK502 hb; replace BK524 := kB BK524 hb; replace HB := kH _ hb; (try clear hb); (try clear hb2); (try clear hk); (try clear hi)))
      go_ret
      exact ⟨by first | rfl | (simp [errW_none, errW_some] <;> rfl) | (simp [*, errW_none, errW_some] <;> rfl), hbC _⟩
     ·rw [if_neg c49] at H
      have c49b0 : (t523 == 2) = false := beq_eq_false_iff_ne.mpr c49
      have c49b1 : (t523 != 2) = true := bne_iff_ne.mpr c49
      exact absurd (H.trans (congrArg some HRT.out)) (by simp)
    ·rw [if_neg c48] at H
     have c48b0 : (t513 == 2) = false := beq_eq_false_iff_ne.mpr c48
     have c48b1 : (t513 != 2) = true := bne_iff_ne.mpr c48
     exact absurd (H.trans (congrArg some HRT.out)) (by simp)
   ·replace c47 := Bool.eq_false_iff.mpr c47
    subst c47
    have H1 : (some false) = some r := by rw [if_neg (show ¬ (false = true) by decide)] at H; exact H
    clear H
    have H := H1
    clear H1
    exact absurd (H.trans (congrArg some HRT.out)) (by simp)
  ·rw [if_neg c45] at H
   have c45b0 : ((t510.length : Int) == 0) = false := beq_eq_false_iff_ne.mpr c45
   have c45b1 : ((t510.length : Int) != 0) = true := bne_iff_ne.mpr c45
   have c45b2 : ¬ (t510 = []) := fun h_ => c45 (by rw [h_]; rfl)
   exact absurd (H.trans (congrArg some HRT.out)) (by simp)

end Go.Proofs.Ytpnocmkpeogifaa.X
