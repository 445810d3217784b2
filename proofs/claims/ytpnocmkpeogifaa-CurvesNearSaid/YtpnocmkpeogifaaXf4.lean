-- Written by a program of this work (wip/xprint.py, over the kit's printer) out of the translation.
import Derived.Test.YtpnocmkpeogifaaX0
import Derived.Test.YtpnocmkpeogifaaXG1a
import Derived.Test.YtpnocmkpeogifaaXG2a
import Derived.Test.YtpnocmkpeogifaaXG4a
import Derived.Test.YtpnocmkpeogifaaXf14
import Derived.Test.YtpnocmkpeogifaaXf15
import Derived.Test.YtpnocmkpeogifaaXf17
import Derived.Test.YtpnocmkpeogifaaXf18
import Derived.Test.YtpnocmkpeogifaaXf19
import Derived.Test.YtpnocmkpeogifaaXq0
namespace Go.Proofs.Ytpnocmkpeogifaa.X
open Go.RowKit Go.Proofs.YtpnocmkpeogifaaW.PrintWords Go.Proofs.YtpnocmkpeogifaaW.PrintLast Go.Proofs.YtpnocmkpeogifaaW.PrintMore
attribute [local go_sem] max2_int min2_int max_two min_two max_three min_three max_four min_four   -- for this text's walks alone
set_option linter.unusedVariables false
set_option linter.unusedSimpArgs false

attribute [local go_sem high] eqA26
/-! ### congoulaw04_CurvesNear: function 4 -/
def congoulaw04_CurvesNear.j0 : Nat → Int → Int → Int → List (S26) → Int → Bool → Int → List Int → List Int → Int → Int → Int → Int → Option (Bool)
 | 0, _, _, _, _, _, _, _, _, _, _, _, _, _ => none
 | k + 1, x1, x2, x10, x11, x12, x42, x368000, x368001, x368002, x369000, x369001, x380000, x380001 => if x42 = true then (if x10 = 2 then (if x12 = x10 then ((congoulaw04_awake.f k).bind fun t392 => (some t392)) else (some false)) else (some false)) else (if (x11.length : Int) = (x368002.length : Int) then (if (IntKind.u64.wrap ((x11.length : Int))) = 0 then (none) else ((congoulaw04_list.f x368002).bind fun t393 => (if 0 ≤ (wrap64 (Int.tmod (IntKind.u64.wrap (x1)) (IntKind.u64.wrap ((x11.length : Int))))) then (if (wrap64 (Int.tmod (IntKind.u64.wrap (x1)) (IntKind.u64.wrap ((x11.length : Int))))) < (t393.length : Int) then ((congoulaw04_Of.f x368000 x368001 (t393.set ((wrap64 (Int.tmod (IntKind.u64.wrap (x1)) (IntKind.u64.wrap ((x11.length : Int))))) : Int).toNat (wrap64 ((wrap64 (Int.tmod (IntKind.u64.wrap (x2)) 101)) - 50)))).bind fun bt398 => ((curves_Value.f k bt398.1 bt398.2.1 bt398.2.2 x369000 x369001).bind fun bt405 => (if (wrap64 (Int.tmod (IntKind.u64.wrap (x1)) (IntKind.u64.wrap ((x11.length : Int))))) < (x11.length : Int) then (if (wrap64 (Int.tmod (IntKind.u64.wrap (x1)) (IntKind.u64.wrap ((x11.length : Int))))) < (x368002.length : Int) then ((congoulaw04_whole.f (wrap64 ((wrap64 ((wrap64 (Int.tmod (IntKind.u64.wrap (x2)) 101)) - 50)) - (rd x368002 (wrap64 (Int.tmod (IntKind.u64.wrap (x1)) (IntKind.u64.wrap ((x11.length : Int))))))))).bind fun bt411 => ((congoulaw04_more.f k x380000 x380001 ((rd_T26 x11 (wrap64 (Int.tmod (IntKind.u64.wrap (x1)) (IntKind.u64.wrap ((x11.length : Int)))))).f0) ((rd_T26 x11 (wrap64 (Int.tmod (IntKind.u64.wrap (x1)) (IntKind.u64.wrap ((x11.length : Int)))))).f1) bt411.1 bt411.2).bind fun bt413 => (if bt405.2.2 = 0 then (if bt413.2.2 = true then (if (bt413.1 == bt405.1 && (bt413.2.1 == bt405.2.1)) = true then ((congoulaw04_awake.f k).bind fun t417 => (some t417)) else (some false)) else (some false)) else (some false)))) else (none)) else (none)))) else (none)) else (none)))) else (some false))
def congoulaw04_CurvesNear.f (k : Nat) (a0_0 : Int) (l0_1 : List Int) (l0_2 : List Int) (a1 : Int) (a2 : Int) (a3_0 : Int) (a3_1 : Int) : Option (Bool) := (congoulaw04_Of.f a0_0 l0_1 l0_2).bind fun bt369 => ((curves_Value.f k bt369.1 bt369.2.1 bt369.2.2 a3_0 a3_1).bind fun bt376 => ((congoulaw04_Of.f a0_0 l0_1 l0_2).bind fun bt380 => ((curves_Basic.f k bt380.1 bt380.2.1 bt380.2.2 a3_0 a3_1).bind fun bt387 => (if bt376.2.2 = 0 then (if bt387.2 = 0 then ((congoulaw04_fine.f k a0_0 l0_1 l0_2 a3_0 a3_1).bind fun t391 => (congoulaw04_CurvesNear.j0 k a1 a2 bt376.2.2 bt387.1 bt387.2 (!t391) a0_0 l0_1 l0_2 a3_0 a3_1 bt376.1 bt376.2.1)) else (congoulaw04_CurvesNear.j0 k a1 a2 bt376.2.2 bt387.1 bt387.2 true a0_0 l0_1 l0_2 a3_0 a3_1 bt376.1 bt376.2.1)) else (congoulaw04_CurvesNear.j0 k a1 a2 bt376.2.2 bt387.1 bt387.2 true a0_0 l0_1 l0_2 a3_0 a3_1 bt376.1 bt376.2.1)))))
theorem congoulaw04_CurvesNear.mono_l : ∀ k, (∀ y0 y1 y2 y3 y4 y5 y6 y7 y8 y9 y10 y11 y12, LeO (congoulaw04_CurvesNear.j0 k y0 y1 y2 y3 y4 y5 y6 y7 y8 y9 y10 y11 y12) (congoulaw04_CurvesNear.j0 (k + 1) y0 y1 y2 y3 y4 y5 y6 y7 y8 y9 y10 y11 y12))
 | 0 => fun _ _ _ _ _ _ _ _ _ _ _ _ _ r h => by simp [congoulaw04_CurvesNear.j0] at h
 | k + 1 => by
  have ih0 := congoulaw04_CurvesNear.mono_l k
  ·intro y0 y1 y2 y3 y4 y5 y6 y7 y8 y9 y10 y11 y12
   unfold congoulaw04_CurvesNear.j0
   repeat' first
   | (with_reducible exact ih0 _ _ _ _ _ _ _ _ _ _ _ _ _)
   | (with_reducible exact congoulaw04_awake.mono _)
   | (with_reducible exact congoulaw04_fine.mono _ _ _ _ _ _)
   | (with_reducible exact congoulaw04_more.mono _ _ _ _ _ _ _)
   | (with_reducible exact curves_Basic.mono _ _ _ _ _ _)
   | (with_reducible exact curves_Value.mono _ _ _ _ _ _)
   | (with_reducible exact LeO.refl _)
   | (with_reducible exact LeO.none _)
   | (with_reducible refine LeO.ite ?_ ?_)
   | (with_reducible refine LeO.bind ?_ (fun _ => ?_))
   | exact ih0 _ _ _ _ _ _ _ _ _ _ _ _ _
   | exact congoulaw04_awake.mono _
   | exact congoulaw04_fine.mono _ _ _ _ _ _
   | exact congoulaw04_more.mono _ _ _ _ _ _ _
   | exact curves_Basic.mono _ _ _ _ _ _
   | exact curves_Value.mono _ _ _ _ _ _
   | exact LeO.none _
   | refine LeO.ite ?_ ?_
   | refine LeO.bind ?_ (fun _ => ?_)
theorem congoulaw04_CurvesNear.mono : ∀ a0 a1 a2 a3 a4 a5 a6 k, LeO (congoulaw04_CurvesNear.f k a0 a1 a2 a3 a4 a5 a6) (congoulaw04_CurvesNear.f (k + 1) a0 a1 a2 a3 a4 a5 a6) := by
 intro a0 a1 a2 a3 a4 a5 a6 k
 have ih0 := congoulaw04_CurvesNear.mono_l k
 unfold congoulaw04_CurvesNear.f
 repeat' first
   | (with_reducible exact ih0 _ _ _ _ _ _ _ _ _ _ _ _ _)
   | (with_reducible exact congoulaw04_awake.mono _)
   | (with_reducible exact congoulaw04_fine.mono _ _ _ _ _ _)
   | (with_reducible exact congoulaw04_more.mono _ _ _ _ _ _ _)
   | (with_reducible exact curves_Basic.mono _ _ _ _ _ _)
   | (with_reducible exact curves_Value.mono _ _ _ _ _ _)
   | (with_reducible exact LeO.refl _)
   | (with_reducible exact LeO.none _)
   | (with_reducible refine LeO.ite ?_ ?_)
   | (with_reducible refine LeO.bind ?_ (fun _ => ?_))
   | exact ih0 _ _ _ _ _ _ _ _ _ _ _ _ _
   | exact congoulaw04_awake.mono _
   | exact congoulaw04_fine.mono _ _ _ _ _ _
   | exact congoulaw04_more.mono _ _ _ _ _ _ _
   | exact curves_Basic.mono _ _ _ _ _ _
   | exact curves_Value.mono _ _ _ _ _ _
   | exact LeO.none _
   | refine LeO.ite ?_ ?_
   | refine LeO.bind ?_ (fun _ => ?_)
def congoulaw04_CurvesNear.T1 : Bool × List (List Nat × List Nat) := (true, [([], []), ([0], [0]), ([], []), ([1, 2, 1], [1, 2]), ([3], [3]), ([4], [4]), ([4], [4]), ([], []), ([7, 5, 3, 0, 1, 2, 3, 4, 5, 7], [5, 7]), ([6, 8, 0, 1, 2, 3, 4, 5, 6, 7, 8], [6])])
def congoulaw04_CurvesNear.B1 : List Nat := [0, 1, 0, 7, 15, 31, 31, 0, 191, 511]
theorem congoulaw04_CurvesNear.tab1 : rtab .any (opsOf Try.f4 1) = congoulaw04_CurvesNear.T1 := by kernel_rfl
theorem congoulaw04_CurvesNear.bits1 : waitsOk congoulaw04_CurvesNear.T1.2 congoulaw04_CurvesNear.B1 = true := by kernel_rfl
def congoulaw04_CurvesNear.T2 : Bool × List (List Nat × List Nat) := (true, [([], []), ([0], [0]), ([], []), ([1, 2, 1], [1, 2]), ([3], [3]), ([4], [4]), ([4], [4]), ([5, 3, 0, 1, 2, 3, 4, 5], [5]), ([6, 7, 0, 1, 2, 3, 4, 5, 6, 7], [6])])
def congoulaw04_CurvesNear.B2 : List Nat := [0, 1, 0, 7, 15, 31, 31, 63, 255]
theorem congoulaw04_CurvesNear.tab2 : rtab .any (opsOf Try.f4 2) = congoulaw04_CurvesNear.T2 := by kernel_rfl
theorem congoulaw04_CurvesNear.bits2 : waitsOk congoulaw04_CurvesNear.T2.2 congoulaw04_CurvesNear.B2 = true := by kernel_rfl
def congoulaw04_CurvesNear.T9 : Bool × List (List Nat × List Nat) := (true, [([], []), ([0], [0]), ([], []), ([2], [2]), ([], []), ([4], [4]), ([5], [5]), ([1, 3, 6], [1, 3, 6]), ([], []), ([8, 7, 6, 0, 1, 2, 3, 4, 5, 6, 7, 8], [7, 8])])
def congoulaw04_CurvesNear.B9 : List Nat := [0, 1, 0, 4, 0, 16, 48, 127, 0, 511]
theorem congoulaw04_CurvesNear.tab9 : rtab .any (opsOf Try.f4 9) = congoulaw04_CurvesNear.T9 := by kernel_rfl
theorem congoulaw04_CurvesNear.bits9 : waitsOk congoulaw04_CurvesNear.T9.2 congoulaw04_CurvesNear.B9 = true := by kernel_rfl
def congoulaw04_CurvesNear.T11 : Bool × List (List Nat × List Nat) := (true, [([], []), ([0], [0]), ([], []), ([1, 2, 1], [1, 2]), ([3], [3]), ([4], [4]), ([4], [4]), ([], []), ([7, 5, 3, 0, 1, 2, 3, 4, 5, 7], [5, 7]), ([6, 8, 0, 1, 2, 3, 4, 5, 6, 7, 8], [6])])
def congoulaw04_CurvesNear.B11 : List Nat := [0, 1, 0, 7, 15, 31, 31, 0, 191, 511]
theorem congoulaw04_CurvesNear.tab11 : rtab .any (opsOf Try.f4 11) = congoulaw04_CurvesNear.T11 := by kernel_rfl
theorem congoulaw04_CurvesNear.bits11 : waitsOk congoulaw04_CurvesNear.T11.2 congoulaw04_CurvesNear.B11 = true := by kernel_rfl
def congoulaw04_CurvesNear.T12 : Bool × List (List Nat × List Nat) := (true, [([], []), ([], []), ([], []), ([1, 2], [1, 2]), ([3], [3]), ([], []), ([], []), ([6], [6]), ([], []), ([7, 8], [7, 8]), ([9], [9]), ([5, 10], [5, 10]), ([11], [11]), ([0, 4, 12, 12], [0, 4, 12]), ([13], [13]), ([14], [14]), ([14], [14]), ([], []), ([17, 15, 13, 0, 1, 2, 3, 4, 5, 6, 7, 8, 9, 10, 11, 12, 13, 14, 15, 17], [15, 17]), ([16, 18, 0, 1, 2, 3, 4, 5, 6, 7, 8, 9, 10, 11, 12, 13, 14, 15, 16, 17, 18], [16])])
def congoulaw04_CurvesNear.B12 : List Nat := [0, 0, 0, 6, 14, 0, 0, 64, 0, 448, 960, 2016, 4064, 8191, 16383, 32767, 32767, 0, 196607, 524287]
theorem congoulaw04_CurvesNear.tab12 : rtab .any (opsOf Try.f4 12) = congoulaw04_CurvesNear.T12 := by kernel_rfl
theorem congoulaw04_CurvesNear.bits12 : waitsOk congoulaw04_CurvesNear.T12.2 congoulaw04_CurvesNear.B12 = true := by kernel_rfl
set_option maxHeartbeats 8000000 in
set_option maxRecDepth 100000 in
theorem congoulaw04_CurvesNear.calls (k : Nat) (a0_0 : Int) (A0_1 : Option Addr) (c0_1 : Nat) (l0_1 : List Int) (A0_2 : Option Addr) (c0_2 : Nat) (l0_2 : List Int) (a1 : Int) (a2 : Int) (a3_0 : Int) (a3_1 : Int) (r : Bool) (w : World) (hr0_1 : Kd.C (Kd.int .i64) w A0_1 l0_1.length l0_1) (hc0_1 : l0_1.length ≤ c0_1) (hr0_2 : Kd.C (Kd.int .i64) w A0_2 l0_2.length l0_2) (hc0_2 : l0_2.length ≤ c0_2) (hrt : r = true) (h : congoulaw04_CurvesNear.f k a0_0 l0_1 l0_2 a1 a2 a3_0 a3_1 = some r) :
  Calls Try.prog 4 #[.agg #[.int .i64 a0_0, .slice A0_1 l0_1.length c0_1, .slice A0_2 l0_2.length c0_2], .int .i64 a1, .int .i64 a2, .agg #[.int .i64 a3_0, .int .i64 a3_1]] w fun e w' => e = .returned (.bool r) ∧ Below w.heap.size w w' := by
 have hu24 := Try.underlying24
 have hu26 := Try.underlying26
 have HR0_1 := Aside0.mk hr0_1
 have HC0_1 := Aside0.mk hc0_1
 clear hr0_1 hc0_1
 have HR0_2 := Aside0.mk hr0_2
 have HC0_2 := Aside0.mk hc0_2
 clear hr0_2 hc0_2
 have HB := Aside0.mk (Below.refl w.heap.size w)
 have H : ((congoulaw04_Of.f a0_0 l0_1 l0_2).bind fun bt369 => ((curves_Value.f k bt369.1 bt369.2.1 bt369.2.2 a3_0 a3_1).bind fun bt376 => ((congoulaw04_Of.f a0_0 l0_1 l0_2).bind fun bt380 => ((curves_Basic.f k bt380.1 bt380.2.1 bt380.2.2 a3_0 a3_1).bind fun bt387 => (if bt376.2.2 = 0 then (if bt387.2 = 0 then ((congoulaw04_fine.f k a0_0 l0_1 l0_2 a3_0 a3_1).bind fun t391 => (congoulaw04_CurvesNear.j0 k a1 a2 bt376.2.2 bt387.1 bt387.2 (!t391) a0_0 l0_1 l0_2 a3_0 a3_1 bt376.1 bt376.2.1)) else (congoulaw04_CurvesNear.j0 k a1 a2 bt376.2.2 bt387.1 bt387.2 true a0_0 l0_1 l0_2 a3_0 a3_1 bt376.1 bt376.2.1)) else (congoulaw04_CurvesNear.j0 k a1 a2 bt376.2.2 bt387.1 bt387.2 true a0_0 l0_1 l0_2 a3_0 a3_1 bt376.1 bt376.2.1)))))) = some r := h
 clear h
 have HRT := Aside0.mk hrt
 clear hrt
 replace H := Option.bind_eq_some_iff.mp H
 obtain ⟨⟨t369, t370, t373⟩, A50, H⟩ := H
 replace H : ((curves_Value.f k t369 t370 t373 a3_0 a3_1).bind fun bt376 => ((congoulaw04_Of.f a0_0 l0_1 l0_2).bind fun bt380 => ((curves_Basic.f k bt380.1 bt380.2.1 bt380.2.2 a3_0 a3_1).bind fun bt387 => (if bt376.2.2 = 0 then (if bt387.2 = 0 then ((congoulaw04_fine.f k a0_0 l0_1 l0_2 a3_0 a3_1).bind fun t391 => (congoulaw04_CurvesNear.j0 k a1 a2 bt376.2.2 bt387.1 bt387.2 (!t391) a0_0 l0_1 l0_2 a3_0 a3_1 bt376.1 bt376.2.1)) else (congoulaw04_CurvesNear.j0 k a1 a2 bt376.2.2 bt387.1 bt387.2 true a0_0 l0_1 l0_2 a3_0 a3_1 bt376.1 bt376.2.1)) else (congoulaw04_CurvesNear.j0 k a1 a2 bt376.2.2 bt387.1 bt387.2 true a0_0 l0_1 l0_2 a3_0 a3_1 bt376.1 bt376.2.1))))) = some r := H
 have A5 := Aside0.mk A50
 clear A50
 replace H := Option.bind_eq_some_iff.mp H
 obtain ⟨⟨t376, t377, t378⟩, A60, H⟩ := H
 replace H : ((congoulaw04_Of.f a0_0 l0_1 l0_2).bind fun bt380 => ((curves_Basic.f k bt380.1 bt380.2.1 bt380.2.2 a3_0 a3_1).bind fun bt387 => (if t378 = 0 then (if bt387.2 = 0 then ((congoulaw04_fine.f k a0_0 l0_1 l0_2 a3_0 a3_1).bind fun t391 => (congoulaw04_CurvesNear.j0 k a1 a2 t378 bt387.1 bt387.2 (!t391) a0_0 l0_1 l0_2 a3_0 a3_1 t376 t377)) else (congoulaw04_CurvesNear.j0 k a1 a2 t378 bt387.1 bt387.2 true a0_0 l0_1 l0_2 a3_0 a3_1 t376 t377)) else (congoulaw04_CurvesNear.j0 k a1 a2 t378 bt387.1 bt387.2 true a0_0 l0_1 l0_2 a3_0 a3_1 t376 t377)))) = some r := H
 have A6 := Aside0.mk A60
 clear A60
 replace H := Option.bind_eq_some_iff.mp H
 obtain ⟨⟨t380, t381, t384⟩, A70, H⟩ := H
 replace H : ((curves_Basic.f k t380 t381 t384 a3_0 a3_1).bind fun bt387 => (if t378 = 0 then (if bt387.2 = 0 then ((congoulaw04_fine.f k a0_0 l0_1 l0_2 a3_0 a3_1).bind fun t391 => (congoulaw04_CurvesNear.j0 k a1 a2 t378 bt387.1 bt387.2 (!t391) a0_0 l0_1 l0_2 a3_0 a3_1 t376 t377)) else (congoulaw04_CurvesNear.j0 k a1 a2 t378 bt387.1 bt387.2 true a0_0 l0_1 l0_2 a3_0 a3_1 t376 t377)) else (congoulaw04_CurvesNear.j0 k a1 a2 t378 bt387.1 bt387.2 true a0_0 l0_1 l0_2 a3_0 a3_1 t376 t377))) = some r := H
 have A7 := Aside0.mk A70
 clear A70
 replace H := Option.bind_eq_some_iff.mp H
 obtain ⟨⟨t387, t390⟩, A80, H⟩ := H
 replace H : (if t378 = 0 then (if t390 = 0 then ((congoulaw04_fine.f k a0_0 l0_1 l0_2 a3_0 a3_1).bind fun t391 => (congoulaw04_CurvesNear.j0 k a1 a2 t378 t387 t390 (!t391) a0_0 l0_1 l0_2 a3_0 a3_1 t376 t377)) else (congoulaw04_CurvesNear.j0 k a1 a2 t378 t387 t390 true a0_0 l0_1 l0_2 a3_0 a3_1 t376 t377)) else (congoulaw04_CurvesNear.j0 k a1 a2 t378 t387 t390 true a0_0 l0_1 l0_2 a3_0 a3_1 t376 t377)) = some r := H
 have A8 := Aside0.mk A80
 clear A80
 have HC9 := Aside0.mk H
 clear H
 go_enter Try.func4, Try.ntmps4
 try go_wp2_with (first | ((with_reducible refine gate_dst (N := 4) rfl ?_); refine bE 4 #[.int .i64 a0_0, .slice A0_1 l0_1.length c0_1, .slice A0_2 l0_2.length c0_2] 24 ?_; intro gb367 hg w10 hbox hb; have BK367 := Aside0.mk (hbox); have GW367 := kG w hg; have GE367 := kG w hg; replace HB := kH _ hb; clear hb hbox hg) | ((with_reducible refine gate_dst (N := 7) rfl ?_); refine bE 7 #[.int .i64 a3_0, .int .i64 a3_1] 26 ?_; intro gb368 hg w11 hbox hb; have BK368 := Aside0.mk (hbox); have GW368 := kG w hg; have GE368 := kG w hg; replace HB := kH _ hb; have NB367_368 := kL BK367 hg; have NB368_367 := kR BK367 hg; replace BK367 := kB BK367 hb; clear hb hbox hg))
 replace BK367 := kd BK367
 replace BK368 := kd BK368
 replace HB := Aside0.mk (below_drew1 HB.out)
 refine sS (n := 10) (S := fun w' => w'.cell? ⟨gb367, 0, none⟩ = some (.int .i64 a0_0) ∧ w'.cell? ⟨gb367, 1, none⟩ = some (.slice A0_1 l0_1.length c0_1) ∧ w'.cell? ⟨gb367, 2, none⟩ = some (.slice A0_2 l0_2.length c0_2) ∧ w'.cell? ⟨gb368, 0, none⟩ = some (.int .i64 a3_0) ∧ w'.cell? ⟨gb368, 1, none⟩ = some (.int .i64 a3_1)) (ds := []) ⟨bc BK367 0, bc BK367 1, bc BK367 2, bc BK368 0, bc BK368 1⟩ (fun hHeld => ?_); refine with_tabW congoulaw04_CurvesNear.tab1 congoulaw04_CurvesNear.bits1 (fun HT_ HW_ => ?_)
 generalize w11.drew = w12 at BK367 BK368 HB hHeld ⊢
 refine tS 0 18 10 1 ?_
 refine tS 2 20 10 5 ?_
 refine join_ (σ := Value × Value × Nat) 2 (ba 10 255) (fun s_ => [(19, .agg #[.int .i64 t369, s_.1, s_.2.1]), (21, .tuple #[.agg #[.int .i64 t376, .int .i64 t377], .int .i64 t378]), (9, .pointer (some ⟨s_.2.2, 0, none⟩)), (17, .tuple #[.agg #[.int .i64 t376, .int .i64 t377], .int .i64 t378]), (22, .agg #[.int .i64 t376, .int .i64 t377]), (23, .int .i64 t378)]) (fun s_ w' => (w'.cell? ⟨gb367, 0, none⟩ = some (.int .i64 a0_0) ∧ w'.cell? ⟨gb367, 1, none⟩ = some (.slice A0_1 l0_1.length c0_1) ∧ w'.cell? ⟨gb367, 2, none⟩ = some (.slice A0_2 l0_2.length c0_2) ∧ w'.cell? ⟨gb368, 0, none⟩ = some (.int .i64 a3_0) ∧ w'.cell? ⟨gb368, 1, none⟩ = some (.int .i64 a3_1)) ∧ (Kd.R (Kd.int .i64) 3 w' w.heap.size (fun k_ => some k_ ≠ (s_.2.1 : Value).ownBlock) s_.1 t370) ∧ (Kd.R (Kd.int .i64) 3 w' w.heap.size (fun k_ => some k_ ≠ (s_.1 : Value).ownBlock) s_.2.1 t373) ∧ (w'.heap[gb367]? = some (.cells #[.int .i64 a0_0, .slice A0_1 l0_1.length c0_1, .slice A0_2 l0_2.length c0_2] 24 (0, 0))) ∧ (w'.heap[gb368]? = some (.cells #[.int .i64 a3_0, .int .i64 a3_1] 26 (0, 0))) ∧ (w'.heap[s_.2.2]? = some (.cells #[.int .i64 0, .int .i64 0] 26 (0, 0))) ∧ (w.heap.size ≤ s_.2.2) ∧ (w.heap.size ≤ s_.2.2) ∧ (gb367 ≠ s_.2.2) ∧ (s_.2.2 ≠ gb367) ∧ (gb368 ≠ s_.2.2) ∧ (s_.2.2 ≠ gb368) ∧ (Below w.heap.size w w')) ?_ ?_
 rotate_left
 ·intro hCont
  refine two_ (i := 1) (j := 7) (Ni := some 19) (Nj := some 9) (ba 10 7) (ba 10 133) rfl rfl rfl rfl (two_of HT_.out (by kernel_rfl)) (by decide) (by decide) (fun K hK => ?_) (fun K hK => ?_)
  ·skip
   refine gC Try.func15 #[.agg #[.int .i64 a0_0, .slice A0_1 l0_1.length c0_1, .slice A0_2 l0_2.length c0_2]] ?_
   with_reducible refine (congoulaw04_Of.calls a0_0 _ _ l0_1 _ _ l0_2 t369 t370 t373 _ ?side1 ?side2 ?side3 ?side4 A5.out).mono ?_
   (case side1 => exact kC HR0_1)
   (case side2 => exact HC0_1.out)
   (case side3 => exact kC HR0_2)
   (case side4 => exact HC0_2.out)
   rintro e w13 ⟨v371, v374, rfl, ho0, ho1, hb⟩
   refine ⟨_, rfl, ?_⟩
   have HO372 := Aside0.mk (Kd.R_lower ho0 (below_size (hbC _)))
   have HO375 := Aside0.mk (Kd.R_lower ho1 (below_size (hbC _)))
   replace BK367 := kB BK367 hb
   replace BK368 := kB BK368 hb
   replace HB := kH _ hb
   (try clear hb)
   (try clear hb2)
   (try clear hk)
   (try clear hi)
   (try clear ho0)
   (try clear ho1)
   obtain ⟨Ao14, co14, eo14⟩ := Kd.R_slice HO372.out
   (first | subst eo14 | (injection eo14 with f1_ f2_ f3_; have f4_ := f1_.symm; have f5_ := f3_.symm; clear f1_ f2_ f3_; subst f4_; subst f5_))
   obtain ⟨Ao15, co15, eo15⟩ := Kd.R_slice HO375.out
   (first | subst eo15 | (injection eo15 with f1_ f2_ f3_; have f4_ := f1_.symm; have f5_ := f3_.symm; clear f1_ f2_ f3_; subst f4_; subst f5_))
   refine hK.out _ _ ⟨bc BK367 0, bc BK367 1, bc BK367 2, bc BK368 0, bc BK368 1⟩ (fun hHeld => ?_)
   clear hK K
   refine norm_ (a' := ?_) ?_ ?_
   rotate_left
   ·show Act.put _ (some 19) _ = _
    simp only [Act.put, List.setIfInBounds_toArray, List.set_cons_zero, List.set_cons_succ, i64_w, i32_w]
    rfl
   refine two_ (i := 3) (j := 7) (Ni := some 21) (Nj := some 9) (ba 10 15) (ba 10 135) rfl rfl rfl rfl (two_of HT_.out (by kernel_rfl)) (by decide) (by decide) (fun K hK => ?_) (fun K hK => ?_)
   ·skip
    refine gC Try.func14 #[.agg #[.int .i64 t369, .slice Ao14 t370.length co14, .slice Ao15 t373.length co15], .agg #[.int .i64 a3_0, .int .i64 a3_1]] ?_
    with_reducible refine (curves_Value.calls k t369 _ _ t370 _ _ t373 a3_0 a3_1 t376 t377 t378 _ ?side1 ?side2 ?side3 ?side4 A6.out).mono ?_
    (case side1 => exact kD (Kd.R_reads' HO372.out).2.2)
    (case side2 => exact (Kd.R_reads' HO372.out).2.1)
    (case side3 => exact kD (Kd.R_reads' HO375.out).2.2)
    (case side4 => exact (Kd.R_reads' HO375.out).2.1)
    rintro e w16 ⟨rfl, hb⟩
    refine ⟨_, rfl, ?_⟩
    replace HO372 := kO HO372 hb
    replace HO375 := kO HO375 hb
    replace BK367 := kB BK367 hb
    replace BK368 := kB BK368 hb
    replace HB := kH _ hb
    (try clear hb)
    (try clear hb2)
    (try clear hk)
    (try clear hi)
    refine hK.out _ _ ⟨bc BK367 0, bc BK367 1, bc BK367 2, bc BK368 0, bc BK368 1⟩ (fun hHeld => ?_)
    clear hK K
    refine norm_ (a' := ?_) ?_ ?_
    rotate_left
    ·show Act.put _ (some 21) _ = _
     simp only [Act.put, List.setIfInBounds_toArray, List.set_cons_zero, List.set_cons_succ, i64_w, i32_w]
     rfl
    refine pS 4 17 10 31 ?_
    refine pS 5 22 10 63 ?_
    refine pS 6 23 10 127 ?_
    refine one_ (i := 7) (N := some 9) (ba 10 255) rfl rfl (one_of HT_.out (by kernel_rfl)) (by decide) (fun K hK => ?_)
    refine box_step ?hg (N := 9) ?hd (cs := #[.int .i64 0, .int .i64 0]) (t := 26) ?hr ?_; (case hd => rfl); (case hg => rfl); (case hr => first | (go_simp; done) | (go_simp; rfl))
    intro gb379 hg w17 hbox hb
    replace HO372 := kO HO372 hb
    replace HO375 := kO HO375 hb
    have BK379 := Aside0.mk (hbox)
    have GW379 := kG w hg
    have GE379 := kG w hg
    replace HB := kH _ hb
    have NB367_379 := kL BK367 hg
    have NB379_367 := kR BK367 hg
    replace BK367 := kB BK367 hb
    have NB368_379 := kL BK368 hg
    have NB379_368 := kR BK368 hg
    replace BK368 := kB BK368 hb
    clear hb hbox hg
    refine hK.out _ _ ⟨bc BK367 0, bc BK367 1, bc BK367 2, bc BK368 0, bc BK368 1⟩ (fun hHeld => ?_)
    clear hK K
    refine norm_ (a' := ?_) ?_ ?_
    rotate_left
    ·show Act.put _ (some 9) _ = _
     simp only [Act.put, List.setIfInBounds_toArray, List.set_cons_zero, List.set_cons_succ, i64_w, i32_w]
     rfl
    exact norm_ (by simp only [putAll, Act.put, List.setIfInBounds_toArray, List.set_cons_zero, List.set_cons_succ]) (hCont (.slice Ao14 t370.length co14, .slice Ao15 t373.length co15, gb379) _ ⟨hHeld, (rC HO372), (rC HO375), (bkC BK367), (bkC BK368), (bkC BK379), GW379.out, GE379.out, NB367_379.out, NB379_367.out, NB368_379.out, NB379_368.out, (hbC _)⟩)
   ·skip
    refine box_step ?hg (N := 9) ?hd (cs := #[.int .i64 0, .int .i64 0]) (t := 26) ?hr ?_; (case hd => rfl); (case hg => rfl); (case hr => first | (go_simp; done) | (go_simp; rfl))
    intro gb379 hg w14 hbox hb
    replace HO372 := kO HO372 hb
    replace HO375 := kO HO375 hb
    have BK379 := Aside0.mk (hbox)
    have GW379 := kG w hg
    have GE379 := kG w hg
    replace HB := kH _ hb
    have NB367_379 := kL BK367 hg
    have NB379_367 := kR BK367 hg
    replace BK367 := kB BK367 hb
    have NB368_379 := kL BK368 hg
    have NB379_368 := kR BK368 hg
    replace BK368 := kB BK368 hb
    clear hb hbox hg
    obtain ⟨Ao15, co15, eo15⟩ := Kd.R_slice HO372.out
    (first | subst eo15 | (injection eo15 with f1_ f2_ f3_; have f4_ := f1_.symm; have f5_ := f3_.symm; clear f1_ f2_ f3_; subst f4_; subst f5_))
    obtain ⟨Ao16, co16, eo16⟩ := Kd.R_slice HO375.out
    (first | subst eo16 | (injection eo16 with f1_ f2_ f3_; have f4_ := f1_.symm; have f5_ := f3_.symm; clear f1_ f2_ f3_; subst f4_; subst f5_))
    refine hK.out _ _ ⟨bc BK367 0, bc BK367 1, bc BK367 2, bc BK368 0, bc BK368 1⟩ (fun hHeld => ?_)
    clear hK K
    refine norm_ (a' := ?_) ?_ ?_
    rotate_left
    ·show Act.put _ (some 9) _ = _
     simp only [Act.put, List.setIfInBounds_toArray, List.set_cons_zero, List.set_cons_succ, i64_w, i32_w]
     rfl
    refine one_ (i := 3) (N := some 21) (ba 10 143) rfl rfl (one_of HT_.out (by kernel_rfl)) (by decide) (fun K hK => ?_)
    refine gC Try.func14 #[.agg #[.int .i64 t369, .slice Ao15 t370.length co15, .slice Ao16 t373.length co16], .agg #[.int .i64 a3_0, .int .i64 a3_1]] ?_
    with_reducible refine (curves_Value.calls k t369 _ _ t370 _ _ t373 a3_0 a3_1 t376 t377 t378 _ ?side1 ?side2 ?side3 ?side4 A6.out).mono ?_
    (case side1 => exact kD (Kd.R_reads' HO372.out).2.2)
    (case side2 => exact (Kd.R_reads' HO372.out).2.1)
    (case side3 => exact kD (Kd.R_reads' HO375.out).2.2)
    (case side4 => exact (Kd.R_reads' HO375.out).2.1)
    rintro e w17 ⟨rfl, hb⟩
    refine ⟨_, rfl, ?_⟩
    replace HO372 := kO HO372 hb
    replace HO375 := kO HO375 hb
    replace BK367 := kB BK367 hb
    replace BK368 := kB BK368 hb
    replace BK379 := kB BK379 hb
    replace HB := kH _ hb
    (try clear hb)
    (try clear hb2)
    (try clear hk)
    (try clear hi)
    refine hK.out _ _ ⟨bc BK367 0, bc BK367 1, bc BK367 2, bc BK368 0, bc BK368 1⟩ (fun hHeld => ?_)
    clear hK K
    refine norm_ (a' := ?_) ?_ ?_
    rotate_left
    ·show Act.put _ (some 21) _ = _
     simp only [Act.put, List.setIfInBounds_toArray, List.set_cons_zero, List.set_cons_succ, i64_w, i32_w]
     rfl
    refine pS 4 17 10 159 ?_
    refine pS 5 22 10 191 ?_
    refine pS 6 23 10 255 ?_
    exact norm_ (by simp only [putAll, Act.put, List.setIfInBounds_toArray, List.set_cons_zero, List.set_cons_succ]) (hCont (.slice Ao15 t370.length co15, .slice Ao16 t373.length co16, gb379) _ ⟨hHeld, (rC HO372), (rC HO375), (bkC BK367), (bkC BK368), (bkC BK379), GW379.out, GE379.out, NB367_379.out, NB379_367.out, NB368_379.out, NB379_368.out, (hbC _)⟩)
  ·skip
   refine box_step ?hg (N := 9) ?hd (cs := #[.int .i64 0, .int .i64 0]) (t := 26) ?hr ?_; (case hd => rfl); (case hg => rfl); (case hr => first | (go_simp; done) | (go_simp; rfl))
   intro gb379 hg w13 hbox hb
   have BK379 := Aside0.mk (hbox)
   have GW379 := kG w hg
   have GE379 := kG w hg
   replace HB := kH _ hb
   have NB367_379 := kL BK367 hg
   have NB379_367 := kR BK367 hg
   replace BK367 := kB BK367 hb
   have NB368_379 := kL BK368 hg
   have NB379_368 := kR BK368 hg
   replace BK368 := kB BK368 hb
   clear hb hbox hg
   refine hK.out _ _ ⟨bc BK367 0, bc BK367 1, bc BK367 2, bc BK368 0, bc BK368 1⟩ (fun hHeld => ?_)
   clear hK K
   refine norm_ (a' := ?_) ?_ ?_
   rotate_left
   ·show Act.put _ (some 9) _ = _
    simp only [Act.put, List.setIfInBounds_toArray, List.set_cons_zero, List.set_cons_succ, i64_w, i32_w]
    rfl
   refine one_ (i := 1) (N := some 19) (ba 10 135) rfl rfl (one_of HT_.out (by kernel_rfl)) (by decide) (fun K hK => ?_)
   refine gC Try.func15 #[.agg #[.int .i64 a0_0, .slice A0_1 l0_1.length c0_1, .slice A0_2 l0_2.length c0_2]] ?_
   with_reducible refine (congoulaw04_Of.calls a0_0 _ _ l0_1 _ _ l0_2 t369 t370 t373 _ ?side1 ?side2 ?side3 ?side4 A5.out).mono ?_
   (case side1 => exact kC HR0_1)
   (case side2 => exact HC0_1.out)
   (case side3 => exact kC HR0_2)
   (case side4 => exact HC0_2.out)
   rintro e w14 ⟨v371, v374, rfl, ho0, ho1, hb⟩
   refine ⟨_, rfl, ?_⟩
   have HO372 := Aside0.mk (Kd.R_lower ho0 (below_size (hbC _)))
   have HO375 := Aside0.mk (Kd.R_lower ho1 (below_size (hbC _)))
   replace BK367 := kB BK367 hb
   replace BK368 := kB BK368 hb
   replace BK379 := kB BK379 hb
   replace HB := kH _ hb
   (try clear hb)
   (try clear hb2)
   (try clear hk)
   (try clear hi)
   (try clear ho0)
   (try clear ho1)
   obtain ⟨Ao15, co15, eo15⟩ := Kd.R_slice HO372.out
   (first | subst eo15 | (injection eo15 with f1_ f2_ f3_; have f4_ := f1_.symm; have f5_ := f3_.symm; clear f1_ f2_ f3_; subst f4_; subst f5_))
   obtain ⟨Ao16, co16, eo16⟩ := Kd.R_slice HO375.out
   (first | subst eo16 | (injection eo16 with f1_ f2_ f3_; have f4_ := f1_.symm; have f5_ := f3_.symm; clear f1_ f2_ f3_; subst f4_; subst f5_))
   refine hK.out _ _ ⟨bc BK367 0, bc BK367 1, bc BK367 2, bc BK368 0, bc BK368 1⟩ (fun hHeld => ?_)
   clear hK K
   refine norm_ (a' := ?_) ?_ ?_
   rotate_left
   ·show Act.put _ (some 19) _ = _
    simp only [Act.put, List.setIfInBounds_toArray, List.set_cons_zero, List.set_cons_succ, i64_w, i32_w]
    rfl
   refine one_ (i := 3) (N := some 21) (ba 10 143) rfl rfl (one_of HT_.out (by kernel_rfl)) (by decide) (fun K hK => ?_)
   refine gC Try.func14 #[.agg #[.int .i64 t369, .slice Ao15 t370.length co15, .slice Ao16 t373.length co16], .agg #[.int .i64 a3_0, .int .i64 a3_1]] ?_
   with_reducible refine (curves_Value.calls k t369 _ _ t370 _ _ t373 a3_0 a3_1 t376 t377 t378 _ ?side1 ?side2 ?side3 ?side4 A6.out).mono ?_
   (case side1 => exact kD (Kd.R_reads' HO372.out).2.2)
   (case side2 => exact (Kd.R_reads' HO372.out).2.1)
   (case side3 => exact kD (Kd.R_reads' HO375.out).2.2)
   (case side4 => exact (Kd.R_reads' HO375.out).2.1)
   rintro e w17 ⟨rfl, hb⟩
   refine ⟨_, rfl, ?_⟩
   replace HO372 := kO HO372 hb
   replace HO375 := kO HO375 hb
   replace BK367 := kB BK367 hb
   replace BK368 := kB BK368 hb
   replace BK379 := kB BK379 hb
   replace HB := kH _ hb
   (try clear hb)
   (try clear hb2)
   (try clear hk)
   (try clear hi)
   refine hK.out _ _ ⟨bc BK367 0, bc BK367 1, bc BK367 2, bc BK368 0, bc BK368 1⟩ (fun hHeld => ?_)
   clear hK K
   refine norm_ (a' := ?_) ?_ ?_
   rotate_left
   ·show Act.put _ (some 21) _ = _
    simp only [Act.put, List.setIfInBounds_toArray, List.set_cons_zero, List.set_cons_succ, i64_w, i32_w]
    rfl
   refine pS 4 17 10 159 ?_
   refine pS 5 22 10 191 ?_
   refine pS 6 23 10 255 ?_
   exact norm_ (by simp only [putAll, Act.put, List.setIfInBounds_toArray, List.set_cons_zero, List.set_cons_succ]) (hCont (.slice Ao15 t370.length co15, .slice Ao16 t373.length co16, gb379) _ ⟨hHeld, (rC HO372), (rC HO375), (bkC BK367), (bkC BK368), (bkC BK379), GW379.out, GE379.out, NB367_379.out, NB379_367.out, NB368_379.out, NB379_368.out, (hbC _)⟩)
 rintro ⟨v371, v374, gb379⟩ w18 ⟨hS_, h0_, h1_, h2_, h3_, h4_, h5_, h6_, h7_, h8_, h9_, h10_, h11_⟩
 have n0_ : Aside0 (Kd.R (Kd.int .i64) 3 w18 w.heap.size (fun k_ => some k_ ≠ (v374 : Value).ownBlock) v371 t370) := ⟨h0_⟩
 have n1_ : Aside0 (Kd.R (Kd.int .i64) 3 w18 w.heap.size (fun k_ => some k_ ≠ (v371 : Value).ownBlock) v374 t373) := ⟨h1_⟩
 have n2_ : Aside0 (w18.heap[gb367]? = some (.cells #[.int .i64 a0_0, .slice A0_1 l0_1.length c0_1, .slice A0_2 l0_2.length c0_2] 24 (0, 0))) := ⟨h2_⟩
 have n3_ : Aside0 (w18.heap[gb368]? = some (.cells #[.int .i64 a3_0, .int .i64 a3_1] 26 (0, 0))) := ⟨h3_⟩
 have n4_ : Aside0 (w18.heap[gb379]? = some (.cells #[.int .i64 0, .int .i64 0] 26 (0, 0))) := ⟨h4_⟩
 have n5_ : Aside0 (w.heap.size ≤ gb379) := ⟨h5_⟩
 have n6_ : Aside0 (w.heap.size ≤ gb379) := ⟨h6_⟩
 have n7_ : Aside0 (gb367 ≠ gb379) := ⟨h7_⟩
 have n8_ : Aside0 (gb379 ≠ gb367) := ⟨h8_⟩
 have n9_ : Aside0 (gb368 ≠ gb379) := ⟨h9_⟩
 have n10_ : Aside0 (gb379 ≠ gb368) := ⟨h10_⟩
 have n11_ : Aside0 (Below w.heap.size w w18) := ⟨h11_⟩
 clear BK367
 clear BK368
 clear HB
 clear h0_ h1_ h2_ h3_ h4_ h5_ h6_ h7_ h8_ h9_ h10_ h11_
 have HO372 := n0_
 have HO375 := n1_
 have BK367 := n2_
 have BK368 := n3_
 have BK379 := n4_
 have GW379 := n5_
 have GE379 := n6_
 have NB367_379 := n7_
 have NB379_367 := n8_
 have NB368_379 := n9_
 have NB379_368 := n10_
 have HB := n11_
 clear n0_ n1_ n2_ n3_ n4_ n5_ n6_ n7_ n8_ n9_ n10_ n11_
 have hHeld : w18.cell? ⟨gb367, 0, none⟩ = some (.int .i64 a0_0) ∧ w18.cell? ⟨gb367, 1, none⟩ = some (.slice A0_1 l0_1.length c0_1) ∧ w18.cell? ⟨gb367, 2, none⟩ = some (.slice A0_2 l0_2.length c0_2) ∧ w18.cell? ⟨gb368, 0, none⟩ = some (.int .i64 a3_0) ∧ w18.cell? ⟨gb368, 1, none⟩ = some (.int .i64 a3_1) := hS_
 refine norm_ (a' := ?_) ?_ ?_
 rotate_left
 ·simp only [putAll, Act.put, List.setIfInBounds_toArray, List.set_cons_zero, List.set_cons_succ]
  rfl
 refine one_ (i := 8) (N := none) (ba 10 511) rfl rfl (one_of HT_.out (by kernel_rfl)) (by decide) (fun K hK => ?_)
 have hs19 : w18.cell? ⟨gb379, 0, none⟩ = some (.int .i64 0) := bc BK379 0
 have hfs19 := fz BK379 0
 have hns19_0 := NB367_379.out
 have hns19_1 := NB368_379.out
 have hms19_0 := NB379_367.out
 have hms19_1 := NB379_368.out
 have hs20 : w18.cell? ⟨gb379, 1, none⟩ = some (.int .i64 0) := bc BK379 1
 have hfs20 := fz BK379 1
 have hns20_0 := NB367_379.out
 have hns20_1 := NB368_379.out
 have hms20_0 := NB379_367.out
 have hms20_1 := NB379_368.out
 refine skip_ (w1 := ?_) (by rfl) rfl ?_ ?_
 rotate_left
 ·go_simp
  rfl
 refine hK.out _ _ ⟨((cell_far (p := ⟨gb379, _, none⟩) NB367_379.out _).trans (((cell_far (p := ⟨gb379, _, none⟩) NB367_379.out _).trans (hHeld.1)))), ((cell_far (p := ⟨gb379, _, none⟩) NB367_379.out _).trans (((cell_far (p := ⟨gb379, _, none⟩) NB367_379.out _).trans (hHeld.2.1)))), ((cell_far (p := ⟨gb379, _, none⟩) NB367_379.out _).trans (((cell_far (p := ⟨gb379, _, none⟩) NB367_379.out _).trans (hHeld.2.2.1)))), ((cell_far (p := ⟨gb379, _, none⟩) NB368_379.out _).trans (((cell_far (p := ⟨gb379, _, none⟩) NB368_379.out _).trans (hHeld.2.2.2.1)))), ((cell_far (p := ⟨gb379, _, none⟩) NB368_379.out _).trans (((cell_far (p := ⟨gb379, _, none⟩) NB368_379.out _).trans (hHeld.2.2.2.2))))⟩ (fun hHeld => ?_)
 clear hK K
 refine pS 9 10 10 1023 ?_
 refine done_ (done_of HT_.out (by kernel_rfl)) ?_
 try go_wp2
 have n0_ : Aside0 (Kd.R (Kd.int .i64) 3 ((w18.setCell ⟨gb379, 0, none⟩ (.int .i64 t376)).setCell ⟨gb379, 1, none⟩ (.int .i64 t377)) w.heap.size (fun k_ => some k_ ≠ (v374 : Value).ownBlock) v371 t370) := ⟨by (with_reducible repeat (first | apply Kd.R_alloc | apply Kd.R_drewN | apply Kd.R_drew)); exact Kd.R_mono (Kd.R_far (p := ⟨gb379, 1, none⟩) (Kd.R_far (p := ⟨gb379, 0, none⟩) (Kd.R_types HO372.out BK379.out (by decide)) (fun _ hk => hk.2) (.int .i64 t376)) (fun _ hk => hk.2) (.int .i64 t377)) (fun _ hk => hk.1)⟩
 have n1_ : Aside0 (Kd.R (Kd.int .i64) 3 ((w18.setCell ⟨gb379, 0, none⟩ (.int .i64 t376)).setCell ⟨gb379, 1, none⟩ (.int .i64 t377)) w.heap.size (fun k_ => some k_ ≠ (v371 : Value).ownBlock) v374 t373) := ⟨by (with_reducible repeat (first | apply Kd.R_alloc | apply Kd.R_drewN | apply Kd.R_drew)); exact Kd.R_mono (Kd.R_far (p := ⟨gb379, 1, none⟩) (Kd.R_far (p := ⟨gb379, 0, none⟩) (Kd.R_types HO375.out BK379.out (by decide)) (fun _ hk => hk.2) (.int .i64 t376)) (fun _ hk => hk.2) (.int .i64 t377)) (fun _ hk => hk.1)⟩
 have n2_ : Aside0 (((w18.setCell ⟨gb379, 0, none⟩ (.int .i64 t376)).setCell ⟨gb379, 1, none⟩ (.int .i64 t377)).heap[gb367]? = some (.cells #[.int .i64 a0_0, .slice A0_1 l0_1.length c0_1, .slice A0_2 l0_2.length c0_2] 24 (0, 0))) := ⟨bF BK367⟩
 have n3_ : Aside0 (((w18.setCell ⟨gb379, 0, none⟩ (.int .i64 t376)).setCell ⟨gb379, 1, none⟩ (.int .i64 t377)).heap[gb368]? = some (.cells #[.int .i64 a3_0, .int .i64 a3_1] 26 (0, 0))) := ⟨bF BK368⟩
 have n4_ : Aside0 (((w18.setCell ⟨gb379, 0, none⟩ (.int .i64 t376)).setCell ⟨gb379, 1, none⟩ (.int .i64 t377)).heap[gb379]? = some (.cells #[.int .i64 t376, .int .i64 t377] 26 (0, 0))) := ⟨by (with_reducible repeat (first | refine blk_drewN ?_ _ | refine blk_drew ?_ | refine blk_alloc ?_ _)); refine blk_put (cs := #[.int .i64 t376, .int .i64 0]) ?_ 1 _ rfl; (with_reducible repeat (first | refine blk_drewN ?_ _ | refine blk_drew ?_ | refine blk_alloc ?_ _)); refine blk_put (cs := #[.int .i64 0, .int .i64 0]) ?_ 0 _ rfl; (with_reducible repeat (first | refine blk_drewN ?_ _ | refine blk_drew ?_ | refine blk_alloc ?_ _)); exact BK379.out⟩
 have n5_ : Aside0 (Below w.heap.size w ((w18.setCell ⟨gb379, 0, none⟩ (.int .i64 t376)).setCell ⟨gb379, 1, none⟩ (.int .i64 t377))) := ⟨hbC _⟩
 (try clear HO372)
 (try clear HO375)
 (try clear BK367)
 (try clear BK368)
 (try clear BK379)
 (try clear HB)
 generalize ((w18.setCell ⟨gb379, 0, none⟩ (.int .i64 t376)).setCell ⟨gb379, 1, none⟩ (.int .i64 t377)) = w21 at n0_ n1_ n2_ n3_ n4_ n5_ ⊢
 have HO372 := n0_
 have HO375 := n1_
 have BK367 := n2_
 have BK368 := n3_
 have BK379 := n4_
 have HB := n5_
 clear n0_ n1_ n2_ n3_ n4_ n5_
 replace HO372 := Aside0.mk (Kd.R_drew HO372.out)
 replace HO375 := Aside0.mk (Kd.R_drew HO375.out)
 replace BK367 := kd BK367
 replace BK368 := kd BK368
 replace BK379 := kd BK379
 replace HB := Aside0.mk (below_drew1 HB.out)
 refine sS (n := 9) (S := fun w' => w'.cell? ⟨gb367, 0, none⟩ = some (.int .i64 a0_0) ∧ w'.cell? ⟨gb367, 1, none⟩ = some (.slice A0_1 l0_1.length c0_1) ∧ w'.cell? ⟨gb367, 2, none⟩ = some (.slice A0_2 l0_2.length c0_2) ∧ w'.cell? ⟨gb368, 0, none⟩ = some (.int .i64 a3_0) ∧ w'.cell? ⟨gb368, 1, none⟩ = some (.int .i64 a3_1)) (ds := []) ⟨bc BK367 0, bc BK367 1, bc BK367 2, bc BK368 0, bc BK368 1⟩ (fun hHeld => ?_); refine with_tabW congoulaw04_CurvesNear.tab2 congoulaw04_CurvesNear.bits2 (fun HT_ HW_ => ?_)
 generalize w21.drew = w22 at HO372 HO375 BK367 BK368 BK379 HB hHeld ⊢
 refine tS 0 25 9 1 ?_
 refine tS 2 27 9 5 ?_
 refine one_ (i := 1) (N := some 26) (ba 9 7) rfl rfl (one_of HT_.out (by kernel_rfl)) (by decide) (fun K hK => ?_)
 refine gC Try.func15 #[.agg #[.int .i64 a0_0, .slice A0_1 l0_1.length c0_1, .slice A0_2 l0_2.length c0_2]] ?_
 with_reducible refine (congoulaw04_Of.calls a0_0 _ _ l0_1 _ _ l0_2 t380 t381 t384 _ ?side1 ?side2 ?side3 ?side4 A7.out).mono ?_
 (case side1 => exact kC HR0_1)
 (case side2 => exact HC0_1.out)
 (case side3 => exact kC HR0_2)
 (case side4 => exact HC0_2.out)
 rintro e w23 ⟨v382, v385, rfl, ho0, ho1, hb⟩
 refine ⟨_, rfl, ?_⟩
 have HO383 := Aside0.mk (Kd.R_lower (Kd.R_new' (Kd.R_new' ho0 (Kd.R_lt (rC HO372))) (Kd.R_lt (rC HO375))) (below_size (hbC _)))
 have HO386 := Aside0.mk (Kd.R_lower (Kd.R_new' (Kd.R_new' ho1 (Kd.R_lt (rC HO372))) (Kd.R_lt (rC HO375))) (below_size (hbC _)))
 replace HO372 := Aside0.mk (Kd.R_mono (Kd.R_told (Kd.R_told (Kd.R_old (rC HO372) hb) (Kd.R_base ho0)) (Kd.R_base ho1)) (fun _ h_ => h_.1))
 replace HO375 := Aside0.mk (Kd.R_mono (Kd.R_told (Kd.R_told (Kd.R_old (rC HO375) hb) (Kd.R_base ho0)) (Kd.R_base ho1)) (fun _ h_ => h_.1))
 replace BK367 := kB BK367 hb
 replace BK368 := kB BK368 hb
 replace BK379 := kB BK379 hb
 replace HB := kH _ hb
 (try clear hb)
 (try clear hb2)
 (try clear hk)
 (try clear hi)
 (try clear ho0)
 (try clear ho1)
 obtain ⟨Ao24, co24, eo24⟩ := Kd.R_slice HO383.out
 (first | subst eo24 | (injection eo24 with f1_ f2_ f3_; have f4_ := f1_.symm; have f5_ := f3_.symm; clear f1_ f2_ f3_; subst f4_; subst f5_))
 obtain ⟨Ao25, co25, eo25⟩ := Kd.R_slice HO386.out
 (first | subst eo25 | (injection eo25 with f1_ f2_ f3_; have f4_ := f1_.symm; have f5_ := f3_.symm; clear f1_ f2_ f3_; subst f4_; subst f5_))
 refine hK.out _ _ ⟨bc BK367 0, bc BK367 1, bc BK367 2, bc BK368 0, bc BK368 1⟩ (fun hHeld => ?_)
 clear hK K
 refine norm_ (a' := ?_) ?_ ?_
 rotate_left
 ·show Act.put _ (some 26) _ = _
  simp only [Act.put, List.setIfInBounds_toArray, List.set_cons_zero, List.set_cons_succ, i64_w, i32_w]
  rfl
 refine one_ (i := 3) (N := some 28) (ba 9 15) rfl rfl (one_of HT_.out (by kernel_rfl)) (by decide) (fun K hK => ?_)
 refine gC Try.func18 #[.agg #[.int .i64 t380, .slice Ao24 t381.length co24, .slice Ao25 t384.length co25], .agg #[.int .i64 a3_0, .int .i64 a3_1]] ?_
 with_reducible refine (curves_Basic.calls k t380 _ _ t381 _ _ t384 a3_0 a3_1 t387 t390 _ ?side1 ?side2 ?side3 ?side4 A8.out).mono ?_
 (case side1 => exact kD (Kd.R_reads' HO383.out).2.2)
 (case side2 => exact (Kd.R_reads' HO383.out).2.1)
 (case side3 => exact kD (Kd.R_reads' HO386.out).2.2)
 (case side4 => exact (Kd.R_reads' HO386.out).2.1)
 rintro e w26 ⟨v388, rfl, ho0, hb⟩
 refine ⟨_, rfl, ?_⟩
 replace HO372 := kO HO372 hb
 replace HO375 := kO HO375 hb
 replace HO383 := kO HO383 hb
 replace HO386 := kO HO386 hb
 have HO389 := Aside0.mk (Kd.R_lower (Kd.R_newB (Kd.R_newB ho0 (g := gb368) (o := .cells #[.int .i64 a3_0, .int .i64 a3_1] 26 (0, 0)) (bkC BK368)) (g := gb379) (o := .cells #[.int .i64 t376, .int .i64 t377] 26 (0, 0)) (bkC BK379)) (below_size (hbC _)))
 replace BK367 := kB BK367 hb
 replace BK368 := kB BK368 hb
 replace BK379 := kB BK379 hb
 replace HB := kH _ hb
 (try clear hb)
 (try clear hb2)
 (try clear hk)
 (try clear hi)
 (try clear ho0)
 refine hK.out _ _ ⟨bc BK367 0, bc BK367 1, bc BK367 2, bc BK368 0, bc BK368 1⟩ (fun hHeld => ?_)
 clear hK K
 refine norm_ (a' := ?_) ?_ ?_
 rotate_left
 ·show Act.put _ (some 28) _ = _
  simp only [Act.put, List.setIfInBounds_toArray, List.set_cons_zero, List.set_cons_succ, i64_w, i32_w]
  rfl
 refine pS 4 24 9 31 ?_
 refine pS 5 29 9 63 ?_
 refine pS 6 30 9 127 ?_
 refine pS 7 11 9 255 ?_
 refine pS 8 12 9 511 ?_
 refine done_ (done_of HT_.out (by kernel_rfl)) ?_
 go_upto_region 3 with (fail)
 go_cut [42] (fun v42 wc => ∃ (kq : Nat) (x42_8 : Bool), v42 = .bool x42_8 ∧ Aside0 (congoulaw04_CurvesNear.j0 kq a1 a2 t378 t387 t390 x42_8 a0_0 l0_1 l0_2 a3_0 a3_1 t376 t377 = some r) ∧ Aside0 (kq ≤ k) ∧ Aside0 (Kd.R k26 26 wc w.heap.size (fun k_ => k_ ≠ gb368 ∧ k_ ≠ gb379) v388 t387) ∧ Aside0 (wc.heap[gb367]? = some (.cells #[.int .i64 a0_0, (.slice A0_1 l0_1.length c0_1), (.slice A0_2 l0_2.length c0_2)] 24 (0, 0))) ∧ Aside0 (wc.heap[gb368]? = some (.cells #[.int .i64 a3_0, .int .i64 a3_1] 26 (0, 0))) ∧ Aside0 (wc.heap[gb379]? = some (.cells #[.int .i64 t376, .int .i64 t377] 26 (0, 0))) ∧ Aside0 (Below w.heap.size w wc))
 case first =>
  have H := HC9.out
  clear HC9
  by_cases c27 : t378 = 0
  rotate_left
  ·rw [if_neg c27] at H
   have c27b0 : (t378 == 0) = false := beq_eq_false_iff_ne.mpr c27
   have c27b1 : (t378 != 0) = true := bne_iff_ne.mpr c27
   (first | rw [c27b0] | (simp only [i64_w, i32_w]; rw [c27b0]) | skip)
   have H' := Aside0.mk H
   clear H
   go_wp2
   go_meet
   case rel => exact ⟨_, (true), (by first | rfl | (simp; done) | (simp [*]; done)), H', ⟨by first | omega | exact Nat.le_refl _⟩, ⟨by (with_reducible repeat (first | apply Kd.R_alloc | apply Kd.R_drewN | apply Kd.R_drew)); exact Kd.R_mono HO389.out (fun _ hk => ⟨hk.1.2, hk.2⟩)⟩, ⟨bkC BK367⟩, ⟨bkC BK368⟩, ⟨bkC BK379⟩, ⟨hbC _⟩⟩
  rw [if_pos c27] at H
  have c27b0 : (t378 == 0) = true := beq_iff_eq.mpr c27
  have c27b1 : (t378 != 0) = false := bne_eq_false_iff_eq.mpr c27
  clear c27
  (first | rw [c27b0] | (simp only [i64_w, i32_w]; rw [c27b0]) | skip)
  by_cases c28 : t390 = 0
  rotate_left
  ·rw [if_neg c28] at H
   have c28b0 : (t390 == 0) = false := beq_eq_false_iff_ne.mpr c28
   have c28b1 : (t390 != 0) = true := bne_iff_ne.mpr c28
   have H' := Aside0.mk H
   clear H
   go_wp2
   go_meet
   case rel => exact ⟨_, (true), (by first | rfl | (simp; done) | (simp [*]; done)), H', ⟨by first | omega | exact Nat.le_refl _⟩, ⟨by (with_reducible repeat (first | apply Kd.R_alloc | apply Kd.R_drewN | apply Kd.R_drew)); exact Kd.R_mono HO389.out (fun _ hk => ⟨hk.1.2, hk.2⟩)⟩, ⟨bkC BK367⟩, ⟨bkC BK368⟩, ⟨bkC BK379⟩, ⟨hbC _⟩⟩
  rw [if_pos c28] at H
  have c28b0 : (t390 == 0) = true := beq_iff_eq.mpr c28
  have c28b1 : (t390 != 0) = false := bne_eq_false_iff_eq.mpr c28
  clear c28
  replace H := Option.bind_eq_some_iff.mp H
  obtain ⟨t391, A290, H⟩ := H
  replace H : (congoulaw04_CurvesNear.j0 k a1 a2 t378 t387 t390 (!t391) a0_0 l0_1 l0_2 a3_0 a3_1 t376 t377) = some r := H
  have A29 := Aside0.mk A290
  clear A290
  have H' := Aside0.mk H
  clear H
  have hnb30 := NB367_368.out
  have hnc30 := NB368_367.out
  have hnb31 := NB367_379.out
  have hnc31 := NB379_367.out
  have hcz32_0 : w26.cell? ⟨gb367, 0, none⟩ = some (.int .i64 a0_0) := bc BK367 0
  have hcz32_1 : w26.cell? ⟨gb367, 1, none⟩ = some (.slice A0_1 l0_1.length c0_1) := bc BK367 1
  have hcz32_2 : w26.cell? ⟨gb367, 2, none⟩ = some (.slice A0_2 l0_2.length c0_2) := bc BK367 2
  have hfz32_0 := fz BK367 0
  have hfz32_1 := fz BK367 1
  have hfz32_2 := fz BK367 2
  have hnb33 := NB368_379.out
  have hnc33 := NB379_368.out
  have hcz34_0 : w26.cell? ⟨gb368, 0, none⟩ = some (.int .i64 a3_0) := bc BK368 0
  have hcz34_1 : w26.cell? ⟨gb368, 1, none⟩ = some (.int .i64 a3_1) := bc BK368 1
  have hfz34_0 := fz BK368 0
  have hfz34_1 := fz BK368 1
  go_wp2_with (first | (go_at_call 16; (with_reducible refine (congoulaw04_fine.calls k a0_0 _ _ l0_1 _ _ l0_2 a3_0 a3_1 t391 _ ?side1 ?side2 ?side3 ?side4 A29.out).mono ?_); (case side1 => exact kC HR0_1); (case side2 => exact HC0_1.out); (case side3 => exact kC HR0_2); (case side4 => exact HC0_2.out); rintro e w35 ⟨rfl, hb⟩; replace HO372 := kO HO372 hb; replace HO375 := kO HO375 hb; replace HO383 := kO HO383 hb; replace HO386 := kO HO386 hb; replace HO389 := kO HO389 hb; replace BK367 := kB BK367 hb; replace BK368 := kB BK368 hb; replace BK379 := kB BK379 hb; replace HB := kH _ hb; (try clear hb); (try clear hb2); (try clear hk); (try clear hi)))
  go_meet
  case rel => exact ⟨_, (!t391), (by first | rfl | (simp; done) | (simp [*]; done)), H', ⟨by first | omega | exact Nat.le_refl _⟩, ⟨by (with_reducible repeat (first | apply Kd.R_alloc | apply Kd.R_drewN | apply Kd.R_drew)); exact Kd.R_mono HO389.out (fun _ hk => ⟨hk.1.2, hk.2⟩)⟩, ⟨bkC BK367⟩, ⟨bkC BK368⟩, ⟨bkC BK379⟩, ⟨hbC _⟩⟩
 case rest =>
  clear HC9
  try clear c1
  try clear c2
  try clear p2
  try clear c3
  try clear c14
  try clear c15
  try clear c18
  try clear c27
  try clear c27b0
  try clear c27b1
  try clear c28
  try clear c28b0
  try clear c28b1
  try clear c30
  try clear c31
  try clear c33
  try clear hcz32_0
  try clear hcz32_1
  try clear hcz32_2
  try clear hcz34_0
  try clear hcz34_1
  try clear hfz32_0
  try clear hfz32_1
  try clear hfz32_2
  try clear hfz34_0
  try clear hfz34_1
  obtain ⟨kq, x42_8, rfl, HA, HJ8, HO_11, BK367, BK368, BK379, HB⟩ := hcut
  cases kq with
  | zero => exact absurd HA.out (by simp [congoulaw04_CurvesNear.j0])
  | succ kj8 =>
   have H := HA.out
   clear HA
   simp only [congoulaw04_CurvesNear.j0] at H
   by_cases c36 : x42_8 = true
   ·subst c36
    have H1 : (if t378 = 2 then (if t390 = t378 then ((congoulaw04_awake.f kj8).bind fun t392 => (some t392)) else (some false)) else (some false)) = some r := by rw [if_pos rfl] at H; exact H
    clear H
    have H := H1
    clear H1
    by_cases c37 : t378 = 2
    rotate_left
    ·rw [if_neg c37] at H
     have c37b0 : (t378 == 2) = false := beq_eq_false_iff_ne.mpr c37
     have c37b1 : (t378 != 2) = true := bne_iff_ne.mpr c37
     exact absurd (H.trans (congrArg some HRT.out)) (by simp)
    rw [if_pos c37] at H
    have c37b0 : (t378 == 2) = true := beq_iff_eq.mpr c37
    have c37b1 : (t378 != 2) = false := bne_eq_false_iff_eq.mpr c37
    clear c37
    by_cases c38 : t390 = t378
    rotate_left
    ·rw [if_neg c38] at H
     have c38b0 : (t390 == t378) = false := beq_eq_false_iff_ne.mpr c38
     have c38b1 : (t390 != t378) = true := bne_iff_ne.mpr c38
     exact absurd (H.trans (congrArg some HRT.out)) (by simp)
    rw [if_pos c38] at H
    have c38b0 : (t390 == t378) = true := beq_iff_eq.mpr c38
    have c38b1 : (t390 != t378) = false := bne_eq_false_iff_eq.mpr c38
    clear c38
    replace H := Option.bind_eq_some_iff.mp H
    obtain ⟨t392, A390, H⟩ := H
    replace H : (some t392) = some r := H
    have A39 := Aside0.mk A390
    clear A390
    obtain rfl := Option.some.inj H
    go_wp2_with (first | (go_at_call 17; (with_reducible refine (congoulaw04_awake.calls kj8  t392 _ A39.out).mono ?_); rintro e w40 ⟨rfl, hb⟩; replace HO_11 := kO HO_11 hb; replace BK367 := kB BK367 hb; replace BK368 := kB BK368 hb; replace BK379 := kB BK379 hb; replace HB := kH _ hb; (try clear hb); (try clear hb2); (try clear hk); (try clear hi)))
    go_ret
    exact ⟨by first | rfl | (simp [errW_none, errW_some] <;> rfl) | (simp [*, errW_none, errW_some] <;> rfl), hbC _⟩
   replace c36 := Bool.eq_false_iff.mpr c36
   subst c36
   have H1 : (if (t387.length : Int) = (l0_2.length : Int) then (if (IntKind.u64.wrap ((t387.length : Int))) = 0 then (none) else ((congoulaw04_list.f l0_2).bind fun t393 => (if 0 ≤ (wrap64 (Int.tmod (IntKind.u64.wrap (a1)) (IntKind.u64.wrap ((t387.length : Int))))) then (if (wrap64 (Int.tmod (IntKind.u64.wrap (a1)) (IntKind.u64.wrap ((t387.length : Int))))) < (t393.length : Int) then ((congoulaw04_Of.f a0_0 l0_1 (t393.set ((wrap64 (Int.tmod (IntKind.u64.wrap (a1)) (IntKind.u64.wrap ((t387.length : Int))))) : Int).toNat (wrap64 ((wrap64 (Int.tmod (IntKind.u64.wrap (a2)) 101)) - 50)))).bind fun bt398 => ((curves_Value.f kj8 bt398.1 bt398.2.1 bt398.2.2 a3_0 a3_1).bind fun bt405 => (if (wrap64 (Int.tmod (IntKind.u64.wrap (a1)) (IntKind.u64.wrap ((t387.length : Int))))) < (t387.length : Int) then (if (wrap64 (Int.tmod (IntKind.u64.wrap (a1)) (IntKind.u64.wrap ((t387.length : Int))))) < (l0_2.length : Int) then ((congoulaw04_whole.f (wrap64 ((wrap64 ((wrap64 (Int.tmod (IntKind.u64.wrap (a2)) 101)) - 50)) - (rd l0_2 (wrap64 (Int.tmod (IntKind.u64.wrap (a1)) (IntKind.u64.wrap ((t387.length : Int))))))))).bind fun bt411 => ((congoulaw04_more.f kj8 t376 t377 ((rd_T26 t387 (wrap64 (Int.tmod (IntKind.u64.wrap (a1)) (IntKind.u64.wrap ((t387.length : Int)))))).f0) ((rd_T26 t387 (wrap64 (Int.tmod (IntKind.u64.wrap (a1)) (IntKind.u64.wrap ((t387.length : Int)))))).f1) bt411.1 bt411.2).bind fun bt413 => (if bt405.2.2 = 0 then (if bt413.2.2 = true then (if (bt413.1 == bt405.1 && (bt413.2.1 == bt405.2.1)) = true then ((congoulaw04_awake.f kj8).bind fun t417 => (some t417)) else (some false)) else (some false)) else (some false)))) else (none)) else (none)))) else (none)) else (none)))) else (some false)) = some r := by rw [if_neg (show ¬ (false = true) by decide)] at H; exact H
   clear H
   have H := H1
   clear H1
   by_cases c41 : (t387.length : Int) = (l0_2.length : Int)
   rotate_left
   ·rw [if_neg c41] at H
    have c41b0 : ((t387.length : Int) == (l0_2.length : Int)) = false := beq_eq_false_iff_ne.mpr c41
    have c41b1 : ((t387.length : Int) != (l0_2.length : Int)) = true := bne_iff_ne.mpr c41
    have c41b2 : (t387.length == l0_2.length) = false := by first | simpa using c41 | (simp at c41 ⊢; omega)
    exact absurd (H.trans (congrArg some HRT.out)) (by simp)
   rw [if_pos c41] at H
   have c41b0 : ((t387.length : Int) == (l0_2.length : Int)) = true := beq_iff_eq.mpr c41
   have c41b1 : ((t387.length : Int) != (l0_2.length : Int)) = false := bne_eq_false_iff_eq.mpr c41
   have c41b2 : (t387.length == l0_2.length) = true := by first | simpa using c41 | (simp at c41 ⊢; omega)
   clear c41
   by_cases c42 : (IntKind.u64.wrap ((t387.length : Int))) = 0
   ·rw [if_pos c42] at H
    exact absurd H (by simp)
   rw [if_neg c42] at H
   have c42b0 : ((IntKind.u64.wrap ((t387.length : Int))) == 0) = false := beq_eq_false_iff_ne.mpr c42
   have c42b1 : ((IntKind.u64.wrap ((t387.length : Int))) != 0) = true := bne_iff_ne.mpr c42
   replace H := Option.bind_eq_some_iff.mp H
   obtain ⟨t393, A430, H⟩ := H
   replace H : (if 0 ≤ (wrap64 (Int.tmod (IntKind.u64.wrap (a1)) (IntKind.u64.wrap ((t387.length : Int))))) then (if (wrap64 (Int.tmod (IntKind.u64.wrap (a1)) (IntKind.u64.wrap ((t387.length : Int))))) < (t393.length : Int) then ((congoulaw04_Of.f a0_0 l0_1 (t393.set ((wrap64 (Int.tmod (IntKind.u64.wrap (a1)) (IntKind.u64.wrap ((t387.length : Int))))) : Int).toNat (wrap64 ((wrap64 (Int.tmod (IntKind.u64.wrap (a2)) 101)) - 50)))).bind fun bt398 => ((curves_Value.f kj8 bt398.1 bt398.2.1 bt398.2.2 a3_0 a3_1).bind fun bt405 => (if (wrap64 (Int.tmod (IntKind.u64.wrap (a1)) (IntKind.u64.wrap ((t387.length : Int))))) < (t387.length : Int) then (if (wrap64 (Int.tmod (IntKind.u64.wrap (a1)) (IntKind.u64.wrap ((t387.length : Int))))) < (l0_2.length : Int) then ((congoulaw04_whole.f (wrap64 ((wrap64 ((wrap64 (Int.tmod (IntKind.u64.wrap (a2)) 101)) - 50)) - (rd l0_2 (wrap64 (Int.tmod (IntKind.u64.wrap (a1)) (IntKind.u64.wrap ((t387.length : Int))))))))).bind fun bt411 => ((congoulaw04_more.f kj8 t376 t377 ((rd_T26 t387 (wrap64 (Int.tmod (IntKind.u64.wrap (a1)) (IntKind.u64.wrap ((t387.length : Int)))))).f0) ((rd_T26 t387 (wrap64 (Int.tmod (IntKind.u64.wrap (a1)) (IntKind.u64.wrap ((t387.length : Int)))))).f1) bt411.1 bt411.2).bind fun bt413 => (if bt405.2.2 = 0 then (if bt413.2.2 = true then (if (bt413.1 == bt405.1 && (bt413.2.1 == bt405.2.1)) = true then ((congoulaw04_awake.f kj8).bind fun t417 => (some t417)) else (some false)) else (some false)) else (some false)))) else (none)) else (none)))) else (none)) else (none)) = some r := H
   have A43 := Aside0.mk A430
   clear A430
   obtain ⟨ji44, hji44⟩ : ∃ j_ : Int, (wrap64 (Int.tmod (IntKind.u64.wrap (a1)) (IntKind.u64.wrap ((t387.length : Int))))) = j_ := ⟨_, rfl⟩
   replace H : (if 0 ≤ (ji44) then (if (ji44) < (t393.length : Int) then ((congoulaw04_Of.f a0_0 l0_1 (t393.set ((ji44) : Int).toNat (wrap64 ((wrap64 (Int.tmod (IntKind.u64.wrap (a2)) 101)) - 50)))).bind fun bt398 => ((curves_Value.f kj8 bt398.1 bt398.2.1 bt398.2.2 a3_0 a3_1).bind fun bt405 => (if (ji44) < (t387.length : Int) then (if (ji44) < (l0_2.length : Int) then ((congoulaw04_whole.f (wrap64 ((wrap64 ((wrap64 (Int.tmod (IntKind.u64.wrap (a2)) 101)) - 50)) - (rd l0_2 (ji44))))).bind fun bt411 => ((congoulaw04_more.f kj8 t376 t377 ((rd_T26 t387 (ji44)).f0) ((rd_T26 t387 (ji44)).f1) bt411.1 bt411.2).bind fun bt413 => (if bt405.2.2 = 0 then (if bt413.2.2 = true then (if (bt413.1 == bt405.1 && (bt413.2.1 == bt405.2.1)) = true then ((congoulaw04_awake.f kj8).bind fun t417 => (some t417)) else (some false)) else (some false)) else (some false)))) else (none)) else (none)))) else (none)) else (none)) = some r := by first | (rw [hji44] at H; exact H) | (simp only [hji44] at H ⊢; exact H)
   (try rw [hji44] at A43)
   have hji44w : (IntKind.i64.wrap (Int.tmod (IntKind.u64.wrap (a1)) (IntKind.u64.wrap ((t387.length : Int))))) = ji44 := (i64_w _).trans hji44
   by_cases c45 : 0 ≤ (ji44)
   rotate_left
   ·rw [if_neg c45] at H
    exact absurd H (by simp)
   rw [if_pos c45] at H
   have c45b0 : decide (0 ≤ (ji44)) = true := decide_eq_true c45
   clear c45
   by_cases c46 : (ji44) < (t393.length : Int)
   rotate_left
   ·rw [if_neg c46] at H
    exact absurd H (by simp)
   rw [if_pos c46] at H
   have c46b0 : decide ((ji44) < (t393.length : Int)) = true := decide_eq_true c46
   clear c46
   obtain ⟨y397, hy397⟩ : ∃ y_ : List Int, y_ = (t393.set ((ji44) : Int).toNat (wrap64 ((wrap64 (Int.tmod (IntKind.u64.wrap (a2)) 101)) - 50))) := ⟨_, rfl⟩
   replace H : ((congoulaw04_Of.f a0_0 l0_1 y397).bind fun bt398 => ((curves_Value.f kj8 bt398.1 bt398.2.1 bt398.2.2 a3_0 a3_1).bind fun bt405 => (if (ji44) < (t387.length : Int) then (if (ji44) < (l0_2.length : Int) then ((congoulaw04_whole.f (wrap64 ((wrap64 ((wrap64 (Int.tmod (IntKind.u64.wrap (a2)) 101)) - 50)) - (rd l0_2 (ji44))))).bind fun bt411 => ((congoulaw04_more.f kj8 t376 t377 ((rd_T26 t387 (ji44)).f0) ((rd_T26 t387 (ji44)).f1) bt411.1 bt411.2).bind fun bt413 => (if bt405.2.2 = 0 then (if bt413.2.2 = true then (if (bt413.1 == bt405.1 && (bt413.2.1 == bt405.2.1)) = true then ((congoulaw04_awake.f kj8).bind fun t417 => (some t417)) else (some false)) else (some false)) else (some false)))) else (none)) else (none)))) = some r := by first | (rw [hy397]; with_reducible exact H) | (have H2_ := (Option.bind_some _ _).symm.trans H; rw [hy397]; with_reducible exact H2_) | (have H2_ := (Option.bind_some _ _).symm.trans H; with_reducible exact H2_) | with_reducible exact H | (rw [hy397]; exact H) | exact H
   have Ny397 := Aside0.mk hy397
   clear hy397
   replace H := Option.bind_eq_some_iff.mp H
   obtain ⟨⟨t398, t399, t402⟩, A480, H⟩ := H
   replace H : ((curves_Value.f kj8 t398 t399 t402 a3_0 a3_1).bind fun bt405 => (if (ji44) < (t387.length : Int) then (if (ji44) < (l0_2.length : Int) then ((congoulaw04_whole.f (wrap64 ((wrap64 ((wrap64 (Int.tmod (IntKind.u64.wrap (a2)) 101)) - 50)) - (rd l0_2 (ji44))))).bind fun bt411 => ((congoulaw04_more.f kj8 t376 t377 ((rd_T26 t387 (ji44)).f0) ((rd_T26 t387 (ji44)).f1) bt411.1 bt411.2).bind fun bt413 => (if bt405.2.2 = 0 then (if bt413.2.2 = true then (if (bt413.1 == bt405.1 && (bt413.2.1 == bt405.2.1)) = true then ((congoulaw04_awake.f kj8).bind fun t417 => (some t417)) else (some false)) else (some false)) else (some false)))) else (none)) else (none))) = some r := H
   have A48 := Aside0.mk A480
   clear A480
   replace H := Option.bind_eq_some_iff.mp H
   obtain ⟨⟨t405, t406, t407⟩, A490, H⟩ := H
   replace H : (if (ji44) < (t387.length : Int) then (if (ji44) < (l0_2.length : Int) then ((congoulaw04_whole.f (wrap64 ((wrap64 ((wrap64 (Int.tmod (IntKind.u64.wrap (a2)) 101)) - 50)) - (rd l0_2 (ji44))))).bind fun bt411 => ((congoulaw04_more.f kj8 t376 t377 ((rd_T26 t387 (ji44)).f0) ((rd_T26 t387 (ji44)).f1) bt411.1 bt411.2).bind fun bt413 => (if t407 = 0 then (if bt413.2.2 = true then (if (bt413.1 == t405 && (bt413.2.1 == t406)) = true then ((congoulaw04_awake.f kj8).bind fun t417 => (some t417)) else (some false)) else (some false)) else (some false)))) else (none)) else (none)) = some r := H
   have A49 := Aside0.mk A490
   clear A490
   by_cases c50 : (ji44) < (t387.length : Int)
   rotate_left
   ·rw [if_neg c50] at H
    exact absurd H (by simp)
   rw [if_pos c50] at H
   have c50b0 : decide ((ji44) < (t387.length : Int)) = true := decide_eq_true c50
   clear c50
   by_cases c51 : (ji44) < (l0_2.length : Int)
   rotate_left
   ·rw [if_neg c51] at H
    exact absurd H (by simp)
   rw [if_pos c51] at H
   have c51b0 : decide ((ji44) < (l0_2.length : Int)) = true := decide_eq_true c51
   clear c51
   replace H := Option.bind_eq_some_iff.mp H
   obtain ⟨⟨t411, t412⟩, A520, H⟩ := H
   replace H : ((congoulaw04_more.f kj8 t376 t377 ((rd_T26 t387 (ji44)).f0) ((rd_T26 t387 (ji44)).f1) t411 t412).bind fun bt413 => (if t407 = 0 then (if bt413.2.2 = true then (if (bt413.1 == t405 && (bt413.2.1 == t406)) = true then ((congoulaw04_awake.f kj8).bind fun t417 => (some t417)) else (some false)) else (some false)) else (some false))) = some r := H
   have A52 := Aside0.mk A520
   clear A520
   replace H := Option.bind_eq_some_iff.mp H
   obtain ⟨⟨t413, t414, t415⟩, A530, H⟩ := H
   replace H : (if t407 = 0 then (if t415 = true then (if (t413 == t405 && (t414 == t406)) = true then ((congoulaw04_awake.f kj8).bind fun t417 => (some t417)) else (some false)) else (some false)) else (some false)) = some r := H
   have A53 := Aside0.mk A530
   clear A530
   by_cases c54 : t407 = 0
   rotate_left
   ·rw [if_neg c54] at H
    have c54b0 : (t407 == 0) = false := beq_eq_false_iff_ne.mpr c54
    have c54b1 : (t407 != 0) = true := bne_iff_ne.mpr c54
    exact absurd (H.trans (congrArg some HRT.out)) (by simp)
   rw [if_pos c54] at H
   have c54b0 : (t407 == 0) = true := beq_iff_eq.mpr c54
   have c54b1 : (t407 != 0) = false := bne_eq_false_iff_eq.mpr c54
   clear c54
   by_cases c55 : t415 = true
   rotate_left
   ·replace c55 := Bool.eq_false_iff.mpr c55
    subst c55
    have H1 : (some false) = some r := by rw [if_neg (show ¬ (false = true) by decide)] at H; exact H
    clear H
    have H := H1
    clear H1
    exact absurd (H.trans (congrArg some HRT.out)) (by simp)
   subst c55
   have H1 : (if (t413 == t405 && (t414 == t406)) = true then ((congoulaw04_awake.f kj8).bind fun t417 => (some t417)) else (some false)) = some r := by rw [if_pos rfl] at H; exact H
   clear H
   have H := H1
   clear H1
   by_cases c56 : (t413 == t405 && (t414 == t406)) = true
   rotate_left
   ·rw [if_neg c56] at H
    have c56b0 : (t413 == t405 && (t414 == t406)) = false := by simpa using c56
    (try (have c56b1 : decide (t413 = t405 && (t414 == t406)) = false := by simpa using c56))
    (try (have c56b2 : (t413 == t405 && (t414 == t406)) = false := by simpa using c56))
    (try (have c56b3 : ¬ (t413 = t405 && (t414 == t406)) := by simpa using c56))
    clear c56
    exact absurd (H.trans (congrArg some HRT.out)) (by simp)
   rw [if_pos c56] at H
   have c56b0 : (t413 == t405 && (t414 == t406)) = true := c56
   (try (have c56b1 : decide (t413 = t405 && (t414 == t406)) = true := by simpa using c56))
   (try (have c56b2 : (t413 == t405 && (t414 == t406)) = true := by simpa using c56))
   clear c56
   replace H := Option.bind_eq_some_iff.mp H
   obtain ⟨t417, A570, H⟩ := H
   replace H : (some t417) = some r := H
   have A57 := Aside0.mk A570
   clear A570
   obtain rfl := Option.some.inj H
   obtain ⟨Ao58, co58, eo58⟩ := Kd.R_slice HO_11.out
   subst eo58
   have hnb59 := NB367_368.out
   have hnc59 := NB368_367.out
   have hnb60 := NB367_379.out
   have hnc60 := NB379_367.out
   have hcz61_0 : wc.cell? ⟨gb367, 0, none⟩ = some (.int .i64 a0_0) := bc BK367 0
   have hcz61_1 : wc.cell? ⟨gb367, 1, none⟩ = some (.slice A0_1 l0_1.length c0_1) := bc BK367 1
   have hcz61_2 : wc.cell? ⟨gb367, 2, none⟩ = some (.slice A0_2 l0_2.length c0_2) := bc BK367 2
   have hfz61_0 := fz BK367 0
   have hfz61_1 := fz BK367 1
   have hfz61_2 := fz BK367 2
   try go_wp2
   replace HO_11 := Aside0.mk (Kd.R_drew HO_11.out)
   replace BK367 := kd BK367
   replace BK368 := kd BK368
   replace BK379 := kd BK379
   replace HB := Aside0.mk (below_drew1 HB.out)
   refine sS (n := 10) (S := fun w' => w'.cell? ⟨gb367, 0, none⟩ = some (.int .i64 a0_0) ∧ w'.cell? ⟨gb367, 1, none⟩ = some (.slice A0_1 l0_1.length c0_1) ∧ w'.cell? ⟨gb367, 2, none⟩ = some (.slice A0_2 l0_2.length c0_2)) (ds := []) ⟨bc BK367 0, bc BK367 1, bc BK367 2⟩ (fun hHeld => ?_); refine with_tabW congoulaw04_CurvesNear.tab9 congoulaw04_CurvesNear.bits9 (fun HT_ HW_ => ?_)
   generalize wc.drew = w62 at HO_11 BK367 BK368 BK379 HB hHeld ⊢
   refine pS 0 71 10 1 ?_
   refine pS 2 73 10 5 ?_
   refine pS 4 75 10 21 ?_
   refine tS 1 72 10 23 ?_
   refine tS 3 74 10 31 ?_
   refine tS 5 76 10 63 ?_
   refine join_ (σ := Value × Nat) 1 (ba 10 511) (fun s_ => [(77, s_.1), (13, .pointer (some ⟨s_.2, 0, none⟩)), (78, .agg #[.int .i64 a0_0, .slice A0_1 l0_1.length c0_1, s_.1])]) (fun s_ w' => (w'.cell? ⟨gb367, 0, none⟩ = some (.int .i64 a0_0) ∧ w'.cell? ⟨gb367, 1, none⟩ = some (.slice A0_1 l0_1.length c0_1) ∧ w'.cell? ⟨gb367, 2, none⟩ = some (.slice A0_2 l0_2.length c0_2)) ∧ (Kd.R (Kd.int .i64) 3 w' w.heap.size (fun _ => True) s_.1 t393) ∧ (Kd.R k26 26 w' w.heap.size (fun k_ => k_ ≠ gb368 ∧ k_ ≠ gb379) (.slice Ao58 t387.length co58) t387) ∧ (w'.heap[gb367]? = some (.cells #[.int .i64 a0_0, .slice A0_1 l0_1.length c0_1, .slice A0_2 l0_2.length c0_2] 24 (0, 0))) ∧ (w'.heap[gb368]? = some (.cells #[.int .i64 a3_0, .int .i64 a3_1] 26 (0, 0))) ∧ (w'.heap[gb379]? = some (.cells #[.int .i64 t376, .int .i64 t377] 26 (0, 0))) ∧ (w'.heap[s_.2]? = some (.cells #[.int .i64 0, .slice none 0 0, .slice none 0 0] 24 (0, 0))) ∧ (w.heap.size ≤ s_.2) ∧ (w.heap.size ≤ s_.2) ∧ (gb367 ≠ s_.2) ∧ (s_.2 ≠ gb367) ∧ (gb368 ≠ s_.2) ∧ (s_.2 ≠ gb368) ∧ (gb379 ≠ s_.2) ∧ (s_.2 ≠ gb379) ∧ (Below w.heap.size w w')) ?_ ?_
   rotate_left
   ·intro hCont
    refine two_ (i := 6) (j := 8) (Ni := some 77) (Nj := some 13) (ba 10 127) (ba 10 319) rfl rfl rfl rfl (two_of HT_.out (by kernel_rfl)) (by decide) (by decide) (fun K hK => ?_) (fun K hK => ?_)
    ·skip
     refine gC Try.func21 #[.slice A0_2 l0_2.length c0_2] ?_
     with_reducible refine (congoulaw04_list.calls _ _ l0_2 t393 _ ?side1 ?side2 A43.out).mono ?_
     (case side1 => exact kC HR0_2)
     (case side2 => exact HC0_2.out)
     rintro e w63 ⟨v394, rfl, ho0, hb⟩
     refine ⟨_, rfl, ?_⟩
     replace HO_11 := kO HO_11 hb
     have HO395 := Aside0.mk (Kd.R_lower ho0 (below_size (hbC _)))
     replace BK367 := kB BK367 hb
     replace BK368 := kB BK368 hb
     replace BK379 := kB BK379 hb
     replace HB := kH _ hb
     (try clear hb)
     (try clear hb2)
     (try clear hk)
     (try clear hi)
     (try clear ho0)
     obtain ⟨Ao64, co64, eo64⟩ := Kd.R_slice HO395.out
     (first | subst eo64 | (injection eo64 with f1_ f2_ f3_; have f4_ := f1_.symm; have f5_ := f3_.symm; clear f1_ f2_ f3_; subst f4_; subst f5_))
     refine hK.out _ _ ⟨bc BK367 0, bc BK367 1, bc BK367 2⟩ (fun hHeld => ?_)
     clear hK K
     refine norm_ (a' := ?_) ?_ ?_
     rotate_left
     ·show Act.put _ (some 77) _ = _
      simp only [Act.put, List.setIfInBounds_toArray, List.set_cons_zero, List.set_cons_succ, i64_w, i32_w]
      rfl
     refine pS 7 78 10 255 ?_
     refine one_ (i := 8) (N := some 13) (ba 10 511) rfl rfl (one_of HT_.out (by kernel_rfl)) (by decide) (fun K hK => ?_)
     refine box_step ?hg (N := 13) ?hd (cs := #[.int .i64 0, .slice none 0 0, .slice none 0 0]) (t := 24) ?hr ?_; (case hd => rfl); (case hg => rfl); (case hr => first | (go_simp; done) | (go_simp; rfl))
     intro gb396 hg w65 hbox hb
     replace HO_11 := kO HO_11 hb
     replace HO395 := kO HO395 hb
     have BK396 := Aside0.mk (hbox)
     have GW396 := kG w hg
     have GE396 := kG w hg
     replace HB := kH _ hb
     have NB367_396 := kL BK367 hg
     have NB396_367 := kR BK367 hg
     replace BK367 := kB BK367 hb
     have NB368_396 := kL BK368 hg
     have NB396_368 := kR BK368 hg
     replace BK368 := kB BK368 hb
     have NB379_396 := kL BK379 hg
     have NB396_379 := kR BK379 hg
     replace BK379 := kB BK379 hb
     clear hb hbox hg
     refine hK.out _ _ ⟨bc BK367 0, bc BK367 1, bc BK367 2⟩ (fun hHeld => ?_)
     clear hK K
     refine norm_ (a' := ?_) ?_ ?_
     rotate_left
     ·show Act.put _ (some 13) _ = _
      simp only [Act.put, List.setIfInBounds_toArray, List.set_cons_zero, List.set_cons_succ, i64_w, i32_w]
      rfl
     exact norm_ (by simp only [putAll, Act.put, List.setIfInBounds_toArray, List.set_cons_zero, List.set_cons_succ]) (hCont (.slice Ao64 t393.length co64, gb396) _ ⟨hHeld, (rC HO395), (rC HO_11), (bkC BK367), (bkC BK368), (bkC BK379), (bkC BK396), GW396.out, GE396.out, NB367_396.out, NB396_367.out, NB368_396.out, NB396_368.out, NB379_396.out, NB396_379.out, (hbC _)⟩)
    ·skip
     refine box_step ?hg (N := 13) ?hd (cs := #[.int .i64 0, .slice none 0 0, .slice none 0 0]) (t := 24) ?hr ?_; (case hd => rfl); (case hg => rfl); (case hr => first | (go_simp; done) | (go_simp; rfl))
     intro gb396 hg w63 hbox hb
     replace HO_11 := kO HO_11 hb
     have BK396 := Aside0.mk (hbox)
     have GW396 := kG w hg
     have GE396 := kG w hg
     replace HB := kH _ hb
     have NB367_396 := kL BK367 hg
     have NB396_367 := kR BK367 hg
     replace BK367 := kB BK367 hb
     have NB368_396 := kL BK368 hg
     have NB396_368 := kR BK368 hg
     replace BK368 := kB BK368 hb
     have NB379_396 := kL BK379 hg
     have NB396_379 := kR BK379 hg
     replace BK379 := kB BK379 hb
     clear hb hbox hg
     refine hK.out _ _ ⟨bc BK367 0, bc BK367 1, bc BK367 2⟩ (fun hHeld => ?_)
     clear hK K
     refine norm_ (a' := ?_) ?_ ?_
     rotate_left
     ·show Act.put _ (some 13) _ = _
      simp only [Act.put, List.setIfInBounds_toArray, List.set_cons_zero, List.set_cons_succ, i64_w, i32_w]
      rfl
     refine one_ (i := 6) (N := some 77) (ba 10 383) rfl rfl (one_of HT_.out (by kernel_rfl)) (by decide) (fun K hK => ?_)
     refine gC Try.func21 #[.slice A0_2 l0_2.length c0_2] ?_
     with_reducible refine (congoulaw04_list.calls _ _ l0_2 t393 _ ?side1 ?side2 A43.out).mono ?_
     (case side1 => exact kC HR0_2)
     (case side2 => exact HC0_2.out)
     rintro e w64 ⟨v394, rfl, ho0, hb⟩
     refine ⟨_, rfl, ?_⟩
     replace HO_11 := kO HO_11 hb
     have HO395 := Aside0.mk (Kd.R_lower ho0 (below_size (hbC _)))
     replace BK367 := kB BK367 hb
     replace BK368 := kB BK368 hb
     replace BK379 := kB BK379 hb
     replace BK396 := kB BK396 hb
     replace HB := kH _ hb
     (try clear hb)
     (try clear hb2)
     (try clear hk)
     (try clear hi)
     (try clear ho0)
     obtain ⟨Ao65, co65, eo65⟩ := Kd.R_slice HO395.out
     (first | subst eo65 | (injection eo65 with f1_ f2_ f3_; have f4_ := f1_.symm; have f5_ := f3_.symm; clear f1_ f2_ f3_; subst f4_; subst f5_))
     refine hK.out _ _ ⟨bc BK367 0, bc BK367 1, bc BK367 2⟩ (fun hHeld => ?_)
     clear hK K
     refine norm_ (a' := ?_) ?_ ?_
     rotate_left
     ·show Act.put _ (some 77) _ = _
      simp only [Act.put, List.setIfInBounds_toArray, List.set_cons_zero, List.set_cons_succ, i64_w, i32_w]
      rfl
     refine pS 7 78 10 511 ?_
     exact norm_ (by simp only [putAll, Act.put, List.setIfInBounds_toArray, List.set_cons_zero, List.set_cons_succ]) (hCont (.slice Ao65 t393.length co65, gb396) _ ⟨hHeld, (rC HO395), (rC HO_11), (bkC BK367), (bkC BK368), (bkC BK379), (bkC BK396), GW396.out, GE396.out, NB367_396.out, NB396_367.out, NB368_396.out, NB396_368.out, NB379_396.out, NB396_379.out, (hbC _)⟩)
   rintro ⟨v394, gb396⟩ w66 ⟨hS_, h0_, h1_, h2_, h3_, h4_, h5_, h6_, h7_, h8_, h9_, h10_, h11_, h12_, h13_, h14_⟩
   have n0_ : Aside0 (Kd.R (Kd.int .i64) 3 w66 w.heap.size (fun _ => True) v394 t393) := ⟨h0_⟩
   have n1_ : Aside0 (Kd.R k26 26 w66 w.heap.size (fun k_ => k_ ≠ gb368 ∧ k_ ≠ gb379) (.slice Ao58 t387.length co58) t387) := ⟨h1_⟩
   have n2_ : Aside0 (w66.heap[gb367]? = some (.cells #[.int .i64 a0_0, .slice A0_1 l0_1.length c0_1, .slice A0_2 l0_2.length c0_2] 24 (0, 0))) := ⟨h2_⟩
   have n3_ : Aside0 (w66.heap[gb368]? = some (.cells #[.int .i64 a3_0, .int .i64 a3_1] 26 (0, 0))) := ⟨h3_⟩
   have n4_ : Aside0 (w66.heap[gb379]? = some (.cells #[.int .i64 t376, .int .i64 t377] 26 (0, 0))) := ⟨h4_⟩
   have n5_ : Aside0 (w66.heap[gb396]? = some (.cells #[.int .i64 0, .slice none 0 0, .slice none 0 0] 24 (0, 0))) := ⟨h5_⟩
   have n6_ : Aside0 (w.heap.size ≤ gb396) := ⟨h6_⟩
   have n7_ : Aside0 (w.heap.size ≤ gb396) := ⟨h7_⟩
   have n8_ : Aside0 (gb367 ≠ gb396) := ⟨h8_⟩
   have n9_ : Aside0 (gb396 ≠ gb367) := ⟨h9_⟩
   have n10_ : Aside0 (gb368 ≠ gb396) := ⟨h10_⟩
   have n11_ : Aside0 (gb396 ≠ gb368) := ⟨h11_⟩
   have n12_ : Aside0 (gb379 ≠ gb396) := ⟨h12_⟩
   have n13_ : Aside0 (gb396 ≠ gb379) := ⟨h13_⟩
   have n14_ : Aside0 (Below w.heap.size w w66) := ⟨h14_⟩
   clear HO_11
   clear BK367
   clear BK368
   clear BK379
   clear HB
   clear h0_ h1_ h2_ h3_ h4_ h5_ h6_ h7_ h8_ h9_ h10_ h11_ h12_ h13_ h14_
   have HO395 := n0_
   have HO_11 := n1_
   have BK367 := n2_
   have BK368 := n3_
   have BK379 := n4_
   have BK396 := n5_
   have GW396 := n6_
   have GE396 := n7_
   have NB367_396 := n8_
   have NB396_367 := n9_
   have NB368_396 := n10_
   have NB396_368 := n11_
   have NB379_396 := n12_
   have NB396_379 := n13_
   have HB := n14_
   clear n0_ n1_ n2_ n3_ n4_ n5_ n6_ n7_ n8_ n9_ n10_ n11_ n12_ n13_ n14_
   have hHeld : w66.cell? ⟨gb367, 0, none⟩ = some (.int .i64 a0_0) ∧ w66.cell? ⟨gb367, 1, none⟩ = some (.slice A0_1 l0_1.length c0_1) ∧ w66.cell? ⟨gb367, 2, none⟩ = some (.slice A0_2 l0_2.length c0_2) := hS_
   obtain ⟨Ao67, co67, eo67⟩ := Kd.R_slice HO395.out
   (first | subst eo67 | (injection eo67 with f1_ f2_ f3_; have f4_ := f1_.symm; have f5_ := f3_.symm; clear f1_ f2_ f3_; subst f4_; subst f5_))
   refine norm_ (a' := ?_) ?_ ?_
   rotate_left
   ·simp only [putAll, Act.put, List.setIfInBounds_toArray, List.set_cons_zero, List.set_cons_succ]
    rfl
   refine one_ (i := 9) (N := none) (ba 10 1023) rfl rfl (one_of HT_.out (by kernel_rfl)) (by decide) (fun K hK => ?_)
   have hs68 : w66.cell? ⟨gb396, 0, none⟩ = some (.int .i64 0) := bc BK396 0
   have hfs68 := fz BK396 0
   have hns68_0 := NB367_396.out
   have hns68_1 := NB368_396.out
   have hns68_2 := NB379_396.out
   have hms68_0 := NB396_367.out
   have hms68_1 := NB396_368.out
   have hms68_2 := NB396_379.out
   have hs69 : w66.cell? ⟨gb396, 1, none⟩ = some (.slice none 0 0) := bc BK396 1
   have hfs69 := fz BK396 1
   have hns69_0 := NB367_396.out
   have hns69_1 := NB368_396.out
   have hns69_2 := NB379_396.out
   have hms69_0 := NB396_367.out
   have hms69_1 := NB396_368.out
   have hms69_2 := NB396_379.out
   have hs70 : w66.cell? ⟨gb396, 2, none⟩ = some (.slice none 0 0) := bc BK396 2
   have hfs70 := fz BK396 2
   have hns70_0 := NB367_396.out
   have hns70_1 := NB368_396.out
   have hns70_2 := NB379_396.out
   have hms70_0 := NB396_367.out
   have hms70_1 := NB396_368.out
   have hms70_2 := NB396_379.out
   refine skip_ (w1 := ?_) (by rfl) rfl ?_ ?_
   rotate_left
   ·go_simp
    rfl
   refine hK.out _ _ ⟨((cell_far (p := ⟨gb396, _, none⟩) NB367_396.out _).trans (((cell_far (p := ⟨gb396, _, none⟩) NB367_396.out _).trans (((cell_far (p := ⟨gb396, _, none⟩) NB367_396.out _).trans (hHeld.1)))))), ((cell_far (p := ⟨gb396, _, none⟩) NB367_396.out _).trans (((cell_far (p := ⟨gb396, _, none⟩) NB367_396.out _).trans (((cell_far (p := ⟨gb396, _, none⟩) NB367_396.out _).trans (hHeld.2.1)))))), ((cell_far (p := ⟨gb396, _, none⟩) NB367_396.out _).trans (((cell_far (p := ⟨gb396, _, none⟩) NB367_396.out _).trans (((cell_far (p := ⟨gb396, _, none⟩) NB367_396.out _).trans (hHeld.2.2))))))⟩ (fun hHeld => ?_)
   clear hK K
   refine done_ (done_of HT_.out (by kernel_rfl)) ?_
   have n0_ : Aside0 (Kd.R k26 26 (((w66.setCell ⟨gb396, 0, none⟩ (.int .i64 a0_0)).setCell ⟨gb396, 1, none⟩ (.slice A0_1 l0_1.length c0_1)).setCell ⟨gb396, 2, none⟩ (.slice Ao67 t393.length co67)) w.heap.size (fun k_ => k_ ≠ gb368 ∧ k_ ≠ gb379) (.slice Ao58 t387.length co58) t387) := ⟨by (with_reducible repeat (first | apply Kd.R_alloc | apply Kd.R_drewN | apply Kd.R_drew)); exact Kd.R_mono (Kd.R_far (p := ⟨gb396, 2, none⟩) (Kd.R_far (p := ⟨gb396, 1, none⟩) (Kd.R_far (p := ⟨gb396, 0, none⟩) (Kd.R_types HO_11.out BK396.out (by decide)) (fun _ hk => hk.2) (.int .i64 a0_0)) (fun _ hk => hk.2) (.slice A0_1 l0_1.length c0_1)) (fun _ hk => hk.2) (.slice Ao67 t393.length co67)) (fun _ hk => ⟨hk.1.1, hk.1.2⟩)⟩
   have n1_ : Aside0 (Kd.R (Kd.int .i64) 3 (((w66.setCell ⟨gb396, 0, none⟩ (.int .i64 a0_0)).setCell ⟨gb396, 1, none⟩ (.slice A0_1 l0_1.length c0_1)).setCell ⟨gb396, 2, none⟩ (.slice Ao67 t393.length co67)) w.heap.size (fun _ => True) (.slice Ao67 t393.length co67) t393) := ⟨by (with_reducible repeat (first | apply Kd.R_alloc | apply Kd.R_drewN | apply Kd.R_drew)); exact Kd.R_mono (Kd.R_far (p := ⟨gb396, 2, none⟩) (Kd.R_far (p := ⟨gb396, 1, none⟩) (Kd.R_far (p := ⟨gb396, 0, none⟩) (Kd.R_types HO395.out BK396.out (by decide)) (fun _ hk => hk.2) (.int .i64 a0_0)) (fun _ hk => hk.2) (.slice A0_1 l0_1.length c0_1)) (fun _ hk => hk.2) (.slice Ao67 t393.length co67)) (fun _ hk => trivial)⟩
   have n2_ : Aside0 ((((w66.setCell ⟨gb396, 0, none⟩ (.int .i64 a0_0)).setCell ⟨gb396, 1, none⟩ (.slice A0_1 l0_1.length c0_1)).setCell ⟨gb396, 2, none⟩ (.slice Ao67 t393.length co67)).heap[gb367]? = some (.cells #[.int .i64 a0_0, .slice A0_1 l0_1.length c0_1, .slice A0_2 l0_2.length c0_2] 24 (0, 0))) := ⟨bF BK367⟩
   have n3_ : Aside0 ((((w66.setCell ⟨gb396, 0, none⟩ (.int .i64 a0_0)).setCell ⟨gb396, 1, none⟩ (.slice A0_1 l0_1.length c0_1)).setCell ⟨gb396, 2, none⟩ (.slice Ao67 t393.length co67)).heap[gb368]? = some (.cells #[.int .i64 a3_0, .int .i64 a3_1] 26 (0, 0))) := ⟨bF BK368⟩
   have n4_ : Aside0 ((((w66.setCell ⟨gb396, 0, none⟩ (.int .i64 a0_0)).setCell ⟨gb396, 1, none⟩ (.slice A0_1 l0_1.length c0_1)).setCell ⟨gb396, 2, none⟩ (.slice Ao67 t393.length co67)).heap[gb379]? = some (.cells #[.int .i64 t376, .int .i64 t377] 26 (0, 0))) := ⟨bF BK379⟩
   have n5_ : Aside0 ((((w66.setCell ⟨gb396, 0, none⟩ (.int .i64 a0_0)).setCell ⟨gb396, 1, none⟩ (.slice A0_1 l0_1.length c0_1)).setCell ⟨gb396, 2, none⟩ (.slice Ao67 t393.length co67)).heap[gb396]? = some (.cells #[.int .i64 a0_0, .slice A0_1 l0_1.length c0_1, .slice Ao67 t393.length co67] 24 (0, 0))) := ⟨by (with_reducible repeat (first | refine blk_drewN ?_ _ | refine blk_drew ?_ | refine blk_alloc ?_ _)); refine blk_put (cs := #[.int .i64 a0_0, .slice A0_1 l0_1.length c0_1, .slice none 0 0]) ?_ 2 _ rfl; (with_reducible repeat (first | refine blk_drewN ?_ _ | refine blk_drew ?_ | refine blk_alloc ?_ _)); refine blk_put (cs := #[.int .i64 a0_0, .slice none 0 0, .slice none 0 0]) ?_ 1 _ rfl; (with_reducible repeat (first | refine blk_drewN ?_ _ | refine blk_drew ?_ | refine blk_alloc ?_ _)); refine blk_put (cs := #[.int .i64 0, .slice none 0 0, .slice none 0 0]) ?_ 0 _ rfl; (with_reducible repeat (first | refine blk_drewN ?_ _ | refine blk_drew ?_ | refine blk_alloc ?_ _)); exact BK396.out⟩
   have n6_ : Aside0 (Below w.heap.size w (((w66.setCell ⟨gb396, 0, none⟩ (.int .i64 a0_0)).setCell ⟨gb396, 1, none⟩ (.slice A0_1 l0_1.length c0_1)).setCell ⟨gb396, 2, none⟩ (.slice Ao67 t393.length co67))) := ⟨hbC _⟩
   (try clear HO_11)
   (try clear HO395)
   (try clear BK367)
   (try clear BK368)
   (try clear BK379)
   (try clear BK396)
   (try clear HB)
   generalize (((w66.setCell ⟨gb396, 0, none⟩ (.int .i64 a0_0)).setCell ⟨gb396, 1, none⟩ (.slice A0_1 l0_1.length c0_1)).setCell ⟨gb396, 2, none⟩ (.slice Ao67 t393.length co67)) = w71 at n0_ n1_ n2_ n3_ n4_ n5_ n6_ ⊢
   have HO_11 := n0_
   have HO395 := n1_
   have BK367 := n2_
   have BK368 := n3_
   have BK379 := n4_
   have BK396 := n5_
   have HB := n6_
   clear n0_ n1_ n2_ n3_ n4_ n5_ n6_
   have hnb72 := NB396_367.out
   have hnc72 := NB367_396.out
   have hnb73 := NB396_368.out
   have hnc73 := NB368_396.out
   have hnb74 := NB396_379.out
   have hnc74 := NB379_396.out
   have hcz75_0 : w71.cell? ⟨gb396, 0, none⟩ = some (.int .i64 a0_0) := bc BK396 0
   have hcz75_1 : w71.cell? ⟨gb396, 1, none⟩ = some (.slice A0_1 l0_1.length c0_1) := bc BK396 1
   have hcz75_2 : w71.cell? ⟨gb396, 2, none⟩ = some (.slice Ao67 t393.length co67) := bc BK396 2
   have hfz75_0 := fz BK396 0
   have hfz75_1 := fz BK396 1
   have hfz75_2 := fz BK396 2
   have p47 : 0 ≤ ((ji44) : Int) := dA
   have q47 : ((ji44) : Int) < ((t393.length : Int) : Int) := dA
   obtain ⟨go47, co47, eo47, gb47, gl47, cl47, HG47⟩ := Kd.R_form HO395.out (by omega)
   (first | cases eo47 | (injection eo47 with ea_ en_ ec_; (first | subst ea_ | (injection ea_ with ea_; subst ea_)); subst ec_; clear en_))
   have GB47 := Aside0.mk gb47
   have GG47 := Aside0.mk HG47
   clear gb47 gl47 HG47
   obtain ⟨hx47_0, hf47_0⟩ := Kd.R_celln 0 HO395.out ((ji44) : Int) p47 q47
   replace p47 := eq_true p47
   replace q47 := eq_true q47
   obtain ⟨hy76_, hz76_⟩ := Kd.R_celln 0 HO395.out ((ji44) : Int) (dA) (dA)
   have HP76 := Kd.R_putg HO395.out ((ji44) : Int) (wrap64 ((wrap64 (Int.tmod (IntKind.u64.wrap (a2)) 101)) - 50))
   try go_wp2_with (first | ((with_reducible refine gate_store (t := 3) (p := 83) rfl ?_); refine store_event (t := 3) (p := 83) (v := ?vo_w77) (w1 := (w71.setCell ⟨go47, ((ji44) : Int).toNat, none⟩ (.int .i64 (wrap64 ((wrap64 (Int.tmod (IntKind.u64.wrap (a2)) 101)) - 50))))) ?hg ?ho ?hn ?hr ?_; (case ho => rfl); (case hg => rfl); (case hn => rfl); (case hr => first | (go_simp; done) | (go_simp; rfl)); intro w77 hw; have hg : w71.grownBy w77 (some go47) := (by rw [hw]; exact HP76.2); have hp_ : Kd.R (Kd.int .i64) 3 w77 w.heap.size (fun _ => True) (.slice (some ⟨go47, 0, none⟩) t393.length co67) y397 := (by rw [hw, Ny397.out]; exact HP76.1); clear HP76; replace HO_11 := Aside0.mk (Kd.R_over' (v := (.slice (some ⟨go47, 0, none⟩) t393.length co67)) (rC HO_11) (Kd.R_typed HO395.out) (by decide) hg); replace BK367 := Aside0.mk (blk_grown (g := gb367) (o := .cells #[.int .i64 a0_0, .slice A0_1 l0_1.length c0_1, .slice A0_2 l0_2.length c0_2] 24 (0, 0)) (bkC BK367) hg (Kd.R_ne HO395.out BK367.out (by decide))); replace BK368 := Aside0.mk (blk_grown (g := gb368) (o := .cells #[.int .i64 a3_0, .int .i64 a3_1] 26 (0, 0)) (bkC BK368) hg (Kd.R_ne HO395.out BK368.out (by decide))); replace BK379 := Aside0.mk (blk_grown (g := gb379) (o := .cells #[.int .i64 t376, .int .i64 t377] 26 (0, 0)) (bkC BK379) hg (Kd.R_ne HO395.out BK379.out (by decide))); replace BK396 := Aside0.mk (blk_grown (g := gb396) (o := .cells #[.int .i64 a0_0, .slice A0_1 l0_1.length c0_1, .slice (some ⟨go47, 0, none⟩) t393.length co67] 24 (0, 0)) (bkC BK396) hg (Kd.R_ne HO395.out BK396.out (by decide))); replace HO395 := Aside0.mk (hp_); replace HB := Aside0.mk ((by rw [hw]; exact below_set (HB.out) GB47.out : Below w.heap.size w w77)); clear hg hw hp_))
   replace HO_11 := Aside0.mk (Kd.R_drew HO_11.out)
   replace HO395 := Aside0.mk (Kd.R_drew HO395.out)
   replace BK367 := kd BK367
   replace BK368 := kd BK368
   replace BK379 := kd BK379
   replace BK396 := kd BK396
   replace HB := Aside0.mk (below_drew1 HB.out)
   refine sS (n := 10) (S := fun w' => w'.cell? ⟨gb396, 0, none⟩ = some (.int .i64 a0_0) ∧ w'.cell? ⟨gb396, 1, none⟩ = some (.slice A0_1 l0_1.length c0_1) ∧ w'.cell? ⟨gb396, 2, none⟩ = some (.slice (some ⟨go47, 0, none⟩) t393.length co67) ∧ w'.cell? ⟨gb368, 0, none⟩ = some (.int .i64 a3_0) ∧ w'.cell? ⟨gb368, 1, none⟩ = some (.int .i64 a3_1)) (ds := []) ⟨bc BK396 0, bc BK396 1, bc BK396 2, bc BK368 0, bc BK368 1⟩ (fun hHeld => ?_); refine with_tabW congoulaw04_CurvesNear.tab11 congoulaw04_CurvesNear.bits11 (fun HT_ HW_ => ?_)
   generalize w77.drew = w78 at HO_11 HO395 BK367 BK368 BK379 BK396 HB hHeld ⊢
   refine tS 0 85 10 1 ?_
   refine tS 2 87 10 5 ?_
   refine join_ (σ := Value × Value × Nat) 2 (ba 10 255) (fun s_ => [(86, .agg #[.int .i64 t398, s_.1, s_.2.1]), (88, .tuple #[.agg #[.int .i64 t405, .int .i64 t406], .int .i64 t407]), (14, .pointer (some ⟨s_.2.2, 0, none⟩)), (84, .tuple #[.agg #[.int .i64 t405, .int .i64 t406], .int .i64 t407]), (89, .agg #[.int .i64 t405, .int .i64 t406]), (90, .int .i64 t407)]) (fun s_ w' => (w'.cell? ⟨gb396, 0, none⟩ = some (.int .i64 a0_0) ∧ w'.cell? ⟨gb396, 1, none⟩ = some (.slice A0_1 l0_1.length c0_1) ∧ w'.cell? ⟨gb396, 2, none⟩ = some (.slice (some ⟨go47, 0, none⟩) t393.length co67) ∧ w'.cell? ⟨gb368, 0, none⟩ = some (.int .i64 a3_0) ∧ w'.cell? ⟨gb368, 1, none⟩ = some (.int .i64 a3_1)) ∧ (Kd.R (Kd.int .i64) 3 w' w.heap.size (fun k_ => some k_ ≠ (s_.1 : Value).ownBlock ∧ some k_ ≠ (s_.2.1 : Value).ownBlock) (.slice (some ⟨go47, 0, none⟩) t393.length co67) y397) ∧ (Kd.R (Kd.int .i64) 3 w' w.heap.size (fun k_ => some k_ ≠ (.slice (some ⟨go47, 0, none⟩) t393.length co67 : Value).ownBlock ∧ some k_ ≠ (s_.2.1 : Value).ownBlock) s_.1 t399) ∧ (Kd.R (Kd.int .i64) 3 w' w.heap.size (fun k_ => some k_ ≠ (.slice (some ⟨go47, 0, none⟩) t393.length co67 : Value).ownBlock ∧ some k_ ≠ (s_.1 : Value).ownBlock) s_.2.1 t402) ∧ (Kd.R k26 26 w' w.heap.size (fun k_ => k_ ≠ gb368 ∧ k_ ≠ gb379 ∧ k_ ≠ s_.2.2) (.slice Ao58 t387.length co58) t387) ∧ (w'.heap[gb367]? = some (.cells #[.int .i64 a0_0, .slice A0_1 l0_1.length c0_1, .slice A0_2 l0_2.length c0_2] 24 (0, 0))) ∧ (w'.heap[gb368]? = some (.cells #[.int .i64 a3_0, .int .i64 a3_1] 26 (0, 0))) ∧ (w'.heap[gb379]? = some (.cells #[.int .i64 t376, .int .i64 t377] 26 (0, 0))) ∧ (w'.heap[gb396]? = some (.cells #[.int .i64 a0_0, .slice A0_1 l0_1.length c0_1, .slice (some ⟨go47, 0, none⟩) t393.length co67] 24 (0, 0))) ∧ (w'.heap[s_.2.2]? = some (.cells #[.int .i64 0, .int .i64 0] 26 (0, 0))) ∧ (w.heap.size ≤ s_.2.2) ∧ (w.heap.size ≤ s_.2.2) ∧ (gb367 ≠ s_.2.2) ∧ (s_.2.2 ≠ gb367) ∧ (gb368 ≠ s_.2.2) ∧ (s_.2.2 ≠ gb368) ∧ (gb379 ≠ s_.2.2) ∧ (s_.2.2 ≠ gb379) ∧ (gb396 ≠ s_.2.2) ∧ (s_.2.2 ≠ gb396) ∧ (Below w.heap.size w w')) ?_ ?_
   rotate_left
   ·intro hCont
    refine two_ (i := 1) (j := 7) (Ni := some 86) (Nj := some 14) (ba 10 7) (ba 10 133) rfl rfl rfl rfl (two_of HT_.out (by kernel_rfl)) (by decide) (by decide) (fun K hK => ?_) (fun K hK => ?_)
    ·skip
     refine goes_ Try.func15 (by kernel_rfl) rfl #[.agg #[.int .i64 a0_0, .slice A0_1 l0_1.length c0_1, .slice (some ⟨go47, 0, none⟩) y397.length co67]] (by rfl) rfl rfl (by (try simp only [List.map_toArray, List.map_cons, List.map_nil]); first | done | (rw [show y397.length = t393.length from (Kd.R_reads' HO395.out).1.symm] <;> rfl) | rfl | (simp only [List.length_drop, List.length_take]; rfl)) ?_
     with_reducible refine (congoulaw04_Of.calls a0_0 _ _ l0_1 _ _ y397 t398 t399 t402 _ ?side1 ?side2 ?side3 ?side4 A48.out).mono ?_
     (case side1 => exact kC HR0_1)
     (case side2 => exact HC0_1.out)
     (case side3 => exact kD (Kd.R_reads' HO395.out).2.2)
     (case side4 => rw [show y397.length = t393.length from (Kd.R_reads' HO395.out).1.symm]; exact (Kd.R_reads' HO395.out).2.1)
     rintro e w79 ⟨v400, v403, rfl, ho0, ho1, hb⟩
     refine ⟨_, rfl, ?_⟩
     replace HO_11 := kO HO_11 hb
     have HO401 := Aside0.mk (Kd.R_lower (Kd.R_new' ho0 (Kd.R_lt (rC HO395))) (below_size (hbC _)))
     have HO404 := Aside0.mk (Kd.R_lower (Kd.R_new' ho1 (Kd.R_lt (rC HO395))) (below_size (hbC _)))
     replace HO395 := Aside0.mk (Kd.R_mono (Kd.R_told (Kd.R_told (Kd.R_old (rC HO395) hb) (Kd.R_base ho0)) (Kd.R_base ho1)) (fun _ h_ => h_.1))
     replace BK367 := kB BK367 hb
     replace BK368 := kB BK368 hb
     replace BK379 := kB BK379 hb
     replace BK396 := kB BK396 hb
     replace HB := kH _ hb
     (try clear hb)
     (try clear hb2)
     (try clear hk)
     (try clear hi)
     (try clear ho0)
     (try clear ho1)
     obtain ⟨Ao80, co80, eo80⟩ := Kd.R_slice HO401.out
     (first | subst eo80 | (injection eo80 with f1_ f2_ f3_; have f4_ := f1_.symm; have f5_ := f3_.symm; clear f1_ f2_ f3_; subst f4_; subst f5_))
     obtain ⟨Ao81, co81, eo81⟩ := Kd.R_slice HO404.out
     (first | subst eo81 | (injection eo81 with f1_ f2_ f3_; have f4_ := f1_.symm; have f5_ := f3_.symm; clear f1_ f2_ f3_; subst f4_; subst f5_))
     refine hK.out _ _ ⟨bc BK396 0, bc BK396 1, bc BK396 2, bc BK368 0, bc BK368 1⟩ (fun hHeld => ?_)
     clear hK K
     refine norm_ (a' := ?_) ?_ ?_
     rotate_left
     ·show Act.put _ (some 86) _ = _
      simp only [Act.put, List.setIfInBounds_toArray, List.set_cons_zero, List.set_cons_succ, i64_w, i32_w]
      rfl
     refine two_ (i := 3) (j := 7) (Ni := some 88) (Nj := some 14) (ba 10 15) (ba 10 135) rfl rfl rfl rfl (two_of HT_.out (by kernel_rfl)) (by decide) (by decide) (fun K hK => ?_) (fun K hK => ?_)
     ·skip
      refine gC Try.func14 #[.agg #[.int .i64 t398, .slice Ao80 t399.length co80, .slice Ao81 t402.length co81], .agg #[.int .i64 a3_0, .int .i64 a3_1]] ?_
      with_reducible refine (curves_Value.calls kj8 t398 _ _ t399 _ _ t402 a3_0 a3_1 t405 t406 t407 _ ?side1 ?side2 ?side3 ?side4 A49.out).mono ?_
      (case side1 => exact kD (Kd.R_reads' HO401.out).2.2)
      (case side2 => exact (Kd.R_reads' HO401.out).2.1)
      (case side3 => exact kD (Kd.R_reads' HO404.out).2.2)
      (case side4 => exact (Kd.R_reads' HO404.out).2.1)
      rintro e w82 ⟨rfl, hb⟩
      refine ⟨_, rfl, ?_⟩
      replace HO_11 := kO HO_11 hb
      replace HO395 := kO HO395 hb
      replace HO401 := kO HO401 hb
      replace HO404 := kO HO404 hb
      replace BK367 := kB BK367 hb
      replace BK368 := kB BK368 hb
      replace BK379 := kB BK379 hb
      replace BK396 := kB BK396 hb
      replace HB := kH _ hb
      (try clear hb)
      (try clear hb2)
      (try clear hk)
      (try clear hi)
      refine hK.out _ _ ⟨bc BK396 0, bc BK396 1, bc BK396 2, bc BK368 0, bc BK368 1⟩ (fun hHeld => ?_)
      clear hK K
      refine norm_ (a' := ?_) ?_ ?_
      rotate_left
      ·show Act.put _ (some 88) _ = _
       simp only [Act.put, List.setIfInBounds_toArray, List.set_cons_zero, List.set_cons_succ, i64_w, i32_w]
       rfl
      refine pS 4 84 10 31 ?_
      refine pS 5 89 10 63 ?_
      refine pS 6 90 10 127 ?_
      refine one_ (i := 7) (N := some 14) (ba 10 255) rfl rfl (one_of HT_.out (by kernel_rfl)) (by decide) (fun K hK => ?_)
      refine box_step ?hg (N := 14) ?hd (cs := #[.int .i64 0, .int .i64 0]) (t := 26) ?hr ?_; (case hd => rfl); (case hg => rfl); (case hr => first | (go_simp; done) | (go_simp; rfl))
      intro gb408 hg w83 hbox hb
      replace HO_11 := Aside0.mk (Kd.R_below (Kd.R_elderB (rC HO_11) gb408 (Nat.le_of_eq hg.symm)) hb)
      replace HO395 := kO HO395 hb
      replace HO401 := kO HO401 hb
      replace HO404 := kO HO404 hb
      have BK408 := Aside0.mk (hbox)
      have GW408 := kG w hg
      have GE408 := kG w hg
      replace HB := kH _ hb
      have NB367_408 := kL BK367 hg
      have NB408_367 := kR BK367 hg
      replace BK367 := kB BK367 hb
      have NB368_408 := kL BK368 hg
      have NB408_368 := kR BK368 hg
      replace BK368 := kB BK368 hb
      have NB379_408 := kL BK379 hg
      have NB408_379 := kR BK379 hg
      replace BK379 := kB BK379 hb
      have NB396_408 := kL BK396 hg
      have NB408_396 := kR BK396 hg
      replace BK396 := kB BK396 hb
      clear hb hbox hg
      refine hK.out _ _ ⟨bc BK396 0, bc BK396 1, bc BK396 2, bc BK368 0, bc BK368 1⟩ (fun hHeld => ?_)
      clear hK K
      refine norm_ (a' := ?_) ?_ ?_
      rotate_left
      ·show Act.put _ (some 14) _ = _
       simp only [Act.put, List.setIfInBounds_toArray, List.set_cons_zero, List.set_cons_succ, i64_w, i32_w]
       rfl
      exact norm_ (by simp only [putAll, Act.put, List.setIfInBounds_toArray, List.set_cons_zero, List.set_cons_succ]) (hCont (.slice Ao80 t399.length co80, .slice Ao81 t402.length co81, gb408) _ ⟨hHeld, (by (with_reducible repeat (first | apply Kd.R_alloc | apply Kd.R_drewN | apply Kd.R_drew)); exact Kd.R_mono HO395.out (fun _ hk => ⟨hk.1.2, hk.2⟩)), (by (with_reducible repeat (first | apply Kd.R_alloc | apply Kd.R_drewN | apply Kd.R_drew)); exact Kd.R_mono HO401.out (fun _ hk => ⟨hk.2, hk.1⟩)), (by (with_reducible repeat (first | apply Kd.R_alloc | apply Kd.R_drewN | apply Kd.R_drew)); exact Kd.R_mono HO404.out (fun _ hk => ⟨hk.2, hk.1⟩)), (by (with_reducible repeat (first | apply Kd.R_alloc | apply Kd.R_drewN | apply Kd.R_drew)); exact Kd.R_mono HO_11.out (fun _ hk => ⟨hk.1.1, ⟨hk.1.2, hk.2⟩⟩)), (bkC BK367), (bkC BK368), (bkC BK379), (bkC BK396), (bkC BK408), GW408.out, GE408.out, NB367_408.out, NB408_367.out, NB368_408.out, NB408_368.out, NB379_408.out, NB408_379.out, NB396_408.out, NB408_396.out, (hbC _)⟩)
     ·skip
      refine box_step ?hg (N := 14) ?hd (cs := #[.int .i64 0, .int .i64 0]) (t := 26) ?hr ?_; (case hd => rfl); (case hg => rfl); (case hr => first | (go_simp; done) | (go_simp; rfl))
      intro gb408 hg w80 hbox hb
      replace HO_11 := Aside0.mk (Kd.R_below (Kd.R_elderB (rC HO_11) gb408 (Nat.le_of_eq hg.symm)) hb)
      replace HO395 := kO HO395 hb
      replace HO401 := kO HO401 hb
      replace HO404 := kO HO404 hb
      have BK408 := Aside0.mk (hbox)
      have GW408 := kG w hg
      have GE408 := kG w hg
      replace HB := kH _ hb
      have NB367_408 := kL BK367 hg
      have NB408_367 := kR BK367 hg
      replace BK367 := kB BK367 hb
      have NB368_408 := kL BK368 hg
      have NB408_368 := kR BK368 hg
      replace BK368 := kB BK368 hb
      have NB379_408 := kL BK379 hg
      have NB408_379 := kR BK379 hg
      replace BK379 := kB BK379 hb
      have NB396_408 := kL BK396 hg
      have NB408_396 := kR BK396 hg
      replace BK396 := kB BK396 hb
      clear hb hbox hg
      obtain ⟨Ao81, co81, eo81⟩ := Kd.R_slice HO401.out
      (first | subst eo81 | (injection eo81 with f1_ f2_ f3_; have f4_ := f1_.symm; have f5_ := f3_.symm; clear f1_ f2_ f3_; subst f4_; subst f5_))
      obtain ⟨Ao82, co82, eo82⟩ := Kd.R_slice HO404.out
      (first | subst eo82 | (injection eo82 with f1_ f2_ f3_; have f4_ := f1_.symm; have f5_ := f3_.symm; clear f1_ f2_ f3_; subst f4_; subst f5_))
      refine hK.out _ _ ⟨bc BK396 0, bc BK396 1, bc BK396 2, bc BK368 0, bc BK368 1⟩ (fun hHeld => ?_)
      clear hK K
      refine norm_ (a' := ?_) ?_ ?_
      rotate_left
      ·show Act.put _ (some 14) _ = _
       simp only [Act.put, List.setIfInBounds_toArray, List.set_cons_zero, List.set_cons_succ, i64_w, i32_w]
       rfl
      refine one_ (i := 3) (N := some 88) (ba 10 143) rfl rfl (one_of HT_.out (by kernel_rfl)) (by decide) (fun K hK => ?_)
      refine gC Try.func14 #[.agg #[.int .i64 t398, .slice Ao81 t399.length co81, .slice Ao82 t402.length co82], .agg #[.int .i64 a3_0, .int .i64 a3_1]] ?_
      with_reducible refine (curves_Value.calls kj8 t398 _ _ t399 _ _ t402 a3_0 a3_1 t405 t406 t407 _ ?side1 ?side2 ?side3 ?side4 A49.out).mono ?_
      (case side1 => exact kD (Kd.R_reads' HO401.out).2.2)
      (case side2 => exact (Kd.R_reads' HO401.out).2.1)
      (case side3 => exact kD (Kd.R_reads' HO404.out).2.2)
      (case side4 => exact (Kd.R_reads' HO404.out).2.1)
      rintro e w83 ⟨rfl, hb⟩
      refine ⟨_, rfl, ?_⟩
      replace HO_11 := kO HO_11 hb
      replace HO395 := kO HO395 hb
      replace HO401 := kO HO401 hb
      replace HO404 := kO HO404 hb
      replace BK367 := kB BK367 hb
      replace BK368 := kB BK368 hb
      replace BK379 := kB BK379 hb
      replace BK396 := kB BK396 hb
      replace BK408 := kB BK408 hb
      replace HB := kH _ hb
      (try clear hb)
      (try clear hb2)
      (try clear hk)
      (try clear hi)
      refine hK.out _ _ ⟨bc BK396 0, bc BK396 1, bc BK396 2, bc BK368 0, bc BK368 1⟩ (fun hHeld => ?_)
      clear hK K
      refine norm_ (a' := ?_) ?_ ?_
      rotate_left
      ·show Act.put _ (some 88) _ = _
       simp only [Act.put, List.setIfInBounds_toArray, List.set_cons_zero, List.set_cons_succ, i64_w, i32_w]
       rfl
      refine pS 4 84 10 159 ?_
      refine pS 5 89 10 191 ?_
      refine pS 6 90 10 255 ?_
      exact norm_ (by simp only [putAll, Act.put, List.setIfInBounds_toArray, List.set_cons_zero, List.set_cons_succ]) (hCont (.slice Ao81 t399.length co81, .slice Ao82 t402.length co82, gb408) _ ⟨hHeld, (by (with_reducible repeat (first | apply Kd.R_alloc | apply Kd.R_drewN | apply Kd.R_drew)); exact Kd.R_mono HO395.out (fun _ hk => ⟨hk.1.2, hk.2⟩)), (by (with_reducible repeat (first | apply Kd.R_alloc | apply Kd.R_drewN | apply Kd.R_drew)); exact Kd.R_mono HO401.out (fun _ hk => ⟨hk.2, hk.1⟩)), (by (with_reducible repeat (first | apply Kd.R_alloc | apply Kd.R_drewN | apply Kd.R_drew)); exact Kd.R_mono HO404.out (fun _ hk => ⟨hk.2, hk.1⟩)), (by (with_reducible repeat (first | apply Kd.R_alloc | apply Kd.R_drewN | apply Kd.R_drew)); exact Kd.R_mono HO_11.out (fun _ hk => ⟨hk.1.1, ⟨hk.1.2, hk.2⟩⟩)), (bkC BK367), (bkC BK368), (bkC BK379), (bkC BK396), (bkC BK408), GW408.out, GE408.out, NB367_408.out, NB408_367.out, NB368_408.out, NB408_368.out, NB379_408.out, NB408_379.out, NB396_408.out, NB408_396.out, (hbC _)⟩)
    ·skip
     refine box_step ?hg (N := 14) ?hd (cs := #[.int .i64 0, .int .i64 0]) (t := 26) ?hr ?_; (case hd => rfl); (case hg => rfl); (case hr => first | (go_simp; done) | (go_simp; rfl))
     intro gb408 hg w79 hbox hb
     replace HO_11 := Aside0.mk (Kd.R_below (Kd.R_elderB (rC HO_11) gb408 (Nat.le_of_eq hg.symm)) hb)
     replace HO395 := kO HO395 hb
     have BK408 := Aside0.mk (hbox)
     have GW408 := kG w hg
     have GE408 := kG w hg
     replace HB := kH _ hb
     have NB367_408 := kL BK367 hg
     have NB408_367 := kR BK367 hg
     replace BK367 := kB BK367 hb
     have NB368_408 := kL BK368 hg
     have NB408_368 := kR BK368 hg
     replace BK368 := kB BK368 hb
     have NB379_408 := kL BK379 hg
     have NB408_379 := kR BK379 hg
     replace BK379 := kB BK379 hb
     have NB396_408 := kL BK396 hg
     have NB408_396 := kR BK396 hg
     replace BK396 := kB BK396 hb
     clear hb hbox hg
     refine hK.out _ _ ⟨bc BK396 0, bc BK396 1, bc BK396 2, bc BK368 0, bc BK368 1⟩ (fun hHeld => ?_)
     clear hK K
     refine norm_ (a' := ?_) ?_ ?_
     rotate_left
     ·show Act.put _ (some 14) _ = _
      simp only [Act.put, List.setIfInBounds_toArray, List.set_cons_zero, List.set_cons_succ, i64_w, i32_w]
      rfl
     refine one_ (i := 1) (N := some 86) (ba 10 135) rfl rfl (one_of HT_.out (by kernel_rfl)) (by decide) (fun K hK => ?_)
     refine goes_ Try.func15 (by kernel_rfl) rfl #[.agg #[.int .i64 a0_0, .slice A0_1 l0_1.length c0_1, .slice (some ⟨go47, 0, none⟩) y397.length co67]] (by rfl) rfl rfl (by (try simp only [List.map_toArray, List.map_cons, List.map_nil]); first | done | (rw [show y397.length = t393.length from (Kd.R_reads' HO395.out).1.symm] <;> rfl) | rfl | (simp only [List.length_drop, List.length_take]; rfl)) ?_
     with_reducible refine (congoulaw04_Of.calls a0_0 _ _ l0_1 _ _ y397 t398 t399 t402 _ ?side1 ?side2 ?side3 ?side4 A48.out).mono ?_
     (case side1 => exact kC HR0_1)
     (case side2 => exact HC0_1.out)
     (case side3 => exact kD (Kd.R_reads' HO395.out).2.2)
     (case side4 => rw [show y397.length = t393.length from (Kd.R_reads' HO395.out).1.symm]; exact (Kd.R_reads' HO395.out).2.1)
     rintro e w80 ⟨v400, v403, rfl, ho0, ho1, hb⟩
     refine ⟨_, rfl, ?_⟩
     replace HO_11 := kO HO_11 hb
     have HO401 := Aside0.mk (Kd.R_lower (Kd.R_new' ho0 (Kd.R_lt (rC HO395))) (below_size (hbC _)))
     have HO404 := Aside0.mk (Kd.R_lower (Kd.R_new' ho1 (Kd.R_lt (rC HO395))) (below_size (hbC _)))
     replace HO395 := Aside0.mk (Kd.R_mono (Kd.R_told (Kd.R_told (Kd.R_old (rC HO395) hb) (Kd.R_base ho0)) (Kd.R_base ho1)) (fun _ h_ => h_.1))
     replace BK367 := kB BK367 hb
     replace BK368 := kB BK368 hb
     replace BK379 := kB BK379 hb
     replace BK396 := kB BK396 hb
     replace BK408 := kB BK408 hb
     replace HB := kH _ hb
     (try clear hb)
     (try clear hb2)
     (try clear hk)
     (try clear hi)
     (try clear ho0)
     (try clear ho1)
     obtain ⟨Ao81, co81, eo81⟩ := Kd.R_slice HO401.out
     (first | subst eo81 | (injection eo81 with f1_ f2_ f3_; have f4_ := f1_.symm; have f5_ := f3_.symm; clear f1_ f2_ f3_; subst f4_; subst f5_))
     obtain ⟨Ao82, co82, eo82⟩ := Kd.R_slice HO404.out
     (first | subst eo82 | (injection eo82 with f1_ f2_ f3_; have f4_ := f1_.symm; have f5_ := f3_.symm; clear f1_ f2_ f3_; subst f4_; subst f5_))
     refine hK.out _ _ ⟨bc BK396 0, bc BK396 1, bc BK396 2, bc BK368 0, bc BK368 1⟩ (fun hHeld => ?_)
     clear hK K
     refine norm_ (a' := ?_) ?_ ?_
     rotate_left
     ·show Act.put _ (some 86) _ = _
      simp only [Act.put, List.setIfInBounds_toArray, List.set_cons_zero, List.set_cons_succ, i64_w, i32_w]
      rfl
     refine one_ (i := 3) (N := some 88) (ba 10 143) rfl rfl (one_of HT_.out (by kernel_rfl)) (by decide) (fun K hK => ?_)
     refine gC Try.func14 #[.agg #[.int .i64 t398, .slice Ao81 t399.length co81, .slice Ao82 t402.length co82], .agg #[.int .i64 a3_0, .int .i64 a3_1]] ?_
     with_reducible refine (curves_Value.calls kj8 t398 _ _ t399 _ _ t402 a3_0 a3_1 t405 t406 t407 _ ?side1 ?side2 ?side3 ?side4 A49.out).mono ?_
     (case side1 => exact kD (Kd.R_reads' HO401.out).2.2)
     (case side2 => exact (Kd.R_reads' HO401.out).2.1)
     (case side3 => exact kD (Kd.R_reads' HO404.out).2.2)
     (case side4 => exact (Kd.R_reads' HO404.out).2.1)
     rintro e w83 ⟨rfl, hb⟩
     refine ⟨_, rfl, ?_⟩
     replace HO_11 := kO HO_11 hb
     replace HO395 := kO HO395 hb
     replace HO401 := kO HO401 hb
     replace HO404 := kO HO404 hb
     replace BK367 := kB BK367 hb
     replace BK368 := kB BK368 hb
     replace BK379 := kB BK379 hb
     replace BK396 := kB BK396 hb
     replace BK408 := kB BK408 hb
     replace HB := kH _ hb
     (try clear hb)
     (try clear hb2)
     (try clear hk)
     (try clear hi)
     refine hK.out _ _ ⟨bc BK396 0, bc BK396 1, bc BK396 2, bc BK368 0, bc BK368 1⟩ (fun hHeld => ?_)
     clear hK K
     refine norm_ (a' := ?_) ?_ ?_
     rotate_left
     ·show Act.put _ (some 88) _ = _
      simp only [Act.put, List.setIfInBounds_toArray, List.set_cons_zero, List.set_cons_succ, i64_w, i32_w]
      rfl
     refine pS 4 84 10 159 ?_
     refine pS 5 89 10 191 ?_
     refine pS 6 90 10 255 ?_
     exact norm_ (by simp only [putAll, Act.put, List.setIfInBounds_toArray, List.set_cons_zero, List.set_cons_succ]) (hCont (.slice Ao81 t399.length co81, .slice Ao82 t402.length co82, gb408) _ ⟨hHeld, (by (with_reducible repeat (first | apply Kd.R_alloc | apply Kd.R_drewN | apply Kd.R_drew)); exact Kd.R_mono HO395.out (fun _ hk => ⟨hk.1.2, hk.2⟩)), (by (with_reducible repeat (first | apply Kd.R_alloc | apply Kd.R_drewN | apply Kd.R_drew)); exact Kd.R_mono HO401.out (fun _ hk => ⟨hk.2, hk.1⟩)), (by (with_reducible repeat (first | apply Kd.R_alloc | apply Kd.R_drewN | apply Kd.R_drew)); exact Kd.R_mono HO404.out (fun _ hk => ⟨hk.2, hk.1⟩)), (by (with_reducible repeat (first | apply Kd.R_alloc | apply Kd.R_drewN | apply Kd.R_drew)); exact Kd.R_mono HO_11.out (fun _ hk => ⟨hk.1.1, ⟨hk.1.2, hk.2⟩⟩)), (bkC BK367), (bkC BK368), (bkC BK379), (bkC BK396), (bkC BK408), GW408.out, GE408.out, NB367_408.out, NB408_367.out, NB368_408.out, NB408_368.out, NB379_408.out, NB408_379.out, NB396_408.out, NB408_396.out, (hbC _)⟩)
   rintro ⟨v400, v403, gb408⟩ w84 ⟨hS_, h0_, h1_, h2_, h3_, h4_, h5_, h6_, h7_, h8_, h9_, h10_, h11_, h12_, h13_, h14_, h15_, h16_, h17_, h18_, h19_⟩
   have n0_ : Aside0 (Kd.R (Kd.int .i64) 3 w84 w.heap.size (fun k_ => some k_ ≠ (v400 : Value).ownBlock ∧ some k_ ≠ (v403 : Value).ownBlock) (.slice (some ⟨go47, 0, none⟩) t393.length co67) y397) := ⟨h0_⟩
   have n1_ : Aside0 (Kd.R (Kd.int .i64) 3 w84 w.heap.size (fun k_ => some k_ ≠ (.slice (some ⟨go47, 0, none⟩) t393.length co67 : Value).ownBlock ∧ some k_ ≠ (v403 : Value).ownBlock) v400 t399) := ⟨h1_⟩
   have n2_ : Aside0 (Kd.R (Kd.int .i64) 3 w84 w.heap.size (fun k_ => some k_ ≠ (.slice (some ⟨go47, 0, none⟩) t393.length co67 : Value).ownBlock ∧ some k_ ≠ (v400 : Value).ownBlock) v403 t402) := ⟨h2_⟩
   have n3_ : Aside0 (Kd.R k26 26 w84 w.heap.size (fun k_ => k_ ≠ gb368 ∧ k_ ≠ gb379 ∧ k_ ≠ gb408) (.slice Ao58 t387.length co58) t387) := ⟨h3_⟩
   have n4_ : Aside0 (w84.heap[gb367]? = some (.cells #[.int .i64 a0_0, .slice A0_1 l0_1.length c0_1, .slice A0_2 l0_2.length c0_2] 24 (0, 0))) := ⟨h4_⟩
   have n5_ : Aside0 (w84.heap[gb368]? = some (.cells #[.int .i64 a3_0, .int .i64 a3_1] 26 (0, 0))) := ⟨h5_⟩
   have n6_ : Aside0 (w84.heap[gb379]? = some (.cells #[.int .i64 t376, .int .i64 t377] 26 (0, 0))) := ⟨h6_⟩
   have n7_ : Aside0 (w84.heap[gb396]? = some (.cells #[.int .i64 a0_0, .slice A0_1 l0_1.length c0_1, .slice (some ⟨go47, 0, none⟩) t393.length co67] 24 (0, 0))) := ⟨h7_⟩
   have n8_ : Aside0 (w84.heap[gb408]? = some (.cells #[.int .i64 0, .int .i64 0] 26 (0, 0))) := ⟨h8_⟩
   have n9_ : Aside0 (w.heap.size ≤ gb408) := ⟨h9_⟩
   have n10_ : Aside0 (w.heap.size ≤ gb408) := ⟨h10_⟩
   have n11_ : Aside0 (gb367 ≠ gb408) := ⟨h11_⟩
   have n12_ : Aside0 (gb408 ≠ gb367) := ⟨h12_⟩
   have n13_ : Aside0 (gb368 ≠ gb408) := ⟨h13_⟩
   have n14_ : Aside0 (gb408 ≠ gb368) := ⟨h14_⟩
   have n15_ : Aside0 (gb379 ≠ gb408) := ⟨h15_⟩
   have n16_ : Aside0 (gb408 ≠ gb379) := ⟨h16_⟩
   have n17_ : Aside0 (gb396 ≠ gb408) := ⟨h17_⟩
   have n18_ : Aside0 (gb408 ≠ gb396) := ⟨h18_⟩
   have n19_ : Aside0 (Below w.heap.size w w84) := ⟨h19_⟩
   clear HO_11
   clear HO395
   clear BK367
   clear BK368
   clear BK379
   clear BK396
   clear HB
   clear h0_ h1_ h2_ h3_ h4_ h5_ h6_ h7_ h8_ h9_ h10_ h11_ h12_ h13_ h14_ h15_ h16_ h17_ h18_ h19_
   have HO395 := n0_
   have HO401 := n1_
   have HO404 := n2_
   have HO_11 := n3_
   have BK367 := n4_
   have BK368 := n5_
   have BK379 := n6_
   have BK396 := n7_
   have BK408 := n8_
   have GW408 := n9_
   have GE408 := n10_
   have NB367_408 := n11_
   have NB408_367 := n12_
   have NB368_408 := n13_
   have NB408_368 := n14_
   have NB379_408 := n15_
   have NB408_379 := n16_
   have NB396_408 := n17_
   have NB408_396 := n18_
   have HB := n19_
   clear n0_ n1_ n2_ n3_ n4_ n5_ n6_ n7_ n8_ n9_ n10_ n11_ n12_ n13_ n14_ n15_ n16_ n17_ n18_ n19_
   have hHeld : w84.cell? ⟨gb396, 0, none⟩ = some (.int .i64 a0_0) ∧ w84.cell? ⟨gb396, 1, none⟩ = some (.slice A0_1 l0_1.length c0_1) ∧ w84.cell? ⟨gb396, 2, none⟩ = some (.slice (some ⟨go47, 0, none⟩) t393.length co67) ∧ w84.cell? ⟨gb368, 0, none⟩ = some (.int .i64 a3_0) ∧ w84.cell? ⟨gb368, 1, none⟩ = some (.int .i64 a3_1) := hS_
   refine norm_ (a' := ?_) ?_ ?_
   rotate_left
   ·simp only [putAll, Act.put, List.setIfInBounds_toArray, List.set_cons_zero, List.set_cons_succ]
    rfl
   refine one_ (i := 8) (N := none) (ba 10 511) rfl rfl (one_of HT_.out (by kernel_rfl)) (by decide) (fun K hK => ?_)
   have hs85 : w84.cell? ⟨gb408, 0, none⟩ = some (.int .i64 0) := bc BK408 0
   have hfs85 := fz BK408 0
   have hns85_0 := NB367_408.out
   have hns85_1 := NB368_408.out
   have hns85_2 := NB379_408.out
   have hns85_3 := NB396_408.out
   have hms85_0 := NB408_367.out
   have hms85_1 := NB408_368.out
   have hms85_2 := NB408_379.out
   have hms85_3 := NB408_396.out
   have hs86 : w84.cell? ⟨gb408, 1, none⟩ = some (.int .i64 0) := bc BK408 1
   have hfs86 := fz BK408 1
   have hns86_0 := NB367_408.out
   have hns86_1 := NB368_408.out
   have hns86_2 := NB379_408.out
   have hns86_3 := NB396_408.out
   have hms86_0 := NB408_367.out
   have hms86_1 := NB408_368.out
   have hms86_2 := NB408_379.out
   have hms86_3 := NB408_396.out
   refine skip_ (w1 := ?_) (by rfl) rfl ?_ ?_
   rotate_left
   ·go_simp
    rfl
   refine hK.out _ _ ⟨((cell_far (p := ⟨gb408, _, none⟩) NB396_408.out _).trans (((cell_far (p := ⟨gb408, _, none⟩) NB396_408.out _).trans (hHeld.1)))), ((cell_far (p := ⟨gb408, _, none⟩) NB396_408.out _).trans (((cell_far (p := ⟨gb408, _, none⟩) NB396_408.out _).trans (hHeld.2.1)))), ((cell_far (p := ⟨gb408, _, none⟩) NB396_408.out _).trans (((cell_far (p := ⟨gb408, _, none⟩) NB396_408.out _).trans (hHeld.2.2.1)))), ((cell_far (p := ⟨gb408, _, none⟩) NB368_408.out _).trans (((cell_far (p := ⟨gb408, _, none⟩) NB368_408.out _).trans (hHeld.2.2.2.1)))), ((cell_far (p := ⟨gb408, _, none⟩) NB368_408.out _).trans (((cell_far (p := ⟨gb408, _, none⟩) NB368_408.out _).trans (hHeld.2.2.2.2))))⟩ (fun hHeld => ?_)
   clear hK K
   refine pS 9 10 10 1023 ?_
   refine done_ (done_of HT_.out (by kernel_rfl)) ?_
   try go_wp2
   have n0_ : Aside0 (Kd.R k26 26 ((w84.setCell ⟨gb408, 0, none⟩ (.int .i64 t405)).setCell ⟨gb408, 1, none⟩ (.int .i64 t406)) w.heap.size (fun k_ => k_ ≠ gb368 ∧ k_ ≠ gb379 ∧ k_ ≠ gb408) (.slice Ao58 t387.length co58) t387) := ⟨by (with_reducible repeat (first | apply Kd.R_alloc | apply Kd.R_drewN | apply Kd.R_drew)); exact Kd.R_mono (Kd.R_far (p := ⟨gb408, 1, none⟩) (Kd.R_far (p := ⟨gb408, 0, none⟩) (Kd.R_mono HO_11.out (fun k_ hk => (⟨hk, hk.2.2⟩ : _ ∧ k_ ≠ gb408))) (fun _ hk => hk.2) (.int .i64 t405)) (fun _ hk => hk.2) (.int .i64 t406)) (fun _ hk => ⟨hk.1.1, ⟨hk.1.2.1, hk.1.2.2⟩⟩)⟩
   have n1_ : Aside0 (Kd.R (Kd.int .i64) 3 ((w84.setCell ⟨gb408, 0, none⟩ (.int .i64 t405)).setCell ⟨gb408, 1, none⟩ (.int .i64 t406)) w.heap.size (fun k_ => some k_ ≠ (v400 : Value).ownBlock ∧ some k_ ≠ (v403 : Value).ownBlock) (.slice (some ⟨go47, 0, none⟩) t393.length co67) y397) := ⟨by (with_reducible repeat (first | apply Kd.R_alloc | apply Kd.R_drewN | apply Kd.R_drew)); exact Kd.R_mono (Kd.R_far (p := ⟨gb408, 1, none⟩) (Kd.R_far (p := ⟨gb408, 0, none⟩) (Kd.R_types HO395.out BK408.out (by decide)) (fun _ hk => hk.2) (.int .i64 t405)) (fun _ hk => hk.2) (.int .i64 t406)) (fun _ hk => ⟨hk.1.1, hk.1.2⟩)⟩
   have n2_ : Aside0 (Kd.R (Kd.int .i64) 3 ((w84.setCell ⟨gb408, 0, none⟩ (.int .i64 t405)).setCell ⟨gb408, 1, none⟩ (.int .i64 t406)) w.heap.size (fun k_ => some k_ ≠ (.slice (some ⟨go47, 0, none⟩) t393.length co67 : Value).ownBlock ∧ some k_ ≠ (v403 : Value).ownBlock) v400 t399) := ⟨by (with_reducible repeat (first | apply Kd.R_alloc | apply Kd.R_drewN | apply Kd.R_drew)); exact Kd.R_mono (Kd.R_far (p := ⟨gb408, 1, none⟩) (Kd.R_far (p := ⟨gb408, 0, none⟩) (Kd.R_types HO401.out BK408.out (by decide)) (fun _ hk => hk.2) (.int .i64 t405)) (fun _ hk => hk.2) (.int .i64 t406)) (fun _ hk => ⟨hk.1.1, hk.1.2⟩)⟩
   have n3_ : Aside0 (Kd.R (Kd.int .i64) 3 ((w84.setCell ⟨gb408, 0, none⟩ (.int .i64 t405)).setCell ⟨gb408, 1, none⟩ (.int .i64 t406)) w.heap.size (fun k_ => some k_ ≠ (.slice (some ⟨go47, 0, none⟩) t393.length co67 : Value).ownBlock ∧ some k_ ≠ (v400 : Value).ownBlock) v403 t402) := ⟨by (with_reducible repeat (first | apply Kd.R_alloc | apply Kd.R_drewN | apply Kd.R_drew)); exact Kd.R_mono (Kd.R_far (p := ⟨gb408, 1, none⟩) (Kd.R_far (p := ⟨gb408, 0, none⟩) (Kd.R_types HO404.out BK408.out (by decide)) (fun _ hk => hk.2) (.int .i64 t405)) (fun _ hk => hk.2) (.int .i64 t406)) (fun _ hk => ⟨hk.1.1, hk.1.2⟩)⟩
   have n4_ : Aside0 (((w84.setCell ⟨gb408, 0, none⟩ (.int .i64 t405)).setCell ⟨gb408, 1, none⟩ (.int .i64 t406)).heap[gb367]? = some (.cells #[.int .i64 a0_0, .slice A0_1 l0_1.length c0_1, .slice A0_2 l0_2.length c0_2] 24 (0, 0))) := ⟨bF BK367⟩
   have n5_ : Aside0 (((w84.setCell ⟨gb408, 0, none⟩ (.int .i64 t405)).setCell ⟨gb408, 1, none⟩ (.int .i64 t406)).heap[gb368]? = some (.cells #[.int .i64 a3_0, .int .i64 a3_1] 26 (0, 0))) := ⟨bF BK368⟩
   have n6_ : Aside0 (((w84.setCell ⟨gb408, 0, none⟩ (.int .i64 t405)).setCell ⟨gb408, 1, none⟩ (.int .i64 t406)).heap[gb379]? = some (.cells #[.int .i64 t376, .int .i64 t377] 26 (0, 0))) := ⟨bF BK379⟩
   have n7_ : Aside0 (((w84.setCell ⟨gb408, 0, none⟩ (.int .i64 t405)).setCell ⟨gb408, 1, none⟩ (.int .i64 t406)).heap[gb396]? = some (.cells #[.int .i64 a0_0, .slice A0_1 l0_1.length c0_1, .slice (some ⟨go47, 0, none⟩) t393.length co67] 24 (0, 0))) := ⟨bF BK396⟩
   have n8_ : Aside0 (((w84.setCell ⟨gb408, 0, none⟩ (.int .i64 t405)).setCell ⟨gb408, 1, none⟩ (.int .i64 t406)).heap[gb408]? = some (.cells #[.int .i64 t405, .int .i64 t406] 26 (0, 0))) := ⟨by (with_reducible repeat (first | refine blk_drewN ?_ _ | refine blk_drew ?_ | refine blk_alloc ?_ _)); refine blk_put (cs := #[.int .i64 t405, .int .i64 0]) ?_ 1 _ rfl; (with_reducible repeat (first | refine blk_drewN ?_ _ | refine blk_drew ?_ | refine blk_alloc ?_ _)); refine blk_put (cs := #[.int .i64 0, .int .i64 0]) ?_ 0 _ rfl; (with_reducible repeat (first | refine blk_drewN ?_ _ | refine blk_drew ?_ | refine blk_alloc ?_ _)); exact BK408.out⟩
   have n9_ : Aside0 (Below w.heap.size w ((w84.setCell ⟨gb408, 0, none⟩ (.int .i64 t405)).setCell ⟨gb408, 1, none⟩ (.int .i64 t406))) := ⟨hbC _⟩
   (try clear HO_11)
   (try clear HO395)
   (try clear HO401)
   (try clear HO404)
   (try clear BK367)
   (try clear BK368)
   (try clear BK379)
   (try clear BK396)
   (try clear BK408)
   (try clear HB)
   generalize ((w84.setCell ⟨gb408, 0, none⟩ (.int .i64 t405)).setCell ⟨gb408, 1, none⟩ (.int .i64 t406)) = w87 at n0_ n1_ n2_ n3_ n4_ n5_ n6_ n7_ n8_ n9_ ⊢
   have HO_11 := n0_
   have HO395 := n1_
   have HO401 := n2_
   have HO404 := n3_
   have BK367 := n4_
   have BK368 := n5_
   have BK379 := n6_
   have BK396 := n7_
   have BK408 := n8_
   have HB := n9_
   clear n0_ n1_ n2_ n3_ n4_ n5_ n6_ n7_ n8_ n9_
   replace HO_11 := Aside0.mk (Kd.R_drew HO_11.out)
   replace HO395 := Aside0.mk (Kd.R_drew HO395.out)
   replace HO401 := Aside0.mk (Kd.R_drew HO401.out)
   replace HO404 := Aside0.mk (Kd.R_drew HO404.out)
   replace BK367 := kd BK367
   replace BK368 := kd BK368
   replace BK379 := kd BK379
   replace BK396 := kd BK396
   replace BK408 := kd BK408
   replace HB := Aside0.mk (below_drew1 HB.out)
   have p409 : 0 ≤ ((ji44) : Int) := dA
   have q409 : (ji44) < (t387.length : Int) := dA
   obtain ⟨ad409, e409, hx409_0, hx409_1⟩ := at_T26 (Kd.R_reads' HO_11.out).2.2 (ji44) p409 q409
   cases e409
   replace p409 := eq_true p409
   replace q409 := eq_true q409
   have p410 : 0 ≤ ((ji44) : Int) := dA
   have q410 : (ji44) < (l0_2.length : Int) := dA
   obtain ⟨ad410, e410, hx410_0⟩ := Kd.at_int HR0_2.out (ji44) p410 q410
   have hw410_0 := hx410_0
   cases e410
   try replace hx410_0 := (HB.out.cell (World.block_lt_of_cell? w _ hx410_0)).trans hx410_0
   replace p410 := eq_true p410
   replace q410 := eq_true q410
   refine sS (n := 20) (S := fun w' => w'.cell? ⟨gb379, 0, none⟩ = some (.int .i64 t376) ∧ w'.cell? ⟨gb379, 1, none⟩ = some (.int .i64 t377) ∧ w'.cell? ⟨gb367, 0, none⟩ = some (.int .i64 a0_0) ∧ w'.cell? ⟨gb367, 1, none⟩ = some (.slice A0_1 l0_1.length c0_1) ∧ w'.cell? ⟨gb367, 2, none⟩ = some (.slice (some ad410) l0_2.length c0_2) ∧ w'.cell? (ad409.add (((ji44)).toNat * 2)) = some (.int .i64 ((rd_T26 t387 (ji44)).f0)) ∧ w'.cell? ⟨(ad409.add (((ji44)).toNat * 2)).block, (ad409.add (((ji44)).toNat * 2)).off + 1, none⟩ = some (.int .i64 ((rd_T26 t387 (ji44)).f1)) ∧ w'.cell? (ad410.add ((ji44)).toNat) = some (.int .i64 (rd l0_2 (ji44)))) (ds := []) ⟨bc BK379 0, bc BK379 1, bc BK367 0, bc BK367 1, bc BK367 2, hx409_0, hx409_1, ((HB.out.cell (World.block_lt_of_cell? w _ hw410_0)).trans hw410_0)⟩ (fun hHeld => ?_); refine with_tabW congoulaw04_CurvesNear.tab12 congoulaw04_CurvesNear.bits12 (fun HT_ HW_ => ?_)
   generalize w87.drew = w88 at HO_11 HO395 HO401 HO404 BK367 BK368 BK379 BK396 BK408 HB hx409_0 hx409_1 hx410_0 hHeld ⊢
   refine pS 1 93 20 2 ?_
   refine pS 2 94 20 6 ?_
   refine pS 3 95 20 14 ?_
   refine pS 5 97 20 46 ?_
   refine pS 6 98 20 110 ?_
   refine pS 8 100 20 366 ?_
   refine tS 0 92 20 367 ?_
   refine tS 4 96 20 383 ?_
   refine tS 7 99 20 511 ?_
   refine pS 9 101 20 1023 ?_
   refine tS 10 102 20 2047 ?_
   refine pS 11 103 20 4095 ?_
   refine join_ (σ := Nat) 2 (ba 20 262143) (fun s_ => [(104, .agg #[.int .i64 t411, .int .i64 t412]), (105, .tuple #[.agg #[.int .i64 t413, .int .i64 t414], .bool true]), (15, .pointer (some ⟨s_, 0, none⟩)), (91, .tuple #[.agg #[.int .i64 t413, .int .i64 t414], .bool true]), (106, .agg #[.int .i64 t413, .int .i64 t414]), (107, .bool true)]) (fun s_ w' => (w'.cell? ⟨gb379, 0, none⟩ = some (.int .i64 t376) ∧ w'.cell? ⟨gb379, 1, none⟩ = some (.int .i64 t377) ∧ w'.cell? ⟨gb367, 0, none⟩ = some (.int .i64 a0_0) ∧ w'.cell? ⟨gb367, 1, none⟩ = some (.slice A0_1 l0_1.length c0_1) ∧ w'.cell? ⟨gb367, 2, none⟩ = some (.slice (some ad410) l0_2.length c0_2) ∧ w'.cell? (ad409.add (((ji44)).toNat * 2)) = some (.int .i64 ((rd_T26 t387 (ji44)).f0)) ∧ w'.cell? ⟨(ad409.add (((ji44)).toNat * 2)).block, (ad409.add (((ji44)).toNat * 2)).off + 1, none⟩ = some (.int .i64 ((rd_T26 t387 (ji44)).f1)) ∧ w'.cell? (ad410.add ((ji44)).toNat) = some (.int .i64 (rd l0_2 (ji44)))) ∧ (Kd.R (Kd.int .i64) 3 w' w.heap.size (fun k_ => some k_ ≠ (v400 : Value).ownBlock ∧ some k_ ≠ (v403 : Value).ownBlock) (.slice (some ⟨go47, 0, none⟩) t393.length co67) y397) ∧ (Kd.R (Kd.int .i64) 3 w' w.heap.size (fun k_ => some k_ ≠ (.slice (some ⟨go47, 0, none⟩) t393.length co67 : Value).ownBlock ∧ some k_ ≠ (v403 : Value).ownBlock) v400 t399) ∧ (Kd.R (Kd.int .i64) 3 w' w.heap.size (fun k_ => some k_ ≠ (.slice (some ⟨go47, 0, none⟩) t393.length co67 : Value).ownBlock ∧ some k_ ≠ (v400 : Value).ownBlock) v403 t402) ∧ (Kd.R k26 26 w' w.heap.size (fun k_ => k_ ≠ gb368 ∧ k_ ≠ gb379 ∧ k_ ≠ gb408 ∧ k_ ≠ s_) (.slice (some ad409) t387.length co58) t387) ∧ (w'.heap[gb367]? = some (.cells #[.int .i64 a0_0, .slice A0_1 l0_1.length c0_1, .slice (some ad410) l0_2.length c0_2] 24 (0, 0))) ∧ (w'.heap[gb368]? = some (.cells #[.int .i64 a3_0, .int .i64 a3_1] 26 (0, 0))) ∧ (w'.heap[gb379]? = some (.cells #[.int .i64 t376, .int .i64 t377] 26 (0, 0))) ∧ (w'.heap[gb396]? = some (.cells #[.int .i64 a0_0, .slice A0_1 l0_1.length c0_1, .slice (some ⟨go47, 0, none⟩) t393.length co67] 24 (0, 0))) ∧ (w'.heap[gb408]? = some (.cells #[.int .i64 t405, .int .i64 t406] 26 (0, 0))) ∧ (w'.heap[s_]? = some (.cells #[.int .i64 0, .int .i64 0] 26 (0, 0))) ∧ (w.heap.size ≤ s_) ∧ (w.heap.size ≤ s_) ∧ (gb367 ≠ s_) ∧ (s_ ≠ gb367) ∧ (gb368 ≠ s_) ∧ (s_ ≠ gb368) ∧ (gb379 ≠ s_) ∧ (s_ ≠ gb379) ∧ (gb396 ≠ s_) ∧ (s_ ≠ gb396) ∧ (gb408 ≠ s_) ∧ (s_ ≠ gb408) ∧ (Below w.heap.size w w')) ?_ ?_
   rotate_left
   ·intro hCont
    refine two_ (i := 12) (j := 17) (Ni := some 104) (Nj := some 15) (ba 20 8191) (ba 20 135167) rfl rfl rfl rfl (two_of HT_.out (by kernel_rfl)) (by decide) (by decide) (fun K hK => ?_) (fun K hK => ?_)
    ·skip
     refine goes_ Try.func20 (by kernel_rfl) rfl #[.int .i64 (wrap64 ((wrap64 ((wrap64 (Int.tmod (IntKind.u64.wrap (a2)) 101)) - 50)) - (rd l0_2 (ji44))))] (by rfl) rfl rfl (by (try simp only [List.map_toArray, List.map_cons, List.map_nil]); first | done | (simp only [hji44]; rfl) | rfl | (simp only [List.length_drop, List.length_take]; rfl)) ?_
     with_reducible refine (congoulaw04_whole.calls (wrap64 ((wrap64 ((wrap64 (Int.tmod (IntKind.u64.wrap (a2)) 101)) - 50)) - (rd l0_2 (ji44)))) t411 t412 _ A52.out).mono ?_
     rintro e w89 ⟨rfl, hb⟩
     have HS5_ := (hb.cell (World.block_lt_of_cell? _ _ (hHeld.2.2.2.2.2.1))).trans (hHeld.2.2.2.2.2.1)
     have HS6_ := (hb.cell (World.block_lt_of_cell? _ _ (hHeld.2.2.2.2.2.2.1))).trans (hHeld.2.2.2.2.2.2.1)
     refine ⟨_, rfl, ?_⟩
     replace HO_11 := kO HO_11 hb
     replace HO395 := kO HO395 hb
     replace HO401 := kO HO401 hb
     replace HO404 := kO HO404 hb
     replace BK367 := kB BK367 hb
     replace BK368 := kB BK368 hb
     replace BK379 := kB BK379 hb
     replace BK396 := kB BK396 hb
     replace BK408 := kB BK408 hb
     replace HB := kH _ hb
     (try clear hb)
     (try clear hb2)
     (try clear hk)
     (try clear hi)
     refine hK.out _ _ ⟨bc BK379 0, bc BK379 1, bc BK367 0, bc BK367 1, bc BK367 2, HS5_, HS6_, ((HB.out.cell (World.block_lt_of_cell? w _ hw410_0)).trans hw410_0)⟩ (fun hHeld => ?_)
     clear hK K
     refine norm_ (a' := ?_) ?_ ?_
     rotate_left
     ·show Act.put _ (some 104) _ = _
      simp only [Act.put, List.setIfInBounds_toArray, List.set_cons_zero, List.set_cons_succ, i64_w, i32_w]
      rfl
     refine two_ (i := 13) (j := 17) (Ni := some 105) (Nj := some 15) (ba 20 16383) (ba 20 139263) rfl rfl rfl rfl (two_of HT_.out (by kernel_rfl)) (by decide) (by decide) (fun K hK => ?_) (fun K hK => ?_)
     ·skip
      refine goes_ Try.func19 (by kernel_rfl) rfl #[.agg #[.int .i64 t376, .int .i64 t377], .agg #[.int .i64 ((rd_T26 t387 (ji44)).f0), .int .i64 ((rd_T26 t387 (ji44)).f1)], .agg #[.int .i64 t411, .int .i64 t412]] (by rfl) rfl rfl (by (try simp only [List.map_toArray, List.map_cons, List.map_nil]); first | done | (simp only [hji44]; rfl) | rfl | (simp only [List.length_drop, List.length_take]; rfl)) ?_
      with_reducible refine (congoulaw04_more.calls kj8 t376 t377 ((rd_T26 t387 (ji44)).f0) ((rd_T26 t387 (ji44)).f1) t411 t412 t413 t414 true _ A53.out).mono ?_
      rintro e w90 ⟨rfl, hb⟩
      have HS5_ := (hb.cell (World.block_lt_of_cell? _ _ (hHeld.2.2.2.2.2.1))).trans (hHeld.2.2.2.2.2.1)
      have HS6_ := (hb.cell (World.block_lt_of_cell? _ _ (hHeld.2.2.2.2.2.2.1))).trans (hHeld.2.2.2.2.2.2.1)
      refine ⟨_, rfl, ?_⟩
      replace HO_11 := kO HO_11 hb
      replace HO395 := kO HO395 hb
      replace HO401 := kO HO401 hb
      replace HO404 := kO HO404 hb
      replace BK367 := kB BK367 hb
      replace BK368 := kB BK368 hb
      replace BK379 := kB BK379 hb
      replace BK396 := kB BK396 hb
      replace BK408 := kB BK408 hb
      replace HB := kH _ hb
      (try clear hb)
      (try clear hb2)
      (try clear hk)
      (try clear hi)
      refine hK.out _ _ ⟨bc BK379 0, bc BK379 1, bc BK367 0, bc BK367 1, bc BK367 2, HS5_, HS6_, ((HB.out.cell (World.block_lt_of_cell? w _ hw410_0)).trans hw410_0)⟩ (fun hHeld => ?_)
      clear hK K
      refine norm_ (a' := ?_) ?_ ?_
      rotate_left
      ·show Act.put _ (some 105) _ = _
       simp only [Act.put, List.setIfInBounds_toArray, List.set_cons_zero, List.set_cons_succ, i64_w, i32_w]
       rfl
      refine pS 14 91 20 32767 ?_
      refine pS 15 106 20 65535 ?_
      refine pS 16 107 20 131071 ?_
      refine one_ (i := 17) (N := some 15) (ba 20 262143) rfl rfl (one_of HT_.out (by kernel_rfl)) (by decide) (fun K hK => ?_)
      refine box_step ?hg (N := 15) ?hd (cs := #[.int .i64 0, .int .i64 0]) (t := 26) ?hr ?_; (case hd => rfl); (case hg => rfl); (case hr => first | (go_simp; done) | (go_simp; rfl))
      intro gb416 hg w91 hbox hb
      have HS5_ := (hb.cell (World.block_lt_of_cell? _ _ (hHeld.2.2.2.2.2.1))).trans (hHeld.2.2.2.2.2.1)
      have HS6_ := (hb.cell (World.block_lt_of_cell? _ _ (hHeld.2.2.2.2.2.2.1))).trans (hHeld.2.2.2.2.2.2.1)
      replace HO_11 := Aside0.mk (Kd.R_below (Kd.R_elderB (rC HO_11) gb416 (Nat.le_of_eq hg.symm)) hb)
      replace HO395 := kO HO395 hb
      replace HO401 := kO HO401 hb
      replace HO404 := kO HO404 hb
      have BK416 := Aside0.mk (hbox)
      have GW416 := kG w hg
      have GE416 := kG w hg
      replace HB := kH _ hb
      have NB367_416 := kL BK367 hg
      have NB416_367 := kR BK367 hg
      replace BK367 := kB BK367 hb
      have NB368_416 := kL BK368 hg
      have NB416_368 := kR BK368 hg
      replace BK368 := kB BK368 hb
      have NB379_416 := kL BK379 hg
      have NB416_379 := kR BK379 hg
      replace BK379 := kB BK379 hb
      have NB396_416 := kL BK396 hg
      have NB416_396 := kR BK396 hg
      replace BK396 := kB BK396 hb
      have NB408_416 := kL BK408 hg
      have NB416_408 := kR BK408 hg
      replace BK408 := kB BK408 hb
      clear hb hbox hg
      refine hK.out _ _ ⟨bc BK379 0, bc BK379 1, bc BK367 0, bc BK367 1, bc BK367 2, HS5_, HS6_, ((HB.out.cell (World.block_lt_of_cell? w _ hw410_0)).trans hw410_0)⟩ (fun hHeld => ?_)
      clear hK K
      refine norm_ (a' := ?_) ?_ ?_
      rotate_left
      ·show Act.put _ (some 15) _ = _
       simp only [Act.put, List.setIfInBounds_toArray, List.set_cons_zero, List.set_cons_succ, i64_w, i32_w]
       rfl
      exact norm_ (by simp only [putAll, Act.put, List.setIfInBounds_toArray, List.set_cons_zero, List.set_cons_succ]) (hCont (gb416) _ ⟨hHeld, (rC HO395), (rC HO401), (rC HO404), (by (with_reducible repeat (first | apply Kd.R_alloc | apply Kd.R_drewN | apply Kd.R_drew)); exact Kd.R_mono HO_11.out (fun _ hk => ⟨hk.1.1, ⟨hk.1.2.1, ⟨hk.1.2.2, hk.2⟩⟩⟩)), (bkC BK367), (bkC BK368), (bkC BK379), (bkC BK396), (bkC BK408), (bkC BK416), GW416.out, GE416.out, NB367_416.out, NB416_367.out, NB368_416.out, NB416_368.out, NB379_416.out, NB416_379.out, NB396_416.out, NB416_396.out, NB408_416.out, NB416_408.out, (hbC _)⟩)
     ·skip
      refine box_step ?hg (N := 15) ?hd (cs := #[.int .i64 0, .int .i64 0]) (t := 26) ?hr ?_; (case hd => rfl); (case hg => rfl); (case hr => first | (go_simp; done) | (go_simp; rfl))
      intro gb416 hg w90 hbox hb
      have HS5_ := (hb.cell (World.block_lt_of_cell? _ _ (hHeld.2.2.2.2.2.1))).trans (hHeld.2.2.2.2.2.1)
      have HS6_ := (hb.cell (World.block_lt_of_cell? _ _ (hHeld.2.2.2.2.2.2.1))).trans (hHeld.2.2.2.2.2.2.1)
      replace HO_11 := Aside0.mk (Kd.R_below (Kd.R_elderB (rC HO_11) gb416 (Nat.le_of_eq hg.symm)) hb)
      replace HO395 := kO HO395 hb
      replace HO401 := kO HO401 hb
      replace HO404 := kO HO404 hb
      have BK416 := Aside0.mk (hbox)
      have GW416 := kG w hg
      have GE416 := kG w hg
      replace HB := kH _ hb
      have NB367_416 := kL BK367 hg
      have NB416_367 := kR BK367 hg
      replace BK367 := kB BK367 hb
      have NB368_416 := kL BK368 hg
      have NB416_368 := kR BK368 hg
      replace BK368 := kB BK368 hb
      have NB379_416 := kL BK379 hg
      have NB416_379 := kR BK379 hg
      replace BK379 := kB BK379 hb
      have NB396_416 := kL BK396 hg
      have NB416_396 := kR BK396 hg
      replace BK396 := kB BK396 hb
      have NB408_416 := kL BK408 hg
      have NB416_408 := kR BK408 hg
      replace BK408 := kB BK408 hb
      clear hb hbox hg
      refine hK.out _ _ ⟨bc BK379 0, bc BK379 1, bc BK367 0, bc BK367 1, bc BK367 2, HS5_, HS6_, ((HB.out.cell (World.block_lt_of_cell? w _ hw410_0)).trans hw410_0)⟩ (fun hHeld => ?_)
      clear hK K
      refine norm_ (a' := ?_) ?_ ?_
      rotate_left
      ·show Act.put _ (some 15) _ = _
       simp only [Act.put, List.setIfInBounds_toArray, List.set_cons_zero, List.set_cons_succ, i64_w, i32_w]
       rfl
      refine one_ (i := 13) (N := some 105) (ba 20 147455) rfl rfl (one_of HT_.out (by kernel_rfl)) (by decide) (fun K hK => ?_)
      refine goes_ Try.func19 (by kernel_rfl) rfl #[.agg #[.int .i64 t376, .int .i64 t377], .agg #[.int .i64 ((rd_T26 t387 (ji44)).f0), .int .i64 ((rd_T26 t387 (ji44)).f1)], .agg #[.int .i64 t411, .int .i64 t412]] (by rfl) rfl rfl (by (try simp only [List.map_toArray, List.map_cons, List.map_nil]); first | done | (simp only [hji44]; rfl) | rfl | (simp only [List.length_drop, List.length_take]; rfl)) ?_
      with_reducible refine (congoulaw04_more.calls kj8 t376 t377 ((rd_T26 t387 (ji44)).f0) ((rd_T26 t387 (ji44)).f1) t411 t412 t413 t414 true _ A53.out).mono ?_
      rintro e w91 ⟨rfl, hb⟩
      have HS5_ := (hb.cell (World.block_lt_of_cell? _ _ (hHeld.2.2.2.2.2.1))).trans (hHeld.2.2.2.2.2.1)
      have HS6_ := (hb.cell (World.block_lt_of_cell? _ _ (hHeld.2.2.2.2.2.2.1))).trans (hHeld.2.2.2.2.2.2.1)
      refine ⟨_, rfl, ?_⟩
      replace HO_11 := kO HO_11 hb
      replace HO395 := kO HO395 hb
      replace HO401 := kO HO401 hb
      replace HO404 := kO HO404 hb
      replace BK367 := kB BK367 hb
      replace BK368 := kB BK368 hb
      replace BK379 := kB BK379 hb
      replace BK396 := kB BK396 hb
      replace BK408 := kB BK408 hb
      replace BK416 := kB BK416 hb
      replace HB := kH _ hb
      (try clear hb)
      (try clear hb2)
      (try clear hk)
      (try clear hi)
      refine hK.out _ _ ⟨bc BK379 0, bc BK379 1, bc BK367 0, bc BK367 1, bc BK367 2, HS5_, HS6_, ((HB.out.cell (World.block_lt_of_cell? w _ hw410_0)).trans hw410_0)⟩ (fun hHeld => ?_)
      clear hK K
      refine norm_ (a' := ?_) ?_ ?_
      rotate_left
      ·show Act.put _ (some 105) _ = _
       simp only [Act.put, List.setIfInBounds_toArray, List.set_cons_zero, List.set_cons_succ, i64_w, i32_w]
       rfl
      refine pS 14 91 20 163839 ?_
      refine pS 15 106 20 196607 ?_
      refine pS 16 107 20 262143 ?_
      exact norm_ (by simp only [putAll, Act.put, List.setIfInBounds_toArray, List.set_cons_zero, List.set_cons_succ]) (hCont (gb416) _ ⟨hHeld, (rC HO395), (rC HO401), (rC HO404), (by (with_reducible repeat (first | apply Kd.R_alloc | apply Kd.R_drewN | apply Kd.R_drew)); exact Kd.R_mono HO_11.out (fun _ hk => ⟨hk.1.1, ⟨hk.1.2.1, ⟨hk.1.2.2, hk.2⟩⟩⟩)), (bkC BK367), (bkC BK368), (bkC BK379), (bkC BK396), (bkC BK408), (bkC BK416), GW416.out, GE416.out, NB367_416.out, NB416_367.out, NB368_416.out, NB416_368.out, NB379_416.out, NB416_379.out, NB396_416.out, NB416_396.out, NB408_416.out, NB416_408.out, (hbC _)⟩)
    ·skip
     refine box_step ?hg (N := 15) ?hd (cs := #[.int .i64 0, .int .i64 0]) (t := 26) ?hr ?_; (case hd => rfl); (case hg => rfl); (case hr => first | (go_simp; done) | (go_simp; rfl))
     intro gb416 hg w89 hbox hb
     have HS5_ := (hb.cell (World.block_lt_of_cell? _ _ (hHeld.2.2.2.2.2.1))).trans (hHeld.2.2.2.2.2.1)
     have HS6_ := (hb.cell (World.block_lt_of_cell? _ _ (hHeld.2.2.2.2.2.2.1))).trans (hHeld.2.2.2.2.2.2.1)
     replace HO_11 := Aside0.mk (Kd.R_below (Kd.R_elderB (rC HO_11) gb416 (Nat.le_of_eq hg.symm)) hb)
     replace HO395 := kO HO395 hb
     replace HO401 := kO HO401 hb
     replace HO404 := kO HO404 hb
     have BK416 := Aside0.mk (hbox)
     have GW416 := kG w hg
     have GE416 := kG w hg
     replace HB := kH _ hb
     have NB367_416 := kL BK367 hg
     have NB416_367 := kR BK367 hg
     replace BK367 := kB BK367 hb
     have NB368_416 := kL BK368 hg
     have NB416_368 := kR BK368 hg
     replace BK368 := kB BK368 hb
     have NB379_416 := kL BK379 hg
     have NB416_379 := kR BK379 hg
     replace BK379 := kB BK379 hb
     have NB396_416 := kL BK396 hg
     have NB416_396 := kR BK396 hg
     replace BK396 := kB BK396 hb
     have NB408_416 := kL BK408 hg
     have NB416_408 := kR BK408 hg
     replace BK408 := kB BK408 hb
     clear hb hbox hg
     refine hK.out _ _ ⟨bc BK379 0, bc BK379 1, bc BK367 0, bc BK367 1, bc BK367 2, HS5_, HS6_, ((HB.out.cell (World.block_lt_of_cell? w _ hw410_0)).trans hw410_0)⟩ (fun hHeld => ?_)
     clear hK K
     refine norm_ (a' := ?_) ?_ ?_
     rotate_left
     ·show Act.put _ (some 15) _ = _
      simp only [Act.put, List.setIfInBounds_toArray, List.set_cons_zero, List.set_cons_succ, i64_w, i32_w]
      rfl
     refine one_ (i := 12) (N := some 104) (ba 20 139263) rfl rfl (one_of HT_.out (by kernel_rfl)) (by decide) (fun K hK => ?_)
     refine goes_ Try.func20 (by kernel_rfl) rfl #[.int .i64 (wrap64 ((wrap64 ((wrap64 (Int.tmod (IntKind.u64.wrap (a2)) 101)) - 50)) - (rd l0_2 (ji44))))] (by rfl) rfl rfl (by (try simp only [List.map_toArray, List.map_cons, List.map_nil]); first | done | (simp only [hji44]; rfl) | rfl | (simp only [List.length_drop, List.length_take]; rfl)) ?_
     with_reducible refine (congoulaw04_whole.calls (wrap64 ((wrap64 ((wrap64 (Int.tmod (IntKind.u64.wrap (a2)) 101)) - 50)) - (rd l0_2 (ji44)))) t411 t412 _ A52.out).mono ?_
     rintro e w90 ⟨rfl, hb⟩
     have HS5_ := (hb.cell (World.block_lt_of_cell? _ _ (hHeld.2.2.2.2.2.1))).trans (hHeld.2.2.2.2.2.1)
     have HS6_ := (hb.cell (World.block_lt_of_cell? _ _ (hHeld.2.2.2.2.2.2.1))).trans (hHeld.2.2.2.2.2.2.1)
     refine ⟨_, rfl, ?_⟩
     replace HO_11 := kO HO_11 hb
     replace HO395 := kO HO395 hb
     replace HO401 := kO HO401 hb
     replace HO404 := kO HO404 hb
     replace BK367 := kB BK367 hb
     replace BK368 := kB BK368 hb
     replace BK379 := kB BK379 hb
     replace BK396 := kB BK396 hb
     replace BK408 := kB BK408 hb
     replace BK416 := kB BK416 hb
     replace HB := kH _ hb
     (try clear hb)
     (try clear hb2)
     (try clear hk)
     (try clear hi)
     refine hK.out _ _ ⟨bc BK379 0, bc BK379 1, bc BK367 0, bc BK367 1, bc BK367 2, HS5_, HS6_, ((HB.out.cell (World.block_lt_of_cell? w _ hw410_0)).trans hw410_0)⟩ (fun hHeld => ?_)
     clear hK K
     refine norm_ (a' := ?_) ?_ ?_
     rotate_left
     ·show Act.put _ (some 104) _ = _
      simp only [Act.put, List.setIfInBounds_toArray, List.set_cons_zero, List.set_cons_succ, i64_w, i32_w]
      rfl
     refine one_ (i := 13) (N := some 105) (ba 20 147455) rfl rfl (one_of HT_.out (by kernel_rfl)) (by decide) (fun K hK => ?_)
     refine goes_ Try.func19 (by kernel_rfl) rfl #[.agg #[.int .i64 t376, .int .i64 t377], .agg #[.int .i64 ((rd_T26 t387 (ji44)).f0), .int .i64 ((rd_T26 t387 (ji44)).f1)], .agg #[.int .i64 t411, .int .i64 t412]] (by rfl) rfl rfl (by (try simp only [List.map_toArray, List.map_cons, List.map_nil]); first | done | (simp only [hji44]; rfl) | rfl | (simp only [List.length_drop, List.length_take]; rfl)) ?_
     with_reducible refine (congoulaw04_more.calls kj8 t376 t377 ((rd_T26 t387 (ji44)).f0) ((rd_T26 t387 (ji44)).f1) t411 t412 t413 t414 true _ A53.out).mono ?_
     rintro e w91 ⟨rfl, hb⟩
     have HS5_ := (hb.cell (World.block_lt_of_cell? _ _ (hHeld.2.2.2.2.2.1))).trans (hHeld.2.2.2.2.2.1)
     have HS6_ := (hb.cell (World.block_lt_of_cell? _ _ (hHeld.2.2.2.2.2.2.1))).trans (hHeld.2.2.2.2.2.2.1)
     refine ⟨_, rfl, ?_⟩
     replace HO_11 := kO HO_11 hb
     replace HO395 := kO HO395 hb
     replace HO401 := kO HO401 hb
     replace HO404 := kO HO404 hb
     replace BK367 := kB BK367 hb
     replace BK368 := kB BK368 hb
     replace BK379 := kB BK379 hb
     replace BK396 := kB BK396 hb
     replace BK408 := kB BK408 hb
     replace BK416 := kB BK416 hb
     replace HB := kH _ hb
     (try clear hb)
     (try clear hb2)
     (try clear hk)
     (try clear hi)
     refine hK.out _ _ ⟨bc BK379 0, bc BK379 1, bc BK367 0, bc BK367 1, bc BK367 2, HS5_, HS6_, ((HB.out.cell (World.block_lt_of_cell? w _ hw410_0)).trans hw410_0)⟩ (fun hHeld => ?_)
     clear hK K
     refine norm_ (a' := ?_) ?_ ?_
     rotate_left
     ·show Act.put _ (some 105) _ = _
      simp only [Act.put, List.setIfInBounds_toArray, List.set_cons_zero, List.set_cons_succ, i64_w, i32_w]
      rfl
     refine pS 14 91 20 163839 ?_
     refine pS 15 106 20 196607 ?_
     refine pS 16 107 20 262143 ?_
     exact norm_ (by simp only [putAll, Act.put, List.setIfInBounds_toArray, List.set_cons_zero, List.set_cons_succ]) (hCont (gb416) _ ⟨hHeld, (rC HO395), (rC HO401), (rC HO404), (by (with_reducible repeat (first | apply Kd.R_alloc | apply Kd.R_drewN | apply Kd.R_drew)); exact Kd.R_mono HO_11.out (fun _ hk => ⟨hk.1.1, ⟨hk.1.2.1, ⟨hk.1.2.2, hk.2⟩⟩⟩)), (bkC BK367), (bkC BK368), (bkC BK379), (bkC BK396), (bkC BK408), (bkC BK416), GW416.out, GE416.out, NB367_416.out, NB416_367.out, NB368_416.out, NB416_368.out, NB379_416.out, NB416_379.out, NB396_416.out, NB416_396.out, NB408_416.out, NB416_408.out, (hbC _)⟩)
   rintro gb416 w92 ⟨hS_, h0_, h1_, h2_, h3_, h4_, h5_, h6_, h7_, h8_, h9_, h10_, h11_, h12_, h13_, h14_, h15_, h16_, h17_, h18_, h19_, h20_, h21_, h22_⟩
   have n0_ : Aside0 (Kd.R (Kd.int .i64) 3 w92 w.heap.size (fun k_ => some k_ ≠ (v400 : Value).ownBlock ∧ some k_ ≠ (v403 : Value).ownBlock) (.slice (some ⟨go47, 0, none⟩) t393.length co67) y397) := ⟨h0_⟩
   have n1_ : Aside0 (Kd.R (Kd.int .i64) 3 w92 w.heap.size (fun k_ => some k_ ≠ (.slice (some ⟨go47, 0, none⟩) t393.length co67 : Value).ownBlock ∧ some k_ ≠ (v403 : Value).ownBlock) v400 t399) := ⟨h1_⟩
   have n2_ : Aside0 (Kd.R (Kd.int .i64) 3 w92 w.heap.size (fun k_ => some k_ ≠ (.slice (some ⟨go47, 0, none⟩) t393.length co67 : Value).ownBlock ∧ some k_ ≠ (v400 : Value).ownBlock) v403 t402) := ⟨h2_⟩
   have n3_ : Aside0 (Kd.R k26 26 w92 w.heap.size (fun k_ => k_ ≠ gb368 ∧ k_ ≠ gb379 ∧ k_ ≠ gb408 ∧ k_ ≠ gb416) (.slice (some ad409) t387.length co58) t387) := ⟨h3_⟩
   have n4_ : Aside0 (w92.heap[gb367]? = some (.cells #[.int .i64 a0_0, .slice A0_1 l0_1.length c0_1, .slice (some ad410) l0_2.length c0_2] 24 (0, 0))) := ⟨h4_⟩
   have n5_ : Aside0 (w92.heap[gb368]? = some (.cells #[.int .i64 a3_0, .int .i64 a3_1] 26 (0, 0))) := ⟨h5_⟩
   have n6_ : Aside0 (w92.heap[gb379]? = some (.cells #[.int .i64 t376, .int .i64 t377] 26 (0, 0))) := ⟨h6_⟩
   have n7_ : Aside0 (w92.heap[gb396]? = some (.cells #[.int .i64 a0_0, .slice A0_1 l0_1.length c0_1, .slice (some ⟨go47, 0, none⟩) t393.length co67] 24 (0, 0))) := ⟨h7_⟩
   have n8_ : Aside0 (w92.heap[gb408]? = some (.cells #[.int .i64 t405, .int .i64 t406] 26 (0, 0))) := ⟨h8_⟩
   have n9_ : Aside0 (w92.heap[gb416]? = some (.cells #[.int .i64 0, .int .i64 0] 26 (0, 0))) := ⟨h9_⟩
   have n10_ : Aside0 (w.heap.size ≤ gb416) := ⟨h10_⟩
   have n11_ : Aside0 (w.heap.size ≤ gb416) := ⟨h11_⟩
   have n12_ : Aside0 (gb367 ≠ gb416) := ⟨h12_⟩
   have n13_ : Aside0 (gb416 ≠ gb367) := ⟨h13_⟩
   have n14_ : Aside0 (gb368 ≠ gb416) := ⟨h14_⟩
   have n15_ : Aside0 (gb416 ≠ gb368) := ⟨h15_⟩
   have n16_ : Aside0 (gb379 ≠ gb416) := ⟨h16_⟩
   have n17_ : Aside0 (gb416 ≠ gb379) := ⟨h17_⟩
   have n18_ : Aside0 (gb396 ≠ gb416) := ⟨h18_⟩
   have n19_ : Aside0 (gb416 ≠ gb396) := ⟨h19_⟩
   have n20_ : Aside0 (gb408 ≠ gb416) := ⟨h20_⟩
   have n21_ : Aside0 (gb416 ≠ gb408) := ⟨h21_⟩
   have n22_ : Aside0 (Below w.heap.size w w92) := ⟨h22_⟩
   clear HO_11
   clear HO395
   clear HO401
   clear HO404
   clear BK367
   clear BK368
   clear BK379
   clear BK396
   clear BK408
   clear HB
   clear h0_ h1_ h2_ h3_ h4_ h5_ h6_ h7_ h8_ h9_ h10_ h11_ h12_ h13_ h14_ h15_ h16_ h17_ h18_ h19_ h20_ h21_ h22_
   have HO395 := n0_
   have HO401 := n1_
   have HO404 := n2_
   have HO_11 := n3_
   have BK367 := n4_
   have BK368 := n5_
   have BK379 := n6_
   have BK396 := n7_
   have BK408 := n8_
   have BK416 := n9_
   have GW416 := n10_
   have GE416 := n11_
   have NB367_416 := n12_
   have NB416_367 := n13_
   have NB368_416 := n14_
   have NB416_368 := n15_
   have NB379_416 := n16_
   have NB416_379 := n17_
   have NB396_416 := n18_
   have NB416_396 := n19_
   have NB408_416 := n20_
   have NB416_408 := n21_
   have HB := n22_
   clear n0_ n1_ n2_ n3_ n4_ n5_ n6_ n7_ n8_ n9_ n10_ n11_ n12_ n13_ n14_ n15_ n16_ n17_ n18_ n19_ n20_ n21_ n22_
   have hHeld : w92.cell? ⟨gb379, 0, none⟩ = some (.int .i64 t376) ∧ w92.cell? ⟨gb379, 1, none⟩ = some (.int .i64 t377) ∧ w92.cell? ⟨gb367, 0, none⟩ = some (.int .i64 a0_0) ∧ w92.cell? ⟨gb367, 1, none⟩ = some (.slice A0_1 l0_1.length c0_1) ∧ w92.cell? ⟨gb367, 2, none⟩ = some (.slice (some ad410) l0_2.length c0_2) ∧ w92.cell? (ad409.add (((ji44)).toNat * 2)) = some (.int .i64 ((rd_T26 t387 (ji44)).f0)) ∧ w92.cell? ⟨(ad409.add (((ji44)).toNat * 2)).block, (ad409.add (((ji44)).toNat * 2)).off + 1, none⟩ = some (.int .i64 ((rd_T26 t387 (ji44)).f1)) ∧ w92.cell? (ad410.add ((ji44)).toNat) = some (.int .i64 (rd l0_2 (ji44))) := hS_
   refine norm_ (a' := ?_) ?_ ?_
   rotate_left
   ·simp only [putAll, Act.put, List.setIfInBounds_toArray, List.set_cons_zero, List.set_cons_succ]
    rfl
   refine one_ (i := 18) (N := none) (ba 20 524287) rfl rfl (one_of HT_.out (by kernel_rfl)) (by decide) (fun K hK => ?_)
   have hs93 : w92.cell? ⟨gb416, 0, none⟩ = some (.int .i64 0) := bc BK416 0
   have hfs93 := fz BK416 0
   have hns93_0 := NB367_416.out
   have hns93_1 := NB368_416.out
   have hns93_2 := NB379_416.out
   have hns93_3 := NB396_416.out
   have hns93_4 := NB408_416.out
   have hms93_0 := NB416_367.out
   have hms93_1 := NB416_368.out
   have hms93_2 := NB416_379.out
   have hms93_3 := NB416_396.out
   have hms93_4 := NB416_408.out
   have hs94 : w92.cell? ⟨gb416, 1, none⟩ = some (.int .i64 0) := bc BK416 1
   have hfs94 := fz BK416 1
   have hns94_0 := NB367_416.out
   have hns94_1 := NB368_416.out
   have hns94_2 := NB379_416.out
   have hns94_3 := NB396_416.out
   have hns94_4 := NB408_416.out
   have hms94_0 := NB416_367.out
   have hms94_1 := NB416_368.out
   have hms94_2 := NB416_379.out
   have hms94_3 := NB416_396.out
   have hms94_4 := NB416_408.out
   refine skip_ (w1 := ?_) (by rfl) rfl ?_ ?_
   rotate_left
   ·go_simp
    rfl
   refine hK.out _ _ ⟨((cell_far (p := ⟨gb416, _, none⟩) NB379_416.out _).trans (((cell_far (p := ⟨gb416, _, none⟩) NB379_416.out _).trans (hHeld.1)))), ((cell_far (p := ⟨gb416, _, none⟩) NB379_416.out _).trans (((cell_far (p := ⟨gb416, _, none⟩) NB379_416.out _).trans (hHeld.2.1)))), ((cell_far (p := ⟨gb416, _, none⟩) NB367_416.out _).trans (((cell_far (p := ⟨gb416, _, none⟩) NB367_416.out _).trans (hHeld.2.2.1)))), ((cell_far (p := ⟨gb416, _, none⟩) NB367_416.out _).trans (((cell_far (p := ⟨gb416, _, none⟩) NB367_416.out _).trans (hHeld.2.2.2.1)))), ((cell_far (p := ⟨gb416, _, none⟩) NB367_416.out _).trans (((cell_far (p := ⟨gb416, _, none⟩) NB367_416.out _).trans (hHeld.2.2.2.2.1)))), ((cell_far (p := ⟨gb416, _, none⟩) (by first | exact Kd.own_blk (Kd.R_away HO_11.out (fun _ hk => hk.2.2.2)) | (rw [add_block]; exact Kd.own_blk (Kd.R_away HO_11.out (fun _ hk => hk.2.2.2))) | (show (Addr.add _ _).block ≠ _; rw [add_block]; exact Kd.own_blk (Kd.R_away HO_11.out (fun _ hk => hk.2.2.2))) | (dsimp only; exact Kd.own_blk (Kd.R_away HO_11.out (fun _ hk => hk.2.2.2)))) _).trans (((cell_far (p := ⟨gb416, _, none⟩) (by first | exact Kd.own_blk (Kd.R_away HO_11.out (fun _ hk => hk.2.2.2)) | (rw [add_block]; exact Kd.own_blk (Kd.R_away HO_11.out (fun _ hk => hk.2.2.2))) | (show (Addr.add _ _).block ≠ _; rw [add_block]; exact Kd.own_blk (Kd.R_away HO_11.out (fun _ hk => hk.2.2.2))) | (dsimp only; exact Kd.own_blk (Kd.R_away HO_11.out (fun _ hk => hk.2.2.2)))) _).trans (hHeld.2.2.2.2.2.1)))), ((cell_far (p := ⟨gb416, _, none⟩) (by first | exact Kd.own_blk (Kd.R_away HO_11.out (fun _ hk => hk.2.2.2)) | (rw [add_block]; exact Kd.own_blk (Kd.R_away HO_11.out (fun _ hk => hk.2.2.2))) | (show (Addr.add _ _).block ≠ _; rw [add_block]; exact Kd.own_blk (Kd.R_away HO_11.out (fun _ hk => hk.2.2.2))) | (dsimp only; exact Kd.own_blk (Kd.R_away HO_11.out (fun _ hk => hk.2.2.2)))) _).trans (((cell_far (p := ⟨gb416, _, none⟩) (by first | exact Kd.own_blk (Kd.R_away HO_11.out (fun _ hk => hk.2.2.2)) | (rw [add_block]; exact Kd.own_blk (Kd.R_away HO_11.out (fun _ hk => hk.2.2.2))) | (show (Addr.add _ _).block ≠ _; rw [add_block]; exact Kd.own_blk (Kd.R_away HO_11.out (fun _ hk => hk.2.2.2))) | (dsimp only; exact Kd.own_blk (Kd.R_away HO_11.out (fun _ hk => hk.2.2.2)))) _).trans (hHeld.2.2.2.2.2.2.1)))), ((cell_far (p := ⟨gb416, _, none⟩) (by first | exact Nat.ne_of_lt (Nat.lt_of_lt_of_le (by have := World.block_lt_of_cell? _ _ hw410_0; first | rwa [add_block] at this | exact this) GW416.out) | (rw [add_block]; exact Nat.ne_of_lt (Nat.lt_of_lt_of_le (by have := World.block_lt_of_cell? _ _ hw410_0; first | rwa [add_block] at this | exact this) GW416.out)) | (show (Addr.add _ _).block ≠ _; rw [add_block]; exact Nat.ne_of_lt (Nat.lt_of_lt_of_le (by have := World.block_lt_of_cell? _ _ hw410_0; first | rwa [add_block] at this | exact this) GW416.out)) | (dsimp only; exact Nat.ne_of_lt (Nat.lt_of_lt_of_le (by have := World.block_lt_of_cell? _ _ hw410_0; first | rwa [add_block] at this | exact this) GW416.out))) _).trans (((cell_far (p := ⟨gb416, _, none⟩) (by first | exact Nat.ne_of_lt (Nat.lt_of_lt_of_le (by have := World.block_lt_of_cell? _ _ hw410_0; first | rwa [add_block] at this | exact this) GW416.out) | (rw [add_block]; exact Nat.ne_of_lt (Nat.lt_of_lt_of_le (by have := World.block_lt_of_cell? _ _ hw410_0; first | rwa [add_block] at this | exact this) GW416.out)) | (show (Addr.add _ _).block ≠ _; rw [add_block]; exact Nat.ne_of_lt (Nat.lt_of_lt_of_le (by have := World.block_lt_of_cell? _ _ hw410_0; first | rwa [add_block] at this | exact this) GW416.out)) | (dsimp only; exact Nat.ne_of_lt (Nat.lt_of_lt_of_le (by have := World.block_lt_of_cell? _ _ hw410_0; first | rwa [add_block] at this | exact this) GW416.out))) _).trans (hHeld.2.2.2.2.2.2.2))))⟩ (fun hHeld => ?_)
   clear hK K
   refine pS 19 16 20 1048575 ?_
   refine done_ (done_of HT_.out (by kernel_rfl)) ?_
   have hnb95 := NB416_367.out
   have hnc95 := NB367_416.out
   have hnb96 := NB416_368.out
   have hnc96 := NB368_416.out
   have hnb97 := NB416_379.out
   have hnc97 := NB379_416.out
   have hnb98 := NB416_396.out
   have hnc98 := NB396_416.out
   have hnb99 := NB416_408.out
   have hnc99 := NB408_416.out
   have hcz100_0 : w92.cell? ⟨gb416, 0, none⟩ = some (.int .i64 0) := bc BK416 0
   have hcz100_1 : w92.cell? ⟨gb416, 1, none⟩ = some (.int .i64 0) := bc BK416 1
   have hfz100_0 := fz BK416 0
   have hfz100_1 := fz BK416 1
   have hnb101 := NB408_367.out
   have hnc101 := NB367_408.out
   have hnb102 := NB408_368.out
   have hnc102 := NB368_408.out
   have hnb103 := NB408_379.out
   have hnc103 := NB379_408.out
   have hnb104 := NB408_396.out
   have hnc104 := NB396_408.out
   have hcz105_0 : w92.cell? ⟨gb408, 0, none⟩ = some (.int .i64 t405) := bc BK408 0
   have hcz105_1 : w92.cell? ⟨gb408, 1, none⟩ = some (.int .i64 t406) := bc BK408 1
   have hfz105_0 := fz BK408 0
   have hfz105_1 := fz BK408 1
   try go_wp2_with (first | (go_at_call 17; (with_reducible refine (congoulaw04_awake.calls kj8  t417 _ A57.out).mono ?_); rintro e w106 ⟨rfl, hb⟩; replace HO_11 := Aside0.mk (Kd.R_below (by (with_reducible repeat (first | apply Kd.R_alloc | apply Kd.R_drewN | apply Kd.R_drew)); exact (Kd.R_mono (Kd.R_far (p := ⟨gb416, 1, none⟩) (Kd.R_far (p := ⟨gb416, 0, none⟩) (Kd.R_mono HO_11.out (fun k_ hk => (⟨hk, hk.2.2.2⟩ : _ ∧ k_ ≠ gb416))) (fun _ hk => hk.2) (.int .i64 t413)) (fun _ hk => hk.2) (.int .i64 t414)) (fun _ h_ => h_.1))) hb); replace HO395 := Aside0.mk (Kd.R_below (by (with_reducible repeat (first | apply Kd.R_alloc | apply Kd.R_drewN | apply Kd.R_drew)); exact (Kd.R_mono (Kd.R_far (p := ⟨gb416, 1, none⟩) (Kd.R_far (p := ⟨gb416, 0, none⟩) (Kd.R_types HO395.out BK416.out (by decide)) (fun _ hk => hk.2) (.int .i64 t413)) (fun _ hk => hk.2) (.int .i64 t414)) (fun _ h_ => h_.1))) hb); replace HO401 := Aside0.mk (Kd.R_below (by (with_reducible repeat (first | apply Kd.R_alloc | apply Kd.R_drewN | apply Kd.R_drew)); exact (Kd.R_mono (Kd.R_far (p := ⟨gb416, 1, none⟩) (Kd.R_far (p := ⟨gb416, 0, none⟩) (Kd.R_types HO401.out BK416.out (by decide)) (fun _ hk => hk.2) (.int .i64 t413)) (fun _ hk => hk.2) (.int .i64 t414)) (fun _ h_ => h_.1))) hb); replace HO404 := Aside0.mk (Kd.R_below (by (with_reducible repeat (first | apply Kd.R_alloc | apply Kd.R_drewN | apply Kd.R_drew)); exact (Kd.R_mono (Kd.R_far (p := ⟨gb416, 1, none⟩) (Kd.R_far (p := ⟨gb416, 0, none⟩) (Kd.R_types HO404.out BK416.out (by decide)) (fun _ hk => hk.2) (.int .i64 t413)) (fun _ hk => hk.2) (.int .i64 t414)) (fun _ h_ => h_.1))) hb); replace BK367 := Aside0.mk (blk_below (g := gb367) (o := .cells #[.int .i64 a0_0, .slice A0_1 l0_1.length c0_1, .slice (some ad410) l0_2.length c0_2] 24 (0, 0)) (bF BK367) hb); replace BK368 := Aside0.mk (blk_below (g := gb368) (o := .cells #[.int .i64 a3_0, .int .i64 a3_1] 26 (0, 0)) (bF BK368) hb); replace BK379 := Aside0.mk (blk_below (g := gb379) (o := .cells #[.int .i64 t376, .int .i64 t377] 26 (0, 0)) (bF BK379) hb); replace BK396 := Aside0.mk (blk_below (g := gb396) (o := .cells #[.int .i64 a0_0, .slice A0_1 l0_1.length c0_1, .slice (some ⟨go47, 0, none⟩) t393.length co67] 24 (0, 0)) (bF BK396) hb); replace BK408 := Aside0.mk (blk_below (g := gb408) (o := .cells #[.int .i64 t405, .int .i64 t406] 26 (0, 0)) (bF BK408) hb); replace BK416 := Aside0.mk (blk_below (g := gb416) (o := .cells #[.int .i64 t413, .int .i64 t414] 26 (0, 0)) (by (with_reducible repeat (first | refine blk_drewN ?_ _ | refine blk_drew ?_ | refine blk_alloc ?_ _)); refine blk_put (cs := #[.int .i64 t413, .int .i64 0]) ?_ 1 _ rfl; (with_reducible repeat (first | refine blk_drewN ?_ _ | refine blk_drew ?_ | refine blk_alloc ?_ _)); refine blk_put (cs := #[.int .i64 0, .int .i64 0]) ?_ 0 _ rfl; (with_reducible repeat (first | refine blk_drewN ?_ _ | refine blk_drew ?_ | refine blk_alloc ?_ _)); exact BK416.out) hb); replace HB := kH _ hb; (try clear hb); (try clear hb2); (try clear hk); (try clear hi)))
   go_ret
   exact ⟨by first | rfl | (simp [errW_none, errW_some] <;> rfl) | (simp only [← hji44]; first | rfl | (simp [errW_none, errW_some] <;> rfl)) | (simp [*, errW_none, errW_some] <;> rfl), hbC _⟩

end Go.Proofs.Ytpnocmkpeogifaa.X
