-- Written by a program of this work (wip/xprint.py, over the kit's printer) out of the translation.
import Derived.Test.YtpnocmkpeogifaaX0
import Derived.Test.YtpnocmkpeogifaaXG1a
import Derived.Test.YtpnocmkpeogifaaXG4a
import Derived.Test.YtpnocmkpeogifaaXf14
import Derived.Test.YtpnocmkpeogifaaXf15
import Derived.Test.YtpnocmkpeogifaaXf17
import Derived.Test.YtpnocmkpeogifaaXf18
import Derived.Test.YtpnocmkpeogifaaXf19
import Derived.Test.YtpnocmkpeogifaaXq0
namespace Go.Proofs.Ytpnocmkpeogifaa.X
open Go.RowKit Go.Proofs.YtpnocmkpeogifaaW.PrintWords Go.Proofs.YtpnocmkpeogifaaW.PrintLast Go.Proofs.YtpnocmkpeogifaaW.PrintMore
attribute [local go_sem] max2_int min2_int max_two min_two max_three min_three max_four min_four   -- for this text's walks alone
set_option linter.unusedVariables false
set_option linter.unusedSimpArgs false

attribute [local go_sem high] eqA26
/-! ### congoulaw04_CurvesBetween: function 3 -/
mutual
def congoulaw04_CurvesBetween.j0 : Nat → Int → Bool → Int → List Int → List Int → Int → Int → Int → Int → Option (Bool)
 | 0, _, _, _, _, _, _, _, _, _ => none
 | k + 1, x6, x29, x332000, x332001, x332002, x333000, x333001, x344000, x344001 => if x29 = true then (if x6 = 2 then ((congoulaw04_awake.f k).bind fun t345 => (some t345)) else (some false)) else ((congoulaw04_Of.f x332000 x332001 x332002).bind fun bt346 => ((curves_Basic.f k bt346.1 bt346.2.1 bt346.2.2 x333000 x333001).bind fun bt353 => (if bt353.2 = 0 then (congoulaw04_CurvesBetween.j1 k bt353.1 ((bt353.1.length : Int) != (x332002.length : Int)) x332000 x332001 x332002 x344000 x344001) else (congoulaw04_CurvesBetween.j1 k bt353.1 true x332000 x332001 x332002 x344000 x344001))))
def congoulaw04_CurvesBetween.j1 : Nat → List (S26) → Bool → Int → List Int → List Int → Int → Int → Option (Bool)
 | 0, _, _, _, _, _, _, _ => none
 | k + 1, x7, x51, x332000, x332001, x332002, x344000, x344001 => if x51 = true then (some false) else (congoulaw04_CurvesBetween.l0 k x7 50 (-50) x332002 (x332002.length : Int) 0 x344000 x344001 0 1)
def congoulaw04_CurvesBetween.l0 : Nat → List (S26) → Int → Int → List Int → Int → Int → Int → Int → Int → Int → Option (Bool)
 | 0, _, _, _, _, _, _, _, _, _, _ => none
 | k + 1, x7, x10, x11, x54, x55, x56, x344000, x344001, x358000, x358001 => if x56 < x55 then (if 0 ≤ x56 then (if x56 < (x54.length : Int) then (if x56 < (x7.length : Int) then ((congoulaw04_whole.f (rd x54 x56)).bind fun bt361 => ((congoulaw04_more.f k x358000 x358001 ((rd_T26 x7 x56).f0) ((rd_T26 x7 x56).f1) bt361.1 bt361.2).bind fun bt363 => (if bt363.2.2 = true then (if ((rd_T26 x7 x56).f0) > 0 then (congoulaw04_CurvesBetween.l0 k x7 (mn x10 (rd x54 x56)) (mx x11 (rd x54 x56)) x54 x55 (wrap64 (x56 + 1)) x344000 x344001 bt363.1 bt363.2.1) else (congoulaw04_CurvesBetween.l0 k x7 x10 x11 x54 x55 (wrap64 (x56 + 1)) x344000 x344001 bt363.1 bt363.2.1)) else (some false)))) else (none)) else (none)) else (none)) else (if (x358000 == x344000 && (x358001 == x344001)) = true then (if x344000 ≥ (wrap64 (x10 * x344001)) then (if x344000 ≤ (wrap64 (x11 * x344001)) then ((congoulaw04_awake.f k).bind fun t358 => (some t358)) else (some false)) else (some false)) else (some false))
end
def congoulaw04_CurvesBetween.f (k : Nat) (a0_0 : Int) (l0_1 : List Int) (l0_2 : List Int) (a1_0 : Int) (a1_1 : Int) : Option (Bool) := (congoulaw04_Of.f a0_0 l0_1 l0_2).bind fun bt333 => ((curves_Value.f k bt333.1 bt333.2.1 bt333.2.2 a1_0 a1_1).bind fun bt340 => (if bt340.2.2 = 0 then ((congoulaw04_fine.f k a0_0 l0_1 l0_2 a1_0 a1_1).bind fun t344 => (congoulaw04_CurvesBetween.j0 k bt340.2.2 (!t344) a0_0 l0_1 l0_2 a1_0 a1_1 bt340.1 bt340.2.1)) else (congoulaw04_CurvesBetween.j0 k bt340.2.2 true a0_0 l0_1 l0_2 a1_0 a1_1 bt340.1 bt340.2.1)))
theorem congoulaw04_CurvesBetween.mono_l : ∀ k, (∀ y0 y1 y2 y3 y4 y5 y6 y7 y8, LeO (congoulaw04_CurvesBetween.j0 k y0 y1 y2 y3 y4 y5 y6 y7 y8) (congoulaw04_CurvesBetween.j0 (k + 1) y0 y1 y2 y3 y4 y5 y6 y7 y8)) ∧ (∀ y0 y1 y2 y3 y4 y5 y6, LeO (congoulaw04_CurvesBetween.j1 k y0 y1 y2 y3 y4 y5 y6) (congoulaw04_CurvesBetween.j1 (k + 1) y0 y1 y2 y3 y4 y5 y6)) ∧ (∀ y0 y1 y2 y3 y4 y5 y6 y7 y8 y9, LeO (congoulaw04_CurvesBetween.l0 k y0 y1 y2 y3 y4 y5 y6 y7 y8 y9) (congoulaw04_CurvesBetween.l0 (k + 1) y0 y1 y2 y3 y4 y5 y6 y7 y8 y9))
 | 0 => ⟨fun _ _ _ _ _ _ _ _ _ r h => by simp [congoulaw04_CurvesBetween.j0] at h, fun _ _ _ _ _ _ _ r h => by simp [congoulaw04_CurvesBetween.j1] at h, fun _ _ _ _ _ _ _ _ _ _ r h => by simp [congoulaw04_CurvesBetween.l0] at h⟩
 | k + 1 => by
  obtain ⟨ih0, ih1, ih2⟩ := congoulaw04_CurvesBetween.mono_l k
  refine ⟨?_, ?_, ?_⟩
  ·intro y0 y1 y2 y3 y4 y5 y6 y7 y8
   unfold congoulaw04_CurvesBetween.j0
   repeat' first
   | (with_reducible exact ih0 _ _ _ _ _ _ _ _ _)
   | (with_reducible exact ih1 _ _ _ _ _ _ _)
   | (with_reducible exact ih2 _ _ _ _ _ _ _ _ _ _)
   | (with_reducible exact congoulaw04_awake.mono _)
   | (with_reducible exact congoulaw04_fine.mono _ _ _ _ _ _)
   | (with_reducible exact congoulaw04_more.mono _ _ _ _ _ _ _)
   | (with_reducible exact curves_Basic.mono _ _ _ _ _ _)
   | (with_reducible exact curves_Value.mono _ _ _ _ _ _)
   | (with_reducible exact LeO.refl _)
   | (with_reducible exact LeO.none _)
   | (with_reducible refine LeO.ite ?_ ?_)
   | (with_reducible refine LeO.bind ?_ (fun _ => ?_))
   | exact ih0 _ _ _ _ _ _ _ _ _
   | exact ih1 _ _ _ _ _ _ _
   | exact ih2 _ _ _ _ _ _ _ _ _ _
   | exact congoulaw04_awake.mono _
   | exact congoulaw04_fine.mono _ _ _ _ _ _
   | exact congoulaw04_more.mono _ _ _ _ _ _ _
   | exact curves_Basic.mono _ _ _ _ _ _
   | exact curves_Value.mono _ _ _ _ _ _
   | exact LeO.none _
   | refine LeO.ite ?_ ?_
   | refine LeO.bind ?_ (fun _ => ?_)
  ·intro y0 y1 y2 y3 y4 y5 y6
   unfold congoulaw04_CurvesBetween.j1
   repeat' first
   | (with_reducible exact ih0 _ _ _ _ _ _ _ _ _)
   | (with_reducible exact ih1 _ _ _ _ _ _ _)
   | (with_reducible exact ih2 _ _ _ _ _ _ _ _ _ _)
   | (with_reducible exact congoulaw04_awake.mono _)
   | (with_reducible exact congoulaw04_fine.mono _ _ _ _ _ _)
   | (with_reducible exact congoulaw04_more.mono _ _ _ _ _ _ _)
   | (with_reducible exact curves_Basic.mono _ _ _ _ _ _)
   | (with_reducible exact curves_Value.mono _ _ _ _ _ _)
   | (with_reducible exact LeO.refl _)
   | (with_reducible exact LeO.none _)
   | (with_reducible refine LeO.ite ?_ ?_)
   | (with_reducible refine LeO.bind ?_ (fun _ => ?_))
   | exact ih0 _ _ _ _ _ _ _ _ _
   | exact ih1 _ _ _ _ _ _ _
   | exact ih2 _ _ _ _ _ _ _ _ _ _
   | exact congoulaw04_awake.mono _
   | exact congoulaw04_fine.mono _ _ _ _ _ _
   | exact congoulaw04_more.mono _ _ _ _ _ _ _
   | exact curves_Basic.mono _ _ _ _ _ _
   | exact curves_Value.mono _ _ _ _ _ _
   | exact LeO.none _
   | refine LeO.ite ?_ ?_
   | refine LeO.bind ?_ (fun _ => ?_)
  ·intro y0 y1 y2 y3 y4 y5 y6 y7 y8 y9
   unfold congoulaw04_CurvesBetween.l0
   repeat' first
   | (with_reducible exact ih0 _ _ _ _ _ _ _ _ _)
   | (with_reducible exact ih1 _ _ _ _ _ _ _)
   | (with_reducible exact ih2 _ _ _ _ _ _ _ _ _ _)
   | (with_reducible exact congoulaw04_awake.mono _)
   | (with_reducible exact congoulaw04_fine.mono _ _ _ _ _ _)
   | (with_reducible exact congoulaw04_more.mono _ _ _ _ _ _ _)
   | (with_reducible exact curves_Basic.mono _ _ _ _ _ _)
   | (with_reducible exact curves_Value.mono _ _ _ _ _ _)
   | (with_reducible exact LeO.refl _)
   | (with_reducible exact LeO.none _)
   | (with_reducible refine LeO.ite ?_ ?_)
   | (with_reducible refine LeO.bind ?_ (fun _ => ?_))
   | exact ih0 _ _ _ _ _ _ _ _ _
   | exact ih1 _ _ _ _ _ _ _
   | exact ih2 _ _ _ _ _ _ _ _ _ _
   | exact congoulaw04_awake.mono _
   | exact congoulaw04_fine.mono _ _ _ _ _ _
   | exact congoulaw04_more.mono _ _ _ _ _ _ _
   | exact curves_Basic.mono _ _ _ _ _ _
   | exact curves_Value.mono _ _ _ _ _ _
   | exact LeO.none _
   | refine LeO.ite ?_ ?_
   | refine LeO.bind ?_ (fun _ => ?_)
theorem congoulaw04_CurvesBetween.mono : ∀ a0 a1 a2 a3 a4 k, LeO (congoulaw04_CurvesBetween.f k a0 a1 a2 a3 a4) (congoulaw04_CurvesBetween.f (k + 1) a0 a1 a2 a3 a4) := by
 intro a0 a1 a2 a3 a4 k
 obtain ⟨ih0, ih1, ih2⟩ := congoulaw04_CurvesBetween.mono_l k
 unfold congoulaw04_CurvesBetween.f
 repeat' first
   | (with_reducible exact ih0 _ _ _ _ _ _ _ _ _)
   | (with_reducible exact ih1 _ _ _ _ _ _ _)
   | (with_reducible exact ih2 _ _ _ _ _ _ _ _ _ _)
   | (with_reducible exact congoulaw04_awake.mono _)
   | (with_reducible exact congoulaw04_fine.mono _ _ _ _ _ _)
   | (with_reducible exact congoulaw04_more.mono _ _ _ _ _ _ _)
   | (with_reducible exact curves_Basic.mono _ _ _ _ _ _)
   | (with_reducible exact curves_Value.mono _ _ _ _ _ _)
   | (with_reducible exact LeO.refl _)
   | (with_reducible exact LeO.none _)
   | (with_reducible refine LeO.ite ?_ ?_)
   | (with_reducible refine LeO.bind ?_ (fun _ => ?_))
   | exact ih0 _ _ _ _ _ _ _ _ _
   | exact ih1 _ _ _ _ _ _ _
   | exact ih2 _ _ _ _ _ _ _ _ _ _
   | exact congoulaw04_awake.mono _
   | exact congoulaw04_fine.mono _ _ _ _ _ _
   | exact congoulaw04_more.mono _ _ _ _ _ _ _
   | exact curves_Basic.mono _ _ _ _ _ _
   | exact curves_Value.mono _ _ _ _ _ _
   | exact LeO.none _
   | refine LeO.ite ?_ ?_
   | refine LeO.bind ?_ (fun _ => ?_)
def congoulaw04_CurvesBetween.T1 : Bool × List (List Nat × List Nat) := (true, [([], []), ([0], [0]), ([], []), ([1, 2, 1], [1, 2]), ([3], [3]), ([4], [4]), ([4], [4]), ([], []), ([7, 5, 3, 0, 1, 2, 3, 4, 5, 7], [5, 7]), ([6, 8, 0, 1, 2, 3, 4, 5, 6, 7, 8], [6])])
def congoulaw04_CurvesBetween.B1 : List Nat := [0, 1, 0, 7, 15, 31, 31, 0, 191, 511]
theorem congoulaw04_CurvesBetween.tab1 : rtab .any (opsOf Try.f3 1) = congoulaw04_CurvesBetween.T1 := by kernel_rfl
theorem congoulaw04_CurvesBetween.bits1 : waitsOk congoulaw04_CurvesBetween.T1.2 congoulaw04_CurvesBetween.B1 = true := by kernel_rfl
def congoulaw04_CurvesBetween.T4 : Bool × List (List Nat × List Nat) := (true, [([], []), ([0], [0]), ([], []), ([1, 2, 1], [1, 2]), ([3], [3]), ([4], [4]), ([4], [4]), ([5, 3, 0, 1, 2, 3, 4, 5], [5]), ([6, 7, 0, 1, 2, 3, 4, 5, 6, 7], [6])])
def congoulaw04_CurvesBetween.B4 : List Nat := [0, 1, 0, 7, 15, 31, 31, 63, 255]
theorem congoulaw04_CurvesBetween.tab4 : rtab .any (opsOf Try.f3 4) = congoulaw04_CurvesBetween.T4 := by kernel_rfl
theorem congoulaw04_CurvesBetween.bits4 : waitsOk congoulaw04_CurvesBetween.T4.2 congoulaw04_CurvesBetween.B4 = true := by kernel_rfl
def congoulaw04_CurvesBetween.T13 : Bool × List (List Nat × List Nat) := (true, [([], []), ([], []), ([], []), ([1, 2], [1, 2]), ([3], [3]), ([], []), ([5], [5]), ([0, 4, 6, 6], [0, 4, 6]), ([7], [7]), ([8], [8]), ([8], [8]), ([9, 7, 0, 1, 2, 3, 4, 5, 6, 7, 8, 9], [9]), ([10, 11, 0, 1, 2, 3, 4, 5, 6, 7, 8, 9, 10, 11], [10])])
def congoulaw04_CurvesBetween.B13 : List Nat := [0, 0, 0, 6, 14, 0, 32, 127, 255, 511, 511, 1023, 4095]
theorem congoulaw04_CurvesBetween.tab13 : rtab .any (opsOf Try.f3 13) = congoulaw04_CurvesBetween.T13 := by kernel_rfl
theorem congoulaw04_CurvesBetween.bits13 : waitsOk congoulaw04_CurvesBetween.T13.2 congoulaw04_CurvesBetween.B13 = true := by kernel_rfl
set_option maxHeartbeats 8000000 in
set_option maxRecDepth 100000 in
theorem congoulaw04_CurvesBetween.calls (k : Nat) (a0_0 : Int) (A0_1 : Option Addr) (c0_1 : Nat) (l0_1 : List Int) (A0_2 : Option Addr) (c0_2 : Nat) (l0_2 : List Int) (a1_0 : Int) (a1_1 : Int) (r : Bool) (w : World) (hr0_1 : Kd.C (Kd.int .i64) w A0_1 l0_1.length l0_1) (hc0_1 : l0_1.length ≤ c0_1) (hr0_2 : Kd.C (Kd.int .i64) w A0_2 l0_2.length l0_2) (hc0_2 : l0_2.length ≤ c0_2) (hrt : r = true) (h : congoulaw04_CurvesBetween.f k a0_0 l0_1 l0_2 a1_0 a1_1 = some r) :
  Calls Try.prog 3 #[.agg #[.int .i64 a0_0, .slice A0_1 l0_1.length c0_1, .slice A0_2 l0_2.length c0_2], .agg #[.int .i64 a1_0, .int .i64 a1_1]] w fun e w' => e = .returned (.bool r) ∧ Below w.heap.size w w' := by
 have hu24 := Try.underlying24
 have hu26 := Try.underlying26
 have HR0_1 := Aside0.mk hr0_1
 have HC0_1 := Aside0.mk hc0_1
 clear hr0_1 hc0_1
 have HR0_2 := Aside0.mk hr0_2
 have HC0_2 := Aside0.mk hc0_2
 clear hr0_2 hc0_2
 have HB := Aside0.mk (Below.refl w.heap.size w)
 have H : ((congoulaw04_Of.f a0_0 l0_1 l0_2).bind fun bt333 => ((curves_Value.f k bt333.1 bt333.2.1 bt333.2.2 a1_0 a1_1).bind fun bt340 => (if bt340.2.2 = 0 then ((congoulaw04_fine.f k a0_0 l0_1 l0_2 a1_0 a1_1).bind fun t344 => (congoulaw04_CurvesBetween.j0 k bt340.2.2 (!t344) a0_0 l0_1 l0_2 a1_0 a1_1 bt340.1 bt340.2.1)) else (congoulaw04_CurvesBetween.j0 k bt340.2.2 true a0_0 l0_1 l0_2 a1_0 a1_1 bt340.1 bt340.2.1)))) = some r := h
 clear h
 have HRT := Aside0.mk hrt
 clear hrt
 replace H := Option.bind_eq_some_iff.mp H
 obtain ⟨⟨t333, t334, t337⟩, A30, H⟩ := H
 replace H : ((curves_Value.f k t333 t334 t337 a1_0 a1_1).bind fun bt340 => (if bt340.2.2 = 0 then ((congoulaw04_fine.f k a0_0 l0_1 l0_2 a1_0 a1_1).bind fun t344 => (congoulaw04_CurvesBetween.j0 k bt340.2.2 (!t344) a0_0 l0_1 l0_2 a1_0 a1_1 bt340.1 bt340.2.1)) else (congoulaw04_CurvesBetween.j0 k bt340.2.2 true a0_0 l0_1 l0_2 a1_0 a1_1 bt340.1 bt340.2.1))) = some r := H
 have A3 := Aside0.mk A30
 clear A30
 replace H := Option.bind_eq_some_iff.mp H
 obtain ⟨⟨t340, t341, t342⟩, A40, H⟩ := H
 replace H : (if t342 = 0 then ((congoulaw04_fine.f k a0_0 l0_1 l0_2 a1_0 a1_1).bind fun t344 => (congoulaw04_CurvesBetween.j0 k t342 (!t344) a0_0 l0_1 l0_2 a1_0 a1_1 t340 t341)) else (congoulaw04_CurvesBetween.j0 k t342 true a0_0 l0_1 l0_2 a1_0 a1_1 t340 t341)) = some r := H
 have A4 := Aside0.mk A40
 clear A40
 have HC5 := Aside0.mk H
 clear H
 go_enter Try.func3, Try.ntmps3
 try go_wp2_with (first | ((with_reducible refine gate_dst (N := 2) rfl ?_); (try (refine gate_guard (by rfl) ?_; dsimp only)); refine bE 2 #[.int .i64 a0_0, .slice A0_1 l0_1.length c0_1, .slice A0_2 l0_2.length c0_2] 24 ?_; intro gb331 hg w6 hbox hb; have BK331 := Aside0.mk (hbox); have GW331 := kG w hg; have GE331 := kG w hg; replace HB := kH _ hb; clear hb hbox hg) | ((with_reducible refine gate_dst (N := 3) rfl ?_); (try (refine gate_guard (by rfl) ?_; dsimp only)); refine bE 3 #[.int .i64 a1_0, .int .i64 a1_1] 26 ?_; intro gb332 hg w7 hbox hb; have BK332 := Aside0.mk (hbox); have GW332 := kG w hg; have GE332 := kG w hg; replace HB := kH _ hb; have NB331_332 := kL BK331 hg; have NB332_331 := kR BK331 hg; replace BK331 := kB BK331 hb; clear hb hbox hg))
 replace BK331 := kd BK331
 replace BK332 := kd BK332
 replace HB := Aside0.mk (below_drew1 HB.out)
 refine sS (n := 10) (S := fun w' => w'.cell? ⟨gb331, 0, none⟩ = some (.int .i64 a0_0) ∧ w'.cell? ⟨gb331, 1, none⟩ = some (.slice A0_1 l0_1.length c0_1) ∧ w'.cell? ⟨gb331, 2, none⟩ = some (.slice A0_2 l0_2.length c0_2) ∧ w'.cell? ⟨gb332, 0, none⟩ = some (.int .i64 a1_0) ∧ w'.cell? ⟨gb332, 1, none⟩ = some (.int .i64 a1_1)) (ds := []) ⟨bc BK331 0, bc BK331 1, bc BK331 2, bc BK332 0, bc BK332 1⟩ (fun hHeld => ?_); refine with_tabW congoulaw04_CurvesBetween.tab1 congoulaw04_CurvesBetween.bits1 (fun HT_ HW_ => ?_)
 generalize w7.drew = w8 at BK331 BK332 HB hHeld ⊢
 refine tS 0 16 10 1 ?_
 refine tS 2 18 10 5 ?_
 refine join_ (σ := Value × Value × Nat) 2 (ba 10 255) (fun s_ => [(17, .agg #[.int .i64 t333, s_.1, s_.2.1]), (19, .tuple #[.agg #[.int .i64 t340, .int .i64 t341], .int .i64 t342]), (5, .pointer (some ⟨s_.2.2, 0, none⟩)), (15, .tuple #[.agg #[.int .i64 t340, .int .i64 t341], .int .i64 t342]), (20, .agg #[.int .i64 t340, .int .i64 t341]), (21, .int .i64 t342)]) (fun s_ w' => (w'.cell? ⟨gb331, 0, none⟩ = some (.int .i64 a0_0) ∧ w'.cell? ⟨gb331, 1, none⟩ = some (.slice A0_1 l0_1.length c0_1) ∧ w'.cell? ⟨gb331, 2, none⟩ = some (.slice A0_2 l0_2.length c0_2) ∧ w'.cell? ⟨gb332, 0, none⟩ = some (.int .i64 a1_0) ∧ w'.cell? ⟨gb332, 1, none⟩ = some (.int .i64 a1_1)) ∧ (Kd.R (Kd.int .i64) 3 w' w.heap.size (fun k_ => some k_ ≠ (s_.2.1 : Value).ownBlock) s_.1 t334) ∧ (Kd.R (Kd.int .i64) 3 w' w.heap.size (fun k_ => some k_ ≠ (s_.1 : Value).ownBlock) s_.2.1 t337) ∧ (w'.heap[gb331]? = some (.cells #[.int .i64 a0_0, .slice A0_1 l0_1.length c0_1, .slice A0_2 l0_2.length c0_2] 24 (0, 0))) ∧ (w'.heap[gb332]? = some (.cells #[.int .i64 a1_0, .int .i64 a1_1] 26 (0, 0))) ∧ (w'.heap[s_.2.2]? = some (.cells #[.int .i64 0, .int .i64 0] 26 (0, 0))) ∧ (w.heap.size ≤ s_.2.2) ∧ (w.heap.size ≤ s_.2.2) ∧ (gb331 ≠ s_.2.2) ∧ (s_.2.2 ≠ gb331) ∧ (gb332 ≠ s_.2.2) ∧ (s_.2.2 ≠ gb332) ∧ (Below w.heap.size w w')) ?_ ?_
 rotate_left
 ·intro hCont
  refine two_ (i := 1) (j := 7) (Ni := some 17) (Nj := some 5) (ba 10 7) (ba 10 133) rfl rfl rfl rfl (two_of HT_.out (by kernel_rfl)) (by decide) (by decide) (fun K hK => ?_) (fun K hK => ?_)
  ·skip
   refine gC Try.func15 #[.agg #[.int .i64 a0_0, .slice A0_1 l0_1.length c0_1, .slice A0_2 l0_2.length c0_2]] ?_
   with_reducible refine (congoulaw04_Of.calls a0_0 _ _ l0_1 _ _ l0_2 t333 t334 t337 _ ?side1 ?side2 ?side3 ?side4 A3.out).mono ?_
   (case side1 => exact kC HR0_1)
   (case side2 => exact HC0_1.out)
   (case side3 => exact kC HR0_2)
   (case side4 => exact HC0_2.out)
   rintro e w9 ⟨v335, v338, rfl, ho0, ho1, hb⟩
   refine ⟨_, rfl, ?_⟩
   have HO336 := Aside0.mk (Kd.R_lower ho0 (below_size (hbC _)))
   have HO339 := Aside0.mk (Kd.R_lower ho1 (below_size (hbC _)))
   replace BK331 := kB BK331 hb
   replace BK332 := kB BK332 hb
   replace HB := kH _ hb
   (try clear hb)
   (try clear hb2)
   (try clear hk)
   (try clear hi)
   (try clear ho0)
   (try clear ho1)
   obtain ⟨Ao10, co10, eo10⟩ := Kd.R_slice HO336.out
   (first | subst eo10 | (injection eo10 with f1_ f2_ f3_; have f4_ := f1_.symm; have f5_ := f3_.symm; clear f1_ f2_ f3_; subst f4_; subst f5_))
   obtain ⟨Ao11, co11, eo11⟩ := Kd.R_slice HO339.out
   (first | subst eo11 | (injection eo11 with f1_ f2_ f3_; have f4_ := f1_.symm; have f5_ := f3_.symm; clear f1_ f2_ f3_; subst f4_; subst f5_))
   refine hK.out _ _ ⟨bc BK331 0, bc BK331 1, bc BK331 2, bc BK332 0, bc BK332 1⟩ (fun hHeld => ?_)
   clear hK K
   refine norm_ (a' := ?_) ?_ ?_
   rotate_left
   ·show Act.put _ (some 17) _ = _
    simp only [Act.put, List.setIfInBounds_toArray, List.set_cons_zero, List.set_cons_succ, i64_w, i32_w]
    rfl
   refine two_ (i := 3) (j := 7) (Ni := some 19) (Nj := some 5) (ba 10 15) (ba 10 135) rfl rfl rfl rfl (two_of HT_.out (by kernel_rfl)) (by decide) (by decide) (fun K hK => ?_) (fun K hK => ?_)
   ·skip
    refine gC Try.func14 #[.agg #[.int .i64 t333, .slice Ao10 t334.length co10, .slice Ao11 t337.length co11], .agg #[.int .i64 a1_0, .int .i64 a1_1]] ?_
    with_reducible refine (curves_Value.calls k t333 _ _ t334 _ _ t337 a1_0 a1_1 t340 t341 t342 _ ?side1 ?side2 ?side3 ?side4 A4.out).mono ?_
    (case side1 => exact kD (Kd.R_reads' HO336.out).2.2)
    (case side2 => exact (Kd.R_reads' HO336.out).2.1)
    (case side3 => exact kD (Kd.R_reads' HO339.out).2.2)
    (case side4 => exact (Kd.R_reads' HO339.out).2.1)
    rintro e w12 ⟨rfl, hb⟩
    refine ⟨_, rfl, ?_⟩
    replace HO336 := kO HO336 hb
    replace HO339 := kO HO339 hb
    replace BK331 := kB BK331 hb
    replace BK332 := kB BK332 hb
    replace HB := kH _ hb
    (try clear hb)
    (try clear hb2)
    (try clear hk)
    (try clear hi)
    refine hK.out _ _ ⟨bc BK331 0, bc BK331 1, bc BK331 2, bc BK332 0, bc BK332 1⟩ (fun hHeld => ?_)
    clear hK K
    refine norm_ (a' := ?_) ?_ ?_
    rotate_left
    ·show Act.put _ (some 19) _ = _
     simp only [Act.put, List.setIfInBounds_toArray, List.set_cons_zero, List.set_cons_succ, i64_w, i32_w]
     rfl
    refine pS 4 15 10 31 ?_
    refine pS 5 20 10 63 ?_
    refine pS 6 21 10 127 ?_
    refine one_ (i := 7) (N := some 5) (ba 10 255) rfl rfl (one_of HT_.out (by kernel_rfl)) (by decide) (fun K hK => ?_)
    refine box_step ?hg (N := 5) ?hd (cs := #[.int .i64 0, .int .i64 0]) (t := 26) ?hr ?_; (case hd => rfl); (case hg => rfl); (case hr => first | (go_simp; done) | (go_simp; rfl))
    intro gb343 hg w13 hbox hb
    replace HO336 := kO HO336 hb
    replace HO339 := kO HO339 hb
    have BK343 := Aside0.mk (hbox)
    have GW343 := kG w hg
    have GE343 := kG w hg
    replace HB := kH _ hb
    have NB331_343 := kL BK331 hg
    have NB343_331 := kR BK331 hg
    replace BK331 := kB BK331 hb
    have NB332_343 := kL BK332 hg
    have NB343_332 := kR BK332 hg
    replace BK332 := kB BK332 hb
    clear hb hbox hg
    refine hK.out _ _ ⟨bc BK331 0, bc BK331 1, bc BK331 2, bc BK332 0, bc BK332 1⟩ (fun hHeld => ?_)
    clear hK K
    refine norm_ (a' := ?_) ?_ ?_
    rotate_left
    ·show Act.put _ (some 5) _ = _
     simp only [Act.put, List.setIfInBounds_toArray, List.set_cons_zero, List.set_cons_succ, i64_w, i32_w]
     rfl
    exact norm_ (by simp only [putAll, Act.put, List.setIfInBounds_toArray, List.set_cons_zero, List.set_cons_succ]) (hCont (.slice Ao10 t334.length co10, .slice Ao11 t337.length co11, gb343) _ ⟨hHeld, (rC HO336), (rC HO339), (bkC BK331), (bkC BK332), (bkC BK343), GW343.out, GE343.out, NB331_343.out, NB343_331.out, NB332_343.out, NB343_332.out, (hbC _)⟩)
   ·skip
    refine box_step ?hg (N := 5) ?hd (cs := #[.int .i64 0, .int .i64 0]) (t := 26) ?hr ?_; (case hd => rfl); (case hg => rfl); (case hr => first | (go_simp; done) | (go_simp; rfl))
    intro gb343 hg w10 hbox hb
    replace HO336 := kO HO336 hb
    replace HO339 := kO HO339 hb
    have BK343 := Aside0.mk (hbox)
    have GW343 := kG w hg
    have GE343 := kG w hg
    replace HB := kH _ hb
    have NB331_343 := kL BK331 hg
    have NB343_331 := kR BK331 hg
    replace BK331 := kB BK331 hb
    have NB332_343 := kL BK332 hg
    have NB343_332 := kR BK332 hg
    replace BK332 := kB BK332 hb
    clear hb hbox hg
    obtain ⟨Ao11, co11, eo11⟩ := Kd.R_slice HO336.out
    (first | subst eo11 | (injection eo11 with f1_ f2_ f3_; have f4_ := f1_.symm; have f5_ := f3_.symm; clear f1_ f2_ f3_; subst f4_; subst f5_))
    obtain ⟨Ao12, co12, eo12⟩ := Kd.R_slice HO339.out
    (first | subst eo12 | (injection eo12 with f1_ f2_ f3_; have f4_ := f1_.symm; have f5_ := f3_.symm; clear f1_ f2_ f3_; subst f4_; subst f5_))
    refine hK.out _ _ ⟨bc BK331 0, bc BK331 1, bc BK331 2, bc BK332 0, bc BK332 1⟩ (fun hHeld => ?_)
    clear hK K
    refine norm_ (a' := ?_) ?_ ?_
    rotate_left
    ·show Act.put _ (some 5) _ = _
     simp only [Act.put, List.setIfInBounds_toArray, List.set_cons_zero, List.set_cons_succ, i64_w, i32_w]
     rfl
    refine one_ (i := 3) (N := some 19) (ba 10 143) rfl rfl (one_of HT_.out (by kernel_rfl)) (by decide) (fun K hK => ?_)
    refine gC Try.func14 #[.agg #[.int .i64 t333, .slice Ao11 t334.length co11, .slice Ao12 t337.length co12], .agg #[.int .i64 a1_0, .int .i64 a1_1]] ?_
    with_reducible refine (curves_Value.calls k t333 _ _ t334 _ _ t337 a1_0 a1_1 t340 t341 t342 _ ?side1 ?side2 ?side3 ?side4 A4.out).mono ?_
    (case side1 => exact kD (Kd.R_reads' HO336.out).2.2)
    (case side2 => exact (Kd.R_reads' HO336.out).2.1)
    (case side3 => exact kD (Kd.R_reads' HO339.out).2.2)
    (case side4 => exact (Kd.R_reads' HO339.out).2.1)
    rintro e w13 ⟨rfl, hb⟩
    refine ⟨_, rfl, ?_⟩
    replace HO336 := kO HO336 hb
    replace HO339 := kO HO339 hb
    replace BK331 := kB BK331 hb
    replace BK332 := kB BK332 hb
    replace BK343 := kB BK343 hb
    replace HB := kH _ hb
    (try clear hb)
    (try clear hb2)
    (try clear hk)
    (try clear hi)
    refine hK.out _ _ ⟨bc BK331 0, bc BK331 1, bc BK331 2, bc BK332 0, bc BK332 1⟩ (fun hHeld => ?_)
    clear hK K
    refine norm_ (a' := ?_) ?_ ?_
    rotate_left
    ·show Act.put _ (some 19) _ = _
     simp only [Act.put, List.setIfInBounds_toArray, List.set_cons_zero, List.set_cons_succ, i64_w, i32_w]
     rfl
    refine pS 4 15 10 159 ?_
    refine pS 5 20 10 191 ?_
    refine pS 6 21 10 255 ?_
    exact norm_ (by simp only [putAll, Act.put, List.setIfInBounds_toArray, List.set_cons_zero, List.set_cons_succ]) (hCont (.slice Ao11 t334.length co11, .slice Ao12 t337.length co12, gb343) _ ⟨hHeld, (rC HO336), (rC HO339), (bkC BK331), (bkC BK332), (bkC BK343), GW343.out, GE343.out, NB331_343.out, NB343_331.out, NB332_343.out, NB343_332.out, (hbC _)⟩)
  ·skip
   refine box_step ?hg (N := 5) ?hd (cs := #[.int .i64 0, .int .i64 0]) (t := 26) ?hr ?_; (case hd => rfl); (case hg => rfl); (case hr => first | (go_simp; done) | (go_simp; rfl))
   intro gb343 hg w9 hbox hb
   have BK343 := Aside0.mk (hbox)
   have GW343 := kG w hg
   have GE343 := kG w hg
   replace HB := kH _ hb
   have NB331_343 := kL BK331 hg
   have NB343_331 := kR BK331 hg
   replace BK331 := kB BK331 hb
   have NB332_343 := kL BK332 hg
   have NB343_332 := kR BK332 hg
   replace BK332 := kB BK332 hb
   clear hb hbox hg
   refine hK.out _ _ ⟨bc BK331 0, bc BK331 1, bc BK331 2, bc BK332 0, bc BK332 1⟩ (fun hHeld => ?_)
   clear hK K
   refine norm_ (a' := ?_) ?_ ?_
   rotate_left
   ·show Act.put _ (some 5) _ = _
    simp only [Act.put, List.setIfInBounds_toArray, List.set_cons_zero, List.set_cons_succ, i64_w, i32_w]
    rfl
   refine one_ (i := 1) (N := some 17) (ba 10 135) rfl rfl (one_of HT_.out (by kernel_rfl)) (by decide) (fun K hK => ?_)
   refine gC Try.func15 #[.agg #[.int .i64 a0_0, .slice A0_1 l0_1.length c0_1, .slice A0_2 l0_2.length c0_2]] ?_
   with_reducible refine (congoulaw04_Of.calls a0_0 _ _ l0_1 _ _ l0_2 t333 t334 t337 _ ?side1 ?side2 ?side3 ?side4 A3.out).mono ?_
   (case side1 => exact kC HR0_1)
   (case side2 => exact HC0_1.out)
   (case side3 => exact kC HR0_2)
   (case side4 => exact HC0_2.out)
   rintro e w10 ⟨v335, v338, rfl, ho0, ho1, hb⟩
   refine ⟨_, rfl, ?_⟩
   have HO336 := Aside0.mk (Kd.R_lower ho0 (below_size (hbC _)))
   have HO339 := Aside0.mk (Kd.R_lower ho1 (below_size (hbC _)))
   replace BK331 := kB BK331 hb
   replace BK332 := kB BK332 hb
   replace BK343 := kB BK343 hb
   replace HB := kH _ hb
   (try clear hb)
   (try clear hb2)
   (try clear hk)
   (try clear hi)
   (try clear ho0)
   (try clear ho1)
   obtain ⟨Ao11, co11, eo11⟩ := Kd.R_slice HO336.out
   (first | subst eo11 | (injection eo11 with f1_ f2_ f3_; have f4_ := f1_.symm; have f5_ := f3_.symm; clear f1_ f2_ f3_; subst f4_; subst f5_))
   obtain ⟨Ao12, co12, eo12⟩ := Kd.R_slice HO339.out
   (first | subst eo12 | (injection eo12 with f1_ f2_ f3_; have f4_ := f1_.symm; have f5_ := f3_.symm; clear f1_ f2_ f3_; subst f4_; subst f5_))
   refine hK.out _ _ ⟨bc BK331 0, bc BK331 1, bc BK331 2, bc BK332 0, bc BK332 1⟩ (fun hHeld => ?_)
   clear hK K
   refine norm_ (a' := ?_) ?_ ?_
   rotate_left
   ·show Act.put _ (some 17) _ = _
    simp only [Act.put, List.setIfInBounds_toArray, List.set_cons_zero, List.set_cons_succ, i64_w, i32_w]
    rfl
   refine one_ (i := 3) (N := some 19) (ba 10 143) rfl rfl (one_of HT_.out (by kernel_rfl)) (by decide) (fun K hK => ?_)
   refine gC Try.func14 #[.agg #[.int .i64 t333, .slice Ao11 t334.length co11, .slice Ao12 t337.length co12], .agg #[.int .i64 a1_0, .int .i64 a1_1]] ?_
   with_reducible refine (curves_Value.calls k t333 _ _ t334 _ _ t337 a1_0 a1_1 t340 t341 t342 _ ?side1 ?side2 ?side3 ?side4 A4.out).mono ?_
   (case side1 => exact kD (Kd.R_reads' HO336.out).2.2)
   (case side2 => exact (Kd.R_reads' HO336.out).2.1)
   (case side3 => exact kD (Kd.R_reads' HO339.out).2.2)
   (case side4 => exact (Kd.R_reads' HO339.out).2.1)
   rintro e w13 ⟨rfl, hb⟩
   refine ⟨_, rfl, ?_⟩
   replace HO336 := kO HO336 hb
   replace HO339 := kO HO339 hb
   replace BK331 := kB BK331 hb
   replace BK332 := kB BK332 hb
   replace BK343 := kB BK343 hb
   replace HB := kH _ hb
   (try clear hb)
   (try clear hb2)
   (try clear hk)
   (try clear hi)
   refine hK.out _ _ ⟨bc BK331 0, bc BK331 1, bc BK331 2, bc BK332 0, bc BK332 1⟩ (fun hHeld => ?_)
   clear hK K
   refine norm_ (a' := ?_) ?_ ?_
   rotate_left
   ·show Act.put _ (some 19) _ = _
    simp only [Act.put, List.setIfInBounds_toArray, List.set_cons_zero, List.set_cons_succ, i64_w, i32_w]
    rfl
   refine pS 4 15 10 159 ?_
   refine pS 5 20 10 191 ?_
   refine pS 6 21 10 255 ?_
   exact norm_ (by simp only [putAll, Act.put, List.setIfInBounds_toArray, List.set_cons_zero, List.set_cons_succ]) (hCont (.slice Ao11 t334.length co11, .slice Ao12 t337.length co12, gb343) _ ⟨hHeld, (rC HO336), (rC HO339), (bkC BK331), (bkC BK332), (bkC BK343), GW343.out, GE343.out, NB331_343.out, NB343_331.out, NB332_343.out, NB343_332.out, (hbC _)⟩)
 rintro ⟨v335, v338, gb343⟩ w14 ⟨hS_, h0_, h1_, h2_, h3_, h4_, h5_, h6_, h7_, h8_, h9_, h10_, h11_⟩
 have n0_ : Aside0 (Kd.R (Kd.int .i64) 3 w14 w.heap.size (fun k_ => some k_ ≠ (v338 : Value).ownBlock) v335 t334) := ⟨h0_⟩
 have n1_ : Aside0 (Kd.R (Kd.int .i64) 3 w14 w.heap.size (fun k_ => some k_ ≠ (v335 : Value).ownBlock) v338 t337) := ⟨h1_⟩
 have n2_ : Aside0 (w14.heap[gb331]? = some (.cells #[.int .i64 a0_0, .slice A0_1 l0_1.length c0_1, .slice A0_2 l0_2.length c0_2] 24 (0, 0))) := ⟨h2_⟩
 have n3_ : Aside0 (w14.heap[gb332]? = some (.cells #[.int .i64 a1_0, .int .i64 a1_1] 26 (0, 0))) := ⟨h3_⟩
 have n4_ : Aside0 (w14.heap[gb343]? = some (.cells #[.int .i64 0, .int .i64 0] 26 (0, 0))) := ⟨h4_⟩
 have n5_ : Aside0 (w.heap.size ≤ gb343) := ⟨h5_⟩
 have n6_ : Aside0 (w.heap.size ≤ gb343) := ⟨h6_⟩
 have n7_ : Aside0 (gb331 ≠ gb343) := ⟨h7_⟩
 have n8_ : Aside0 (gb343 ≠ gb331) := ⟨h8_⟩
 have n9_ : Aside0 (gb332 ≠ gb343) := ⟨h9_⟩
 have n10_ : Aside0 (gb343 ≠ gb332) := ⟨h10_⟩
 have n11_ : Aside0 (Below w.heap.size w w14) := ⟨h11_⟩
 clear BK331
 clear BK332
 clear HB
 clear h0_ h1_ h2_ h3_ h4_ h5_ h6_ h7_ h8_ h9_ h10_ h11_
 have HO336 := n0_
 have HO339 := n1_
 have BK331 := n2_
 have BK332 := n3_
 have BK343 := n4_
 have GW343 := n5_
 have GE343 := n6_
 have NB331_343 := n7_
 have NB343_331 := n8_
 have NB332_343 := n9_
 have NB343_332 := n10_
 have HB := n11_
 clear n0_ n1_ n2_ n3_ n4_ n5_ n6_ n7_ n8_ n9_ n10_ n11_
 have hHeld : w14.cell? ⟨gb331, 0, none⟩ = some (.int .i64 a0_0) ∧ w14.cell? ⟨gb331, 1, none⟩ = some (.slice A0_1 l0_1.length c0_1) ∧ w14.cell? ⟨gb331, 2, none⟩ = some (.slice A0_2 l0_2.length c0_2) ∧ w14.cell? ⟨gb332, 0, none⟩ = some (.int .i64 a1_0) ∧ w14.cell? ⟨gb332, 1, none⟩ = some (.int .i64 a1_1) := hS_
 refine norm_ (a' := ?_) ?_ ?_
 rotate_left
 ·simp only [putAll, Act.put, List.setIfInBounds_toArray, List.set_cons_zero, List.set_cons_succ]
  rfl
 refine one_ (i := 8) (N := none) (ba 10 511) rfl rfl (one_of HT_.out (by kernel_rfl)) (by decide) (fun K hK => ?_)
 have hs15 : w14.cell? ⟨gb343, 0, none⟩ = some (.int .i64 0) := bc BK343 0
 have hfs15 := fz BK343 0
 have hns15_0 := NB331_343.out
 have hns15_1 := NB332_343.out
 have hms15_0 := NB343_331.out
 have hms15_1 := NB343_332.out
 have hs16 : w14.cell? ⟨gb343, 1, none⟩ = some (.int .i64 0) := bc BK343 1
 have hfs16 := fz BK343 1
 have hns16_0 := NB331_343.out
 have hns16_1 := NB332_343.out
 have hms16_0 := NB343_331.out
 have hms16_1 := NB343_332.out
 refine skip_ (w1 := ?_) (by rfl) rfl ?_ ?_
 rotate_left
 ·go_simp
  rfl
 refine hK.out _ _ ⟨((cell_far (p := ⟨gb343, _, none⟩) NB331_343.out _).trans (((cell_far (p := ⟨gb343, _, none⟩) NB331_343.out _).trans (hHeld.1)))), ((cell_far (p := ⟨gb343, _, none⟩) NB331_343.out _).trans (((cell_far (p := ⟨gb343, _, none⟩) NB331_343.out _).trans (hHeld.2.1)))), ((cell_far (p := ⟨gb343, _, none⟩) NB331_343.out _).trans (((cell_far (p := ⟨gb343, _, none⟩) NB331_343.out _).trans (hHeld.2.2.1)))), ((cell_far (p := ⟨gb343, _, none⟩) NB332_343.out _).trans (((cell_far (p := ⟨gb343, _, none⟩) NB332_343.out _).trans (hHeld.2.2.2.1)))), ((cell_far (p := ⟨gb343, _, none⟩) NB332_343.out _).trans (((cell_far (p := ⟨gb343, _, none⟩) NB332_343.out _).trans (hHeld.2.2.2.2))))⟩ (fun hHeld => ?_)
 clear hK K
 refine pS 9 6 10 1023 ?_
 refine done_ (done_of HT_.out (by kernel_rfl)) ?_
 go_upto_region 2 with (fail)
 go_cut [29] (fun v29 wc => ∃ (kq : Nat) (x29_4 : Bool), v29 = .bool x29_4 ∧ Aside0 (congoulaw04_CurvesBetween.j0 kq t342 x29_4 a0_0 l0_1 l0_2 a1_0 a1_1 t340 t341 = some r) ∧ Aside0 (kq ≤ k) ∧ Aside0 (wc.heap[gb331]? = some (.cells #[.int .i64 a0_0, (.slice A0_1 l0_1.length c0_1), (.slice A0_2 l0_2.length c0_2)] 24 (0, 0))) ∧ Aside0 (wc.heap[gb332]? = some (.cells #[.int .i64 a1_0, .int .i64 a1_1] 26 (0, 0))) ∧ Aside0 (wc.heap[gb343]? = some (.cells #[.int .i64 t340, .int .i64 t341] 26 (0, 0))) ∧ Aside0 (Below w.heap.size w wc))
 case first =>
  have H := HC5.out
  clear HC5
  by_cases c17 : t342 = 0
  ·rw [if_pos c17] at H
   have c17b0 : (t342 == 0) = true := beq_iff_eq.mpr c17
   have c17b1 : (t342 != 0) = false := bne_eq_false_iff_eq.mpr c17
   clear c17
   (first | rw [c17b0] | (simp only [i64_w, i32_w]; rw [c17b0]) | skip)
   replace H := Option.bind_eq_some_iff.mp H
   obtain ⟨t344, A180, H⟩ := H
   replace H : (congoulaw04_CurvesBetween.j0 k t342 (!t344) a0_0 l0_1 l0_2 a1_0 a1_1 t340 t341) = some r := H
   have A18 := Aside0.mk A180
   clear A180
   have H' := Aside0.mk H
   clear H
   have hnb19 := NB331_332.out
   have hnc19 := NB332_331.out
   have hnb20 := NB331_343.out
   have hnc20 := NB343_331.out
   have hcz21_0 : w14.cell? ⟨gb331, 0, none⟩ = some (.int .i64 a0_0) := bc BK331 0
   have hcz21_1 : w14.cell? ⟨gb331, 1, none⟩ = some (.slice A0_1 l0_1.length c0_1) := bc BK331 1
   have hcz21_2 : w14.cell? ⟨gb331, 2, none⟩ = some (.slice A0_2 l0_2.length c0_2) := bc BK331 2
   have hfz21_0 := fz BK331 0
   have hfz21_1 := fz BK331 1
   have hfz21_2 := fz BK331 2
   have hnb22 := NB332_343.out
   have hnc22 := NB343_332.out
   have hcz23_0 : w14.cell? ⟨gb332, 0, none⟩ = some (.int .i64 a1_0) := bc BK332 0
   have hcz23_1 : w14.cell? ⟨gb332, 1, none⟩ = some (.int .i64 a1_1) := bc BK332 1
   have hfz23_0 := fz BK332 0
   have hfz23_1 := fz BK332 1
   go_wp2_with (first | (go_at_call 16; (with_reducible refine (congoulaw04_fine.calls k a0_0 _ _ l0_1 _ _ l0_2 a1_0 a1_1 t344 _ ?side1 ?side2 ?side3 ?side4 A18.out).mono ?_); (case side1 => exact Kd.C_below HR0_1.out (hbC _)); (case side2 => exact HC0_1.out); (case side3 => exact Kd.C_below HR0_2.out (hbC _)); (case side4 => exact HC0_2.out); rintro e w24 ⟨rfl, hb⟩; replace HO336 := Aside0.mk (Kd.R_below (by (with_reducible repeat (first | apply Kd.R_alloc | apply Kd.R_drewN | apply Kd.R_drew)); exact (Kd.R_mono (Kd.R_far (p := ⟨gb343, 1, none⟩) (Kd.R_far (p := ⟨gb343, 0, none⟩) (Kd.R_types HO336.out BK343.out (by decide)) (fun _ hk => hk.2) (.int .i64 t340)) (fun _ hk => hk.2) (.int .i64 t341)) (fun _ h_ => h_.1))) hb); replace HO339 := Aside0.mk (Kd.R_below (by (with_reducible repeat (first | apply Kd.R_alloc | apply Kd.R_drewN | apply Kd.R_drew)); exact (Kd.R_mono (Kd.R_far (p := ⟨gb343, 1, none⟩) (Kd.R_far (p := ⟨gb343, 0, none⟩) (Kd.R_types HO339.out BK343.out (by decide)) (fun _ hk => hk.2) (.int .i64 t340)) (fun _ hk => hk.2) (.int .i64 t341)) (fun _ h_ => h_.1))) hb); replace BK331 := Aside0.mk (blk_below (g := gb331) (o := .cells #[.int .i64 a0_0, .slice A0_1 l0_1.length c0_1, .slice A0_2 l0_2.length c0_2] 24 (0, 0)) (bF BK331) hb); replace BK332 := Aside0.mk (blk_below (g := gb332) (o := .cells #[.int .i64 a1_0, .int .i64 a1_1] 26 (0, 0)) (bF BK332) hb); replace BK343 := Aside0.mk (blk_below (g := gb343) (o := .cells #[.int .i64 t340, .int .i64 t341] 26 (0, 0)) (by (with_reducible repeat (first | refine blk_drewN ?_ _ | refine blk_drew ?_ | refine blk_alloc ?_ _)); refine blk_put (cs := #[.int .i64 t340, .int .i64 0]) ?_ 1 _ rfl; (with_reducible repeat (first | refine blk_drewN ?_ _ | refine blk_drew ?_ | refine blk_alloc ?_ _)); refine blk_put (cs := #[.int .i64 0, .int .i64 0]) ?_ 0 _ rfl; (with_reducible repeat (first | refine blk_drewN ?_ _ | refine blk_drew ?_ | refine blk_alloc ?_ _)); exact BK343.out) hb); replace HB := kH _ hb; (try clear hb); (try clear hb2); (try clear hk); (try clear hi)))
   go_meet
   case rel => exact ⟨_, (!t344), (by first | rfl | (simp; done) | (simp [*]; done)), H', ⟨by first | omega | exact Nat.le_refl _⟩, ⟨bkC BK331⟩, ⟨bkC BK332⟩, ⟨bkC BK343⟩, ⟨hbC _⟩⟩
  ·rw [if_neg c17] at H
   have c17b0 : (t342 == 0) = false := beq_eq_false_iff_ne.mpr c17
   have c17b1 : (t342 != 0) = true := bne_iff_ne.mpr c17
   (first | rw [c17b0] | (simp only [i64_w, i32_w]; rw [c17b0]) | skip)
   have H' := Aside0.mk H
   clear H
   go_wp2
   go_meet
   case rel => exact ⟨_, (true), (by first | rfl | (simp; done) | (simp [*]; done)), H', ⟨by first | omega | exact Nat.le_refl _⟩, ⟨bF BK331⟩, ⟨bF BK332⟩, ⟨by (with_reducible repeat (first | refine blk_drewN ?_ _ | refine blk_drew ?_ | refine blk_alloc ?_ _)); refine blk_put (cs := #[.int .i64 t340, .int .i64 0]) ?_ 1 _ rfl; (with_reducible repeat (first | refine blk_drewN ?_ _ | refine blk_drew ?_ | refine blk_alloc ?_ _)); refine blk_put (cs := #[.int .i64 0, .int .i64 0]) ?_ 0 _ rfl; (with_reducible repeat (first | refine blk_drewN ?_ _ | refine blk_drew ?_ | refine blk_alloc ?_ _)); exact BK343.out⟩, ⟨hbC _⟩⟩
 case rest =>
  clear HC5
  try clear c1
  try clear c2
  try clear p2
  try clear c3
  try clear c14
  try clear c15
  try clear c17
  try clear c17b0
  try clear c17b1
  try clear c19
  try clear c20
  try clear c22
  try clear hcz21_0
  try clear hcz21_1
  try clear hcz21_2
  try clear hcz23_0
  try clear hcz23_1
  try clear hfz21_0
  try clear hfz21_1
  try clear hfz21_2
  try clear hfz23_0
  try clear hfz23_1
  obtain ⟨kq, x29_4, rfl, HA, HJ4, BK331, BK332, BK343, HB⟩ := hcut
  cases kq with
  | zero => exact absurd HA.out (by simp [congoulaw04_CurvesBetween.j0])
  | succ kj4 =>
   have H := HA.out
   clear HA
   simp only [congoulaw04_CurvesBetween.j0] at H
   by_cases c25 : x29_4 = true
   ·subst c25
    have H1 : (if t342 = 2 then ((congoulaw04_awake.f kj4).bind fun t345 => (some t345)) else (some false)) = some r := by rw [if_pos rfl] at H; exact H
    clear H
    have H := H1
    clear H1
    by_cases c26 : t342 = 2
    ·rw [if_pos c26] at H
     have c26b0 : (t342 == 2) = true := beq_iff_eq.mpr c26
     have c26b1 : (t342 != 2) = false := bne_eq_false_iff_eq.mpr c26
     clear c26
     replace H := Option.bind_eq_some_iff.mp H
     obtain ⟨t345, A270, H⟩ := H
     replace H : (some t345) = some r := H
     have A27 := Aside0.mk A270
     clear A270
     obtain rfl := Option.some.inj H
     go_wp2_with (first | (go_at_call 17; (with_reducible refine (congoulaw04_awake.calls kj4  t345 _ A27.out).mono ?_); rintro e w28 ⟨rfl, hb⟩; replace BK331 := kB BK331 hb; replace BK332 := kB BK332 hb; replace BK343 := kB BK343 hb; replace HB := kH _ hb; (try clear hb); (try clear hb2); (try clear hk); (try clear hi)))
     go_ret
     exact ⟨by first | rfl | (simp [errW_none, errW_some] <;> rfl) | (simp [*, errW_none, errW_some] <;> rfl), hbC _⟩
    ·rw [if_neg c26] at H
     have c26b0 : (t342 == 2) = false := beq_eq_false_iff_ne.mpr c26
     have c26b1 : (t342 != 2) = true := bne_iff_ne.mpr c26
     exact absurd (H.trans (congrArg some HRT.out)) (by simp)
   ·replace c25 := Bool.eq_false_iff.mpr c25
    subst c25
    have H1 : ((congoulaw04_Of.f a0_0 l0_1 l0_2).bind fun bt346 => ((curves_Basic.f kj4 bt346.1 bt346.2.1 bt346.2.2 a1_0 a1_1).bind fun bt353 => (if bt353.2 = 0 then (congoulaw04_CurvesBetween.j1 kj4 bt353.1 ((bt353.1.length : Int) != (l0_2.length : Int)) a0_0 l0_1 l0_2 t340 t341) else (congoulaw04_CurvesBetween.j1 kj4 bt353.1 true a0_0 l0_1 l0_2 t340 t341)))) = some r := by rw [if_neg (show ¬ (false = true) by decide)] at H; exact H
    clear H
    have H := H1
    clear H1
    replace H := Option.bind_eq_some_iff.mp H
    obtain ⟨⟨t346, t347, t350⟩, A290, H⟩ := H
    replace H : ((curves_Basic.f kj4 t346 t347 t350 a1_0 a1_1).bind fun bt353 => (if bt353.2 = 0 then (congoulaw04_CurvesBetween.j1 kj4 bt353.1 ((bt353.1.length : Int) != (l0_2.length : Int)) a0_0 l0_1 l0_2 t340 t341) else (congoulaw04_CurvesBetween.j1 kj4 bt353.1 true a0_0 l0_1 l0_2 t340 t341))) = some r := H
    have A29 := Aside0.mk A290
    clear A290
    replace H := Option.bind_eq_some_iff.mp H
    obtain ⟨⟨t353, t356⟩, A300, H⟩ := H
    replace H : (if t356 = 0 then (congoulaw04_CurvesBetween.j1 kj4 t353 ((t353.length : Int) != (l0_2.length : Int)) a0_0 l0_1 l0_2 t340 t341) else (congoulaw04_CurvesBetween.j1 kj4 t353 true a0_0 l0_1 l0_2 t340 t341)) = some r := H
    have A30 := Aside0.mk A300
    clear A300
    have HC31 := Aside0.mk H
    clear H
    try go_wp2
    replace BK331 := kd BK331
    replace BK332 := kd BK332
    replace BK343 := kd BK343
    replace HB := Aside0.mk (below_drew1 HB.out)
    refine sS (n := 9) (S := fun w' => w'.cell? ⟨gb331, 0, none⟩ = some (.int .i64 a0_0) ∧ w'.cell? ⟨gb331, 1, none⟩ = some (.slice A0_1 l0_1.length c0_1) ∧ w'.cell? ⟨gb331, 2, none⟩ = some (.slice A0_2 l0_2.length c0_2) ∧ w'.cell? ⟨gb332, 0, none⟩ = some (.int .i64 a1_0) ∧ w'.cell? ⟨gb332, 1, none⟩ = some (.int .i64 a1_1)) (ds := []) ⟨bc BK331 0, bc BK331 1, bc BK331 2, bc BK332 0, bc BK332 1⟩ (fun hHeld => ?_); refine with_tabW congoulaw04_CurvesBetween.tab4 congoulaw04_CurvesBetween.bits4 (fun HT_ HW_ => ?_)
    generalize wc.drew = w32 at BK331 BK332 BK343 HB hHeld ⊢
    refine tS 0 36 9 1 ?_
    refine tS 2 38 9 5 ?_
    refine one_ (i := 1) (N := some 37) (ba 9 7) rfl rfl (one_of HT_.out (by kernel_rfl)) (by decide) (fun K hK => ?_)
    refine gC Try.func15 #[.agg #[.int .i64 a0_0, .slice A0_1 l0_1.length c0_1, .slice A0_2 l0_2.length c0_2]] ?_
    with_reducible refine (congoulaw04_Of.calls a0_0 _ _ l0_1 _ _ l0_2 t346 t347 t350 _ ?side1 ?side2 ?side3 ?side4 A29.out).mono ?_
    (case side1 => exact kC HR0_1)
    (case side2 => exact HC0_1.out)
    (case side3 => exact kC HR0_2)
    (case side4 => exact HC0_2.out)
    rintro e w33 ⟨v348, v351, rfl, ho0, ho1, hb⟩
    refine ⟨_, rfl, ?_⟩
    have HO349 := Aside0.mk (Kd.R_lower ho0 (below_size (hbC _)))
    have HO352 := Aside0.mk (Kd.R_lower ho1 (below_size (hbC _)))
    replace BK331 := kB BK331 hb
    replace BK332 := kB BK332 hb
    replace BK343 := kB BK343 hb
    replace HB := kH _ hb
    (try clear hb)
    (try clear hb2)
    (try clear hk)
    (try clear hi)
    (try clear ho0)
    (try clear ho1)
    obtain ⟨Ao34, co34, eo34⟩ := Kd.R_slice HO349.out
    (first | subst eo34 | (injection eo34 with f1_ f2_ f3_; have f4_ := f1_.symm; have f5_ := f3_.symm; clear f1_ f2_ f3_; subst f4_; subst f5_))
    obtain ⟨Ao35, co35, eo35⟩ := Kd.R_slice HO352.out
    (first | subst eo35 | (injection eo35 with f1_ f2_ f3_; have f4_ := f1_.symm; have f5_ := f3_.symm; clear f1_ f2_ f3_; subst f4_; subst f5_))
    refine hK.out _ _ ⟨bc BK331 0, bc BK331 1, bc BK331 2, bc BK332 0, bc BK332 1⟩ (fun hHeld => ?_)
    clear hK K
    refine norm_ (a' := ?_) ?_ ?_
    rotate_left
    ·show Act.put _ (some 37) _ = _
     simp only [Act.put, List.setIfInBounds_toArray, List.set_cons_zero, List.set_cons_succ, i64_w, i32_w]
     rfl
    refine one_ (i := 3) (N := some 39) (ba 9 15) rfl rfl (one_of HT_.out (by kernel_rfl)) (by decide) (fun K hK => ?_)
    refine gC Try.func18 #[.agg #[.int .i64 t346, .slice Ao34 t347.length co34, .slice Ao35 t350.length co35], .agg #[.int .i64 a1_0, .int .i64 a1_1]] ?_
    with_reducible refine (curves_Basic.calls kj4 t346 _ _ t347 _ _ t350 a1_0 a1_1 t353 t356 _ ?side1 ?side2 ?side3 ?side4 A30.out).mono ?_
    (case side1 => exact kD (Kd.R_reads' HO349.out).2.2)
    (case side2 => exact (Kd.R_reads' HO349.out).2.1)
    (case side3 => exact kD (Kd.R_reads' HO352.out).2.2)
    (case side4 => exact (Kd.R_reads' HO352.out).2.1)
    rintro e w36 ⟨v354, rfl, ho0, hb⟩
    refine ⟨_, rfl, ?_⟩
    replace HO349 := kO HO349 hb
    replace HO352 := kO HO352 hb
    have HO355 := Aside0.mk (Kd.R_lower (Kd.R_newB (Kd.R_newB ho0 (g := gb332) (o := .cells #[.int .i64 a1_0, .int .i64 a1_1] 26 (0, 0)) (bkC BK332)) (g := gb343) (o := .cells #[.int .i64 t340, .int .i64 t341] 26 (0, 0)) (bkC BK343)) (below_size (hbC _)))
    replace BK331 := kB BK331 hb
    replace BK332 := kB BK332 hb
    replace BK343 := kB BK343 hb
    replace HB := kH _ hb
    (try clear hb)
    (try clear hb2)
    (try clear hk)
    (try clear hi)
    (try clear ho0)
    refine hK.out _ _ ⟨bc BK331 0, bc BK331 1, bc BK331 2, bc BK332 0, bc BK332 1⟩ (fun hHeld => ?_)
    clear hK K
    refine norm_ (a' := ?_) ?_ ?_
    rotate_left
    ·show Act.put _ (some 39) _ = _
     simp only [Act.put, List.setIfInBounds_toArray, List.set_cons_zero, List.set_cons_succ, i64_w, i32_w]
     rfl
    refine pS 4 35 9 31 ?_
    refine pS 5 40 9 63 ?_
    refine pS 6 41 9 127 ?_
    refine pS 7 7 9 255 ?_
    refine pS 8 8 9 511 ?_
    refine done_ (done_of HT_.out (by kernel_rfl)) ?_
    go_upto_region 5 with (fail)
    go_cut [51] (fun v51 wc => ∃ (kq : Nat) (x51_30 : Bool), v51 = .bool x51_30 ∧ Aside0 (congoulaw04_CurvesBetween.j1 kq t353 x51_30 a0_0 l0_1 l0_2 t340 t341 = some r) ∧ Aside0 (kq ≤ kj4) ∧ Aside0 (Kd.R k26 26 wc w.heap.size (fun k_ => k_ ≠ gb332 ∧ k_ ≠ gb343) v354 t353) ∧ Aside0 (wc.heap[gb331]? = some (.cells #[.int .i64 a0_0, (.slice A0_1 l0_1.length c0_1), (.slice A0_2 l0_2.length c0_2)] 24 (0, 0))) ∧ Aside0 (wc.heap[gb332]? = some (.cells #[.int .i64 a1_0, .int .i64 a1_1] 26 (0, 0))) ∧ Aside0 (wc.heap[gb343]? = some (.cells #[.int .i64 t340, .int .i64 t341] 26 (0, 0))) ∧ Aside0 (Below w.heap.size w wc))
    case first =>
     have H := HC31.out
     clear HC31
     by_cases c37 : t356 = 0
     ·rw [if_pos c37] at H
      have c37b0 : (t356 == 0) = true := beq_iff_eq.mpr c37
      have c37b1 : (t356 != 0) = false := bne_eq_false_iff_eq.mpr c37
      clear c37
      (first | rw [c37b0] | (simp only [i64_w, i32_w]; rw [c37b0]) | skip)
      have H' := Aside0.mk H
      clear H
      obtain ⟨Ao38, co38, eo38⟩ := Kd.R_slice HO355.out
      subst eo38
      have hnb39 := NB331_332.out
      have hnc39 := NB332_331.out
      have hnb40 := NB331_343.out
      have hnc40 := NB343_331.out
      have hcz41_0 : w36.cell? ⟨gb331, 0, none⟩ = some (.int .i64 a0_0) := bc BK331 0
      have hcz41_1 : w36.cell? ⟨gb331, 1, none⟩ = some (.slice A0_1 l0_1.length c0_1) := bc BK331 1
      have hcz41_2 : w36.cell? ⟨gb331, 2, none⟩ = some (.slice A0_2 l0_2.length c0_2) := bc BK331 2
      have hfz41_0 := fz BK331 0
      have hfz41_1 := fz BK331 1
      have hfz41_2 := fz BK331 2
      go_wp2
      go_meet
      case rel => exact ⟨_, (((t353.length : Int) != (l0_2.length : Int))), (by first | rfl | (simp; done) | (simp [*]; done)), H', ⟨by have := HJ4.out; first | omega | exact Nat.le_refl _⟩, ⟨by (with_reducible repeat (first | apply Kd.R_alloc | apply Kd.R_drewN | apply Kd.R_drew)); exact Kd.R_mono HO355.out (fun _ hk => ⟨hk.1.2, hk.2⟩)⟩, ⟨bkC BK331⟩, ⟨bkC BK332⟩, ⟨bkC BK343⟩, ⟨hbC _⟩⟩
     ·rw [if_neg c37] at H
      have c37b0 : (t356 == 0) = false := beq_eq_false_iff_ne.mpr c37
      have c37b1 : (t356 != 0) = true := bne_iff_ne.mpr c37
      (first | rw [c37b0] | (simp only [i64_w, i32_w]; rw [c37b0]) | skip)
      have H' := Aside0.mk H
      clear H
      go_wp2
      go_meet
      case rel => exact ⟨_, (true), (by first | rfl | (simp; done) | (simp [*]; done)), H', ⟨by have := HJ4.out; first | omega | exact Nat.le_refl _⟩, ⟨by (with_reducible repeat (first | apply Kd.R_alloc | apply Kd.R_drewN | apply Kd.R_drew)); exact Kd.R_mono HO355.out (fun _ hk => ⟨hk.1.2, hk.2⟩)⟩, ⟨bkC BK331⟩, ⟨bkC BK332⟩, ⟨bkC BK343⟩, ⟨hbC _⟩⟩
    case rest =>
     clear HC31
     try clear c1
     try clear c2
     try clear p2
     try clear c3
     try clear c4
     try clear c14
     try clear c15
     try clear c17
     try clear c17b0
     try clear c17b1
     try clear c18
     try clear c19
     try clear c20
     try clear c22
     try clear c25
     try clear c26
     try clear c26b0
     try clear c26b1
     try clear c37
     try clear c37b0
     try clear c37b1
     try clear c39
     try clear c40
     try clear hcz21_0
     try clear hcz21_1
     try clear hcz21_2
     try clear hcz23_0
     try clear hcz23_1
     try clear hcz41_0
     try clear hcz41_1
     try clear hcz41_2
     try clear hfz21_0
     try clear hfz21_1
     try clear hfz21_2
     try clear hfz23_0
     try clear hfz23_1
     try clear hfz41_0
     try clear hfz41_1
     try clear hfz41_2
     try clear p2
     obtain ⟨kq, x51_30, rfl, HA, HJ30, HO_7, BK331, BK332, BK343, HB⟩ := hcut
     cases kq with
     | zero => exact absurd HA.out (by simp [congoulaw04_CurvesBetween.j1])
     | succ kj30 =>
      have H := HA.out
      clear HA
      simp only [congoulaw04_CurvesBetween.j1] at H
      by_cases c42 : x51_30 = true
      ·subst c42
       have H1 : (some false) = some r := by rw [if_pos rfl] at H; exact H
       clear H
       have H := H1
       clear H1
       exact absurd (H.trans (congrArg some HRT.out)) (by simp)
      ·replace c42 := Bool.eq_false_iff.mpr c42
       subst c42
       have H1 : (congoulaw04_CurvesBetween.l0 kj30 t353 50 (-50) l0_2 (l0_2.length : Int) 0 t340 t341 0 1) = some r := by rw [if_neg (show ¬ (false = true) by decide)] at H; exact H
       clear H
       have H := H1
       clear H1
       have H' := Aside0.mk H
       clear H
       go_wp2_with (first | ((with_reducible refine gate_dst (N := 9) rfl ?_); (try (refine gate_guard (by rfl) ?_; dsimp only)); refine bE 9 #[.int .i64 0, .int .i64 0] 26 ?_; intro gb357 hg w43 hbox hb; replace HO_7 := Aside0.mk (Kd.R_below (Kd.R_elderB (rC HO_7) gb357 (Nat.le_of_eq hg.symm)) hb); have BK357 := Aside0.mk (hbox); have GW357 := kG w hg; have GE357 := kG w hg; replace HB := kH _ hb; have NB331_357 := kL BK331 hg; have NB357_331 := kR BK331 hg; replace BK331 := kB BK331 hb; have NB332_357 := kL BK332 hg; have NB357_332 := kR BK332 hg; replace BK332 := kB BK332 hb; have NB343_357 := kL BK343 hg; have NB357_343 := kR BK343 hg; replace BK343 := kB BK343 hb; clear hb hbox hg; have hnb44 := NB357_331.out; have hnc44 := NB331_357.out; have hnb45 := NB357_332.out; have hnc45 := NB332_357.out; have hnb46 := NB357_343.out; have hnc46 := NB343_357.out; have hcz47_0 : w43.cell? ⟨gb357, 0, none⟩ = some (.int .i64 0) := bc BK357 0; have hcz47_1 : w43.cell? ⟨gb357, 1, none⟩ = some (.int .i64 0) := bc BK357 1; have hfz47_0 := fz BK357 0; have hfz47_1 := fz BK357 1; have hnb48 := NB331_332.out; have hnc48 := NB332_331.out; have hnb49 := NB331_343.out; have hnc49 := NB343_331.out; have hcz50_0 : w43.cell? ⟨gb331, 0, none⟩ = some (.int .i64 a0_0) := bc BK331 0; have hcz50_1 : w43.cell? ⟨gb331, 1, none⟩ = some (.slice A0_1 l0_1.length c0_1) := bc BK331 1; have hcz50_2 : w43.cell? ⟨gb331, 2, none⟩ = some (.slice A0_2 l0_2.length c0_2) := bc BK331 2; have hfz50_0 := fz BK331 0; have hfz50_1 := fz BK331 1; have hfz50_2 := fz BK331 2))
       go_loopg [10, 11, 56] kj30 (fun kq v10 v11 v56 w' => ∃ (x10_3 : Int) (x11_3 : Int) (x56_3 : Int) (x358000_3 : Int) (x358001_3 : Int), v10 = .int .i64 x10_3 ∧ v11 = .int .i64 x11_3 ∧ v56 = .int .i64 x56_3 ∧ Aside0 (congoulaw04_CurvesBetween.l0 kq t353 x10_3 x11_3 l0_2 (l0_2.length : Int) x56_3 t340 t341 x358000_3 x358001_3 = some r) ∧ Aside0 (kq ≤ kj30) ∧ Aside0 (Kd.R k26 26 w' w.heap.size (fun k_ => k_ ≠ gb332 ∧ k_ ≠ gb343 ∧ k_ ≠ gb357) v354 t353) ∧ Aside0 (w'.heap[gb331]? = some (.cells #[.int .i64 a0_0, (.slice A0_1 l0_1.length c0_1), (.slice A0_2 l0_2.length c0_2)] 24 (0, 0))) ∧ Aside0 (w'.heap[gb332]? = some (.cells #[.int .i64 a1_0, .int .i64 a1_1] 26 (0, 0))) ∧ Aside0 (w'.heap[gb343]? = some (.cells #[.int .i64 t340, .int .i64 t341] 26 (0, 0))) ∧ Aside0 (w'.heap[gb357]? = some (.cells #[.int .i64 x358000_3, .int .i64 x358001_3] 26 (0, 0))) ∧ Aside0 (Below w.heap.size w w'))
       case atStart => exact ⟨(50), ((-50)), (0), (0), (1), (by first | rfl | (simp; done) | (simp [*]; done)), (by first | rfl | (simp; done) | (simp [*]; done)), (by first | rfl | (simp; done) | (simp [*]; done)), H', ⟨Nat.le_refl _⟩, ⟨by (with_reducible repeat (first | apply Kd.R_alloc | apply Kd.R_drewN | apply Kd.R_drew)); exact Kd.R_mono (Kd.R_far (p := ⟨gb357, 1, none⟩) (Kd.R_far (p := ⟨gb357, 0, none⟩) (Kd.R_mono HO_7.out (fun k_ hk => (⟨hk, hk.2⟩ : _ ∧ k_ ≠ gb357))) (fun _ hk => hk.2) (.int .i64 0)) (fun _ hk => hk.2) (.int .i64 1)) (fun _ hk => ⟨hk.1.1.1, ⟨hk.1.1.2, hk.1.2⟩⟩)⟩, ⟨bF BK331⟩, ⟨bF BK332⟩, ⟨bF BK343⟩, ⟨by (with_reducible repeat (first | refine blk_drewN ?_ _ | refine blk_drew ?_ | refine blk_alloc ?_ _)); refine blk_put (cs := #[.int .i64 0, .int .i64 0]) ?_ 1 _ rfl; (with_reducible repeat (first | refine blk_drewN ?_ _ | refine blk_drew ?_ | refine blk_alloc ?_ _)); refine blk_put (cs := #[.int .i64 0, .int .i64 0]) ?_ 0 _ rfl; (with_reducible repeat (first | refine blk_drewN ?_ _ | refine blk_drew ?_ | refine blk_alloc ?_ _)); exact BK357.out⟩, ⟨hbC _⟩⟩
       case round =>
        clear H'
        try clear c1
        try clear c2
        try clear p2
        try clear c3
        try clear c4
        try clear c14
        try clear c15
        try clear c17
        try clear c17b0
        try clear c17b1
        try clear c18
        try clear c19
        try clear c20
        try clear c22
        try clear c25
        try clear c26
        try clear c26b0
        try clear c26b1
        try clear c37
        try clear c37b0
        try clear c37b1
        try clear c39
        try clear c40
        try clear c42
        try clear c44
        try clear c45
        try clear c46
        try clear c48
        try clear c49
        try clear hcz21_0
        try clear hcz21_1
        try clear hcz21_2
        try clear hcz23_0
        try clear hcz23_1
        try clear hcz41_0
        try clear hcz41_1
        try clear hcz41_2
        try clear hcz47_0
        try clear hcz47_1
        try clear hcz50_0
        try clear hcz50_1
        try clear hcz50_2
        try clear hfz21_0
        try clear hfz21_1
        try clear hfz21_2
        try clear hfz23_0
        try clear hfz23_1
        try clear hfz41_0
        try clear hfz41_1
        try clear hfz41_2
        try clear hfz47_0
        try clear hfz47_1
        try clear hfz50_0
        try clear hfz50_1
        try clear hfz50_2
        try clear p2
        obtain ⟨x10_3, x11_3, x56_3, x358000_3, x358001_3, rfl, rfl, rfl, HA, HK3, HO_7, BK331, BK332, BK343, BK357, HB⟩ := hrel
        cases gk with
        | zero => exact absurd HA.out (by simp [congoulaw04_CurvesBetween.l0])
        | succ k3 =>
         have H := HA.out
         clear HA
         simp only [congoulaw04_CurvesBetween.l0] at H
         by_cases c51 : x56_3 < (l0_2.length : Int)
         ·rw [if_pos c51] at H
          have c51b0 : decide (x56_3 < (l0_2.length : Int)) = true := decide_eq_true c51
          clear c51
          by_cases c52 : 0 ≤ x56_3
          ·rw [if_pos c52] at H
           have c52b0 : decide (0 ≤ x56_3) = true := decide_eq_true c52
           clear c52
           by_cases c53 : x56_3 < (l0_2.length : Int)
           ·rw [if_pos c53] at H
            have c53b0 : decide (x56_3 < (l0_2.length : Int)) = true := decide_eq_true c53
            clear c53
            by_cases c54 : x56_3 < (t353.length : Int)
            ·rw [if_pos c54] at H
             have c54b0 : decide (x56_3 < (t353.length : Int)) = true := decide_eq_true c54
             clear c54
             replace H := Option.bind_eq_some_iff.mp H
             obtain ⟨⟨t361, t362⟩, A550, H⟩ := H
             replace H : ((congoulaw04_more.f k3 x358000_3 x358001_3 ((rd_T26 t353 x56_3).f0) ((rd_T26 t353 x56_3).f1) t361 t362).bind fun bt363 => (if bt363.2.2 = true then (if ((rd_T26 t353 x56_3).f0) > 0 then (congoulaw04_CurvesBetween.l0 k3 t353 (mn x10_3 (rd l0_2 x56_3)) (mx x11_3 (rd l0_2 x56_3)) l0_2 (l0_2.length : Int) (wrap64 (x56_3 + 1)) t340 t341 bt363.1 bt363.2.1) else (congoulaw04_CurvesBetween.l0 k3 t353 x10_3 x11_3 l0_2 (l0_2.length : Int) (wrap64 (x56_3 + 1)) t340 t341 bt363.1 bt363.2.1)) else (some false))) = some r := H
             have A55 := Aside0.mk A550
             clear A550
             replace H := Option.bind_eq_some_iff.mp H
             obtain ⟨⟨t363, t364, t365⟩, A560, H⟩ := H
             replace H : (if t365 = true then (if ((rd_T26 t353 x56_3).f0) > 0 then (congoulaw04_CurvesBetween.l0 k3 t353 (mn x10_3 (rd l0_2 x56_3)) (mx x11_3 (rd l0_2 x56_3)) l0_2 (l0_2.length : Int) (wrap64 (x56_3 + 1)) t340 t341 t363 t364) else (congoulaw04_CurvesBetween.l0 k3 t353 x10_3 x11_3 l0_2 (l0_2.length : Int) (wrap64 (x56_3 + 1)) t340 t341 t363 t364)) else (some false)) = some r := H
             have A56 := Aside0.mk A560
             clear A560
             by_cases c57 : t365 = true
             ·subst c57
              have H1 : (if ((rd_T26 t353 x56_3).f0) > 0 then (congoulaw04_CurvesBetween.l0 k3 t353 (mn x10_3 (rd l0_2 x56_3)) (mx x11_3 (rd l0_2 x56_3)) l0_2 (l0_2.length : Int) (wrap64 (x56_3 + 1)) t340 t341 t363 t364) else (congoulaw04_CurvesBetween.l0 k3 t353 x10_3 x11_3 l0_2 (l0_2.length : Int) (wrap64 (x56_3 + 1)) t340 t341 t363 t364)) = some r := by rw [if_pos rfl] at H; exact H
              clear H
              have H := H1
              clear H1
              by_cases c58 : ((rd_T26 t353 x56_3).f0) > 0
              ·rw [if_pos c58] at H
               have c58b0 : decide (0 < ((rd_T26 t353 x56_3).f0)) = true := decide_eq_true c58
               clear c58
               obtain ⟨ji59, hji59⟩ : ∃ j_ : Int, (mn x10_3 (rd l0_2 x56_3)) = j_ := ⟨_, rfl⟩
               replace H : (congoulaw04_CurvesBetween.l0 k3 t353 ji59 (mx x11_3 (rd l0_2 x56_3)) l0_2 (l0_2.length : Int) (wrap64 (x56_3 + 1)) t340 t341 t363 t364) = some r := by first | (rw [hji59] at H; exact H) | (simp only [hji59] at H ⊢; exact H)
               (try rw [hji59] at A55)
               (try rw [hji59] at A56)
               have hji59_ : (if (rd l0_2 x56_3) < x10_3 then (rd l0_2 x56_3) else x10_3) = ji59 := hji59
               obtain ⟨ji60, hji60⟩ : ∃ j_ : Int, (mx x11_3 (rd l0_2 x56_3)) = j_ := ⟨_, rfl⟩
               replace H : (congoulaw04_CurvesBetween.l0 k3 t353 ji59 ji60 l0_2 (l0_2.length : Int) (wrap64 (x56_3 + 1)) t340 t341 t363 t364) = some r := by first | (rw [hji60] at H; exact H) | (simp only [hji60] at H ⊢; exact H)
               (try rw [hji60] at A55)
               (try rw [hji60] at A56)
               have hji60_ : (if x11_3 < (rd l0_2 x56_3) then (rd l0_2 x56_3) else x11_3) = ji60 := hji60
               have H' := Aside0.mk H
               clear H
               have p359 : 0 ≤ (x56_3 : Int) := dA
               have q359 : x56_3 < (l0_2.length : Int) := dA
               obtain ⟨ad359, e359, hx359_0⟩ := Kd.at_int HR0_2.out x56_3 p359 q359
               cases e359
               try replace hx359_0 := (HB.out.cell (World.block_lt_of_cell? w _ hx359_0)).trans hx359_0
               replace p359 := eq_true p359
               replace q359 := eq_true q359
               try go_wp2
               replace HO_7 := Aside0.mk (Kd.R_drew HO_7.out)
               replace BK331 := kd BK331
               replace BK332 := kd BK332
               replace BK343 := kd BK343
               replace BK357 := kd BK357
               replace HB := Aside0.mk (below_drew1 HB.out)
               obtain ⟨Ao62, co62, eo62⟩ := Kd.R_slice HO_7.out
               (first | subst eo62 | (injection eo62 with f1_ f2_ f3_; have f4_ := f1_.symm; have f5_ := f3_.symm; clear f1_ f2_ f3_; subst f4_; subst f5_))
               have p360 : 0 ≤ (x56_3 : Int) := dA
               have q360 : x56_3 < (t353.length : Int) := dA
               obtain ⟨ad360, e360, hx360_0, hx360_1⟩ := at_T26 (Kd.R_reads' HO_7.out).2.2 x56_3 p360 q360
               cases e360
               replace p360 := eq_true p360
               replace q360 := eq_true q360
               refine sS (n := 13) (S := fun w' => w'.cell? ⟨gb357, 0, none⟩ = some (.int .i64 x358000_3) ∧ w'.cell? ⟨gb357, 1, none⟩ = some (.int .i64 x358001_3) ∧ w'.cell? (ad360.add ((x56_3).toNat * 2)) = some (.int .i64 ((rd_T26 t353 x56_3).f0)) ∧ w'.cell? ⟨(ad360.add ((x56_3).toNat * 2)).block, (ad360.add ((x56_3).toNat * 2)).off + 1, none⟩ = some (.int .i64 ((rd_T26 t353 x56_3).f1))) (ds := [11]) ⟨bc BK357 0, bc BK357 1, hx360_0, hx360_1⟩ (fun hHeld => ?_); refine with_tabW congoulaw04_CurvesBetween.tab13 congoulaw04_CurvesBetween.bits13 (fun HT_ HW_ => ?_)
               generalize wr.drew = w61 at HO_7 BK331 BK332 BK343 BK357 HB hx360_0 hx360_1 hHeld ⊢
               refine pS 1 63 13 2 ?_
               refine pS 2 64 13 6 ?_
               refine pS 3 65 13 14 ?_
               refine pS 5 67 13 46 ?_
               refine tS 0 62 13 47 ?_
               refine tS 4 66 13 63 ?_
               refine one_ (i := 6) (N := some 68) (ba 13 127) rfl rfl (one_of HT_.out (by kernel_rfl)) (by decide) (fun K hK => ?_)
               refine gC Try.func20 #[.int .i64 (rd l0_2 x56_3)] ?_
               with_reducible refine (congoulaw04_whole.calls (rd l0_2 x56_3) t361 t362 _ A55.out).mono ?_
               rintro e w63 ⟨rfl, hb⟩
               have HS2_ := (hb.cell (World.block_lt_of_cell? _ _ (hHeld.2.2.1))).trans (hHeld.2.2.1)
               have HS3_ := (hb.cell (World.block_lt_of_cell? _ _ (hHeld.2.2.2))).trans (hHeld.2.2.2)
               refine ⟨_, rfl, ?_⟩
               replace HO_7 := kO HO_7 hb
               replace BK331 := kB BK331 hb
               replace BK332 := kB BK332 hb
               replace BK343 := kB BK343 hb
               replace BK357 := kB BK357 hb
               replace HB := kH _ hb
               (try clear hb)
               (try clear hb2)
               (try clear hk)
               (try clear hi)
               refine hK.out _ _ ⟨bc BK357 0, bc BK357 1, HS2_, HS3_⟩ (fun hHeld => ?_)
               clear hK K
               refine norm_ (a' := ?_) ?_ ?_
               rotate_left
               ·show Act.put _ (some 68) _ = _
                simp only [Act.put, List.setIfInBounds_toArray, List.set_cons_zero, List.set_cons_succ, i64_w, i32_w]
                rfl
               refine one_ (i := 7) (N := some 69) (ba 13 255) rfl rfl (one_of HT_.out (by kernel_rfl)) (by decide) (fun K hK => ?_)
               refine gC Try.func19 #[.agg #[.int .i64 x358000_3, .int .i64 x358001_3], .agg #[.int .i64 ((rd_T26 t353 x56_3).f0), .int .i64 ((rd_T26 t353 x56_3).f1)], .agg #[.int .i64 t361, .int .i64 t362]] ?_
               with_reducible refine (congoulaw04_more.calls k3 x358000_3 x358001_3 ((rd_T26 t353 x56_3).f0) ((rd_T26 t353 x56_3).f1) t361 t362 t363 t364 true _ A56.out).mono ?_
               rintro e w64 ⟨rfl, hb⟩
               have HS2_ := (hb.cell (World.block_lt_of_cell? _ _ (hHeld.2.2.1))).trans (hHeld.2.2.1)
               have HS3_ := (hb.cell (World.block_lt_of_cell? _ _ (hHeld.2.2.2))).trans (hHeld.2.2.2)
               refine ⟨_, rfl, ?_⟩
               replace HO_7 := kO HO_7 hb
               replace BK331 := kB BK331 hb
               replace BK332 := kB BK332 hb
               replace BK343 := kB BK343 hb
               replace BK357 := kB BK357 hb
               replace HB := kH _ hb
               (try clear hb)
               (try clear hb2)
               (try clear hk)
               (try clear hi)
               refine hK.out _ _ ⟨bc BK357 0, bc BK357 1, HS2_, HS3_⟩ (fun hHeld => ?_)
               clear hK K
               refine norm_ (a' := ?_) ?_ ?_
               rotate_left
               ·show Act.put _ (some 69) _ = _
                simp only [Act.put, List.setIfInBounds_toArray, List.set_cons_zero, List.set_cons_succ, i64_w, i32_w]
                rfl
               refine pS 8 61 13 511 ?_
               refine pS 9 70 13 1023 ?_
               refine pS 10 71 13 2047 ?_
               refine last_ (i := 11) (N := none) (ba 13 4095) rfl rfl (one_of HT_.out (by kernel_rfl)) (by decide) (fun K hK => ?_)
               have hs65 : w64.cell? ⟨gb357, 0, none⟩ = some (.int .i64 x358000_3) := bc BK357 0
               have hfs65 := fz BK357 0
               have hns65_0 := NB331_357.out
               have hns65_1 := NB332_357.out
               have hns65_2 := NB343_357.out
               have hms65_0 := NB357_331.out
               have hms65_1 := NB357_332.out
               have hms65_2 := NB357_343.out
               have hs66 : w64.cell? ⟨gb357, 1, none⟩ = some (.int .i64 x358001_3) := bc BK357 1
               have hfs66 := fz BK357 1
               have hns66_0 := NB331_357.out
               have hns66_1 := NB332_357.out
               have hns66_2 := NB343_357.out
               have hms66_0 := NB357_331.out
               have hms66_1 := NB357_332.out
               have hms66_2 := NB357_343.out
               refine skip_ (w1 := ?_) (by rfl) rfl ?_ ?_
               rotate_left
               ·go_simp
                rfl
               refine hK.out _ _ ?_
               clear hK K
               refine pS 12 14 13 8191 ?_
               refine done_ (done_of HT_.out (by kernel_rfl)) ?_
               have p366 : 0 ≤ (x56_3 : Int) := dA
               have q366 : x56_3 < (t353.length : Int) := dA
               obtain ⟨ad366, e366, hx366_0, hx366_1⟩ := at_T26 (Kd.R_reads' HO_7.out).2.2 x56_3 p366 q366
               obtain rfl : ad360 = ad366 := (by injection e366)
               have hn366_0 : ad360.block ≠ gb357 := Kd.own_blk (Kd.R_away HO_7.out (fun _ hk => hk.2.2))
               have hn366_1 : ad360.block ≠ gb357 := Kd.own_blk (Kd.R_away HO_7.out (fun _ hk => hk.2.2))
               replace hx366_0 := (cell_far (p := ⟨gb357, 0, none⟩) (by first | (rw [add_block]; exact hn366_0) | (show (Addr.add _ _).block ≠ _; rw [add_block]; exact hn366_0) | exact hn366_0) (.int .i64 t363)).trans hx366_0
               replace hx366_1 := (cell_far (p := ⟨gb357, 0, none⟩) (by first | (rw [add_block]; exact hn366_0) | (show (Addr.add _ _).block ≠ _; rw [add_block]; exact hn366_0) | exact hn366_0) (.int .i64 t363)).trans hx366_1
               replace hx366_0 := (cell_far (p := ⟨gb357, 1, none⟩) (by first | (rw [add_block]; exact hn366_1) | (show (Addr.add _ _).block ≠ _; rw [add_block]; exact hn366_1) | exact hn366_1) (.int .i64 t364)).trans hx366_0
               replace hx366_1 := (cell_far (p := ⟨gb357, 1, none⟩) (by first | (rw [add_block]; exact hn366_1) | (show (Addr.add _ _).block ≠ _; rw [add_block]; exact hn366_1) | exact hn366_1) (.int .i64 t364)).trans hx366_1
               clear hn366_0
               clear hn366_1
               replace p366 := eq_true p366
               replace q366 := eq_true q366
               try go_wp2
               go_roundg k3
               case measure => have := HJ4.out; have := HJ30.out; have := HK3.out; omega
               case rel => exact ⟨(ji59), (ji60), (wrap64 (x56_3 + 1)), (t363), (t364), (by first | rfl | (simp; done) | (simp only [← hji59] <;> (first | rfl | simp)) | (simp [*]; done)), (by first | rfl | (simp; done) | (simp only [← hji60] <;> (first | rfl | simp)) | (simp [*]; done)), (by first | rfl | (simp; done) | (simp [*]; done)), H', ⟨by have := HJ4.out; have := HJ30.out; have := HK3.out; omega⟩, ⟨by (with_reducible repeat (first | apply Kd.R_alloc | apply Kd.R_drewN | apply Kd.R_drew)); exact Kd.R_mono (Kd.R_far (p := ⟨gb357, 1, none⟩) (Kd.R_far (p := ⟨gb357, 0, none⟩) (Kd.R_mono HO_7.out (fun k_ hk => (⟨hk, hk.2.2⟩ : _ ∧ k_ ≠ gb357))) (fun _ hk => hk.2) (.int .i64 t363)) (fun _ hk => hk.2) (.int .i64 t364)) (fun _ hk => ⟨hk.1.1, ⟨hk.1.2.1, hk.1.2.2⟩⟩)⟩, ⟨bF BK331⟩, ⟨bF BK332⟩, ⟨bF BK343⟩, ⟨by (with_reducible repeat (first | refine blk_drewN ?_ _ | refine blk_drew ?_ | refine blk_alloc ?_ _)); refine blk_put (cs := #[.int .i64 t363, .int .i64 x358001_3]) ?_ 1 _ rfl; (with_reducible repeat (first | refine blk_drewN ?_ _ | refine blk_drew ?_ | refine blk_alloc ?_ _)); refine blk_put (cs := #[.int .i64 x358000_3, .int .i64 x358001_3]) ?_ 0 _ rfl; (with_reducible repeat (first | refine blk_drewN ?_ _ | refine blk_drew ?_ | refine blk_alloc ?_ _)); exact BK357.out⟩, ⟨hbC _⟩⟩
              ·rw [if_neg c58] at H
               have c58b0 : decide (0 < ((rd_T26 t353 x56_3).f0)) = false := decide_eq_false c58
               clear c58
               have H' := Aside0.mk H
               clear H
               have p359 : 0 ≤ (x56_3 : Int) := dA
               have q359 : x56_3 < (l0_2.length : Int) := dA
               obtain ⟨ad359, e359, hx359_0⟩ := Kd.at_int HR0_2.out x56_3 p359 q359
               cases e359
               try replace hx359_0 := (HB.out.cell (World.block_lt_of_cell? w _ hx359_0)).trans hx359_0
               replace p359 := eq_true p359
               replace q359 := eq_true q359
               try go_wp2
               replace HO_7 := Aside0.mk (Kd.R_drew HO_7.out)
               replace BK331 := kd BK331
               replace BK332 := kd BK332
               replace BK343 := kd BK343
               replace BK357 := kd BK357
               replace HB := Aside0.mk (below_drew1 HB.out)
               obtain ⟨Ao68, co68, eo68⟩ := Kd.R_slice HO_7.out
               (first | subst eo68 | (injection eo68 with f1_ f2_ f3_; have f4_ := f1_.symm; have f5_ := f3_.symm; clear f1_ f2_ f3_; subst f4_; subst f5_))
               have p360 : 0 ≤ (x56_3 : Int) := dA
               have q360 : x56_3 < (t353.length : Int) := dA
               obtain ⟨ad360, e360, hx360_0, hx360_1⟩ := at_T26 (Kd.R_reads' HO_7.out).2.2 x56_3 p360 q360
               cases e360
               replace p360 := eq_true p360
               replace q360 := eq_true q360
               refine sS (n := 13) (S := fun w' => w'.cell? ⟨gb357, 0, none⟩ = some (.int .i64 x358000_3) ∧ w'.cell? ⟨gb357, 1, none⟩ = some (.int .i64 x358001_3) ∧ w'.cell? (ad360.add ((x56_3).toNat * 2)) = some (.int .i64 ((rd_T26 t353 x56_3).f0)) ∧ w'.cell? ⟨(ad360.add ((x56_3).toNat * 2)).block, (ad360.add ((x56_3).toNat * 2)).off + 1, none⟩ = some (.int .i64 ((rd_T26 t353 x56_3).f1))) (ds := [11]) ⟨bc BK357 0, bc BK357 1, hx360_0, hx360_1⟩ (fun hHeld => ?_); refine with_tabW congoulaw04_CurvesBetween.tab13 congoulaw04_CurvesBetween.bits13 (fun HT_ HW_ => ?_)
               generalize wr.drew = w67 at HO_7 BK331 BK332 BK343 BK357 HB hx360_0 hx360_1 hHeld ⊢
               refine pS 1 63 13 2 ?_
               refine pS 2 64 13 6 ?_
               refine pS 3 65 13 14 ?_
               refine pS 5 67 13 46 ?_
               refine tS 0 62 13 47 ?_
               refine tS 4 66 13 63 ?_
               refine one_ (i := 6) (N := some 68) (ba 13 127) rfl rfl (one_of HT_.out (by kernel_rfl)) (by decide) (fun K hK => ?_)
               refine gC Try.func20 #[.int .i64 (rd l0_2 x56_3)] ?_
               with_reducible refine (congoulaw04_whole.calls (rd l0_2 x56_3) t361 t362 _ A55.out).mono ?_
               rintro e w69 ⟨rfl, hb⟩
               have HS2_ := (hb.cell (World.block_lt_of_cell? _ _ (hHeld.2.2.1))).trans (hHeld.2.2.1)
               have HS3_ := (hb.cell (World.block_lt_of_cell? _ _ (hHeld.2.2.2))).trans (hHeld.2.2.2)
               refine ⟨_, rfl, ?_⟩
               replace HO_7 := kO HO_7 hb
               replace BK331 := kB BK331 hb
               replace BK332 := kB BK332 hb
               replace BK343 := kB BK343 hb
               replace BK357 := kB BK357 hb
               replace HB := kH _ hb
               (try clear hb)
               (try clear hb2)
               (try clear hk)
               (try clear hi)
               refine hK.out _ _ ⟨bc BK357 0, bc BK357 1, HS2_, HS3_⟩ (fun hHeld => ?_)
               clear hK K
               refine norm_ (a' := ?_) ?_ ?_
               rotate_left
               ·show Act.put _ (some 68) _ = _
                simp only [Act.put, List.setIfInBounds_toArray, List.set_cons_zero, List.set_cons_succ, i64_w, i32_w]
                rfl
               refine one_ (i := 7) (N := some 69) (ba 13 255) rfl rfl (one_of HT_.out (by kernel_rfl)) (by decide) (fun K hK => ?_)
               refine gC Try.func19 #[.agg #[.int .i64 x358000_3, .int .i64 x358001_3], .agg #[.int .i64 ((rd_T26 t353 x56_3).f0), .int .i64 ((rd_T26 t353 x56_3).f1)], .agg #[.int .i64 t361, .int .i64 t362]] ?_
               with_reducible refine (congoulaw04_more.calls k3 x358000_3 x358001_3 ((rd_T26 t353 x56_3).f0) ((rd_T26 t353 x56_3).f1) t361 t362 t363 t364 true _ A56.out).mono ?_
               rintro e w70 ⟨rfl, hb⟩
               have HS2_ := (hb.cell (World.block_lt_of_cell? _ _ (hHeld.2.2.1))).trans (hHeld.2.2.1)
               have HS3_ := (hb.cell (World.block_lt_of_cell? _ _ (hHeld.2.2.2))).trans (hHeld.2.2.2)
               refine ⟨_, rfl, ?_⟩
               replace HO_7 := kO HO_7 hb
               replace BK331 := kB BK331 hb
               replace BK332 := kB BK332 hb
               replace BK343 := kB BK343 hb
               replace BK357 := kB BK357 hb
               replace HB := kH _ hb
               (try clear hb)
               (try clear hb2)
               (try clear hk)
               (try clear hi)
               refine hK.out _ _ ⟨bc BK357 0, bc BK357 1, HS2_, HS3_⟩ (fun hHeld => ?_)
               clear hK K
               refine norm_ (a' := ?_) ?_ ?_
               rotate_left
               ·show Act.put _ (some 69) _ = _
                simp only [Act.put, List.setIfInBounds_toArray, List.set_cons_zero, List.set_cons_succ, i64_w, i32_w]
                rfl
               refine pS 8 61 13 511 ?_
               refine pS 9 70 13 1023 ?_
               refine pS 10 71 13 2047 ?_
               refine last_ (i := 11) (N := none) (ba 13 4095) rfl rfl (one_of HT_.out (by kernel_rfl)) (by decide) (fun K hK => ?_)
               have hs71 : w70.cell? ⟨gb357, 0, none⟩ = some (.int .i64 x358000_3) := bc BK357 0
               have hfs71 := fz BK357 0
               have hns71_0 := NB331_357.out
               have hns71_1 := NB332_357.out
               have hns71_2 := NB343_357.out
               have hms71_0 := NB357_331.out
               have hms71_1 := NB357_332.out
               have hms71_2 := NB357_343.out
               have hs72 : w70.cell? ⟨gb357, 1, none⟩ = some (.int .i64 x358001_3) := bc BK357 1
               have hfs72 := fz BK357 1
               have hns72_0 := NB331_357.out
               have hns72_1 := NB332_357.out
               have hns72_2 := NB343_357.out
               have hms72_0 := NB357_331.out
               have hms72_1 := NB357_332.out
               have hms72_2 := NB357_343.out
               refine skip_ (w1 := ?_) (by rfl) rfl ?_ ?_
               rotate_left
               ·go_simp
                rfl
               refine hK.out _ _ ?_
               clear hK K
               refine pS 12 14 13 8191 ?_
               refine done_ (done_of HT_.out (by kernel_rfl)) ?_
               have p366 : 0 ≤ (x56_3 : Int) := dA
               have q366 : x56_3 < (t353.length : Int) := dA
               obtain ⟨ad366, e366, hx366_0, hx366_1⟩ := at_T26 (Kd.R_reads' HO_7.out).2.2 x56_3 p366 q366
               obtain rfl : ad360 = ad366 := (by injection e366)
               have hn366_0 : ad360.block ≠ gb357 := Kd.own_blk (Kd.R_away HO_7.out (fun _ hk => hk.2.2))
               have hn366_1 : ad360.block ≠ gb357 := Kd.own_blk (Kd.R_away HO_7.out (fun _ hk => hk.2.2))
               replace hx366_0 := (cell_far (p := ⟨gb357, 0, none⟩) (by first | (rw [add_block]; exact hn366_0) | (show (Addr.add _ _).block ≠ _; rw [add_block]; exact hn366_0) | exact hn366_0) (.int .i64 t363)).trans hx366_0
               replace hx366_1 := (cell_far (p := ⟨gb357, 0, none⟩) (by first | (rw [add_block]; exact hn366_0) | (show (Addr.add _ _).block ≠ _; rw [add_block]; exact hn366_0) | exact hn366_0) (.int .i64 t363)).trans hx366_1
               replace hx366_0 := (cell_far (p := ⟨gb357, 1, none⟩) (by first | (rw [add_block]; exact hn366_1) | (show (Addr.add _ _).block ≠ _; rw [add_block]; exact hn366_1) | exact hn366_1) (.int .i64 t364)).trans hx366_0
               replace hx366_1 := (cell_far (p := ⟨gb357, 1, none⟩) (by first | (rw [add_block]; exact hn366_1) | (show (Addr.add _ _).block ≠ _; rw [add_block]; exact hn366_1) | exact hn366_1) (.int .i64 t364)).trans hx366_1
               clear hn366_0
               clear hn366_1
               replace p366 := eq_true p366
               replace q366 := eq_true q366
               try go_wp2
               go_roundg k3
               case measure => have := HJ4.out; have := HJ30.out; have := HK3.out; omega
               case rel => exact ⟨(x10_3), (x11_3), (wrap64 (x56_3 + 1)), (t363), (t364), (by first | rfl | (simp; done) | (simp [*]; done)), (by first | rfl | (simp; done) | (simp [*]; done)), (by first | rfl | (simp; done) | (simp [*]; done)), H', ⟨by have := HJ4.out; have := HJ30.out; have := HK3.out; omega⟩, ⟨by (with_reducible repeat (first | apply Kd.R_alloc | apply Kd.R_drewN | apply Kd.R_drew)); exact Kd.R_mono (Kd.R_far (p := ⟨gb357, 1, none⟩) (Kd.R_far (p := ⟨gb357, 0, none⟩) (Kd.R_mono HO_7.out (fun k_ hk => (⟨hk, hk.2.2⟩ : _ ∧ k_ ≠ gb357))) (fun _ hk => hk.2) (.int .i64 t363)) (fun _ hk => hk.2) (.int .i64 t364)) (fun _ hk => ⟨hk.1.1, ⟨hk.1.2.1, hk.1.2.2⟩⟩)⟩, ⟨bF BK331⟩, ⟨bF BK332⟩, ⟨bF BK343⟩, ⟨by (with_reducible repeat (first | refine blk_drewN ?_ _ | refine blk_drew ?_ | refine blk_alloc ?_ _)); refine blk_put (cs := #[.int .i64 t363, .int .i64 x358001_3]) ?_ 1 _ rfl; (with_reducible repeat (first | refine blk_drewN ?_ _ | refine blk_drew ?_ | refine blk_alloc ?_ _)); refine blk_put (cs := #[.int .i64 x358000_3, .int .i64 x358001_3]) ?_ 0 _ rfl; (with_reducible repeat (first | refine blk_drewN ?_ _ | refine blk_drew ?_ | refine blk_alloc ?_ _)); exact BK357.out⟩, ⟨hbC _⟩⟩
             ·replace c57 := Bool.eq_false_iff.mpr c57
              subst c57
              have H1 : (some false) = some r := by rw [if_neg (show ¬ (false = true) by decide)] at H; exact H
              clear H
              have H := H1
              clear H1
              exact absurd (H.trans (congrArg some HRT.out)) (by simp)
            ·rw [if_neg c54] at H
             exact absurd H (by simp)
           ·rw [if_neg c53] at H
            exact absurd H (by simp)
          ·rw [if_neg c52] at H
           exact absurd H (by simp)
         ·rw [if_neg c51] at H
          have c51b0 : decide (x56_3 < (l0_2.length : Int)) = false := decide_eq_false c51
          clear c51
          by_cases c73 : (x358000_3 == t340 && (x358001_3 == t341)) = true
          ·rw [if_pos c73] at H
           have c73b0 : (x358000_3 == t340 && (x358001_3 == t341)) = true := c73
           (try (have c73b1 : decide (x358000_3 = t340 && (x358001_3 == t341)) = true := by simpa using c73))
           (try (have c73b2 : (x358000_3 == t340 && (x358001_3 == t341)) = true := by simpa using c73))
           clear c73
           by_cases c74 : t340 ≥ (wrap64 (x10_3 * t341))
           ·rw [if_pos c74] at H
            have c74b0 : decide ((wrap64 (x10_3 * t341)) ≤ t340) = true := decide_eq_true c74
            clear c74
            by_cases c75 : t340 ≤ (wrap64 (x11_3 * t341))
            ·rw [if_pos c75] at H
             have c75b0 : decide (t340 ≤ (wrap64 (x11_3 * t341))) = true := decide_eq_true c75
             clear c75
             replace H := Option.bind_eq_some_iff.mp H
             obtain ⟨t358, A760, H⟩ := H
             replace H : (some t358) = some r := H
             have A76 := Aside0.mk A760
             clear A760
             obtain rfl := Option.some.inj H
             have hnb77 := NB357_331.out
             have hnc77 := NB331_357.out
             have hnb78 := NB357_332.out
             have hnc78 := NB332_357.out
             have hnb79 := NB357_343.out
             have hnc79 := NB343_357.out
             have hcz80_0 : wr.cell? ⟨gb357, 0, none⟩ = some (.int .i64 x358000_3) := bc BK357 0
             have hcz80_1 : wr.cell? ⟨gb357, 1, none⟩ = some (.int .i64 x358001_3) := bc BK357 1
             have hfz80_0 := fz BK357 0
             have hfz80_1 := fz BK357 1
             have hnb81 := NB343_331.out
             have hnc81 := NB331_343.out
             have hnb82 := NB343_332.out
             have hnc82 := NB332_343.out
             have hcz83_0 : wr.cell? ⟨gb343, 0, none⟩ = some (.int .i64 t340) := bc BK343 0
             have hcz83_1 : wr.cell? ⟨gb343, 1, none⟩ = some (.int .i64 t341) := bc BK343 1
             have hfz83_0 := fz BK343 0
             have hfz83_1 := fz BK343 1
             go_wp2_with (first | (go_at_call 17; (with_reducible refine (congoulaw04_awake.calls k3  t358 _ A76.out).mono ?_); rintro e w84 ⟨rfl, hb⟩; replace HO_7 := kO HO_7 hb; replace BK331 := kB BK331 hb; replace BK332 := kB BK332 hb; replace BK343 := kB BK343 hb; replace BK357 := kB BK357 hb; replace HB := kH _ hb; (try clear hb); (try clear hb2); (try clear hk); (try clear hi)))
             go_ret
             exact ⟨by first | rfl | (simp [errW_none, errW_some] <;> rfl) | (simp [*, errW_none, errW_some] <;> rfl), hbC _⟩
            ·rw [if_neg c75] at H
             have c75b0 : decide (t340 ≤ (wrap64 (x11_3 * t341))) = false := decide_eq_false c75
             clear c75
             exact absurd (H.trans (congrArg some HRT.out)) (by simp)
           ·rw [if_neg c74] at H
            have c74b0 : decide ((wrap64 (x10_3 * t341)) ≤ t340) = false := decide_eq_false c74
            clear c74
            exact absurd (H.trans (congrArg some HRT.out)) (by simp)
          ·rw [if_neg c73] at H
           have c73b0 : (x358000_3 == t340 && (x358001_3 == t341)) = false := by simpa using c73
           (try (have c73b1 : decide (x358000_3 = t340 && (x358001_3 == t341)) = false := by simpa using c73))
           (try (have c73b2 : (x358000_3 == t340 && (x358001_3 == t341)) = false := by simpa using c73))
           (try (have c73b3 : ¬ (x358000_3 = t340 && (x358001_3 == t341)) := by simpa using c73))
           clear c73
           exact absurd (H.trans (congrArg some HRT.out)) (by simp)

end Go.Proofs.Ytpnocmkpeogifaa.X
