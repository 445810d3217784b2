-- Written by a program of this work (wip/xprint.py, over the kit's printer) out of the translation.
import Derived.Test.YtpnocmkpeogifaaDoorX0
import Derived.Test.YtpnocmkpeogifaaDoorXG4a
import Derived.Test.YtpnocmkpeogifaaDoorXf10
import Derived.Test.YtpnocmkpeogifaaDoorXf6
import Derived.Test.YtpnocmkpeogifaaDoorXf7
import Derived.Test.YtpnocmkpeogifaaDoorXf9
import Derived.Test.YtpnocmkpeogifaaDoorXq0
import Derived.Test.YtpnocmkpeogifaaDoorEG
namespace Go.Proofs.YtpnocmkpeogifaaDoor.X
open Go.RowKit Go.Proofs.YtpnocmkpeogifaaDoorW.PrintWords Go.Proofs.YtpnocmkpeogifaaDoorW.PrintLast Go.Proofs.YtpnocmkpeogifaaDoorW.PrintMore
attribute [local go_sem] max2_int min2_int max_two min_two max_three min_three max_four min_four   -- for this text's walks alone
set_option linter.unusedVariables false
set_option linter.unusedSimpArgs false

attribute [local go_sem high] eqA26
/-! ### congoulaw04_CurvesOne: function 3 -/
mutual
def congoulaw04_CurvesOne.j0 : Nat → List (S26) → Int → Bool → Int → List Int → List Int → Option (Bool)
 | 0, _, _, _, _, _, _ => none
 | k + 1, x5, x6, x27, x331000, x331001, x331002 => if x27 = true then (if x6 = 2 then ((congoulaw04_awake.f k).bind fun t344 => (some t344)) else (some false)) else (if (x5.length : Int) = (x331002.length : Int) then (congoulaw04_CurvesOne.l0 k (-1) (-1) x5 (x5.length : Int) 0 x331000 x331001 x331002 0 1) else (some false))
def congoulaw04_CurvesOne.l0 : Nat → Int → Int → List (S26) → Int → Int → Int → List Int → List Int → Int → Int → Option (Bool)
 | 0, _, _, _, _, _, _, _, _, _, _ => none
 | k + 1, x8, x9, x40, x41, x42, x331000, x331001, x331002, x346000, x346001 => if x42 < x41 then (if 0 ≤ x42 then (if x42 < (x40.length : Int) then ((congoulaw04_more.f k x346000 x346001 ((rd_T26 x40 x42).f0) ((rd_T26 x40 x42).f1) 1 1).bind fun bt349 => (if bt349.2.2 = true then (if ((rd_T26 x40 x42).f0) < 0 then (congoulaw04_CurvesOne.j2 k x8 x9 x42 x40 x41 x42 true x331000 x331001 x331002 bt349.1 bt349.2.1 ((rd_T26 x40 x42).f0) ((rd_T26 x40 x42).f1)) else (congoulaw04_CurvesOne.j2 k x8 x9 x42 x40 x41 x42 (decide (((rd_T26 x40 x42).f0) > ((rd_T26 x40 x42).f1))) x331000 x331001 x331002 bt349.1 bt349.2.1 ((rd_T26 x40 x42).f0) ((rd_T26 x40 x42).f1))) else (congoulaw04_CurvesOne.j2 k x8 x9 x42 x40 x41 x42 true x331000 x331001 x331002 bt349.1 bt349.2.1 ((rd_T26 x40 x42).f0) ((rd_T26 x40 x42).f1)))) else (none)) else (none)) else (if (x346000 == 1 && (x346001 == 1)) = true then (if (wrap64 (x9 - x8)) ≤ x331000 then ((congoulaw04_awake.f k).bind fun t346 => (some t346)) else (some false)) else (some false))
def congoulaw04_CurvesOne.j2 : Nat → Int → Int → Int → List (S26) → Int → Int → Bool → Int → List Int → List Int → Int → Int → Int → Int → Option (Bool)
 | 0, _, _, _, _, _, _, _, _, _, _, _, _, _, _ => none
 | k + 1, x8, x9, x10, x40, x41, x42, x67, x331000, x331001, x331002, x346000, x346001, x349000, x349001 => if x67 = true then (some false) else (if x349000 > 0 then (if x8 < 0 then (congoulaw04_CurvesOne.l0 k x10 x10 x40 x41 (wrap64 (x42 + 1)) x331000 x331001 x331002 x346000 x346001) else (congoulaw04_CurvesOne.l0 k x8 x10 x40 x41 (wrap64 (x42 + 1)) x331000 x331001 x331002 x346000 x346001)) else (congoulaw04_CurvesOne.l0 k x8 x9 x40 x41 (wrap64 (x42 + 1)) x331000 x331001 x331002 x346000 x346001))
end
def congoulaw04_CurvesOne.f (k : Nat) (a0_0 : Int) (l0_1 : List Int) (l0_2 : List Int) (a1_0 : Int) (a1_1 : Int) : Option (Bool) := (congoulaw04_Of.f a0_0 l0_1 l0_2).bind fun bt332 => ((curves_Basic.f k bt332.1 bt332.2.1 bt332.2.2 a1_0 a1_1).bind fun bt339 => (if bt339.2 = 0 then ((congoulaw04_fine.f k a0_0 l0_1 l0_2 a1_0 a1_1).bind fun t343 => (congoulaw04_CurvesOne.j0 k bt339.1 bt339.2 (!t343) a0_0 l0_1 l0_2)) else (congoulaw04_CurvesOne.j0 k bt339.1 bt339.2 true a0_0 l0_1 l0_2)))
theorem congoulaw04_CurvesOne.mono_l : ∀ k, (∀ y0 y1 y2 y3 y4 y5, LeO (congoulaw04_CurvesOne.j0 k y0 y1 y2 y3 y4 y5) (congoulaw04_CurvesOne.j0 (k + 1) y0 y1 y2 y3 y4 y5)) ∧ (∀ y0 y1 y2 y3 y4 y5 y6 y7 y8 y9, LeO (congoulaw04_CurvesOne.l0 k y0 y1 y2 y3 y4 y5 y6 y7 y8 y9) (congoulaw04_CurvesOne.l0 (k + 1) y0 y1 y2 y3 y4 y5 y6 y7 y8 y9)) ∧ (∀ y0 y1 y2 y3 y4 y5 y6 y7 y8 y9 y10 y11 y12 y13, LeO (congoulaw04_CurvesOne.j2 k y0 y1 y2 y3 y4 y5 y6 y7 y8 y9 y10 y11 y12 y13) (congoulaw04_CurvesOne.j2 (k + 1) y0 y1 y2 y3 y4 y5 y6 y7 y8 y9 y10 y11 y12 y13))
 | 0 => ⟨fun _ _ _ _ _ _ r h => by simp [congoulaw04_CurvesOne.j0] at h, fun _ _ _ _ _ _ _ _ _ _ r h => by simp [congoulaw04_CurvesOne.l0] at h, fun _ _ _ _ _ _ _ _ _ _ _ _ _ _ r h => by simp [congoulaw04_CurvesOne.j2] at h⟩
 | k + 1 => by
  obtain ⟨ih0, ih1, ih2⟩ := congoulaw04_CurvesOne.mono_l k
  refine ⟨?_, ?_, ?_⟩
  ·intro y0 y1 y2 y3 y4 y5
   unfold congoulaw04_CurvesOne.j0
   repeat' first
   | (with_reducible exact ih0 _ _ _ _ _ _)
   | (with_reducible exact ih1 _ _ _ _ _ _ _ _ _ _)
   | (with_reducible exact ih2 _ _ _ _ _ _ _ _ _ _ _ _ _ _)
   | (with_reducible exact congoulaw04_awake.mono _)
   | (with_reducible exact congoulaw04_fine.mono _ _ _ _ _ _)
   | (with_reducible exact congoulaw04_more.mono _ _ _ _ _ _ _)
   | (with_reducible exact curves_Basic.mono _ _ _ _ _ _)
   | (with_reducible exact LeO.refl _)
   | (with_reducible exact LeO.none _)
   | (with_reducible refine LeO.ite ?_ ?_)
   | (with_reducible refine LeO.bind ?_ (fun _ => ?_))
   | exact ih0 _ _ _ _ _ _
   | exact ih1 _ _ _ _ _ _ _ _ _ _
   | exact ih2 _ _ _ _ _ _ _ _ _ _ _ _ _ _
   | exact congoulaw04_awake.mono _
   | exact congoulaw04_fine.mono _ _ _ _ _ _
   | exact congoulaw04_more.mono _ _ _ _ _ _ _
   | exact curves_Basic.mono _ _ _ _ _ _
   | exact LeO.none _
   | refine LeO.ite ?_ ?_
   | refine LeO.bind ?_ (fun _ => ?_)
  ·intro y0 y1 y2 y3 y4 y5 y6 y7 y8 y9
   unfold congoulaw04_CurvesOne.l0
   repeat' first
   | (with_reducible exact ih0 _ _ _ _ _ _)
   | (with_reducible exact ih1 _ _ _ _ _ _ _ _ _ _)
   | (with_reducible exact ih2 _ _ _ _ _ _ _ _ _ _ _ _ _ _)
   | (with_reducible exact congoulaw04_awake.mono _)
   | (with_reducible exact congoulaw04_fine.mono _ _ _ _ _ _)
   | (with_reducible exact congoulaw04_more.mono _ _ _ _ _ _ _)
   | (with_reducible exact curves_Basic.mono _ _ _ _ _ _)
   | (with_reducible exact LeO.refl _)
   | (with_reducible exact LeO.none _)
   | (with_reducible refine LeO.ite ?_ ?_)
   | (with_reducible refine LeO.bind ?_ (fun _ => ?_))
   | exact ih0 _ _ _ _ _ _
   | exact ih1 _ _ _ _ _ _ _ _ _ _
   | exact ih2 _ _ _ _ _ _ _ _ _ _ _ _ _ _
   | exact congoulaw04_awake.mono _
   | exact congoulaw04_fine.mono _ _ _ _ _ _
   | exact congoulaw04_more.mono _ _ _ _ _ _ _
   | exact curves_Basic.mono _ _ _ _ _ _
   | exact LeO.none _
   | refine LeO.ite ?_ ?_
   | refine LeO.bind ?_ (fun _ => ?_)
  ·intro y0 y1 y2 y3 y4 y5 y6 y7 y8 y9 y10 y11 y12 y13
   unfold congoulaw04_CurvesOne.j2
   repeat' first
   | (with_reducible exact ih0 _ _ _ _ _ _)
   | (with_reducible exact ih1 _ _ _ _ _ _ _ _ _ _)
   | (with_reducible exact ih2 _ _ _ _ _ _ _ _ _ _ _ _ _ _)
   | (with_reducible exact congoulaw04_awake.mono _)
   | (with_reducible exact congoulaw04_fine.mono _ _ _ _ _ _)
   | (with_reducible exact congoulaw04_more.mono _ _ _ _ _ _ _)
   | (with_reducible exact curves_Basic.mono _ _ _ _ _ _)
   | (with_reducible exact LeO.refl _)
   | (with_reducible exact LeO.none _)
   | (with_reducible refine LeO.ite ?_ ?_)
   | (with_reducible refine LeO.bind ?_ (fun _ => ?_))
   | exact ih0 _ _ _ _ _ _
   | exact ih1 _ _ _ _ _ _ _ _ _ _
   | exact ih2 _ _ _ _ _ _ _ _ _ _ _ _ _ _
   | exact congoulaw04_awake.mono _
   | exact congoulaw04_fine.mono _ _ _ _ _ _
   | exact congoulaw04_more.mono _ _ _ _ _ _ _
   | exact curves_Basic.mono _ _ _ _ _ _
   | exact LeO.none _
   | refine LeO.ite ?_ ?_
   | refine LeO.bind ?_ (fun _ => ?_)
theorem congoulaw04_CurvesOne.mono : ∀ a0 a1 a2 a3 a4 k, LeO (congoulaw04_CurvesOne.f k a0 a1 a2 a3 a4) (congoulaw04_CurvesOne.f (k + 1) a0 a1 a2 a3 a4) := by
 intro a0 a1 a2 a3 a4 k
 obtain ⟨ih0, ih1, ih2⟩ := congoulaw04_CurvesOne.mono_l k
 unfold congoulaw04_CurvesOne.f
 repeat' first
   | (with_reducible exact ih0 _ _ _ _ _ _)
   | (with_reducible exact ih1 _ _ _ _ _ _ _ _ _ _)
   | (with_reducible exact ih2 _ _ _ _ _ _ _ _ _ _ _ _ _ _)
   | (with_reducible exact congoulaw04_awake.mono _)
   | (with_reducible exact congoulaw04_fine.mono _ _ _ _ _ _)
   | (with_reducible exact congoulaw04_more.mono _ _ _ _ _ _ _)
   | (with_reducible exact curves_Basic.mono _ _ _ _ _ _)
   | (with_reducible exact LeO.refl _)
   | (with_reducible exact LeO.none _)
   | (with_reducible refine LeO.ite ?_ ?_)
   | (with_reducible refine LeO.bind ?_ (fun _ => ?_))
   | exact ih0 _ _ _ _ _ _
   | exact ih1 _ _ _ _ _ _ _ _ _ _
   | exact ih2 _ _ _ _ _ _ _ _ _ _ _ _ _ _
   | exact congoulaw04_awake.mono _
   | exact congoulaw04_fine.mono _ _ _ _ _ _
   | exact congoulaw04_more.mono _ _ _ _ _ _ _
   | exact curves_Basic.mono _ _ _ _ _ _
   | exact LeO.none _
   | refine LeO.ite ?_ ?_
   | refine LeO.bind ?_ (fun _ => ?_)
def congoulaw04_CurvesOne.T1 : Bool × List (List Nat × List Nat) := (true, [([], []), ([0], [0]), ([], []), ([1, 2, 1], [1, 2]), ([3], [3]), ([4], [4]), ([4], [4]), ([5, 3, 0, 1, 2, 3, 4, 5], [5]), ([6, 7, 0, 1, 2, 3, 4, 5, 6, 7], [6])])
def congoulaw04_CurvesOne.B1 : List Nat := [0, 1, 0, 7, 15, 31, 31, 63, 255]
theorem congoulaw04_CurvesOne.tab1 : rtab .any (opsOf Tryd.f3 1) = congoulaw04_CurvesOne.T1 := by kernel_rfl
theorem congoulaw04_CurvesOne.bits1 : waitsOk congoulaw04_CurvesOne.T1.2 congoulaw04_CurvesOne.B1 = true := by kernel_rfl
set_option maxHeartbeats 8000000 in
set_option maxRecDepth 100000 in
theorem congoulaw04_CurvesOne.calls (k : Nat) (a0_0 : Int) (A0_1 : Option Addr) (c0_1 : Nat) (l0_1 : List Int) (A0_2 : Option Addr) (c0_2 : Nat) (l0_2 : List Int) (a1_0 : Int) (a1_1 : Int) (r : Bool) (w : World) (hr0_1 : Kd.C (Kd.int .i64) w A0_1 l0_1.length l0_1) (hc0_1 : l0_1.length ≤ c0_1) (hr0_2 : Kd.C (Kd.int .i64) w A0_2 l0_2.length l0_2) (hc0_2 : l0_2.length ≤ c0_2) (hrt : r = true) (h : congoulaw04_CurvesOne.f k a0_0 l0_1 l0_2 a1_0 a1_1 = some r) (hG0 : GL w) :
  Calls Tryd.prog 3 #[.agg #[.int .i64 a0_0, .slice A0_1 l0_1.length c0_1, .slice A0_2 l0_2.length c0_2], .agg #[.int .i64 a1_0, .int .i64 a1_1]] w fun e w' => e = .returned (.bool r) ∧ Below w.heap.size w w' := by
 have hG := Aside0.mk hG0
 clear hG0
 have hu24 := Tryd.underlying24
 have hu26 := Tryd.underlying26
 have HR0_1 := Aside0.mk hr0_1
 have HC0_1 := Aside0.mk hc0_1
 clear hr0_1 hc0_1
 have HR0_2 := Aside0.mk hr0_2
 have HC0_2 := Aside0.mk hc0_2
 clear hr0_2 hc0_2
 have HB := ak (Below.refl w.heap.size w)
 have H : ((congoulaw04_Of.f a0_0 l0_1 l0_2).bind fun bt332 => ((curves_Basic.f k bt332.1 bt332.2.1 bt332.2.2 a1_0 a1_1).bind fun bt339 => (if bt339.2 = 0 then ((congoulaw04_fine.f k a0_0 l0_1 l0_2 a1_0 a1_1).bind fun t343 => (congoulaw04_CurvesOne.j0 k bt339.1 bt339.2 (!t343) a0_0 l0_1 l0_2)) else (congoulaw04_CurvesOne.j0 k bt339.1 bt339.2 true a0_0 l0_1 l0_2)))) = some r := h
 clear h
 have HRT := Aside0.mk hrt
 clear hrt
 replace H := Option.bind_eq_some_iff.mp H
 obtain ⟨⟨t332, t333, t336⟩, A30, H⟩ := H
 replace H : ((curves_Basic.f k t332 t333 t336 a1_0 a1_1).bind fun bt339 => (if bt339.2 = 0 then ((congoulaw04_fine.f k a0_0 l0_1 l0_2 a1_0 a1_1).bind fun t343 => (congoulaw04_CurvesOne.j0 k bt339.1 bt339.2 (!t343) a0_0 l0_1 l0_2)) else (congoulaw04_CurvesOne.j0 k bt339.1 bt339.2 true a0_0 l0_1 l0_2))) = some r := H
 have A3 := Aside0.mk A30
 clear A30
 replace H := Option.bind_eq_some_iff.mp H
 obtain ⟨⟨t339, t342⟩, A40, H⟩ := H
 replace H : (if t342 = 0 then ((congoulaw04_fine.f k a0_0 l0_1 l0_2 a1_0 a1_1).bind fun t343 => (congoulaw04_CurvesOne.j0 k t339 t342 (!t343) a0_0 l0_1 l0_2)) else (congoulaw04_CurvesOne.j0 k t339 t342 true a0_0 l0_1 l0_2)) = some r := H
 have A4 := Aside0.mk A40
 clear A40
 have HC5 := Aside0.mk H
 clear H
 go_enter Tryd.func3, Tryd.ntmps3
 try go_wp2_with (first | ((with_reducible refine gate_dst (N := 2) rfl ?_); refine bE 2 #[.int .i64 a0_0, .slice A0_1 l0_1.length c0_1, .slice A0_2 l0_2.length c0_2] 24 ?_; intro gb330 hg w6 hbox hb; have BK330 := ak (hbox); have GW330 := kG w hg; have GE330 := kG w hg; replace HB := kH _ hb; clear hb hbox hg) | ((with_reducible refine gate_dst (N := 3) rfl ?_); refine bE 3 #[.int .i64 a1_0, .int .i64 a1_1] 26 ?_; intro gb331 hg w7 hbox hb; have BK331 := ak (hbox); have GW331 := kG w hg; have GE331 := kG w hg; replace HB := kH _ hb; have NB330_331 := kL BK330 hg; have NB331_330 := kR BK330 hg; replace BK330 := kB BK330 hb; clear hb hbox hg))
 replace BK330 := kd BK330
 replace BK331 := kd BK331
 replace HB := ak (below_drew1 HB.out)
 refine sS (n := 9) (S := fun w' => w'.cell? ⟨gb330, 0, none⟩ = some (.int .i64 a0_0) ∧ w'.cell? ⟨gb330, 1, none⟩ = some (.slice A0_1 l0_1.length c0_1) ∧ w'.cell? ⟨gb330, 2, none⟩ = some (.slice A0_2 l0_2.length c0_2) ∧ w'.cell? ⟨gb331, 0, none⟩ = some (.int .i64 a1_0) ∧ w'.cell? ⟨gb331, 1, none⟩ = some (.int .i64 a1_1)) (ds := []) ⟨bc BK330 0, bc BK330 1, bc BK330 2, bc BK331 0, bc BK331 1⟩ (fun hHeld => ?_); refine with_tabW congoulaw04_CurvesOne.tab1 congoulaw04_CurvesOne.bits1 (fun HT_ HW_ => ?_)
 generalize w7.drew = w8 at BK330 BK331 HB hHeld ⊢
 refine tS 0 14 9 1 ?_
 refine tS 2 16 9 5 ?_
 refine one_ (i := 1) (N := some 15) (ba 9 7) rfl rfl (one_of HT_.out (by kernel_rfl)) (by decide) (fun K hK => ?_)
 refine gC Tryd.func7 #[.agg #[.int .i64 a0_0, .slice A0_1 l0_1.length c0_1, .slice A0_2 l0_2.length c0_2]] ?_
 with_reducible refine (congoulaw04_Of.calls a0_0 _ _ l0_1 _ _ l0_2 t332 t333 t336 _ ?side1 ?side2 ?side3 ?side4 A3.out).mono ?_
 (case side1 => exact kC HR0_1)
 (case side2 => exact HC0_1.out)
 (case side3 => exact kC HR0_2)
 (case side4 => exact HC0_2.out)
 rintro e w9 ⟨v334, v337, rfl, ho0, ho1, hb⟩
 refine ⟨_, rfl, ?_⟩
 have HO335 := ak (Kd.R_lower ho0 (below_size (hbC _)))
 have HO338 := ak (Kd.R_lower ho1 (below_size (hbC _)))
 replace BK330 := kB BK330 hb
 replace BK331 := kB BK331 hb
 replace HB := kH _ hb
 (try clear hb)
 (try clear hb2)
 (try clear hk)
 (try clear hi)
 (try clear ho0)
 (try clear ho1)
 obtain ⟨Ao10, co10, eo10⟩ := Kd.R_slice HO335.out
 (first | subst eo10 | (injection eo10 with f1_ f2_ f3_; have f4_ := f1_.symm; have f5_ := f3_.symm; clear f1_ f2_ f3_; subst f4_; subst f5_))
 obtain ⟨Ao11, co11, eo11⟩ := Kd.R_slice HO338.out
 (first | subst eo11 | (injection eo11 with f1_ f2_ f3_; have f4_ := f1_.symm; have f5_ := f3_.symm; clear f1_ f2_ f3_; subst f4_; subst f5_))
 refine hK.out _ _ ⟨bc BK330 0, bc BK330 1, bc BK330 2, bc BK331 0, bc BK331 1⟩ (fun hHeld => ?_)
 clear hK K
 refine norm_ (a' := ?_) ?_ ?_
 rotate_left
 ·show Act.put _ (some 15) _ = _
  simp only [Act.put, List.setIfInBounds_toArray, List.set_cons_zero, List.set_cons_succ, i64_w, i32_w]
  rfl
 refine one_ (i := 3) (N := some 17) (ba 9 15) rfl rfl (one_of HT_.out (by kernel_rfl)) (by decide) (fun K hK => ?_)
 refine gC Tryd.func6 #[.agg #[.int .i64 t332, .slice Ao10 t333.length co10, .slice Ao11 t336.length co11], .agg #[.int .i64 a1_0, .int .i64 a1_1]] ?_
 with_reducible refine (curves_Basic.calls k t332 _ _ t333 _ _ t336 a1_0 a1_1 t339 t342 _ ?side1 ?side2 ?side3 ?side4 A4.out).mono ?_
 (case side1 => exact kD (Kd.R_reads' HO335.out).2.2)
 (case side2 => exact (Kd.R_reads' HO335.out).2.1)
 (case side3 => exact kD (Kd.R_reads' HO338.out).2.2)
 (case side4 => exact (Kd.R_reads' HO338.out).2.1)
 rintro e w12 ⟨v340, rfl, ho0, hb⟩
 refine ⟨_, rfl, ?_⟩
 replace HO335 := kO HO335 hb
 replace HO338 := kO HO338 hb
 have HO341 := ak (Kd.R_lower (Kd.R_newB ho0 (g := gb331) (o := .cells #[.int .i64 a1_0, .int .i64 a1_1] 26 (0, 0)) (bkC BK331)) (below_size (hbC _)))
 replace BK330 := kB BK330 hb
 replace BK331 := kB BK331 hb
 replace HB := kH _ hb
 (try clear hb)
 (try clear hb2)
 (try clear hk)
 (try clear hi)
 (try clear ho0)
 refine hK.out _ _ ⟨bc BK330 0, bc BK330 1, bc BK330 2, bc BK331 0, bc BK331 1⟩ (fun hHeld => ?_)
 clear hK K
 refine norm_ (a' := ?_) ?_ ?_
 rotate_left
 ·show Act.put _ (some 17) _ = _
  simp only [Act.put, List.setIfInBounds_toArray, List.set_cons_zero, List.set_cons_succ, i64_w, i32_w]
  rfl
 refine pS 4 13 9 31 ?_
 refine pS 5 18 9 63 ?_
 refine pS 6 19 9 127 ?_
 refine pS 7 5 9 255 ?_
 refine pS 8 6 9 511 ?_
 refine done_ (done_of HT_.out (by kernel_rfl)) ?_
 go_upto_region 2 with (fail)
 go_cut [27] (fun v27 wc => ∃ (kq : Nat) (x27_4 : Bool), v27 = .bool x27_4 ∧ Aside0 (congoulaw04_CurvesOne.j0 kq t339 t342 x27_4 a0_0 l0_1 l0_2 = some r) ∧ Aside0 (kq ≤ k) ∧ Aside0 (Kd.R k26 26 wc w.heap.size (fun k_ => k_ ≠ gb331) v340 t339) ∧ Aside0 (wc.heap[gb330]? = some (.cells #[.int .i64 a0_0, (.slice A0_1 l0_1.length c0_1), (.slice A0_2 l0_2.length c0_2)] 24 (0, 0))) ∧ Aside0 (wc.heap[gb331]? = some (.cells #[.int .i64 a1_0, .int .i64 a1_1] 26 (0, 0))) ∧ Aside0 (Below w.heap.size w wc))
 case first =>
  have H := HC5.out
  clear HC5
  by_cases c13 : t342 = 0
  rotate_left
  ·rw [if_neg c13] at H
   have c13b0 : (t342 == 0) = false := beq_eq_false_iff_ne.mpr c13
   have c13b1 : (t342 != 0) = true := bne_iff_ne.mpr c13
   (first | rw [c13b0] | (simp only [i64_w, i32_w]; rw [c13b0]) | skip)
   have H' := Aside0.mk H
   clear H
   go_wp2
   go_meet
   case rel => exact ⟨_, (true), (by first | rfl | (simp; done) | (simp [*]; done)), H', ⟨by first | omega | exact Nat.le_refl _⟩, ⟨rD (Kd.R_mono HO341.out (fun _ hk => hk.2))⟩, ⟨bkC BK330⟩, ⟨bkC BK331⟩, ⟨hbC _⟩⟩
  rw [if_pos c13] at H
  have c13b0 : (t342 == 0) = true := beq_iff_eq.mpr c13
  have c13b1 : (t342 != 0) = false := bne_eq_false_iff_eq.mpr c13
  clear c13
  (first | rw [c13b0] | (simp only [i64_w, i32_w]; rw [c13b0]) | skip)
  replace H := Option.bind_eq_some_iff.mp H
  obtain ⟨t343, A140, H⟩ := H
  replace H : (congoulaw04_CurvesOne.j0 k t339 t342 (!t343) a0_0 l0_1 l0_2) = some r := H
  have A14 := Aside0.mk A140
  clear A140
  have H' := Aside0.mk H
  clear H
  have hnb15 := NB330_331.out
  have hnc15 := NB331_330.out
  have hcz16_0 : w12.cell? ⟨gb330, 0, none⟩ = some (.int .i64 a0_0) := bc BK330 0
  have hcz16_1 : w12.cell? ⟨gb330, 1, none⟩ = some (.slice A0_1 l0_1.length c0_1) := bc BK330 1
  have hcz16_2 : w12.cell? ⟨gb330, 2, none⟩ = some (.slice A0_2 l0_2.length c0_2) := bc BK330 2
  have hfz16_0 := fz BK330 0
  have hfz16_1 := fz BK330 1
  have hfz16_2 := fz BK330 2
  have hcz17_0 : w12.cell? ⟨gb331, 0, none⟩ = some (.int .i64 a1_0) := bc BK331 0
  have hcz17_1 : w12.cell? ⟨gb331, 1, none⟩ = some (.int .i64 a1_1) := bc BK331 1
  have hfz17_0 := fz BK331 0
  have hfz17_1 := fz BK331 1
  go_wp2_with (first | (go_at_call 8; (with_reducible refine (congoulaw04_fine.calls k a0_0 _ _ l0_1 _ _ l0_2 a1_0 a1_1 t343 _ ?side1 ?side2 ?side3 ?side4 A14.out).mono ?_); (case side1 => exact kC HR0_1); (case side2 => exact HC0_1.out); (case side3 => exact kC HR0_2); (case side4 => exact HC0_2.out); rintro e w18 ⟨rfl, hb⟩; replace HO335 := kO HO335 hb; replace HO338 := kO HO338 hb; replace HO341 := kO HO341 hb; replace BK330 := kB BK330 hb; replace BK331 := kB BK331 hb; replace HB := kH _ hb; (try clear hb); (try clear hb2); (try clear hk); (try clear hi)))
  go_meet
  case rel => exact ⟨_, (!t343), (by first | rfl | (simp; done) | (simp [*]; done)), H', ⟨by first | omega | exact Nat.le_refl _⟩, ⟨rD (Kd.R_mono HO341.out (fun _ hk => hk.2))⟩, ⟨bkC BK330⟩, ⟨bkC BK331⟩, ⟨hbC _⟩⟩
 case rest =>
  clear HC5
  try clear c1
  try clear p2
  try clear c3
  try clear c6
  try clear c7
  try clear c13
  try clear c13b0
  try clear c13b1
  try clear c15
  try clear hcz16_0
  try clear hcz16_1
  try clear hcz16_2
  try clear hcz17_0
  try clear hcz17_1
  try clear hfz16_0
  try clear hfz16_1
  try clear hfz16_2
  try clear hfz17_0
  try clear hfz17_1
  obtain ⟨kq, x27_4, rfl, HA, HJ4, HO_5, BK330, BK331, HB⟩ := hcut
  cases kq with
  | zero => exact absurd HA.out (by simp [congoulaw04_CurvesOne.j0])
  | succ kj4 =>
   have H := HA.out
   clear HA
   simp only [congoulaw04_CurvesOne.j0] at H
   by_cases c19 : x27_4 = true
   ·subst c19
    have H1 : (if t342 = 2 then ((congoulaw04_awake.f kj4).bind fun t344 => (some t344)) else (some false)) = some r := by rw [if_pos rfl] at H; exact H
    clear H
    have H := H1
    clear H1
    by_cases c20 : t342 = 2
    rotate_left
    ·rw [if_neg c20] at H
     have c20b0 : (t342 == 2) = false := beq_eq_false_iff_ne.mpr c20
     have c20b1 : (t342 != 2) = true := bne_iff_ne.mpr c20
     exact absurd (H.trans (congrArg some HRT.out)) (by simp)
    rw [if_pos c20] at H
    have c20b0 : (t342 == 2) = true := beq_iff_eq.mpr c20
    have c20b1 : (t342 != 2) = false := bne_eq_false_iff_eq.mpr c20
    clear c20
    replace H := Option.bind_eq_some_iff.mp H
    obtain ⟨t344, A210, H⟩ := H
    replace H : (some t344) = some r := H
    have A21 := Aside0.mk A210
    clear A210
    obtain rfl := Option.some.inj H
    go_wp2_with (first | (go_at_call 9; (with_reducible refine (congoulaw04_awake.calls kj4  t344 _ A21.out).mono ?_); rintro e w22 ⟨rfl, hb⟩; replace HO_5 := kO HO_5 hb; replace BK330 := kB BK330 hb; replace BK331 := kB BK331 hb; replace HB := kH _ hb; (try clear hb); (try clear hb2); (try clear hk); (try clear hi)))
    go_ret
    exact ⟨by first | rfl | (simp [errW_none, errW_some] <;> rfl) | (simp [*, errW_none, errW_some] <;> rfl), hbC _⟩
   replace c19 := Bool.eq_false_iff.mpr c19
   subst c19
   have H1 : (if (t339.length : Int) = (l0_2.length : Int) then (congoulaw04_CurvesOne.l0 kj4 (-1) (-1) t339 (t339.length : Int) 0 a0_0 l0_1 l0_2 0 1) else (some false)) = some r := by rw [if_neg (show ¬ (false = true) by decide)] at H; exact H
   clear H
   have H := H1
   clear H1
   by_cases c23 : (t339.length : Int) = (l0_2.length : Int)
   rotate_left
   ·rw [if_neg c23] at H
    have c23b0 : ((t339.length : Int) == (l0_2.length : Int)) = false := beq_eq_false_iff_ne.mpr c23
    have c23b1 : ((t339.length : Int) != (l0_2.length : Int)) = true := bne_iff_ne.mpr c23
    have c23b2 : (t339.length == l0_2.length) = false := by first | simpa using c23 | (simp at c23 ⊢; omega)
    exact absurd (H.trans (congrArg some HRT.out)) (by simp)
   rw [if_pos c23] at H
   have c23b0 : ((t339.length : Int) == (l0_2.length : Int)) = true := beq_iff_eq.mpr c23
   have c23b1 : ((t339.length : Int) != (l0_2.length : Int)) = false := bne_eq_false_iff_eq.mpr c23
   have c23b2 : (t339.length == l0_2.length) = true := by first | simpa using c23 | (simp at c23 ⊢; omega)
   clear c23
   have H' := Aside0.mk H
   clear H
   obtain ⟨Ao24, co24, eo24⟩ := Kd.R_slice HO_5.out
   subst eo24
   have hnb25 := NB330_331.out
   have hnc25 := NB331_330.out
   have hcz26_0 : wc.cell? ⟨gb330, 0, none⟩ = some (.int .i64 a0_0) := bc BK330 0
   have hcz26_1 : wc.cell? ⟨gb330, 1, none⟩ = some (.slice A0_1 l0_1.length c0_1) := bc BK330 1
   have hcz26_2 : wc.cell? ⟨gb330, 2, none⟩ = some (.slice A0_2 l0_2.length c0_2) := bc BK330 2
   have hfz26_0 := fz BK330 0
   have hfz26_1 := fz BK330 1
   have hfz26_2 := fz BK330 2
   go_wp2_with (first | ((with_reducible refine gate_dst (N := 7) rfl ?_); refine bE 7 #[.int .i64 0, .int .i64 0] 26 ?_; intro gb345 hg w27 hbox hb; replace HO_5 := ak (Kd.R_below (Kd.R_elderB (rC HO_5) gb345 (Nat.le_of_eq hg.symm)) hb); have BK345 := ak (hbox); have GW345 := kG w hg; have GE345 := kG w hg; replace HB := kH _ hb; have NB330_345 := kL BK330 hg; have NB345_330 := kR BK330 hg; replace BK330 := kB BK330 hb; have NB331_345 := kL BK331 hg; have NB345_331 := kR BK331 hg; replace BK331 := kB BK331 hb; clear hb hbox hg; have hnb28 := NB345_330.out; have hnc28 := NB330_345.out; have hnb29 := NB345_331.out; have hnc29 := NB331_345.out; have hcz30_0 : w27.cell? ⟨gb345, 0, none⟩ = some (.int .i64 0) := bc BK345 0; have hcz30_1 : w27.cell? ⟨gb345, 1, none⟩ = some (.int .i64 0) := bc BK345 1; have hfz30_0 := fz BK345 0; have hfz30_1 := fz BK345 1))
   go_loopg [8, 9, 42] kj4 (fun kq v8 v9 v42 w' => ∃ (x8_2 : Int) (x9_2 : Int) (x42_2 : Int) (x346000_2 : Int) (x346001_2 : Int), v8 = .int .i64 x8_2 ∧ v9 = .int .i64 x9_2 ∧ v42 = .int .i64 x42_2 ∧ Aside0 (congoulaw04_CurvesOne.l0 kq x8_2 x9_2 t339 (t339.length : Int) x42_2 a0_0 l0_1 l0_2 x346000_2 x346001_2 = some r) ∧ Aside0 (kq ≤ kj4) ∧ Aside0 (Kd.R k26 26 w' w.heap.size (fun k_ => k_ ≠ gb331 ∧ k_ ≠ gb345) (.slice Ao24 t339.length co24) t339) ∧ Aside0 (w'.heap[gb330]? = some (.cells #[.int .i64 a0_0, (.slice A0_1 l0_1.length c0_1), (.slice A0_2 l0_2.length c0_2)] 24 (0, 0))) ∧ Aside0 (w'.heap[gb331]? = some (.cells #[.int .i64 a1_0, .int .i64 a1_1] 26 (0, 0))) ∧ Aside0 (w'.heap[gb345]? = some (.cells #[.int .i64 x346000_2, .int .i64 x346001_2] 26 (0, 0))) ∧ Aside0 (Below w.heap.size w w'))
   case atStart => exact ⟨((-1)), ((-1)), (0), (0), (1), (by first | rfl | (simp; done) | (simp [*]; done)), (by first | rfl | (simp; done) | (simp [*]; done)), (by first | rfl | (simp; done) | (simp [*]; done)), H', ⟨Nat.le_refl _⟩, ⟨rD (Kd.R_mono (Kd.R_far (p := ⟨gb345, 1, none⟩) (Kd.R_far (p := ⟨gb345, 0, none⟩) (Kd.R_mono HO_5.out (fun k_ hk => (⟨hk, hk.2⟩ : _ ∧ k_ ≠ gb345))) (fun _ hk => hk.2) (.int .i64 0)) (fun _ hk => hk.2) (.int .i64 1)) (fun _ hk => ⟨hk.1.1, hk.1.2⟩))⟩, ⟨bF BK330⟩, ⟨bF BK331⟩, ⟨by (with_reducible repeat (first | refine blk_drewN ?_ _ | refine blk_drew ?_ | refine blk_alloc ?_ _)); refine blk_put (cs := #[.int .i64 0, .int .i64 0]) ?_ 1 _ rfl; (with_reducible repeat (first | refine blk_drewN ?_ _ | refine blk_drew ?_ | refine blk_alloc ?_ _)); refine blk_put (cs := #[.int .i64 0, .int .i64 0]) ?_ 0 _ rfl; (with_reducible repeat (first | refine blk_drewN ?_ _ | refine blk_drew ?_ | refine blk_alloc ?_ _)); exact BK345.out⟩, ⟨hbC _⟩⟩
   case round =>
    clear H'
    try clear c1
    try clear c2
    try clear p2
    try clear c3
    try clear c6
    try clear c7
    try clear c13
    try clear c13b0
    try clear c13b1
    try clear c15
    try clear c19
    try clear c20
    try clear c20b0
    try clear c20b1
    try clear c23
    try clear c23b0
    try clear c23b1
    try clear c23b2
    try clear c25
    try clear c28
    try clear c29
    try clear hcz16_0
    try clear hcz16_1
    try clear hcz16_2
    try clear hcz17_0
    try clear hcz17_1
    try clear hcz26_0
    try clear hcz26_1
    try clear hcz26_2
    try clear hcz30_0
    try clear hcz30_1
    try clear hfz16_0
    try clear hfz16_1
    try clear hfz16_2
    try clear hfz17_0
    try clear hfz17_1
    try clear hfz26_0
    try clear hfz26_1
    try clear hfz26_2
    try clear hfz30_0
    try clear hfz30_1
    try clear p2
    obtain ⟨x8_2, x9_2, x42_2, x346000_2, x346001_2, rfl, rfl, rfl, HA, HK2, HO_40, BK330, BK331, BK345, HB⟩ := hrel
    cases gk with
    | zero => exact absurd HA.out (by simp [congoulaw04_CurvesOne.l0])
    | succ k2 =>
     have H := HA.out
     clear HA
     simp only [congoulaw04_CurvesOne.l0] at H
     by_cases c31 : x42_2 < (t339.length : Int)
     rotate_left
     ·rw [if_neg c31] at H
      have c31b0 : decide (x42_2 < (t339.length : Int)) = false := decide_eq_false c31
      clear c31
      have hgl_ := hG.out.below HB.out; have hgl0 := hgl_.1; have hgl1 := hgl_.2; clear hgl_
      by_cases c71 : (x346000_2 == 1 && (x346001_2 == 1)) = true
      rotate_left
      ·rw [if_neg c71] at H
       have c71b0 : (x346000_2 == 1 && (x346001_2 == 1)) = false := by simpa using c71
       (try (have c71b1 : decide (x346000_2 = 1 && (x346001_2 == 1)) = false := by simpa using c71))
       (try (have c71b2 : (x346000_2 == 1 && (x346001_2 == 1)) = false := by simpa using c71))
       (try (have c71b3 : ¬ (x346000_2 = 1 && (x346001_2 == 1)) := by simpa using c71))
       clear c71
       exact absurd (H.trans (congrArg some HRT.out)) (by simp)
      rw [if_pos c71] at H
      have c71b0 : (x346000_2 == 1 && (x346001_2 == 1)) = true := c71
      (try (have c71b1 : decide (x346000_2 = 1 && (x346001_2 == 1)) = true := by simpa using c71))
      (try (have c71b2 : (x346000_2 == 1 && (x346001_2 == 1)) = true := by simpa using c71))
      clear c71
      by_cases c72 : (wrap64 (x9_2 - x8_2)) ≤ a0_0
      rotate_left
      ·rw [if_neg c72] at H
       have c72b0 : decide ((wrap64 (x9_2 - x8_2)) ≤ a0_0) = false := decide_eq_false c72
       clear c72
       exact absurd (H.trans (congrArg some HRT.out)) (by simp)
      rw [if_pos c72] at H
      have c72b0 : decide ((wrap64 (x9_2 - x8_2)) ≤ a0_0) = true := decide_eq_true c72
      clear c72
      replace H := Option.bind_eq_some_iff.mp H
      obtain ⟨t346, A730, H⟩ := H
      replace H : (some t346) = some r := H
      have A73 := Aside0.mk A730
      clear A730
      obtain rfl := Option.some.inj H
      have hnb74 := NB345_330.out
      have hnc74 := NB330_345.out
      have hnb75 := NB345_331.out
      have hnc75 := NB331_345.out
      have hcz76_0 : wr.cell? ⟨gb345, 0, none⟩ = some (.int .i64 x346000_2) := bc BK345 0
      have hcz76_1 : wr.cell? ⟨gb345, 1, none⟩ = some (.int .i64 x346001_2) := bc BK345 1
      have hfz76_0 := fz BK345 0
      have hfz76_1 := fz BK345 1
      have hnb77 := NB330_331.out
      have hnc77 := NB331_330.out
      have hcz78_0 : wr.cell? ⟨gb330, 0, none⟩ = some (.int .i64 a0_0) := bc BK330 0
      have hcz78_1 : wr.cell? ⟨gb330, 1, none⟩ = some (.slice A0_1 l0_1.length c0_1) := bc BK330 1
      have hcz78_2 : wr.cell? ⟨gb330, 2, none⟩ = some (.slice A0_2 l0_2.length c0_2) := bc BK330 2
      have hfz78_0 := fz BK330 0
      have hfz78_1 := fz BK330 1
      have hfz78_2 := fz BK330 2
      go_wp2_with (first | (go_at_call 9; (with_reducible refine (congoulaw04_awake.calls k2  t346 _ A73.out).mono ?_); rintro e w79 ⟨rfl, hb⟩; replace HO_40 := kO HO_40 hb; replace BK330 := kB BK330 hb; replace BK331 := kB BK331 hb; replace BK345 := kB BK345 hb; replace HB := kH _ hb; (try clear hb); (try clear hb2); (try clear hk); (try clear hi)))
      go_ret
      exact ⟨by first | rfl | (simp [errW_none, errW_some] <;> rfl) | (simp [*, errW_none, errW_some] <;> rfl), hbC _⟩
     rw [if_pos c31] at H
     have c31b0 : decide (x42_2 < (t339.length : Int)) = true := decide_eq_true c31
     clear c31
     by_cases c32 : 0 ≤ x42_2
     rotate_left
     ·rw [if_neg c32] at H
      exact absurd H (by simp)
     rw [if_pos c32] at H
     have c32b0 : decide (0 ≤ x42_2) = true := decide_eq_true c32
     clear c32
     by_cases c33 : x42_2 < (t339.length : Int)
     rotate_left
     ·rw [if_neg c33] at H
      exact absurd H (by simp)
     rw [if_pos c33] at H
     have c33b0 : decide (x42_2 < (t339.length : Int)) = true := decide_eq_true c33
     clear c33
     replace H := Option.bind_eq_some_iff.mp H
     obtain ⟨⟨t349, t350, t351⟩, A340, H⟩ := H
     replace H : (if t351 = true then (if ((rd_T26 t339 x42_2).f0) < 0 then (congoulaw04_CurvesOne.j2 k2 x8_2 x9_2 x42_2 t339 (t339.length : Int) x42_2 true a0_0 l0_1 l0_2 t349 t350 ((rd_T26 t339 x42_2).f0) ((rd_T26 t339 x42_2).f1)) else (congoulaw04_CurvesOne.j2 k2 x8_2 x9_2 x42_2 t339 (t339.length : Int) x42_2 (decide (((rd_T26 t339 x42_2).f0) > ((rd_T26 t339 x42_2).f1))) a0_0 l0_1 l0_2 t349 t350 ((rd_T26 t339 x42_2).f0) ((rd_T26 t339 x42_2).f1))) else (congoulaw04_CurvesOne.j2 k2 x8_2 x9_2 x42_2 t339 (t339.length : Int) x42_2 true a0_0 l0_1 l0_2 t349 t350 ((rd_T26 t339 x42_2).f0) ((rd_T26 t339 x42_2).f1))) = some r := H
     have A34 := Aside0.mk A340
     clear A340
     have HC35 := Aside0.mk H
     clear H
     have p347 : 0 ≤ (x42_2 : Int) := dA
     have q347 : x42_2 < (t339.length : Int) := dA
     obtain ⟨ad347, e347, hx347_0, hx347_1⟩ := at_T26 (Kd.R_reads' HO_40.out).2.2 x42_2 p347 q347
     cases e347
     replace p347 := eq_true p347
     replace q347 := eq_true q347
     go_upto_region 13 with (first | ((with_reducible refine gate_dst (N := 11) rfl ?_); refine bE 11 #[.int .i64 0, .int .i64 0] 26 ?_; intro gb348 hg w36 hbox hb; have n0_ := ak (Kd.R_below (Kd.R_elderB (rC HO_40) gb348 (Nat.le_of_eq hg.symm)) hb); have n1_ := kB BK330 hb; have n2_ := kB BK331 hb; have n3_ := kB BK345 hb; have n4_ := kH _ hb; have n5_ := ak (hbox); have n6_ := kG w hg; have n7_ := kG w hg; have n8_ := kL BK330 hg; have n9_ := kR BK330 hg; have n10_ := kL BK331 hg; have n11_ := kR BK331 hg; have n12_ := kL BK345 hg; have n13_ := kR BK345 hg; clear HO_40; clear BK330; clear BK331; clear BK345; clear HB; have HO_40 := n0_; have BK330 := n1_; have BK331 := n2_; have BK345 := n3_; have HB := n4_; have BK348 := n5_; have GW348 := n6_; have GE348 := n7_; have hgl_ := hG.out.below HB.out; have hgl0 := hgl_.1; have hgl1 := hgl_.2; clear hgl_; have hngG := hG.out.ne GE348.out; have hngH := hngG.symm; have NB330_348 := n8_; have NB348_330 := n9_; have NB331_348 := n10_; have NB348_331 := n11_; have NB345_348 := n12_; have NB348_345 := n13_; clear n0_ n1_ n2_ n3_ n4_ n5_ n6_ n7_ n8_ n9_ n10_ n11_ n12_ n13_; clear hb hbox hg; have hnb37 := NB348_330.out; have hnc37 := NB330_348.out; have hnb38 := NB348_331.out; have hnc38 := NB331_348.out; have hnb39 := NB348_345.out; have hnc39 := NB345_348.out; have hcz40_0 : w36.cell? ⟨gb348, 0, none⟩ = some (.int .i64 0) := bc BK348 0; have hcz40_1 : w36.cell? ⟨gb348, 1, none⟩ = some (.int .i64 0) := bc BK348 1; have hfz40_0 := fz BK348 0; have hfz40_1 := fz BK348 1; have hnb41 := NB345_330.out; have hnc41 := NB330_345.out; have hnb42 := NB345_331.out; have hnc42 := NB331_345.out; have hcz43_0 : w36.cell? ⟨gb345, 0, none⟩ = some (.int .i64 x346000_2) := bc BK345 0; have hcz43_1 : w36.cell? ⟨gb345, 1, none⟩ = some (.int .i64 x346001_2) := bc BK345 1; have hfz43_0 := fz BK345 0; have hfz43_1 := fz BK345 1) | ((with_reducible refine gate_callee (f := 10) rfl ?_); refine gL 51 Tryd.func10 #[.agg #[.int .i64 x346000_2, .int .i64 x346001_2], .agg #[.int .i64 ((rd_T26 t339 x42_2).f0), .int .i64 ((rd_T26 t339 x42_2).f1)], .agg #[.int .i64 1, .int .i64 1]] ?_; (with_reducible refine (congoulaw04_more.calls k2 x346000_2 x346001_2 ((rd_T26 t339 x42_2).f0) ((rd_T26 t339 x42_2).f1) 1 1 t349 t350 t351 _ A34.out).mono ?_); rintro e w44 ⟨rfl, hb⟩; refine ⟨_, rfl, ?_⟩; replace HO_40 := ak (Kd.R_below (rD ((Kd.R_mono (Kd.R_far (p := ⟨gb348, 1, none⟩) (Kd.R_far (p := ⟨gb348, 0, none⟩) (Kd.R_mono HO_40.out (fun k_ hk => (⟨hk, hk.2⟩ : _ ∧ k_ ≠ gb348))) (fun _ hk => hk.2) (.int .i64 ((rd_T26 t339 x42_2).f0))) (fun _ hk => hk.2) (.int .i64 ((rd_T26 t339 x42_2).f1))) (fun _ h_ => h_.1)))) hb); replace BK330 := ak (blk_below (g := gb330) (o := .cells #[.int .i64 a0_0, .slice A0_1 l0_1.length c0_1, .slice A0_2 l0_2.length c0_2] 24 (0, 0)) (bF BK330) hb); replace BK331 := ak (blk_below (g := gb331) (o := .cells #[.int .i64 a1_0, .int .i64 a1_1] 26 (0, 0)) (bF BK331) hb); replace BK345 := ak (blk_below (g := gb345) (o := .cells #[.int .i64 x346000_2, .int .i64 x346001_2] 26 (0, 0)) (bF BK345) hb); replace BK348 := ak (blk_below (g := gb348) (o := .cells #[.int .i64 ((rd_T26 t339 x42_2).f0), .int .i64 ((rd_T26 t339 x42_2).f1)] 26 (0, 0)) (by (with_reducible repeat (first | refine blk_drewN ?_ _ | refine blk_drew ?_ | refine blk_alloc ?_ _)); refine blk_put (cs := #[.int .i64 ((rd_T26 t339 x42_2).f0), .int .i64 0]) ?_ 1 _ rfl; (with_reducible repeat (first | refine blk_drewN ?_ _ | refine blk_drew ?_ | refine blk_alloc ?_ _)); refine blk_put (cs := #[.int .i64 0, .int .i64 0]) ?_ 0 _ rfl; (with_reducible repeat (first | refine blk_drewN ?_ _ | refine blk_drew ?_ | refine blk_alloc ?_ _)); exact BK348.out) hb); replace HB := kH _ hb; (try clear hb); (try clear hb2); (try clear hk); (try clear hi); have hcz45_0 : w44.cell? ⟨gb345, 0, none⟩ = some (.int .i64 x346000_2) := bc BK345 0; have hcz45_1 : w44.cell? ⟨gb345, 1, none⟩ = some (.int .i64 x346001_2) := bc BK345 1; have hfz45_0 := fz BK345 0; have hfz45_1 := fz BK345 1))
     (try simp only [Act.put, List.setIfInBounds_toArray, List.set_cons_zero, List.set_cons_succ])
     go_cut [67] (fun v67 wc => ∃ (kq : Nat) (x67_34 : Bool), v67 = .bool x67_34 ∧ Aside0 (congoulaw04_CurvesOne.j2 kq x8_2 x9_2 x42_2 t339 (t339.length : Int) x42_2 x67_34 a0_0 l0_1 l0_2 t349 t350 ((rd_T26 t339 x42_2).f0) ((rd_T26 t339 x42_2).f1) = some r) ∧ Aside0 (kq ≤ k2) ∧ Aside0 (Kd.R k26 26 wc w.heap.size (fun k_ => k_ ≠ gb331 ∧ k_ ≠ gb345 ∧ k_ ≠ gb348) (.slice (some ad347) t339.length co24) t339) ∧ Aside0 (wc.heap[gb330]? = some (.cells #[.int .i64 a0_0, (.slice A0_1 l0_1.length c0_1), (.slice A0_2 l0_2.length c0_2)] 24 (0, 0))) ∧ Aside0 (wc.heap[gb331]? = some (.cells #[.int .i64 a1_0, .int .i64 a1_1] 26 (0, 0))) ∧ Aside0 (wc.heap[gb345]? = some (.cells #[.int .i64 t349, .int .i64 t350] 26 (0, 0))) ∧ Aside0 (wc.heap[gb348]? = some (.cells #[.int .i64 ((rd_T26 t339 x42_2).f0), .int .i64 ((rd_T26 t339 x42_2).f1)] 26 (0, 0))) ∧ Aside0 (Below w.heap.size w wc))
     case first =>
      have H := HC35.out
      clear HC35
      by_cases c46 : t351 = true
      rotate_left
      ·replace c46 := Bool.eq_false_iff.mpr c46
       subst c46
       have H1 : (congoulaw04_CurvesOne.j2 k2 x8_2 x9_2 x42_2 t339 (t339.length : Int) x42_2 true a0_0 l0_1 l0_2 t349 t350 ((rd_T26 t339 x42_2).f0) ((rd_T26 t339 x42_2).f1)) = some r := by rw [if_neg (show ¬ (false = true) by decide)] at H; exact H
       clear H
       have H := H1
       clear H1
       have H' := Aside0.mk H
       clear H
       go_wp2
       go_meet
       case rel => exact ⟨_, (true), (by first | rfl | (simp; done) | (simp [*]; done)), H', ⟨by have := HJ4.out; have := HK2.out; first | omega | exact Nat.le_refl _⟩, ⟨rD (Kd.R_mono (Kd.R_far (p := ⟨gb345, 1, none⟩) (Kd.R_far (p := ⟨gb345, 0, none⟩) (Kd.R_mono HO_40.out (fun k_ hk => (⟨hk, hk.1.2⟩ : _ ∧ k_ ≠ gb345))) (fun _ hk => hk.2) (.int .i64 t349)) (fun _ hk => hk.2) (.int .i64 t350)) (fun _ hk => ⟨hk.1.1.1, ⟨hk.1.1.2, hk.1.2⟩⟩))⟩, ⟨bF BK330⟩, ⟨bF BK331⟩, ⟨by (with_reducible repeat (first | refine blk_drewN ?_ _ | refine blk_drew ?_ | refine blk_alloc ?_ _)); refine blk_put (cs := #[.int .i64 t349, .int .i64 x346001_2]) ?_ 1 _ rfl; (with_reducible repeat (first | refine blk_drewN ?_ _ | refine blk_drew ?_ | refine blk_alloc ?_ _)); refine blk_put (cs := #[.int .i64 x346000_2, .int .i64 x346001_2]) ?_ 0 _ rfl; (with_reducible repeat (first | refine blk_drewN ?_ _ | refine blk_drew ?_ | refine blk_alloc ?_ _)); exact BK345.out⟩, ⟨bF BK348⟩, ⟨hbC _⟩⟩
      subst c46
      have H1 : (if ((rd_T26 t339 x42_2).f0) < 0 then (congoulaw04_CurvesOne.j2 k2 x8_2 x9_2 x42_2 t339 (t339.length : Int) x42_2 true a0_0 l0_1 l0_2 t349 t350 ((rd_T26 t339 x42_2).f0) ((rd_T26 t339 x42_2).f1)) else (congoulaw04_CurvesOne.j2 k2 x8_2 x9_2 x42_2 t339 (t339.length : Int) x42_2 (decide (((rd_T26 t339 x42_2).f0) > ((rd_T26 t339 x42_2).f1))) a0_0 l0_1 l0_2 t349 t350 ((rd_T26 t339 x42_2).f0) ((rd_T26 t339 x42_2).f1))) = some r := by rw [if_pos rfl] at H; exact H
      clear H
      have H := H1
      clear H1
      by_cases c47 : ((rd_T26 t339 x42_2).f0) < 0
      ·rw [if_pos c47] at H
       have c47b0 : decide (((rd_T26 t339 x42_2).f0) < 0) = true := decide_eq_true c47
       clear c47
       (first | rw [c47b0] | (simp only [i64_w, i32_w]; rw [c47b0]) | skip)
       have H' := Aside0.mk H
       clear H
       have hnb48 := NB348_330.out
       have hnc48 := NB330_348.out
       have hnb49 := NB348_331.out
       have hnc49 := NB331_348.out
       have hnb50 := NB348_345.out
       have hnc50 := NB345_348.out
       have hcz51_0 : w44.cell? ⟨gb348, 0, none⟩ = some (.int .i64 ((rd_T26 t339 x42_2).f0)) := bc BK348 0
       have hcz51_1 : w44.cell? ⟨gb348, 1, none⟩ = some (.int .i64 ((rd_T26 t339 x42_2).f1)) := bc BK348 1
       have hfz51_0 := fz BK348 0
       have hfz51_1 := fz BK348 1
       go_wp2
       go_meet
       case rel => exact ⟨_, (true), (by first | rfl | (simp; done) | (simp [*]; done)), H', ⟨by have := HJ4.out; have := HK2.out; first | omega | exact Nat.le_refl _⟩, ⟨rD (Kd.R_mono (Kd.R_far (p := ⟨gb345, 1, none⟩) (Kd.R_far (p := ⟨gb345, 0, none⟩) (Kd.R_mono HO_40.out (fun k_ hk => (⟨hk, hk.1.2⟩ : _ ∧ k_ ≠ gb345))) (fun _ hk => hk.2) (.int .i64 t349)) (fun _ hk => hk.2) (.int .i64 t350)) (fun _ hk => ⟨hk.1.1.1, ⟨hk.1.1.2, hk.1.2⟩⟩))⟩, ⟨bF BK330⟩, ⟨bF BK331⟩, ⟨by (with_reducible repeat (first | refine blk_drewN ?_ _ | refine blk_drew ?_ | refine blk_alloc ?_ _)); refine blk_put (cs := #[.int .i64 t349, .int .i64 x346001_2]) ?_ 1 _ rfl; (with_reducible repeat (first | refine blk_drewN ?_ _ | refine blk_drew ?_ | refine blk_alloc ?_ _)); refine blk_put (cs := #[.int .i64 x346000_2, .int .i64 x346001_2]) ?_ 0 _ rfl; (with_reducible repeat (first | refine blk_drewN ?_ _ | refine blk_drew ?_ | refine blk_alloc ?_ _)); exact BK345.out⟩, ⟨bF BK348⟩, ⟨hbC _⟩⟩
      rw [if_neg c47] at H
      have c47b0 : decide (((rd_T26 t339 x42_2).f0) < 0) = false := decide_eq_false c47
      clear c47
      (first | rw [c47b0] | (simp only [i64_w, i32_w]; rw [c47b0]) | skip)
      have H' := Aside0.mk H
      clear H
      have hnb52 := NB348_330.out
      have hnc52 := NB330_348.out
      have hnb53 := NB348_331.out
      have hnc53 := NB331_348.out
      have hnb54 := NB348_345.out
      have hnc54 := NB345_348.out
      have hcz55_0 : w44.cell? ⟨gb348, 0, none⟩ = some (.int .i64 ((rd_T26 t339 x42_2).f0)) := bc BK348 0
      have hcz55_1 : w44.cell? ⟨gb348, 1, none⟩ = some (.int .i64 ((rd_T26 t339 x42_2).f1)) := bc BK348 1
      have hfz55_0 := fz BK348 0
      have hfz55_1 := fz BK348 1
      go_wp2
      go_meet
      case rel => exact ⟨_, (decide (((rd_T26 t339 x42_2).f0) > ((rd_T26 t339 x42_2).f1))), (by first | rfl | (simp; done) | (simp [*]; done)), H', ⟨by have := HJ4.out; have := HK2.out; first | omega | exact Nat.le_refl _⟩, ⟨rD (Kd.R_mono (Kd.R_far (p := ⟨gb345, 1, none⟩) (Kd.R_far (p := ⟨gb345, 0, none⟩) (Kd.R_mono HO_40.out (fun k_ hk => (⟨hk, hk.1.2⟩ : _ ∧ k_ ≠ gb345))) (fun _ hk => hk.2) (.int .i64 t349)) (fun _ hk => hk.2) (.int .i64 t350)) (fun _ hk => ⟨hk.1.1.1, ⟨hk.1.1.2, hk.1.2⟩⟩))⟩, ⟨bF BK330⟩, ⟨bF BK331⟩, ⟨by (with_reducible repeat (first | refine blk_drewN ?_ _ | refine blk_drew ?_ | refine blk_alloc ?_ _)); refine blk_put (cs := #[.int .i64 t349, .int .i64 x346001_2]) ?_ 1 _ rfl; (with_reducible repeat (first | refine blk_drewN ?_ _ | refine blk_drew ?_ | refine blk_alloc ?_ _)); refine blk_put (cs := #[.int .i64 x346000_2, .int .i64 x346001_2]) ?_ 0 _ rfl; (with_reducible repeat (first | refine blk_drewN ?_ _ | refine blk_drew ?_ | refine blk_alloc ?_ _)); exact BK345.out⟩, ⟨bF BK348⟩, ⟨hbC _⟩⟩
     case rest =>
      clear HC35
      try clear c1
      try clear c2
      try clear p2
      try clear c3
      try clear p3
      try clear q3
      try clear hx3
      try clear c4
      try clear c5
      try clear c6
      try clear c7
      try clear c10
      try clear c13
      try clear c13b0
      try clear c13b1
      try clear c15
      try clear c19
      try clear c20
      try clear c20b0
      try clear c20b1
      try clear c23
      try clear c23b0
      try clear c23b1
      try clear c23b2
      try clear c25
      try clear c28
      try clear c29
      try clear c31
      try clear c31b0
      try clear c32
      try clear c32b0
      try clear c33
      try clear c33b0
      try clear p34
      try clear q34
      try clear hx34
      try clear c37
      try clear c38
      try clear c39
      try clear c41
      try clear c42
      try clear c46
      try clear c47
      try clear c47b0
      try clear c48
      try clear c49
      try clear c50
      try clear c52
      try clear c53
      try clear c54
      try clear hcz16_0
      try clear hcz16_1
      try clear hcz16_2
      try clear hcz17_0
      try clear hcz17_1
      try clear hcz26_0
      try clear hcz26_1
      try clear hcz26_2
      try clear hcz30_0
      try clear hcz30_1
      try clear hcz40_0
      try clear hcz40_1
      try clear hcz43_0
      try clear hcz43_1
      try clear hcz45_0
      try clear hcz45_1
      try clear hcz51_0
      try clear hcz51_1
      try clear hcz55_0
      try clear hcz55_1
      try clear hfz16_0
      try clear hfz16_1
      try clear hfz16_2
      try clear hfz17_0
      try clear hfz17_1
      try clear hfz26_0
      try clear hfz26_1
      try clear hfz26_2
      try clear hfz30_0
      try clear hfz30_1
      try clear hfz40_0
      try clear hfz40_1
      try clear hfz43_0
      try clear hfz43_1
      try clear hfz45_0
      try clear hfz45_1
      try clear hfz51_0
      try clear hfz51_1
      try clear hfz55_0
      try clear hfz55_1
      try clear hx347_0
      try clear hx347_1
      try clear p2
      try clear p347
      try clear q347
      obtain ⟨kq, x67_34, rfl, HA, HJ34, HO_40, BK330, BK331, BK345, BK348, HB⟩ := hcut
      cases kq with
      | zero => exact absurd HA.out (by simp [congoulaw04_CurvesOne.j2])
      | succ kj34 =>
       have H := HA.out
       clear HA
       simp only [congoulaw04_CurvesOne.j2] at H
       by_cases c56 : x67_34 = true
       ·subst c56
        have H1 : (some false) = some r := by rw [if_pos rfl] at H; exact H
        clear H
        have H := H1
        clear H1
        exact absurd (H.trans (congrArg some HRT.out)) (by simp)
       replace c56 := Bool.eq_false_iff.mpr c56
       subst c56
       have H1 : (if ((rd_T26 t339 x42_2).f0) > 0 then (if x8_2 < 0 then (congoulaw04_CurvesOne.l0 kj34 x42_2 x42_2 t339 (t339.length : Int) (wrap64 (x42_2 + 1)) a0_0 l0_1 l0_2 t349 t350) else (congoulaw04_CurvesOne.l0 kj34 x8_2 x42_2 t339 (t339.length : Int) (wrap64 (x42_2 + 1)) a0_0 l0_1 l0_2 t349 t350)) else (congoulaw04_CurvesOne.l0 kj34 x8_2 x9_2 t339 (t339.length : Int) (wrap64 (x42_2 + 1)) a0_0 l0_1 l0_2 t349 t350)) = some r := by rw [if_neg (show ¬ (false = true) by decide)] at H; exact H
       clear H
       have H := H1
       clear H1
       by_cases c57 : ((rd_T26 t339 x42_2).f0) > 0
       rotate_left
       ·rw [if_neg c57] at H
        have c57b0 : decide (0 < ((rd_T26 t339 x42_2).f0)) = false := decide_eq_false c57
        clear c57
        have H' := Aside0.mk H
        clear H
        have hnb67 := NB348_330.out
        have hnc67 := NB330_348.out
        have hnb68 := NB348_331.out
        have hnc68 := NB331_348.out
        have hnb69 := NB348_345.out
        have hnc69 := NB345_348.out
        have hcz70_0 : wc.cell? ⟨gb348, 0, none⟩ = some (.int .i64 ((rd_T26 t339 x42_2).f0)) := bc BK348 0
        have hcz70_1 : wc.cell? ⟨gb348, 1, none⟩ = some (.int .i64 ((rd_T26 t339 x42_2).f1)) := bc BK348 1
        have hfz70_0 := fz BK348 0
        have hfz70_1 := fz BK348 1
        go_wp2
        go_roundg kj34
        case measure => have := HJ4.out; have := HK2.out; have := HJ34.out; omega
        case rel => exact ⟨(x8_2), (x9_2), (wrap64 (x42_2 + 1)), (t349), (t350), (by first | rfl | (simp; done) | (simp [*]; done)), (by first | rfl | (simp; done) | (simp [*]; done)), (by first | rfl | (simp; done) | (simp [*]; done)), H', ⟨by have := HJ4.out; have := HK2.out; have := HJ34.out; omega⟩, ⟨rD (Kd.R_mono HO_40.out (fun _ hk => ⟨hk.1, hk.2.1⟩))⟩, ⟨bkC BK330⟩, ⟨bkC BK331⟩, ⟨bkC BK345⟩, ⟨hbC _⟩⟩
       rw [if_pos c57] at H
       have c57b0 : decide (0 < ((rd_T26 t339 x42_2).f0)) = true := decide_eq_true c57
       clear c57
       by_cases c58 : x8_2 < 0
       ·rw [if_pos c58] at H
        have c58b0 : decide (x8_2 < 0) = true := decide_eq_true c58
        clear c58
        have H' := Aside0.mk H
        clear H
        have hnb59 := NB348_330.out
        have hnc59 := NB330_348.out
        have hnb60 := NB348_331.out
        have hnc60 := NB331_348.out
        have hnb61 := NB348_345.out
        have hnc61 := NB345_348.out
        have hcz62_0 : wc.cell? ⟨gb348, 0, none⟩ = some (.int .i64 ((rd_T26 t339 x42_2).f0)) := bc BK348 0
        have hcz62_1 : wc.cell? ⟨gb348, 1, none⟩ = some (.int .i64 ((rd_T26 t339 x42_2).f1)) := bc BK348 1
        have hfz62_0 := fz BK348 0
        have hfz62_1 := fz BK348 1
        go_wp2
        go_roundg kj34
        case measure => have := HJ4.out; have := HK2.out; have := HJ34.out; omega
        case rel => exact ⟨(x42_2), (x42_2), (wrap64 (x42_2 + 1)), (t349), (t350), (by first | rfl | (simp; done) | (simp [*]; done)), (by first | rfl | (simp; done) | (simp [*]; done)), (by first | rfl | (simp; done) | (simp [*]; done)), H', ⟨by have := HJ4.out; have := HK2.out; have := HJ34.out; omega⟩, ⟨rD (Kd.R_mono HO_40.out (fun _ hk => ⟨hk.1, hk.2.1⟩))⟩, ⟨bkC BK330⟩, ⟨bkC BK331⟩, ⟨bkC BK345⟩, ⟨hbC _⟩⟩
       rw [if_neg c58] at H
       have c58b0 : decide (x8_2 < 0) = false := decide_eq_false c58
       clear c58
       have H' := Aside0.mk H
       clear H
       have hnb63 := NB348_330.out
       have hnc63 := NB330_348.out
       have hnb64 := NB348_331.out
       have hnc64 := NB331_348.out
       have hnb65 := NB348_345.out
       have hnc65 := NB345_348.out
       have hcz66_0 : wc.cell? ⟨gb348, 0, none⟩ = some (.int .i64 ((rd_T26 t339 x42_2).f0)) := bc BK348 0
       have hcz66_1 : wc.cell? ⟨gb348, 1, none⟩ = some (.int .i64 ((rd_T26 t339 x42_2).f1)) := bc BK348 1
       have hfz66_0 := fz BK348 0
       have hfz66_1 := fz BK348 1
       go_wp2
       go_roundg kj34
       case measure => have := HJ4.out; have := HK2.out; have := HJ34.out; omega
       case rel => exact ⟨(x8_2), (x42_2), (wrap64 (x42_2 + 1)), (t349), (t350), (by first | rfl | (simp; done) | (simp [*]; done)), (by first | rfl | (simp; done) | (simp [*]; done)), (by first | rfl | (simp; done) | (simp [*]; done)), H', ⟨by have := HJ4.out; have := HK2.out; have := HJ34.out; omega⟩, ⟨rD (Kd.R_mono HO_40.out (fun _ hk => ⟨hk.1, hk.2.1⟩))⟩, ⟨bkC BK330⟩, ⟨bkC BK331⟩, ⟨bkC BK345⟩, ⟨hbC _⟩⟩

end Go.Proofs.YtpnocmkpeogifaaDoor.X
