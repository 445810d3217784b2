-- Written by a program of this work (wip/xprint.py, over the kit's printer) out of the translation.
import Derived.Test.YtpnocmkpeogifaaDoorX0
import Derived.Test.YtpnocmkpeogifaaDoorXG1a
import Derived.Test.YtpnocmkpeogifaaDoorXf23
namespace Go.Proofs.YtpnocmkpeogifaaDoor.X
open Go.RowKit Go.Proofs.YtpnocmkpeogifaaDoorW.PrintWords Go.Proofs.YtpnocmkpeogifaaDoorW.PrintLast Go.Proofs.YtpnocmkpeogifaaDoorW.PrintMore
attribute [local go_sem] max2_int min2_int max_two min_two max_three min_three max_four min_four   -- for this text's walks alone
set_option linter.unusedVariables false
set_option linter.unusedSimpArgs false

/-! ### curves_Plus: function 15 -/
mutual
def curves_Plus.j0 : Nat → Bool → Int → List Int → List Int → Int → List Int → List Int → Option (Int × List Int × List Int × Int)
 | 0, _, _, _, _, _, _, _ => none
 | k + 1, x31, x435000, x435001, x435002, x436000, x436001, x436002 => if x31 = true then (some (0, ([] : List Int), ([] : List Int), 2)) else ((slices_Clone_int_int.f x435001).bind fun t440 => ((slices_Clone_int_int.f x435002).bind fun t443 => (curves_Plus.l0 k x436002 (x436002.length : Int) 0 x435000 t440 t443)))
def curves_Plus.l0 : Nat → List Int → Int → Int → Int → List Int → List Int → Option (Int × List Int × List Int × Int)
 | 0, _, _, _, _, _, _ => none
 | k + 1, x43, x44, x45, x447000, x447001, x447002 => if x45 < x44 then (if 0 ≤ x45 then (if x45 < (x43.length : Int) then (if x45 < (x447002.length : Int) then (curves_Plus.l0 k x43 x44 (wrap64 (x45 + 1)) x447000 x447001 (x447002.set (x45 : Int).toNat (wrap64 ((rd x447002 x45) + (rd x43 x45))))) else (none)) else (none)) else (none)) else ((curves_Curve_valid.f k x447000 x447001 x447002).bind fun t450 => (if t450 = true then (some (x447000, x447001, x447002, 0)) else (some (0, ([] : List Int), ([] : List Int), 4))))
end
def curves_Plus.f (k : Nat) (a0_0 : Int) (l0_1 : List Int) (l0_2 : List Int) (a1_0 : Int) (l1_1 : List Int) (l1_2 : List Int) : Option (Int × List Int × List Int × Int) := (curves_Curve_valid.f k a0_0 l0_1 l0_2).bind fun t437 => (if t437 = true then ((curves_Curve_valid.f k a1_0 l1_1 l1_2).bind fun t438 => (if t438 = true then (if a0_0 = a1_0 then ((slices_Equal_int_int.f k l0_1 l1_1).bind fun t439 => (curves_Plus.j0 k (!t439) a0_0 l0_1 l0_2 a1_0 l1_1 l1_2)) else (curves_Plus.j0 k true a0_0 l0_1 l0_2 a1_0 l1_1 l1_2)) else (curves_Plus.j0 k true a0_0 l0_1 l0_2 a1_0 l1_1 l1_2))) else (curves_Plus.j0 k true a0_0 l0_1 l0_2 a1_0 l1_1 l1_2))
theorem curves_Plus.mono_l : ∀ k, (∀ y0 y1 y2 y3 y4 y5 y6, LeO (curves_Plus.j0 k y0 y1 y2 y3 y4 y5 y6) (curves_Plus.j0 (k + 1) y0 y1 y2 y3 y4 y5 y6)) ∧ (∀ y0 y1 y2 y3 y4 y5, LeO (curves_Plus.l0 k y0 y1 y2 y3 y4 y5) (curves_Plus.l0 (k + 1) y0 y1 y2 y3 y4 y5))
 | 0 => ⟨fun _ _ _ _ _ _ _ r h => by simp [curves_Plus.j0] at h, fun _ _ _ _ _ _ r h => by simp [curves_Plus.l0] at h⟩
 | k + 1 => by
  obtain ⟨ih0, ih1⟩ := curves_Plus.mono_l k
  refine ⟨?_, ?_⟩
  ·intro y0 y1 y2 y3 y4 y5 y6
   unfold curves_Plus.j0
   repeat' first
   | (with_reducible exact ih0 _ _ _ _ _ _ _)
   | (with_reducible exact ih1 _ _ _ _ _ _)
   | (with_reducible exact curves_Curve_valid.mono _ _ _ _)
   | (with_reducible exact slices_Equal_int_int.mono _ _ _)
   | (with_reducible exact LeO.refl _)
   | (with_reducible exact LeO.none _)
   | (with_reducible refine LeO.ite ?_ ?_)
   | (with_reducible refine LeO.bind ?_ (fun _ => ?_))
   | exact ih0 _ _ _ _ _ _ _
   | exact ih1 _ _ _ _ _ _
   | exact curves_Curve_valid.mono _ _ _ _
   | exact slices_Equal_int_int.mono _ _ _
   | exact LeO.none _
   | refine LeO.ite ?_ ?_
   | refine LeO.bind ?_ (fun _ => ?_)
  ·intro y0 y1 y2 y3 y4 y5
   unfold curves_Plus.l0
   repeat' first
   | (with_reducible exact ih0 _ _ _ _ _ _ _)
   | (with_reducible exact ih1 _ _ _ _ _ _)
   | (with_reducible exact curves_Curve_valid.mono _ _ _ _)
   | (with_reducible exact slices_Equal_int_int.mono _ _ _)
   | (with_reducible exact LeO.refl _)
   | (with_reducible exact LeO.none _)
   | (with_reducible refine LeO.ite ?_ ?_)
   | (with_reducible refine LeO.bind ?_ (fun _ => ?_))
   | exact ih0 _ _ _ _ _ _ _
   | exact ih1 _ _ _ _ _ _
   | exact curves_Curve_valid.mono _ _ _ _
   | exact slices_Equal_int_int.mono _ _ _
   | exact LeO.none _
   | refine LeO.ite ?_ ?_
   | refine LeO.bind ?_ (fun _ => ?_)
theorem curves_Plus.mono : ∀ a0 a1 a2 a3 a4 a5 k, LeO (curves_Plus.f k a0 a1 a2 a3 a4 a5) (curves_Plus.f (k + 1) a0 a1 a2 a3 a4 a5) := by
 intro a0 a1 a2 a3 a4 a5 k
 obtain ⟨ih0, ih1⟩ := curves_Plus.mono_l k
 unfold curves_Plus.f
 repeat' first
   | (with_reducible exact ih0 _ _ _ _ _ _ _)
   | (with_reducible exact ih1 _ _ _ _ _ _)
   | (with_reducible exact curves_Curve_valid.mono _ _ _ _)
   | (with_reducible exact slices_Equal_int_int.mono _ _ _)
   | (with_reducible exact LeO.refl _)
   | (with_reducible exact LeO.none _)
   | (with_reducible refine LeO.ite ?_ ?_)
   | (with_reducible refine LeO.bind ?_ (fun _ => ?_))
   | exact ih0 _ _ _ _ _ _ _
   | exact ih1 _ _ _ _ _ _
   | exact curves_Curve_valid.mono _ _ _ _
   | exact slices_Equal_int_int.mono _ _ _
   | exact LeO.none _
   | refine LeO.ite ?_ ?_
   | refine LeO.bind ?_ (fun _ => ?_)
def curves_Plus.T3 : Bool × List (List Nat × List Nat) := (true, [([], []), ([0], [0]), ([], []), ([2], [2]), ([3], [3]), ([], []), ([5], [5]), ([6, 4], [6]), ([1, 4, 7], [1, 4, 7]), ([], []), ([9, 8, 7, 0, 1, 2, 3, 4, 5, 6, 7, 8, 9], [8, 9])])
def curves_Plus.B3 : List Nat := [0, 1, 0, 4, 12, 0, 32, 124, 255, 0, 1023]
theorem curves_Plus.tab3 : rtab .any (opsOf Tryd.f15 3) = curves_Plus.T3 := by kernel_rfl
theorem curves_Plus.bits3 : waitsOk curves_Plus.T3.2 curves_Plus.B3 = true := by kernel_rfl
set_option maxHeartbeats 8000000 in
set_option maxRecDepth 100000 in
theorem curves_Plus.calls (k : Nat) (a0_0 : Int) (A0_1 : Option Addr) (c0_1 : Nat) (l0_1 : List Int) (A0_2 : Option Addr) (c0_2 : Nat) (l0_2 : List Int) (a1_0 : Int) (A1_1 : Option Addr) (c1_1 : Nat) (l1_1 : List Int) (A1_2 : Option Addr) (c1_2 : Nat) (l1_2 : List Int) (r1 : Int) (r2 : List Int) (r3 : List Int) (r4 : Int) (w : World) (hr0_1 : Kd.C (Kd.int .i64) w A0_1 l0_1.length l0_1) (hc0_1 : l0_1.length ≤ c0_1) (hr0_2 : Kd.C (Kd.int .i64) w A0_2 l0_2.length l0_2) (hc0_2 : l0_2.length ≤ c0_2) (hr1_1 : Kd.C (Kd.int .i64) w A1_1 l1_1.length l1_1) (hc1_1 : l1_1.length ≤ c1_1) (hr1_2 : Kd.C (Kd.int .i64) w A1_2 l1_2.length l1_2) (hc1_2 : l1_2.length ≤ c1_2) (h : curves_Plus.f k a0_0 l0_1 l0_2 a1_0 l1_1 l1_2 = some (r1, r2, r3, r4)) :
  Calls Tryd.prog 15 #[.agg #[.int .i64 a0_0, .slice A0_1 l0_1.length c0_1, .slice A0_2 l0_2.length c0_2], .agg #[.int .i64 a1_0, .slice A1_1 l1_1.length c1_1, .slice A1_2 l1_2.length c1_2]] w fun e w' => ∃ v1_ v2_ : Value, e = .returned (.tuple #[.agg #[.int .i64 r1, v1_, v2_], .int .i64 r4]) ∧ Kd.R (Kd.int .i64) 3 w' w.heap.size (fun k_ => some k_ ≠ (v2_ : Value).ownBlock) v1_ r2 ∧ Kd.R (Kd.int .i64) 3 w' w.heap.size (fun k_ => some k_ ≠ (v1_ : Value).ownBlock) v2_ r3 ∧ Below w.heap.size w w' := by
 have hu31 := Tryd.underlying31
 have HR0_1 := Aside0.mk hr0_1
 have HC0_1 := Aside0.mk hc0_1
 clear hr0_1 hc0_1
 have HR0_2 := Aside0.mk hr0_2
 have HC0_2 := Aside0.mk hc0_2
 clear hr0_2 hc0_2
 have HR1_1 := Aside0.mk hr1_1
 have HC1_1 := Aside0.mk hc1_1
 clear hr1_1 hc1_1
 have HR1_2 := Aside0.mk hr1_2
 have HC1_2 := Aside0.mk hc1_2
 clear hr1_2 hc1_2
 have HB := ak (Below.refl w.heap.size w)
 have H : ((curves_Curve_valid.f k a0_0 l0_1 l0_2).bind fun t437 => (if t437 = true then ((curves_Curve_valid.f k a1_0 l1_1 l1_2).bind fun t438 => (if t438 = true then (if a0_0 = a1_0 then ((slices_Equal_int_int.f k l0_1 l1_1).bind fun t439 => (curves_Plus.j0 k (!t439) a0_0 l0_1 l0_2 a1_0 l1_1 l1_2)) else (curves_Plus.j0 k true a0_0 l0_1 l0_2 a1_0 l1_1 l1_2)) else (curves_Plus.j0 k true a0_0 l0_1 l0_2 a1_0 l1_1 l1_2))) else (curves_Plus.j0 k true a0_0 l0_1 l0_2 a1_0 l1_1 l1_2))) = some (r1, r2, r3, r4) := h
 clear h
 have HC3 := Aside0.mk H
 clear H
 go_enter Tryd.func15, Tryd.ntmps15
 go_upto_region 1 with (first | ((with_reducible refine gate_dst (N := 2) rfl ?_); refine bE 2 #[.int .i64 a0_0, .slice A0_1 l0_1.length c0_1, .slice A0_2 l0_2.length c0_2] 31 ?_; intro gb434 hg w4 hbox hb; have BK434 := ak (hbox); have GW434 := kG w hg; have GE434 := kG w hg; replace HB := kH _ hb; clear hb hbox hg) | ((with_reducible refine gate_dst (N := 3) rfl ?_); refine bE 3 #[.int .i64 a1_0, .slice A1_1 l1_1.length c1_1, .slice A1_2 l1_2.length c1_2] 31 ?_; intro gb435 hg w5 hbox hb; have BK435 := ak (hbox); have GW435 := kG w hg; have GE435 := kG w hg; replace HB := kH _ hb; have NB434_435 := kL BK434 hg; have NB435_434 := kR BK434 hg; replace BK434 := kB BK434 hb; clear hb hbox hg) | ((with_reducible refine gate_dst (N := 4) rfl ?_); refine bE 4 #[.int .i64 0, .slice none 0 0, .slice none 0 0] 31 ?_; intro gb436 hg w6 hbox hb; have BK436 := ak (hbox); have GW436 := kG w hg; have GE436 := kG w hg; replace HB := kH _ hb; have NB434_436 := kL BK434 hg; have NB436_434 := kR BK434 hg; replace BK434 := kB BK434 hb; have NB435_436 := kL BK435 hg; have NB436_435 := kR BK435 hg; replace BK435 := kB BK435 hb; clear hb hbox hg))
 (try simp only [Act.put, List.setIfInBounds_toArray, List.set_cons_zero, List.set_cons_succ])
 go_cut [31] (fun v31 wc => ∃ (kq : Nat) (x31_2 : Bool), v31 = .bool x31_2 ∧ Aside0 (curves_Plus.j0 kq x31_2 a0_0 l0_1 l0_2 a1_0 l1_1 l1_2 = some (r1, r2, r3, r4)) ∧ Aside0 (kq ≤ k) ∧ Aside0 (wc.heap[gb434]? = some (.cells #[.int .i64 a0_0, (.slice A0_1 l0_1.length c0_1), (.slice A0_2 l0_2.length c0_2)] 31 (0, 0))) ∧ Aside0 (wc.heap[gb435]? = some (.cells #[.int .i64 a1_0, (.slice A1_1 l1_1.length c1_1), (.slice A1_2 l1_2.length c1_2)] 31 (0, 0))) ∧ Aside0 (wc.heap[gb436]? = some (.cells #[.int .i64 0, (.slice none 0 0), (.slice none 0 0)] 31 (0, 0))) ∧ Aside0 (Below w.heap.size w wc))
 case first =>
  have H := HC3.out
  clear HC3
  replace H := Option.bind_eq_some_iff.mp H
  obtain ⟨t437, A70, H⟩ := H
  replace H : (if t437 = true then ((curves_Curve_valid.f k a1_0 l1_1 l1_2).bind fun t438 => (if t438 = true then (if a0_0 = a1_0 then ((slices_Equal_int_int.f k l0_1 l1_1).bind fun t439 => (curves_Plus.j0 k (!t439) a0_0 l0_1 l0_2 a1_0 l1_1 l1_2)) else (curves_Plus.j0 k true a0_0 l0_1 l0_2 a1_0 l1_1 l1_2)) else (curves_Plus.j0 k true a0_0 l0_1 l0_2 a1_0 l1_1 l1_2))) else (curves_Plus.j0 k true a0_0 l0_1 l0_2 a1_0 l1_1 l1_2)) = some (r1, r2, r3, r4) := H
  have A7 := Aside0.mk A70
  clear A70
  by_cases c8 : t437 = true
  rotate_left
  ·replace c8 := Bool.eq_false_iff.mpr c8
   subst c8
   have H1 : (curves_Plus.j0 k true a0_0 l0_1 l0_2 a1_0 l1_1 l1_2) = some (r1, r2, r3, r4) := by rw [if_neg (show ¬ (false = true) by decide)] at H; exact H
   clear H
   have H := H1
   clear H1
   have H' := Aside0.mk H
   clear H
   have hnb38 := NB434_435.out
   have hnc38 := NB435_434.out
   have hnb39 := NB434_436.out
   have hnc39 := NB436_434.out
   have hcz40_0 : w6.cell? ⟨gb434, 0, none⟩ = some (.int .i64 a0_0) := bc BK434 0
   have hcz40_1 : w6.cell? ⟨gb434, 1, none⟩ = some (.slice A0_1 l0_1.length c0_1) := bc BK434 1
   have hcz40_2 : w6.cell? ⟨gb434, 2, none⟩ = some (.slice A0_2 l0_2.length c0_2) := bc BK434 2
   have hfz40_0 := fz BK434 0
   have hfz40_1 := fz BK434 1
   have hfz40_2 := fz BK434 2
   go_wp2_with (first | ((with_reducible refine gate_callee (f := 23) rfl ?_); refine gL 10 Tryd.func23 #[.agg #[.int .i64 a0_0, .slice A0_1 l0_1.length c0_1, .slice A0_2 l0_2.length c0_2]] ?_; (with_reducible refine (curves_Curve_valid.calls k a0_0 _ _ l0_1 _ _ l0_2 false _ ?side1 ?side2 ?side3 ?side4 A7.out).mono ?_); (case side1 => exact kC HR0_1); (case side2 => exact HC0_1.out); (case side3 => exact kC HR0_2); (case side4 => exact HC0_2.out); rintro e w41 ⟨rfl, hb⟩; refine ⟨_, rfl, ?_⟩; replace BK434 := kB BK434 hb; replace BK435 := kB BK435 hb; replace BK436 := kB BK436 hb; replace HB := kH _ hb; (try clear hb); (try clear hb2); (try clear hk); (try clear hi)))
   go_meet
   case rel => exact ⟨_, (true), (by first | rfl | (simp; done) | (simp [*]; done)), H', ⟨by first | omega | exact Nat.le_refl _⟩, ⟨bkC BK434⟩, ⟨bkC BK435⟩, ⟨bkC BK436⟩, ⟨hbC _⟩⟩
  subst c8
  have H1 : ((curves_Curve_valid.f k a1_0 l1_1 l1_2).bind fun t438 => (if t438 = true then (if a0_0 = a1_0 then ((slices_Equal_int_int.f k l0_1 l1_1).bind fun t439 => (curves_Plus.j0 k (!t439) a0_0 l0_1 l0_2 a1_0 l1_1 l1_2)) else (curves_Plus.j0 k true a0_0 l0_1 l0_2 a1_0 l1_1 l1_2)) else (curves_Plus.j0 k true a0_0 l0_1 l0_2 a1_0 l1_1 l1_2))) = some (r1, r2, r3, r4) := by rw [if_pos rfl] at H; exact H
  clear H
  have H := H1
  clear H1
  replace H := Option.bind_eq_some_iff.mp H
  obtain ⟨t438, A90, H⟩ := H
  replace H : (if t438 = true then (if a0_0 = a1_0 then ((slices_Equal_int_int.f k l0_1 l1_1).bind fun t439 => (curves_Plus.j0 k (!t439) a0_0 l0_1 l0_2 a1_0 l1_1 l1_2)) else (curves_Plus.j0 k true a0_0 l0_1 l0_2 a1_0 l1_1 l1_2)) else (curves_Plus.j0 k true a0_0 l0_1 l0_2 a1_0 l1_1 l1_2)) = some (r1, r2, r3, r4) := H
  have A9 := Aside0.mk A90
  clear A90
  by_cases c10 : t438 = true
  rotate_left
  ·replace c10 := Bool.eq_false_iff.mpr c10
   subst c10
   have H1 : (curves_Plus.j0 k true a0_0 l0_1 l0_2 a1_0 l1_1 l1_2) = some (r1, r2, r3, r4) := by rw [if_neg (show ¬ (false = true) by decide)] at H; exact H
   clear H
   have H := H1
   clear H1
   have H' := Aside0.mk H
   clear H
   have hnb31 := NB434_435.out
   have hnc31 := NB435_434.out
   have hnb32 := NB434_436.out
   have hnc32 := NB436_434.out
   have hcz33_0 : w6.cell? ⟨gb434, 0, none⟩ = some (.int .i64 a0_0) := bc BK434 0
   have hcz33_1 : w6.cell? ⟨gb434, 1, none⟩ = some (.slice A0_1 l0_1.length c0_1) := bc BK434 1
   have hcz33_2 : w6.cell? ⟨gb434, 2, none⟩ = some (.slice A0_2 l0_2.length c0_2) := bc BK434 2
   have hfz33_0 := fz BK434 0
   have hfz33_1 := fz BK434 1
   have hfz33_2 := fz BK434 2
   go_wp2_with (first | ((with_reducible refine gate_callee (f := 23) rfl ?_); refine gL 10 Tryd.func23 #[.agg #[.int .i64 a0_0, .slice A0_1 l0_1.length c0_1, .slice A0_2 l0_2.length c0_2]] ?_; (with_reducible refine (curves_Curve_valid.calls k a0_0 _ _ l0_1 _ _ l0_2 true _ ?side1 ?side2 ?side3 ?side4 A7.out).mono ?_); (case side1 => exact kC HR0_1); (case side2 => exact HC0_1.out); (case side3 => exact kC HR0_2); (case side4 => exact HC0_2.out); rintro e w34 ⟨rfl, hb⟩; refine ⟨_, rfl, ?_⟩; replace BK434 := kB BK434 hb; replace BK435 := kB BK435 hb; replace BK436 := kB BK436 hb; replace HB := kH _ hb; (try clear hb); (try clear hb2); (try clear hk); (try clear hi); have hnb35 := NB435_436.out; have hnc35 := NB436_435.out; have hcz36_0 : w34.cell? ⟨gb435, 0, none⟩ = some (.int .i64 a1_0) := bc BK435 0; have hcz36_1 : w34.cell? ⟨gb435, 1, none⟩ = some (.slice A1_1 l1_1.length c1_1) := bc BK435 1; have hcz36_2 : w34.cell? ⟨gb435, 2, none⟩ = some (.slice A1_2 l1_2.length c1_2) := bc BK435 2; have hfz36_0 := fz BK435 0; have hfz36_1 := fz BK435 1; have hfz36_2 := fz BK435 2) | (go_at_call 23; (with_reducible refine (curves_Curve_valid.calls k a1_0 _ _ l1_1 _ _ l1_2 false _ ?side1 ?side2 ?side3 ?side4 A9.out).mono ?_); (case side1 => exact kC HR1_1); (case side2 => exact HC1_1.out); (case side3 => exact kC HR1_2); (case side4 => exact HC1_2.out); rintro e w37 ⟨rfl, hb⟩; replace BK434 := kB BK434 hb; replace BK435 := kB BK435 hb; replace BK436 := kB BK436 hb; replace HB := kH _ hb; (try clear hb); (try clear hb2); (try clear hk); (try clear hi)))
   go_meet
   case rel => exact ⟨_, (true), (by first | rfl | (simp; done) | (simp [*]; done)), H', ⟨by first | omega | exact Nat.le_refl _⟩, ⟨bkC BK434⟩, ⟨bkC BK435⟩, ⟨bkC BK436⟩, ⟨hbC _⟩⟩
  subst c10
  have H1 : (if a0_0 = a1_0 then ((slices_Equal_int_int.f k l0_1 l1_1).bind fun t439 => (curves_Plus.j0 k (!t439) a0_0 l0_1 l0_2 a1_0 l1_1 l1_2)) else (curves_Plus.j0 k true a0_0 l0_1 l0_2 a1_0 l1_1 l1_2)) = some (r1, r2, r3, r4) := by rw [if_pos rfl] at H; exact H
  clear H
  have H := H1
  clear H1
  by_cases c11 : a0_0 = a1_0
  rotate_left
  ·rw [if_neg c11] at H
   have c11b0 : (a0_0 == a1_0) = false := beq_eq_false_iff_ne.mpr c11
   have c11b1 : (a0_0 != a1_0) = true := bne_iff_ne.mpr c11
   (first | rw [c11b0] | (simp only [i64_w, i32_w]; rw [c11b0]) | skip)
   have H' := Aside0.mk H
   clear H
   have hnb22 := NB434_435.out
   have hnc22 := NB435_434.out
   have hnb23 := NB434_436.out
   have hnc23 := NB436_434.out
   have hcz24_0 : w6.cell? ⟨gb434, 0, none⟩ = some (.int .i64 a0_0) := bc BK434 0
   have hcz24_1 : w6.cell? ⟨gb434, 1, none⟩ = some (.slice A0_1 l0_1.length c0_1) := bc BK434 1
   have hcz24_2 : w6.cell? ⟨gb434, 2, none⟩ = some (.slice A0_2 l0_2.length c0_2) := bc BK434 2
   have hfz24_0 := fz BK434 0
   have hfz24_1 := fz BK434 1
   have hfz24_2 := fz BK434 2
   go_wp2_with (first | ((with_reducible refine gate_callee (f := 23) rfl ?_); refine gL 10 Tryd.func23 #[.agg #[.int .i64 a0_0, .slice A0_1 l0_1.length c0_1, .slice A0_2 l0_2.length c0_2]] ?_; (with_reducible refine (curves_Curve_valid.calls k a0_0 _ _ l0_1 _ _ l0_2 true _ ?side1 ?side2 ?side3 ?side4 A7.out).mono ?_); (case side1 => exact kC HR0_1); (case side2 => exact HC0_1.out); (case side3 => exact kC HR0_2); (case side4 => exact HC0_2.out); rintro e w25 ⟨rfl, hb⟩; refine ⟨_, rfl, ?_⟩; replace BK434 := kB BK434 hb; replace BK435 := kB BK435 hb; replace BK436 := kB BK436 hb; replace HB := kH _ hb; (try clear hb); (try clear hb2); (try clear hk); (try clear hi); have hnb26 := NB435_436.out; have hnc26 := NB436_435.out; have hcz27_0 : w25.cell? ⟨gb435, 0, none⟩ = some (.int .i64 a1_0) := bc BK435 0; have hcz27_1 : w25.cell? ⟨gb435, 1, none⟩ = some (.slice A1_1 l1_1.length c1_1) := bc BK435 1; have hcz27_2 : w25.cell? ⟨gb435, 2, none⟩ = some (.slice A1_2 l1_2.length c1_2) := bc BK435 2; have hfz27_0 := fz BK435 0; have hfz27_1 := fz BK435 1; have hfz27_2 := fz BK435 2) | (go_at_call 23; (with_reducible refine (curves_Curve_valid.calls k a1_0 _ _ l1_1 _ _ l1_2 true _ ?side1 ?side2 ?side3 ?side4 A9.out).mono ?_); (case side1 => exact kC HR1_1); (case side2 => exact HC1_1.out); (case side3 => exact kC HR1_2); (case side4 => exact HC1_2.out); rintro e w28 ⟨rfl, hb⟩; replace BK434 := kB BK434 hb; replace BK435 := kB BK435 hb; replace BK436 := kB BK436 hb; replace HB := kH _ hb; (try clear hb); (try clear hb2); (try clear hk); (try clear hi); have hcz29_0 : w28.cell? ⟨gb434, 0, none⟩ = some (.int .i64 a0_0) := bc BK434 0; have hcz29_1 : w28.cell? ⟨gb434, 1, none⟩ = some (.slice A0_1 l0_1.length c0_1) := bc BK434 1; have hcz29_2 : w28.cell? ⟨gb434, 2, none⟩ = some (.slice A0_2 l0_2.length c0_2) := bc BK434 2; have hfz29_0 := fz BK434 0; have hfz29_1 := fz BK434 1; have hfz29_2 := fz BK434 2; have hcz30_0 : w28.cell? ⟨gb435, 0, none⟩ = some (.int .i64 a1_0) := bc BK435 0; have hcz30_1 : w28.cell? ⟨gb435, 1, none⟩ = some (.slice A1_1 l1_1.length c1_1) := bc BK435 1; have hcz30_2 : w28.cell? ⟨gb435, 2, none⟩ = some (.slice A1_2 l1_2.length c1_2) := bc BK435 2; have hfz30_0 := fz BK435 0; have hfz30_1 := fz BK435 1; have hfz30_2 := fz BK435 2))
   go_meet
   case rel => exact ⟨_, (true), (by first | rfl | (simp; done) | (simp [*]; done)), H', ⟨by first | omega | exact Nat.le_refl _⟩, ⟨bkC BK434⟩, ⟨bkC BK435⟩, ⟨bkC BK436⟩, ⟨hbC _⟩⟩
  rw [if_pos c11] at H
  have c11b0 : (a0_0 == a1_0) = true := beq_iff_eq.mpr c11
  have c11b1 : (a0_0 != a1_0) = false := bne_eq_false_iff_eq.mpr c11
  clear c11
  (first | rw [c11b0] | (simp only [i64_w, i32_w]; rw [c11b0]) | skip)
  replace H := Option.bind_eq_some_iff.mp H
  obtain ⟨t439, A120, H⟩ := H
  replace H : (curves_Plus.j0 k (!t439) a0_0 l0_1 l0_2 a1_0 l1_1 l1_2) = some (r1, r2, r3, r4) := H
  have A12 := Aside0.mk A120
  clear A120
  have H' := Aside0.mk H
  clear H
  have hnb13 := NB434_435.out
  have hnc13 := NB435_434.out
  have hnb14 := NB434_436.out
  have hnc14 := NB436_434.out
  have hcz15_0 : w6.cell? ⟨gb434, 0, none⟩ = some (.int .i64 a0_0) := bc BK434 0
  have hcz15_1 : w6.cell? ⟨gb434, 1, none⟩ = some (.slice A0_1 l0_1.length c0_1) := bc BK434 1
  have hcz15_2 : w6.cell? ⟨gb434, 2, none⟩ = some (.slice A0_2 l0_2.length c0_2) := bc BK434 2
  have hfz15_0 := fz BK434 0
  have hfz15_1 := fz BK434 1
  have hfz15_2 := fz BK434 2
  go_wp2_with (first | ((with_reducible refine gate_callee (f := 23) rfl ?_); refine gL 10 Tryd.func23 #[.agg #[.int .i64 a0_0, .slice A0_1 l0_1.length c0_1, .slice A0_2 l0_2.length c0_2]] ?_; (with_reducible refine (curves_Curve_valid.calls k a0_0 _ _ l0_1 _ _ l0_2 true _ ?side1 ?side2 ?side3 ?side4 A7.out).mono ?_); (case side1 => exact kC HR0_1); (case side2 => exact HC0_1.out); (case side3 => exact kC HR0_2); (case side4 => exact HC0_2.out); rintro e w16 ⟨rfl, hb⟩; refine ⟨_, rfl, ?_⟩; replace BK434 := kB BK434 hb; replace BK435 := kB BK435 hb; replace BK436 := kB BK436 hb; replace HB := kH _ hb; (try clear hb); (try clear hb2); (try clear hk); (try clear hi); have hnb17 := NB435_436.out; have hnc17 := NB436_435.out; have hcz18_0 : w16.cell? ⟨gb435, 0, none⟩ = some (.int .i64 a1_0) := bc BK435 0; have hcz18_1 : w16.cell? ⟨gb435, 1, none⟩ = some (.slice A1_1 l1_1.length c1_1) := bc BK435 1; have hcz18_2 : w16.cell? ⟨gb435, 2, none⟩ = some (.slice A1_2 l1_2.length c1_2) := bc BK435 2; have hfz18_0 := fz BK435 0; have hfz18_1 := fz BK435 1; have hfz18_2 := fz BK435 2) | (go_at_call 23; (with_reducible refine (curves_Curve_valid.calls k a1_0 _ _ l1_1 _ _ l1_2 true _ ?side1 ?side2 ?side3 ?side4 A9.out).mono ?_); (case side1 => exact kC HR1_1); (case side2 => exact HC1_1.out); (case side3 => exact kC HR1_2); (case side4 => exact HC1_2.out); rintro e w19 ⟨rfl, hb⟩; replace BK434 := kB BK434 hb; replace BK435 := kB BK435 hb; replace BK436 := kB BK436 hb; replace HB := kH _ hb; (try clear hb); (try clear hb2); (try clear hk); (try clear hi); have hcz20_0 : w19.cell? ⟨gb434, 0, none⟩ = some (.int .i64 a0_0) := bc BK434 0; have hcz20_1 : w19.cell? ⟨gb434, 1, none⟩ = some (.slice A0_1 l0_1.length c0_1) := bc BK434 1; have hcz20_2 : w19.cell? ⟨gb434, 2, none⟩ = some (.slice A0_2 l0_2.length c0_2) := bc BK434 2; have hfz20_0 := fz BK434 0; have hfz20_1 := fz BK434 1; have hfz20_2 := fz BK434 2; have hcz21_0 : w19.cell? ⟨gb435, 0, none⟩ = some (.int .i64 a1_0) := bc BK435 0; have hcz21_1 : w19.cell? ⟨gb435, 1, none⟩ = some (.slice A1_1 l1_1.length c1_1) := bc BK435 1; have hcz21_2 : w19.cell? ⟨gb435, 2, none⟩ = some (.slice A1_2 l1_2.length c1_2) := bc BK435 2; have hfz21_0 := fz BK435 0; have hfz21_1 := fz BK435 1; have hfz21_2 := fz BK435 2) | (go_at_call 28; (with_reducible refine (slices_Equal_int_int.calls k _ _ l0_1 _ _ l1_1 t439 _ ?side1 ?side2 ?side3 ?side4 A12.out).mono ?_); (case side1 => exact kC HR0_1); (case side2 => exact HC0_1.out); (case side3 => exact kC HR1_1); (case side4 => exact HC1_1.out); rintro e w' ⟨rfl, ⟨nd, rfl⟩⟩))
  go_meet
  case rel => exact ⟨_, (!t439), (by first | rfl | (simp; done) | (simp [*]; done)), H', ⟨by first | omega | exact Nat.le_refl _⟩, ⟨bkC BK434⟩, ⟨bkC BK435⟩, ⟨bkC BK436⟩, ⟨hbC _⟩⟩
 case rest =>
  clear HC3
  try clear c1
  try clear c2
  try clear p2
  try clear c3
  try clear c8
  try clear c10
  try clear c11
  try clear c11b0
  try clear c11b1
  try clear c13
  try clear c14
  try clear c15
  try clear c17
  try clear c22
  try clear c23
  try clear c26
  try clear c31
  try clear c32
  try clear c35
  try clear c38
  try clear c39
  try clear hcz15_0
  try clear hcz15_1
  try clear hcz15_2
  try clear hcz18_0
  try clear hcz18_1
  try clear hcz18_2
  try clear hcz20_0
  try clear hcz20_1
  try clear hcz20_2
  try clear hcz21_0
  try clear hcz21_1
  try clear hcz21_2
  try clear hcz24_0
  try clear hcz24_1
  try clear hcz24_2
  try clear hcz27_0
  try clear hcz27_1
  try clear hcz27_2
  try clear hcz29_0
  try clear hcz29_1
  try clear hcz29_2
  try clear hcz30_0
  try clear hcz30_1
  try clear hcz30_2
  try clear hcz33_0
  try clear hcz33_1
  try clear hcz33_2
  try clear hcz36_0
  try clear hcz36_1
  try clear hcz36_2
  try clear hcz40_0
  try clear hcz40_1
  try clear hcz40_2
  try clear hfz15_0
  try clear hfz15_1
  try clear hfz15_2
  try clear hfz18_0
  try clear hfz18_1
  try clear hfz18_2
  try clear hfz20_0
  try clear hfz20_1
  try clear hfz20_2
  try clear hfz21_0
  try clear hfz21_1
  try clear hfz21_2
  try clear hfz24_0
  try clear hfz24_1
  try clear hfz24_2
  try clear hfz27_0
  try clear hfz27_1
  try clear hfz27_2
  try clear hfz29_0
  try clear hfz29_1
  try clear hfz29_2
  try clear hfz30_0
  try clear hfz30_1
  try clear hfz30_2
  try clear hfz33_0
  try clear hfz33_1
  try clear hfz33_2
  try clear hfz36_0
  try clear hfz36_1
  try clear hfz36_2
  try clear hfz40_0
  try clear hfz40_1
  try clear hfz40_2
  obtain ⟨kq, x31_2, rfl, HA, HJ2, BK434, BK435, BK436, HB⟩ := hcut
  cases kq with
  | zero => exact absurd HA.out (by simp [curves_Plus.j0])
  | succ kj2 =>
   have H := HA.out
   clear HA
   simp only [curves_Plus.j0] at H
   by_cases c42 : x31_2 = true
   ·subst c42
    have H1 : (some (0, ([] : List Int), ([] : List Int), 2)) = some (r1, r2, r3, r4) := by rw [if_pos rfl] at H; exact H
    clear H
    have H := H1
    clear H1
    simp only [Option.some.injEq, Prod.mk.injEq] at H
    obtain ⟨rfl, rfl, rfl, rfl⟩ := H
    have hnb43 := NB436_434.out
    have hnc43 := NB434_436.out
    have hnb44 := NB436_435.out
    have hnc44 := NB435_436.out
    have hcz45_0 : wc.cell? ⟨gb436, 0, none⟩ = some (.int .i64 0) := bc BK436 0
    have hcz45_1 : wc.cell? ⟨gb436, 1, none⟩ = some (.slice none 0 0) := bc BK436 1
    have hcz45_2 : wc.cell? ⟨gb436, 2, none⟩ = some (.slice none 0 0) := bc BK436 2
    have hfz45_0 := fz BK436 0
    have hfz45_1 := fz BK436 1
    have hfz45_2 := fz BK436 2
    go_wp2
    refine bodyPost_ret (results_ct rfl _ _ gb436 31 #[.int .i64 0, .slice none 0 0, .slice none 0 0] (0, 0) _ rfl (by (with_reducible repeat (first | refine blk_drewN ?_ _ | refine blk_drew ?_ | refine blk_alloc ?_ _)); refine blk_put (cs := #[.int .i64 0, .slice none 0 0, .slice none 0 0]) ?_ 2 _ rfl; (with_reducible repeat (first | refine blk_drewN ?_ _ | refine blk_drew ?_ | refine blk_alloc ?_ _)); refine blk_put (cs := #[.int .i64 0, .slice none 0 0, .slice none 0 0]) ?_ 1 _ rfl; (with_reducible repeat (first | refine blk_drewN ?_ _ | refine blk_drew ?_ | refine blk_alloc ?_ _)); refine blk_put (cs := #[.int .i64 0, .slice none 0 0, .slice none 0 0]) ?_ 0 _ rfl; (with_reducible repeat (first | refine blk_drewN ?_ _ | refine blk_drew ?_ | refine blk_alloc ?_ _)); exact BK436.out) Tryd.underlying31 rfl (by kernel_rfl)) rfl ?_
    exact ⟨_, _, by first | rfl | (simp [errW_none, errW_some] <;> rfl) | (simp [*, errW_none, errW_some] <;> rfl), by first | exact Kd.R_nil _ _ _ _ _ | exact Kd.N_nil _ _ _ _ _ | exact Kd.V_nil _ _ _ _ _ | exact Kd.Q_nil _ _ _ _ _ | exact Kd.S_nil _ _ _ _ _, by first | exact Kd.R_nil _ _ _ _ _ | exact Kd.N_nil _ _ _ _ _ | exact Kd.V_nil _ _ _ _ _ | exact Kd.Q_nil _ _ _ _ _ | exact Kd.S_nil _ _ _ _ _, hbC _⟩
   replace c42 := Bool.eq_false_iff.mpr c42
   subst c42
   have H1 : ((slices_Clone_int_int.f l0_1).bind fun t440 => ((slices_Clone_int_int.f l0_2).bind fun t443 => (curves_Plus.l0 kj2 l1_2 (l1_2.length : Int) 0 a0_0 t440 t443))) = some (r1, r2, r3, r4) := by rw [if_neg (show ¬ (false = true) by decide)] at H; exact H
   clear H
   have H := H1
   clear H1
   replace H := Option.bind_eq_some_iff.mp H
   obtain ⟨t440, A460, H⟩ := H
   replace H : ((slices_Clone_int_int.f l0_2).bind fun t443 => (curves_Plus.l0 kj2 l1_2 (l1_2.length : Int) 0 a0_0 t440 t443)) = some (r1, r2, r3, r4) := H
   have A46 := Aside0.mk A460
   clear A460
   replace H := Option.bind_eq_some_iff.mp H
   obtain ⟨t443, A470, H⟩ := H
   replace H : (curves_Plus.l0 kj2 l1_2 (l1_2.length : Int) 0 a0_0 t440 t443) = some (r1, r2, r3, r4) := H
   have A47 := Aside0.mk A470
   clear A470
   have H' := Aside0.mk H
   clear H
   try go_wp2
   replace BK434 := kd BK434
   replace BK435 := kd BK435
   replace BK436 := kd BK436
   replace HB := ak (below_drew1 HB.out)
   refine sS (n := 11) (S := fun w' => w'.cell? ⟨gb434, 0, none⟩ = some (.int .i64 a0_0) ∧ w'.cell? ⟨gb434, 1, none⟩ = some (.slice A0_1 l0_1.length c0_1) ∧ w'.cell? ⟨gb434, 2, none⟩ = some (.slice A0_2 l0_2.length c0_2)) (ds := []) ⟨bc BK434 0, bc BK434 1, bc BK434 2⟩ (fun hHeld => ?_); refine with_tabW curves_Plus.tab3 curves_Plus.bits3 (fun HT_ HW_ => ?_)
   generalize wc.drew = w48 at BK434 BK435 BK436 HB hHeld ⊢
   refine pS 0 33 11 1 ?_
   refine pS 2 35 11 5 ?_
   refine pS 5 38 11 37 ?_
   refine tS 1 34 11 39 ?_
   refine tS 3 36 11 47 ?_
   refine tS 6 39 11 111 ?_
   refine join_ (σ := Value × Value × Nat) 1 (ba 11 1023) (fun s_ => [(37, s_.1), (40, s_.2.1), (6, .pointer (some ⟨s_.2.2, 0, none⟩)), (41, .agg #[.int .i64 a0_0, s_.1, s_.2.1])]) (fun s_ w' => (w'.cell? ⟨gb434, 0, none⟩ = some (.int .i64 a0_0) ∧ w'.cell? ⟨gb434, 1, none⟩ = some (.slice A0_1 l0_1.length c0_1) ∧ w'.cell? ⟨gb434, 2, none⟩ = some (.slice A0_2 l0_2.length c0_2)) ∧ (Kd.R (Kd.int .i64) 3 w' w.heap.size (fun k_ => some k_ ≠ (s_.2.1 : Value).ownBlock) s_.1 t440) ∧ (Kd.R (Kd.int .i64) 3 w' w.heap.size (fun k_ => some k_ ≠ (s_.1 : Value).ownBlock) s_.2.1 t443) ∧ (w'.heap[gb434]? = some (.cells #[.int .i64 a0_0, .slice A0_1 l0_1.length c0_1, .slice A0_2 l0_2.length c0_2] 31 (0, 0))) ∧ (w'.heap[gb435]? = some (.cells #[.int .i64 a1_0, .slice A1_1 l1_1.length c1_1, .slice A1_2 l1_2.length c1_2] 31 (0, 0))) ∧ (w'.heap[gb436]? = some (.cells #[.int .i64 0, .slice none 0 0, .slice none 0 0] 31 (0, 0))) ∧ (w'.heap[s_.2.2]? = some (.cells #[.int .i64 0, .slice none 0 0, .slice none 0 0] 31 (0, 0))) ∧ (w.heap.size ≤ s_.2.2) ∧ (w.heap.size ≤ s_.2.2) ∧ (gb434 ≠ s_.2.2) ∧ (s_.2.2 ≠ gb434) ∧ (gb435 ≠ s_.2.2) ∧ (s_.2.2 ≠ gb435) ∧ (gb436 ≠ s_.2.2) ∧ (s_.2.2 ≠ gb436) ∧ (Below w.heap.size w w')) ?_ ?_
   rotate_left
   ·intro hCont
    refine two_ (i := 4) (j := 9) (Ni := some 37) (Nj := some 6) (ba 11 127) (ba 11 623) rfl rfl rfl rfl (two_of HT_.out (by kernel_rfl)) (by decide) (by decide) (fun K hK => ?_) (fun K hK => ?_)
    ·skip
     refine gC Tryd.func25 #[.slice A0_1 l0_1.length c0_1] ?_
     with_reducible refine (slices_Clone_int_int.calls _ _ l0_1 t440 _ ?side1 ?side2 A46.out).mono ?_
     (case side1 => exact kC HR0_1)
     (case side2 => exact HC0_1.out)
     rintro e w49 ⟨v441, rfl, ho0, hb⟩
     refine ⟨_, rfl, ?_⟩
     have HO442 := ak (Kd.R_lower ho0 (below_size (hbC _)))
     replace BK434 := kB BK434 hb
     replace BK435 := kB BK435 hb
     replace BK436 := kB BK436 hb
     replace HB := kH _ hb
     (try clear hb)
     (try clear hb2)
     (try clear hk)
     (try clear hi)
     (try clear ho0)
     refine hK.out _ _ ⟨bc BK434 0, bc BK434 1, bc BK434 2⟩ (fun hHeld => ?_)
     clear hK K
     refine norm_ (a' := ?_) ?_ ?_
     rotate_left
     ·show Act.put _ (some 37) _ = _
      simp only [Act.put, List.setIfInBounds_toArray, List.set_cons_zero, List.set_cons_succ, i64_w, i32_w]
      rfl
     refine two_ (i := 7) (j := 9) (Ni := some 40) (Nj := some 6) (ba 11 255) (ba 11 639) rfl rfl rfl rfl (two_of HT_.out (by kernel_rfl)) (by decide) (by decide) (fun K hK => ?_) (fun K hK => ?_)
     ·skip
      refine gC Tryd.func25 #[.slice A0_2 l0_2.length c0_2] ?_
      with_reducible refine (slices_Clone_int_int.calls _ _ l0_2 t443 _ ?side1 ?side2 A47.out).mono ?_
      (case side1 => exact kC HR0_2)
      (case side2 => exact HC0_2.out)
      rintro e w50 ⟨v444, rfl, ho0, hb⟩
      refine ⟨_, rfl, ?_⟩
      have HO445 := ak (Kd.R_lower (Kd.R_new' ho0 (Kd.R_lt (rC HO442))) (below_size (hbC _)))
      replace HO442 := ak (Kd.R_elder' (rC HO442) (Kd.R_base ho0) hb)
      replace BK434 := kB BK434 hb
      replace BK435 := kB BK435 hb
      replace BK436 := kB BK436 hb
      replace HB := kH _ hb
      (try clear hb)
      (try clear hb2)
      (try clear hk)
      (try clear hi)
      (try clear ho0)
      obtain ⟨Ao51, co51, eo51⟩ := Kd.R_slice HO445.out
      (first | subst eo51 | (injection eo51 with f1_ f2_ f3_; have f4_ := f1_.symm; have f5_ := f3_.symm; clear f1_ f2_ f3_; subst f4_; subst f5_))
      obtain ⟨Ao52, co52, eo52⟩ := Kd.R_slice HO442.out
      (first | subst eo52 | (injection eo52 with f1_ f2_ f3_; have f4_ := f1_.symm; have f5_ := f3_.symm; clear f1_ f2_ f3_; subst f4_; subst f5_))
      refine hK.out _ _ ⟨bc BK434 0, bc BK434 1, bc BK434 2⟩ (fun hHeld => ?_)
      clear hK K
      refine norm_ (a' := ?_) ?_ ?_
      rotate_left
      ·show Act.put _ (some 40) _ = _
       simp only [Act.put, List.setIfInBounds_toArray, List.set_cons_zero, List.set_cons_succ, i64_w, i32_w]
       rfl
      refine pS 8 41 11 511 ?_
      refine one_ (i := 9) (N := some 6) (ba 11 1023) rfl rfl (one_of HT_.out (by kernel_rfl)) (by decide) (fun K hK => ?_)
      refine box_step ?hg (N := 6) ?hd (cs := #[.int .i64 0, .slice none 0 0, .slice none 0 0]) (t := 31) ?hr ?_; (case hd => rfl); (case hg => rfl); (case hr => first | (go_simp; done) | (go_simp; rfl))
      intro gb446 hg w53 hbox hb
      replace HO442 := kO HO442 hb
      replace HO445 := kO HO445 hb
      have BK446 := ak (hbox)
      have GW446 := kG w hg
      have GE446 := kG w hg
      replace HB := kH _ hb
      have NB434_446 := kL BK434 hg
      have NB446_434 := kR BK434 hg
      replace BK434 := kB BK434 hb
      have NB435_446 := kL BK435 hg
      have NB446_435 := kR BK435 hg
      replace BK435 := kB BK435 hb
      have NB436_446 := kL BK436 hg
      have NB446_436 := kR BK436 hg
      replace BK436 := kB BK436 hb
      clear hb hbox hg
      refine hK.out _ _ ⟨bc BK434 0, bc BK434 1, bc BK434 2⟩ (fun hHeld => ?_)
      clear hK K
      refine norm_ (a' := ?_) ?_ ?_
      rotate_left
      ·show Act.put _ (some 6) _ = _
       simp only [Act.put, List.setIfInBounds_toArray, List.set_cons_zero, List.set_cons_succ, i64_w, i32_w]
       rfl
      exact norm_ (by simp only [putAll, Act.put, List.setIfInBounds_toArray, List.set_cons_zero, List.set_cons_succ]) (hCont (.slice Ao52 t440.length co52, .slice Ao51 t443.length co51, gb446) _ ⟨hHeld, (rD (Kd.R_mono HO442.out (fun _ hk => hk.2))), (rD (Kd.R_mono HO445.out (fun _ hk => hk.2))), (bkC BK434), (bkC BK435), (bkC BK436), (bkC BK446), GW446.out, GE446.out, NB434_446.out, NB446_434.out, NB435_446.out, NB446_435.out, NB436_446.out, NB446_436.out, (hbC _)⟩)
     ·skip
      refine box_step ?hg (N := 6) ?hd (cs := #[.int .i64 0, .slice none 0 0, .slice none 0 0]) (t := 31) ?hr ?_; (case hd => rfl); (case hg => rfl); (case hr => first | (go_simp; done) | (go_simp; rfl))
      intro gb446 hg w50 hbox hb
      replace HO442 := kO HO442 hb
      have BK446 := ak (hbox)
      have GW446 := kG w hg
      have GE446 := kG w hg
      replace HB := kH _ hb
      have NB434_446 := kL BK434 hg
      have NB446_434 := kR BK434 hg
      replace BK434 := kB BK434 hb
      have NB435_446 := kL BK435 hg
      have NB446_435 := kR BK435 hg
      replace BK435 := kB BK435 hb
      have NB436_446 := kL BK436 hg
      have NB446_436 := kR BK436 hg
      replace BK436 := kB BK436 hb
      clear hb hbox hg
      refine hK.out _ _ ⟨bc BK434 0, bc BK434 1, bc BK434 2⟩ (fun hHeld => ?_)
      clear hK K
      refine norm_ (a' := ?_) ?_ ?_
      rotate_left
      ·show Act.put _ (some 6) _ = _
       simp only [Act.put, List.setIfInBounds_toArray, List.set_cons_zero, List.set_cons_succ, i64_w, i32_w]
       rfl
      refine one_ (i := 7) (N := some 40) (ba 11 767) rfl rfl (one_of HT_.out (by kernel_rfl)) (by decide) (fun K hK => ?_)
      refine gC Tryd.func25 #[.slice A0_2 l0_2.length c0_2] ?_
      with_reducible refine (slices_Clone_int_int.calls _ _ l0_2 t443 _ ?side1 ?side2 A47.out).mono ?_
      (case side1 => exact kC HR0_2)
      (case side2 => exact HC0_2.out)
      rintro e w51 ⟨v444, rfl, ho0, hb⟩
      refine ⟨_, rfl, ?_⟩
      have HO445 := ak (Kd.R_lower (Kd.R_new' ho0 (Kd.R_lt (rC HO442))) (below_size (hbC _)))
      replace HO442 := ak (Kd.R_elder' (rC HO442) (Kd.R_base ho0) hb)
      replace BK434 := kB BK434 hb
      replace BK435 := kB BK435 hb
      replace BK436 := kB BK436 hb
      replace BK446 := kB BK446 hb
      replace HB := kH _ hb
      (try clear hb)
      (try clear hb2)
      (try clear hk)
      (try clear hi)
      (try clear ho0)
      obtain ⟨Ao52, co52, eo52⟩ := Kd.R_slice HO445.out
      (first | subst eo52 | (injection eo52 with f1_ f2_ f3_; have f4_ := f1_.symm; have f5_ := f3_.symm; clear f1_ f2_ f3_; subst f4_; subst f5_))
      obtain ⟨Ao53, co53, eo53⟩ := Kd.R_slice HO442.out
      (first | subst eo53 | (injection eo53 with f1_ f2_ f3_; have f4_ := f1_.symm; have f5_ := f3_.symm; clear f1_ f2_ f3_; subst f4_; subst f5_))
      refine hK.out _ _ ⟨bc BK434 0, bc BK434 1, bc BK434 2⟩ (fun hHeld => ?_)
      clear hK K
      refine norm_ (a' := ?_) ?_ ?_
      rotate_left
      ·show Act.put _ (some 40) _ = _
       simp only [Act.put, List.setIfInBounds_toArray, List.set_cons_zero, List.set_cons_succ, i64_w, i32_w]
       rfl
      refine pS 8 41 11 1023 ?_
      exact norm_ (by simp only [putAll, Act.put, List.setIfInBounds_toArray, List.set_cons_zero, List.set_cons_succ]) (hCont (.slice Ao53 t440.length co53, .slice Ao52 t443.length co52, gb446) _ ⟨hHeld, (rD (Kd.R_mono HO442.out (fun _ hk => hk.2))), (rD (Kd.R_mono HO445.out (fun _ hk => hk.2))), (bkC BK434), (bkC BK435), (bkC BK436), (bkC BK446), GW446.out, GE446.out, NB434_446.out, NB446_434.out, NB435_446.out, NB446_435.out, NB436_446.out, NB446_436.out, (hbC _)⟩)
    ·skip
     refine box_step ?hg (N := 6) ?hd (cs := #[.int .i64 0, .slice none 0 0, .slice none 0 0]) (t := 31) ?hr ?_; (case hd => rfl); (case hg => rfl); (case hr => first | (go_simp; done) | (go_simp; rfl))
     intro gb446 hg w49 hbox hb
     have BK446 := ak (hbox)
     have GW446 := kG w hg
     have GE446 := kG w hg
     replace HB := kH _ hb
     have NB434_446 := kL BK434 hg
     have NB446_434 := kR BK434 hg
     replace BK434 := kB BK434 hb
     have NB435_446 := kL BK435 hg
     have NB446_435 := kR BK435 hg
     replace BK435 := kB BK435 hb
     have NB436_446 := kL BK436 hg
     have NB446_436 := kR BK436 hg
     replace BK436 := kB BK436 hb
     clear hb hbox hg
     refine hK.out _ _ ⟨bc BK434 0, bc BK434 1, bc BK434 2⟩ (fun hHeld => ?_)
     clear hK K
     refine norm_ (a' := ?_) ?_ ?_
     rotate_left
     ·show Act.put _ (some 6) _ = _
      simp only [Act.put, List.setIfInBounds_toArray, List.set_cons_zero, List.set_cons_succ, i64_w, i32_w]
      rfl
     refine one_ (i := 4) (N := some 37) (ba 11 639) rfl rfl (one_of HT_.out (by kernel_rfl)) (by decide) (fun K hK => ?_)
     refine gC Tryd.func25 #[.slice A0_1 l0_1.length c0_1] ?_
     with_reducible refine (slices_Clone_int_int.calls _ _ l0_1 t440 _ ?side1 ?side2 A46.out).mono ?_
     (case side1 => exact kC HR0_1)
     (case side2 => exact HC0_1.out)
     rintro e w50 ⟨v441, rfl, ho0, hb⟩
     refine ⟨_, rfl, ?_⟩
     have HO442 := ak (Kd.R_lower ho0 (below_size (hbC _)))
     replace BK434 := kB BK434 hb
     replace BK435 := kB BK435 hb
     replace BK436 := kB BK436 hb
     replace BK446 := kB BK446 hb
     replace HB := kH _ hb
     (try clear hb)
     (try clear hb2)
     (try clear hk)
     (try clear hi)
     (try clear ho0)
     refine hK.out _ _ ⟨bc BK434 0, bc BK434 1, bc BK434 2⟩ (fun hHeld => ?_)
     clear hK K
     refine norm_ (a' := ?_) ?_ ?_
     rotate_left
     ·show Act.put _ (some 37) _ = _
      simp only [Act.put, List.setIfInBounds_toArray, List.set_cons_zero, List.set_cons_succ, i64_w, i32_w]
      rfl
     refine one_ (i := 7) (N := some 40) (ba 11 767) rfl rfl (one_of HT_.out (by kernel_rfl)) (by decide) (fun K hK => ?_)
     refine gC Tryd.func25 #[.slice A0_2 l0_2.length c0_2] ?_
     with_reducible refine (slices_Clone_int_int.calls _ _ l0_2 t443 _ ?side1 ?side2 A47.out).mono ?_
     (case side1 => exact kC HR0_2)
     (case side2 => exact HC0_2.out)
     rintro e w51 ⟨v444, rfl, ho0, hb⟩
     refine ⟨_, rfl, ?_⟩
     have HO445 := ak (Kd.R_lower (Kd.R_new' ho0 (Kd.R_lt (rC HO442))) (below_size (hbC _)))
     replace HO442 := ak (Kd.R_elder' (rC HO442) (Kd.R_base ho0) hb)
     replace BK434 := kB BK434 hb
     replace BK435 := kB BK435 hb
     replace BK436 := kB BK436 hb
     replace BK446 := kB BK446 hb
     replace HB := kH _ hb
     (try clear hb)
     (try clear hb2)
     (try clear hk)
     (try clear hi)
     (try clear ho0)
     obtain ⟨Ao52, co52, eo52⟩ := Kd.R_slice HO445.out
     (first | subst eo52 | (injection eo52 with f1_ f2_ f3_; have f4_ := f1_.symm; have f5_ := f3_.symm; clear f1_ f2_ f3_; subst f4_; subst f5_))
     obtain ⟨Ao53, co53, eo53⟩ := Kd.R_slice HO442.out
     (first | subst eo53 | (injection eo53 with f1_ f2_ f3_; have f4_ := f1_.symm; have f5_ := f3_.symm; clear f1_ f2_ f3_; subst f4_; subst f5_))
     refine hK.out _ _ ⟨bc BK434 0, bc BK434 1, bc BK434 2⟩ (fun hHeld => ?_)
     clear hK K
     refine norm_ (a' := ?_) ?_ ?_
     rotate_left
     ·show Act.put _ (some 40) _ = _
      simp only [Act.put, List.setIfInBounds_toArray, List.set_cons_zero, List.set_cons_succ, i64_w, i32_w]
      rfl
     refine pS 8 41 11 1023 ?_
     exact norm_ (by simp only [putAll, Act.put, List.setIfInBounds_toArray, List.set_cons_zero, List.set_cons_succ]) (hCont (.slice Ao53 t440.length co53, .slice Ao52 t443.length co52, gb446) _ ⟨hHeld, (rD (Kd.R_mono HO442.out (fun _ hk => hk.2))), (rD (Kd.R_mono HO445.out (fun _ hk => hk.2))), (bkC BK434), (bkC BK435), (bkC BK436), (bkC BK446), GW446.out, GE446.out, NB434_446.out, NB446_434.out, NB435_446.out, NB446_435.out, NB436_446.out, NB446_436.out, (hbC _)⟩)
   rintro ⟨v441, v444, gb446⟩ w54 ⟨hS_, h0_, h1_, h2_, h3_, h4_, h5_, h6_, h7_, h8_, h9_, h10_, h11_, h12_, h13_, h14_⟩
   have n0_ : Aside0 (Kd.R (Kd.int .i64) 3 w54 w.heap.size (fun k_ => nb k_ v444) v441 t440) := ⟨h0_⟩
   have n1_ : Aside0 (Kd.R (Kd.int .i64) 3 w54 w.heap.size (fun k_ => nb k_ v441) v444 t443) := ⟨h1_⟩
   have n2_ : Aside0 (w54.heap[gb434]? = some (.cells #[.int .i64 a0_0, .slice A0_1 l0_1.length c0_1, .slice A0_2 l0_2.length c0_2] 31 (0, 0))) := ⟨h2_⟩
   have n3_ : Aside0 (w54.heap[gb435]? = some (.cells #[.int .i64 a1_0, .slice A1_1 l1_1.length c1_1, .slice A1_2 l1_2.length c1_2] 31 (0, 0))) := ⟨h3_⟩
   have n4_ : Aside0 (w54.heap[gb436]? = some (.cells #[.int .i64 0, .slice none 0 0, .slice none 0 0] 31 (0, 0))) := ⟨h4_⟩
   have n5_ : Aside0 (w54.heap[gb446]? = some (.cells #[.int .i64 0, .slice none 0 0, .slice none 0 0] 31 (0, 0))) := ⟨h5_⟩
   have n6_ : Aside0 (w.heap.size ≤ gb446) := ⟨h6_⟩
   have n7_ : Aside0 (w.heap.size ≤ gb446) := ⟨h7_⟩
   have n8_ : Aside0 (gb434 ≠ gb446) := ⟨h8_⟩
   have n9_ : Aside0 (gb446 ≠ gb434) := ⟨h9_⟩
   have n10_ : Aside0 (gb435 ≠ gb446) := ⟨h10_⟩
   have n11_ : Aside0 (gb446 ≠ gb435) := ⟨h11_⟩
   have n12_ : Aside0 (gb436 ≠ gb446) := ⟨h12_⟩
   have n13_ : Aside0 (gb446 ≠ gb436) := ⟨h13_⟩
   have n14_ : Aside0 (Below w.heap.size w w54) := ⟨h14_⟩
   clear BK434
   clear BK435
   clear BK436
   clear HB
   clear h0_ h1_ h2_ h3_ h4_ h5_ h6_ h7_ h8_ h9_ h10_ h11_ h12_ h13_ h14_
   have HO442 := n0_
   have HO445 := n1_
   have BK434 := n2_
   have BK435 := n3_
   have BK436 := n4_
   have BK446 := n5_
   have GW446 := n6_
   have GE446 := n7_
   have NB434_446 := n8_
   have NB446_434 := n9_
   have NB435_446 := n10_
   have NB446_435 := n11_
   have NB436_446 := n12_
   have NB446_436 := n13_
   have HB := n14_
   clear n0_ n1_ n2_ n3_ n4_ n5_ n6_ n7_ n8_ n9_ n10_ n11_ n12_ n13_ n14_
   have hHeld : w54.cell? ⟨gb434, 0, none⟩ = some (.int .i64 a0_0) ∧ w54.cell? ⟨gb434, 1, none⟩ = some (.slice A0_1 l0_1.length c0_1) ∧ w54.cell? ⟨gb434, 2, none⟩ = some (.slice A0_2 l0_2.length c0_2) := hS_
   obtain ⟨Ao55, co55, eo55⟩ := Kd.R_slice HO445.out
   (first | subst eo55 | (injection eo55 with f1_ f2_ f3_; have f4_ := f1_.symm; have f5_ := f3_.symm; clear f1_ f2_ f3_; subst f4_; subst f5_))
   obtain ⟨Ao56, co56, eo56⟩ := Kd.R_slice HO442.out
   (first | subst eo56 | (injection eo56 with f1_ f2_ f3_; have f4_ := f1_.symm; have f5_ := f3_.symm; clear f1_ f2_ f3_; subst f4_; subst f5_))
   refine norm_ (a' := ?_) ?_ ?_
   rotate_left
   ·simp only [putAll, Act.put, List.setIfInBounds_toArray, List.set_cons_zero, List.set_cons_succ]
    rfl
   refine one_ (i := 10) (N := none) (ba 11 2047) rfl rfl (one_of HT_.out (by kernel_rfl)) (by decide) (fun K hK => ?_)
   have hs57 : w54.cell? ⟨gb446, 0, none⟩ = some (.int .i64 0) := bc BK446 0
   have hfs57 := fz BK446 0
   have hns57_0 := NB434_446.out
   have hns57_1 := NB435_446.out
   have hns57_2 := NB436_446.out
   have hms57_0 := NB446_434.out
   have hms57_1 := NB446_435.out
   have hms57_2 := NB446_436.out
   have hs58 : w54.cell? ⟨gb446, 1, none⟩ = some (.slice none 0 0) := bc BK446 1
   have hfs58 := fz BK446 1
   have hns58_0 := NB434_446.out
   have hns58_1 := NB435_446.out
   have hns58_2 := NB436_446.out
   have hms58_0 := NB446_434.out
   have hms58_1 := NB446_435.out
   have hms58_2 := NB446_436.out
   have hs59 : w54.cell? ⟨gb446, 2, none⟩ = some (.slice none 0 0) := bc BK446 2
   have hfs59 := fz BK446 2
   have hns59_0 := NB434_446.out
   have hns59_1 := NB435_446.out
   have hns59_2 := NB436_446.out
   have hms59_0 := NB446_434.out
   have hms59_1 := NB446_435.out
   have hms59_2 := NB446_436.out
   refine skip_ (w1 := ?_) (by rfl) rfl ?_ ?_
   rotate_left
   ·go_simp
    rfl
   refine hK.out _ _ ⟨((cell_far (p := ⟨gb446, _, none⟩) NB434_446.out _).trans (((cell_far (p := ⟨gb446, _, none⟩) NB434_446.out _).trans (((cell_far (p := ⟨gb446, _, none⟩) NB434_446.out _).trans (hHeld.1)))))), ((cell_far (p := ⟨gb446, _, none⟩) NB434_446.out _).trans (((cell_far (p := ⟨gb446, _, none⟩) NB434_446.out _).trans (((cell_far (p := ⟨gb446, _, none⟩) NB434_446.out _).trans (hHeld.2.1)))))), ((cell_far (p := ⟨gb446, _, none⟩) NB434_446.out _).trans (((cell_far (p := ⟨gb446, _, none⟩) NB434_446.out _).trans (((cell_far (p := ⟨gb446, _, none⟩) NB434_446.out _).trans (hHeld.2.2))))))⟩ (fun hHeld => ?_)
   clear hK K
   refine done_ (done_of HT_.out (by kernel_rfl)) ?_
   have hnb60 := NB435_434.out
   have hnc60 := NB434_435.out
   have hnb61 := NB435_436.out
   have hnc61 := NB436_435.out
   have hnb62 := NB435_446.out
   have hnc62 := NB446_435.out
   have hcz63_0 : w54.cell? ⟨gb435, 0, none⟩ = some (.int .i64 a1_0) := bc BK435 0
   have hcz63_1 : w54.cell? ⟨gb435, 1, none⟩ = some (.slice A1_1 l1_1.length c1_1) := bc BK435 1
   have hcz63_2 : w54.cell? ⟨gb435, 2, none⟩ = some (.slice A1_2 l1_2.length c1_2) := bc BK435 2
   have hfz63_0 := fz BK435 0
   have hfz63_1 := fz BK435 1
   have hfz63_2 := fz BK435 2
   try go_wp2
   go_loopg [45] kj2 (fun kq v45 w' => ∃ (x45_2 : Int) (x447001_2 : List Int) (x447002_2 : List Int) (u447001 : Value) (u447002 : Value), v45 = .int .i64 x45_2 ∧ Aside0 (curves_Plus.l0 kq l1_2 (l1_2.length : Int) x45_2 a0_0 x447001_2 x447002_2 = some (r1, r2, r3, r4)) ∧ Aside0 (kq ≤ kj2) ∧ Aside0 (Kd.R (Kd.int .i64) 3 w' w.heap.size (fun k_ => nb k_ u447002) u447001 x447001_2) ∧ Aside0 (Kd.R (Kd.int .i64) 3 w' w.heap.size (fun k_ => nb k_ u447001) u447002 x447002_2) ∧ Aside0 (w'.heap[gb434]? = some (.cells #[.int .i64 a0_0, (.slice A0_1 l0_1.length c0_1), (.slice A0_2 l0_2.length c0_2)] 31 (0, 0))) ∧ Aside0 (w'.heap[gb435]? = some (.cells #[.int .i64 a1_0, (.slice A1_1 l1_1.length c1_1), (.slice A1_2 l1_2.length c1_2)] 31 (0, 0))) ∧ Aside0 (w'.heap[gb436]? = some (.cells #[.int .i64 0, (.slice none 0 0), (.slice none 0 0)] 31 (0, 0))) ∧ Aside0 (w'.heap[gb446]? = some (.cells #[.int .i64 a0_0, u447001, u447002] 31 (0, 0))) ∧ Aside0 (Below w.heap.size w w'))
   case atStart => exact ⟨(0), (t440), (t443), (.slice Ao56 t440.length co56), (.slice Ao55 t443.length co55), (by first | rfl | (simp; done) | (simp [*]; done)), H', ⟨Nat.le_refl _⟩, ⟨rD (Kd.R_mono (Kd.R_far (p := ⟨gb446, 2, none⟩) (Kd.R_far (p := ⟨gb446, 1, none⟩) (Kd.R_far (p := ⟨gb446, 0, none⟩) (Kd.R_types HO442.out BK446.out (by decide)) (fun _ hk => hk.2) (.int .i64 a0_0)) (fun _ hk => hk.2) (.slice Ao56 t440.length co56)) (fun _ hk => hk.2) (.slice Ao55 t443.length co55)) (fun _ hk => hk.1))⟩, ⟨rD (Kd.R_mono (Kd.R_far (p := ⟨gb446, 2, none⟩) (Kd.R_far (p := ⟨gb446, 1, none⟩) (Kd.R_far (p := ⟨gb446, 0, none⟩) (Kd.R_types HO445.out BK446.out (by decide)) (fun _ hk => hk.2) (.int .i64 a0_0)) (fun _ hk => hk.2) (.slice Ao56 t440.length co56)) (fun _ hk => hk.2) (.slice Ao55 t443.length co55)) (fun _ hk => hk.1))⟩, ⟨bF BK434⟩, ⟨bF BK435⟩, ⟨bF BK436⟩, ⟨by (with_reducible repeat (first | refine blk_drewN ?_ _ | refine blk_drew ?_ | refine blk_alloc ?_ _)); refine blk_put (cs := #[.int .i64 a0_0, .slice Ao56 t440.length co56, .slice none 0 0]) ?_ 2 _ rfl; (with_reducible repeat (first | refine blk_drewN ?_ _ | refine blk_drew ?_ | refine blk_alloc ?_ _)); refine blk_put (cs := #[.int .i64 a0_0, .slice none 0 0, .slice none 0 0]) ?_ 1 _ rfl; (with_reducible repeat (first | refine blk_drewN ?_ _ | refine blk_drew ?_ | refine blk_alloc ?_ _)); refine blk_put (cs := #[.int .i64 0, .slice none 0 0, .slice none 0 0]) ?_ 0 _ rfl; (with_reducible repeat (first | refine blk_drewN ?_ _ | refine blk_drew ?_ | refine blk_alloc ?_ _)); exact BK446.out⟩, ⟨hbC _⟩⟩
   case round =>
    clear H'
    try clear c1
    try clear c2
    try clear p2
    try clear c4
    try clear c6
    try clear c25
    try clear c42
    try clear c43
    try clear c44
    try clear c60
    try clear c61
    try clear c62
    try clear hcz45_0
    try clear hcz45_1
    try clear hcz45_2
    try clear hcz63_0
    try clear hcz63_1
    try clear hcz63_2
    try clear hfz18_2
    try clear hfz20_0
    try clear hfz20_1
    try clear hfz20_2
    try clear hfz21_0
    try clear hfz21_1
    try clear hfz21_2
    try clear hfz24_0
    try clear hfz24_1
    try clear hfz24_2
    try clear hfz27_0
    try clear hfz27_1
    try clear hfz27_2
    try clear hfz29_0
    try clear hfz29_1
    try clear hfz29_2
    try clear hfz30_0
    try clear hfz30_1
    try clear hfz30_2
    try clear hfz33_0
    try clear hfz33_1
    try clear hfz33_2
    try clear hfz36_0
    try clear hfz36_1
    try clear hfz36_2
    try clear hfz40_0
    try clear hfz40_1
    try clear hfz40_2
    try clear hfz45_0
    try clear hfz45_1
    try clear hfz45_2
    try clear hfz63_0
    try clear hfz63_1
    try clear hfz63_2
    obtain ⟨x45_2, x447001_2, x447002_2, u447001, u447002, rfl, HA, HK2, HO_447001, HO_447002, BK434, BK435, BK436, BK446, HB⟩ := hrel
    cases gk with
    | zero => exact absurd HA.out (by simp [curves_Plus.l0])
    | succ k2 =>
     have H := HA.out
     clear HA
     simp only [curves_Plus.l0] at H
     by_cases c64 : x45_2 < (l1_2.length : Int)
     ·rw [if_pos c64] at H
      have c64b0 : decide (x45_2 < (l1_2.length : Int)) = true := decide_eq_true c64
      clear c64
      by_cases c65 : 0 ≤ x45_2
      rotate_left
      ·rw [if_neg c65] at H
       exact absurd H (by simp)
      rw [if_pos c65] at H
      have c65b0 : decide (0 ≤ x45_2) = true := decide_eq_true c65
      clear c65
      by_cases c66 : x45_2 < (l1_2.length : Int)
      rotate_left
      ·rw [if_neg c66] at H
       exact absurd H (by simp)
      rw [if_pos c66] at H
      have c66b0 : decide (x45_2 < (l1_2.length : Int)) = true := decide_eq_true c66
      clear c66
      by_cases c67 : x45_2 < (x447002_2.length : Int)
      rotate_left
      ·rw [if_neg c67] at H
       exact absurd H (by simp)
      rw [if_pos c67] at H
      have c67b0 : decide (x45_2 < (x447002_2.length : Int)) = true := decide_eq_true c67
      clear c67
      obtain ⟨y449, hy449⟩ : ∃ y_ : List Int, y_ = (x447002_2.set (x45_2 : Int).toNat (wrap64 ((rd x447002_2 x45_2) + (rd l1_2 x45_2)))) := ⟨_, rfl⟩
      replace H : (curves_Plus.l0 k2 l1_2 (l1_2.length : Int) (wrap64 (x45_2 + 1)) a0_0 x447001_2 y449) = some (r1, r2, r3, r4) := by first | (rw [hy449]; with_reducible exact H) | (have H2_ := (Option.bind_some _ _).symm.trans H; rw [hy449]; with_reducible exact H2_) | (have H2_ := (Option.bind_some _ _).symm.trans H; with_reducible exact H2_) | with_reducible exact H | (rw [hy449]; exact H) | exact H
      have Ny449 := Aside0.mk hy449
      clear hy449
      have H' := Aside0.mk H
      clear H
      have p447 : 0 ≤ (x45_2 : Int) := dA
      have q447 : x45_2 < (l1_2.length : Int) := dA
      obtain ⟨ad447, e447, hx447_0⟩ := Kd.at_int HR1_2.out x45_2 p447 q447
      cases e447
      try replace hx447_0 := (HB.out.cell (World.block_lt_of_cell? w _ hx447_0)).trans hx447_0
      replace p447 := eq_true p447
      replace q447 := eq_true q447
      have hnb69 := NB446_434.out
      have hnc69 := NB434_446.out
      have hnb70 := NB446_435.out
      have hnc70 := NB435_446.out
      have hnb71 := NB446_436.out
      have hnc71 := NB436_446.out
      have hcz72_0 : wr.cell? ⟨gb446, 0, none⟩ = some (.int .i64 a0_0) := bc BK446 0
      have hcz72_1 : wr.cell? ⟨gb446, 1, none⟩ = some (u447001) := bc BK446 1
      have hcz72_2 : wr.cell? ⟨gb446, 2, none⟩ = some (u447002) := bc BK446 2
      have hfz72_0 := fz BK446 0
      have hfz72_1 := fz BK446 1
      have hfz72_2 := fz BK446 2
      obtain ⟨Ao73, co73, eo73⟩ := Kd.R_slice HO_447002.out
      subst eo73
      have p448 : 0 ≤ (x45_2 : Int) := dA
      have q448 : x45_2 < (x447002_2.length : Int) := dA
      obtain ⟨ad448, e448, hx448_0⟩ := Kd.at_int (Kd.R_reads' HO_447002.out).2.2 x45_2 p448 q448
      cases e448
      replace p448 := eq_true p448
      replace q448 := eq_true q448
      have p68 : 0 ≤ (x45_2 : Int) := dA
      have q68 : (x45_2 : Int) < ((x447002_2.length : Int) : Int) := dA
      obtain ⟨go68, co68, eo68, gb68, gl68, cl68, HG68⟩ := Kd.R_form HO_447002.out (by omega)
      (first | cases eo68 | (injection eo68 with ea_ en_ ec_; (first | subst ea_ | (injection ea_ with ea_; subst ea_)); subst ec_; clear en_))
      have GB68 := Aside0.mk gb68
      have GG68 := Aside0.mk HG68
      clear gb68 gl68 HG68
      (first | simp only [add_plain] at hx448_0 | skip)
      obtain ⟨hx68_0, hf68_0⟩ := Kd.R_celln 0 HO_447002.out (x45_2 : Int) p68 q68
      replace p68 := eq_true p68
      replace q68 := eq_true q68
      have HP74 := Kd.R_putg HO_447002.out (x45_2 : Int) (wrap64 ((rd x447002_2 x45_2) + (rd l1_2 x45_2)))
      go_wp2_with (first | ((with_reducible refine gate_store (t := 3) (p := 57) rfl ?_); refine store_event (t := 3) (p := 57) (v := ?vo_w75) (w1 := (wr.setCell ⟨go68, (x45_2 : Int).toNat, none⟩ (.int .i64 (wrap64 ((rd x447002_2 x45_2) + (rd l1_2 x45_2)))))) ?hg ?ho ?hn ?hr ?_; (case ho => rfl); (case hg => rfl); (case hn => rfl); (case hr => first | (go_simp; done) | (go_simp; rfl)); intro w75 hw; have hg : wr.grownBy w75 (some go68) := (by rw [hw]; exact HP74.2); have hp_ : Kd.R (Kd.int .i64) 3 w75 w.heap.size (fun k_ => nb k_ u447001) (.slice (some ⟨go68, 0, none⟩) x447002_2.length co73) y449 := (by rw [hw, Ny449.out]; exact HP74.1); clear HP74; replace HO_447001 := ak (Kd.R_after (v := (.slice (some ⟨go68, 0, none⟩) x447002_2.length co73)) (v1 := (.slice (some ⟨go68, 0, none⟩) x447002_2.length co73)) (ok := (fun _ => True)) (rD (Kd.R_mono HO_447001.out (fun _ hk => ⟨trivial, hk⟩))) hg (.inl rfl)); replace BK434 := ak (blk_grown (g := gb434) (o := .cells #[.int .i64 a0_0, .slice A0_1 l0_1.length c0_1, .slice A0_2 l0_2.length c0_2] 31 (0, 0)) (bkC BK434) hg (Kd.R_ne HO_447002.out BK434.out (by decide))); replace BK435 := ak (blk_grown (g := gb435) (o := .cells #[.int .i64 a1_0, .slice A1_1 l1_1.length c1_1, .slice (some ad447) l1_2.length c1_2] 31 (0, 0)) (bkC BK435) hg (Kd.R_ne HO_447002.out BK435.out (by decide))); replace BK436 := ak (blk_grown (g := gb436) (o := .cells #[.int .i64 0, .slice none 0 0, .slice none 0 0] 31 (0, 0)) (bkC BK436) hg (Kd.R_ne HO_447002.out BK436.out (by decide))); replace BK446 := ak (blk_grown (g := gb446) (o := .cells #[.int .i64 a0_0, u447001, .slice (some ⟨go68, 0, none⟩) x447002_2.length co73] 31 (0, 0)) (bkC BK446) hg (Kd.R_ne HO_447002.out BK446.out (by decide))); replace HO_447002 := ak (hp_); replace HB := ak ((by rw [hw]; exact below_set (HB.out) GB68.out : Below w.heap.size w w75)); clear hg hw hp_))
      go_roundg k2
      case measure => have := HJ2.out; have := HK2.out; omega
      case rel => exact ⟨(wrap64 (x45_2 + 1)), (x447001_2), (y449), (u447001), (.slice (some ⟨go68, 0, none⟩) x447002_2.length co73), (by first | rfl | (simp; done) | (simp [*]; done)), H', ⟨by have := HJ2.out; have := HK2.out; omega⟩, ⟨rD (Kd.R_mono HO_447001.out (fun _ hk => hk.2))⟩, ⟨rC HO_447002⟩, ⟨bkC BK434⟩, ⟨bkC BK435⟩, ⟨bkC BK436⟩, ⟨bkC BK446⟩, ⟨hbC _⟩⟩
     rw [if_neg c64] at H
     have c64b0 : decide (x45_2 < (l1_2.length : Int)) = false := decide_eq_false c64
     clear c64
     replace H := Option.bind_eq_some_iff.mp H
     obtain ⟨t450, A760, H⟩ := H
     replace H : (if t450 = true then (some (a0_0, x447001_2, x447002_2, 0)) else (some (0, ([] : List Int), ([] : List Int), 4))) = some (r1, r2, r3, r4) := H
     have A76 := Aside0.mk A760
     clear A760
     by_cases c77 : t450 = true
     rotate_left
     ·replace c77 := Bool.eq_false_iff.mpr c77
      subst c77
      have H1 : (some (0, ([] : List Int), ([] : List Int), 4)) = some (r1, r2, r3, r4) := by rw [if_neg (show ¬ (false = true) by decide)] at H; exact H
      clear H
      have H := H1
      clear H1
      simp only [Option.some.injEq, Prod.mk.injEq] at H
      obtain ⟨rfl, rfl, rfl, rfl⟩ := H
      have hnb89 := NB446_434.out
      have hnc89 := NB434_446.out
      have hnb90 := NB446_435.out
      have hnc90 := NB435_446.out
      have hnb91 := NB446_436.out
      have hnc91 := NB436_446.out
      have hcz92_0 : wr.cell? ⟨gb446, 0, none⟩ = some (.int .i64 a0_0) := bc BK446 0
      have hcz92_1 : wr.cell? ⟨gb446, 1, none⟩ = some (u447001) := bc BK446 1
      have hcz92_2 : wr.cell? ⟨gb446, 2, none⟩ = some (u447002) := bc BK446 2
      have hfz92_0 := fz BK446 0
      have hfz92_1 := fz BK446 1
      have hfz92_2 := fz BK446 2
      obtain ⟨Ao93, co93, eo93⟩ := Kd.R_slice HO_447001.out
      subst eo93
      obtain ⟨Ao94, co94, eo94⟩ := Kd.R_slice HO_447002.out
      subst eo94
      go_wp2_with (first | ((with_reducible refine gate_callee (f := 23) rfl ?_); refine gL 60 Tryd.func23 #[.agg #[.int .i64 a0_0, .slice Ao93 x447001_2.length co93, .slice Ao94 x447002_2.length co94]] ?_; (with_reducible refine (curves_Curve_valid.calls k2 a0_0 _ _ x447001_2 _ _ x447002_2 false _ ?side1 ?side2 ?side3 ?side4 A76.out).mono ?_); (case side1 => exact kD (Kd.R_reads' HO_447001.out).2.2); (case side2 => exact (Kd.R_reads' HO_447001.out).2.1); (case side3 => exact kD (Kd.R_reads' HO_447002.out).2.2); (case side4 => exact (Kd.R_reads' HO_447002.out).2.1); rintro e w95 ⟨rfl, hb⟩; refine ⟨_, rfl, ?_⟩; replace HO_447001 := kO HO_447001 hb; replace HO_447002 := kO HO_447002 hb; replace BK434 := kB BK434 hb; replace BK435 := kB BK435 hb; replace BK436 := kB BK436 hb; replace BK446 := kB BK446 hb; replace HB := kH _ hb; (try clear hb); (try clear hb2); (try clear hk); (try clear hi); have hnb96 := NB436_434.out; have hnc96 := NB434_436.out; have hnb97 := NB436_435.out; have hnc97 := NB435_436.out; have hcz98_0 : w95.cell? ⟨gb436, 0, none⟩ = some (.int .i64 0) := bc BK436 0; have hcz98_1 : w95.cell? ⟨gb436, 1, none⟩ = some (.slice none 0 0) := bc BK436 1; have hcz98_2 : w95.cell? ⟨gb436, 2, none⟩ = some (.slice none 0 0) := bc BK436 2; have hfz98_0 := fz BK436 0; have hfz98_1 := fz BK436 1; have hfz98_2 := fz BK436 2))
      refine bodyPost_ret (results_ct rfl _ _ gb436 31 #[.int .i64 0, .slice none 0 0, .slice none 0 0] (0, 0) _ rfl (by (with_reducible repeat (first | refine blk_drewN ?_ _ | refine blk_drew ?_ | refine blk_alloc ?_ _)); refine blk_put (cs := #[.int .i64 0, .slice none 0 0, .slice none 0 0]) ?_ 2 _ rfl; (with_reducible repeat (first | refine blk_drewN ?_ _ | refine blk_drew ?_ | refine blk_alloc ?_ _)); refine blk_put (cs := #[.int .i64 0, .slice none 0 0, .slice none 0 0]) ?_ 1 _ rfl; (with_reducible repeat (first | refine blk_drewN ?_ _ | refine blk_drew ?_ | refine blk_alloc ?_ _)); refine blk_put (cs := #[.int .i64 0, .slice none 0 0, .slice none 0 0]) ?_ 0 _ rfl; (with_reducible repeat (first | refine blk_drewN ?_ _ | refine blk_drew ?_ | refine blk_alloc ?_ _)); exact BK436.out) Tryd.underlying31 rfl (by kernel_rfl)) rfl ?_
      exact ⟨_, _, by first | rfl | (simp [errW_none, errW_some] <;> rfl) | (simp [*, errW_none, errW_some] <;> rfl), by first | exact Kd.R_nil _ _ _ _ _ | exact Kd.N_nil _ _ _ _ _ | exact Kd.V_nil _ _ _ _ _ | exact Kd.Q_nil _ _ _ _ _ | exact Kd.S_nil _ _ _ _ _, by first | exact Kd.R_nil _ _ _ _ _ | exact Kd.N_nil _ _ _ _ _ | exact Kd.V_nil _ _ _ _ _ | exact Kd.Q_nil _ _ _ _ _ | exact Kd.S_nil _ _ _ _ _, hbC _⟩
     subst c77
     have H1 : (some (a0_0, x447001_2, x447002_2, 0)) = some (r1, r2, r3, r4) := by rw [if_pos rfl] at H; exact H
     clear H
     have H := H1
     clear H1
     simp only [Option.some.injEq, Prod.mk.injEq] at H
     obtain ⟨rfl, rfl, rfl, rfl⟩ := H
     have hnb78 := NB446_434.out
     have hnc78 := NB434_446.out
     have hnb79 := NB446_435.out
     have hnc79 := NB435_446.out
     have hnb80 := NB446_436.out
     have hnc80 := NB436_446.out
     have hcz81_0 : wr.cell? ⟨gb446, 0, none⟩ = some (.int .i64 a0_0) := bc BK446 0
     have hcz81_1 : wr.cell? ⟨gb446, 1, none⟩ = some (u447001) := bc BK446 1
     have hcz81_2 : wr.cell? ⟨gb446, 2, none⟩ = some (u447002) := bc BK446 2
     have hfz81_0 := fz BK446 0
     have hfz81_1 := fz BK446 1
     have hfz81_2 := fz BK446 2
     obtain ⟨Ao82, co82, eo82⟩ := Kd.R_slice HO_447001.out
     subst eo82
     obtain ⟨Ao83, co83, eo83⟩ := Kd.R_slice HO_447002.out
     subst eo83
     go_wp2_with (first | ((with_reducible refine gate_callee (f := 23) rfl ?_); refine gL 60 Tryd.func23 #[.agg #[.int .i64 a0_0, .slice Ao82 x447001_2.length co82, .slice Ao83 x447002_2.length co83]] ?_; (with_reducible refine (curves_Curve_valid.calls k2 a0_0 _ _ x447001_2 _ _ x447002_2 true _ ?side1 ?side2 ?side3 ?side4 A76.out).mono ?_); (case side1 => exact kD (Kd.R_reads' HO_447001.out).2.2); (case side2 => exact (Kd.R_reads' HO_447001.out).2.1); (case side3 => exact kD (Kd.R_reads' HO_447002.out).2.2); (case side4 => exact (Kd.R_reads' HO_447002.out).2.1); rintro e w84 ⟨rfl, hb⟩; refine ⟨_, rfl, ?_⟩; replace HO_447001 := kO HO_447001 hb; replace HO_447002 := kO HO_447002 hb; replace BK434 := kB BK434 hb; replace BK435 := kB BK435 hb; replace BK436 := kB BK436 hb; replace BK446 := kB BK446 hb; replace HB := kH _ hb; (try clear hb); (try clear hb2); (try clear hk); (try clear hi); have hcz85_0 : w84.cell? ⟨gb446, 0, none⟩ = some (.int .i64 a0_0) := bc BK446 0; have hcz85_1 : w84.cell? ⟨gb446, 1, none⟩ = some (.slice Ao82 x447001_2.length co82) := bc BK446 1; have hcz85_2 : w84.cell? ⟨gb446, 2, none⟩ = some (.slice Ao83 x447002_2.length co83) := bc BK446 2; have hfz85_0 := fz BK446 0; have hfz85_1 := fz BK446 1; have hfz85_2 := fz BK446 2; have hnb86 := NB436_434.out; have hnc86 := NB434_436.out; have hnb87 := NB436_435.out; have hnc87 := NB435_436.out; have hcz88_0 : w84.cell? ⟨gb436, 0, none⟩ = some (.int .i64 0) := bc BK436 0; have hcz88_1 : w84.cell? ⟨gb436, 1, none⟩ = some (.slice none 0 0) := bc BK436 1; have hcz88_2 : w84.cell? ⟨gb436, 2, none⟩ = some (.slice none 0 0) := bc BK436 2; have hfz88_0 := fz BK436 0; have hfz88_1 := fz BK436 1; have hfz88_2 := fz BK436 2))
     refine bodyPost_ret (results_ct rfl _ _ gb436 31 #[.int .i64 a0_0, .slice Ao82 x447001_2.length co82, .slice Ao83 x447002_2.length co83] (0, 0) _ rfl (by (with_reducible repeat (first | refine blk_drewN ?_ _ | refine blk_drew ?_ | refine blk_alloc ?_ _)); refine blk_put (cs := #[.int .i64 a0_0, .slice Ao82 x447001_2.length co82, .slice none 0 0]) ?_ 2 _ rfl; (with_reducible repeat (first | refine blk_drewN ?_ _ | refine blk_drew ?_ | refine blk_alloc ?_ _)); refine blk_put (cs := #[.int .i64 a0_0, .slice none 0 0, .slice none 0 0]) ?_ 1 _ rfl; (with_reducible repeat (first | refine blk_drewN ?_ _ | refine blk_drew ?_ | refine blk_alloc ?_ _)); refine blk_put (cs := #[.int .i64 0, .slice none 0 0, .slice none 0 0]) ?_ 0 _ rfl; (with_reducible repeat (first | refine blk_drewN ?_ _ | refine blk_drew ?_ | refine blk_alloc ?_ _)); exact BK436.out) Tryd.underlying31 rfl (by kernel_rfl)) rfl ?_
     exact ⟨_, _, by first | rfl | (simp [errW_none, errW_some] <;> rfl) | (simp [*, errW_none, errW_some] <;> rfl), rD (Kd.R_mono (Kd.R_far (p := ⟨gb436, 2, none⟩) (Kd.R_far (p := ⟨gb436, 1, none⟩) (Kd.R_far (p := ⟨gb436, 0, none⟩) (Kd.R_types HO_447001.out BK436.out (by decide)) (fun _ hk => hk.2) (.int .i64 a0_0)) (fun _ hk => hk.2) (.slice Ao82 x447001_2.length co82)) (fun _ hk => hk.2) (.slice Ao83 x447002_2.length co83)) (fun _ hk => hk.1)), rD (Kd.R_mono (Kd.R_far (p := ⟨gb436, 2, none⟩) (Kd.R_far (p := ⟨gb436, 1, none⟩) (Kd.R_far (p := ⟨gb436, 0, none⟩) (Kd.R_types HO_447002.out BK436.out (by decide)) (fun _ hk => hk.2) (.int .i64 a0_0)) (fun _ hk => hk.2) (.slice Ao82 x447001_2.length co82)) (fun _ hk => hk.2) (.slice Ao83 x447002_2.length co83)) (fun _ hk => hk.1)), hbC _⟩

end Go.Proofs.YtpnocmkpeogifaaDoor.X
