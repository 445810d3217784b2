-- Written by a program of this work (wip/xprint.py, over the kit's printer) out of the translation.
import Derived.Test.YtkieehjpnjplmaaX0
import Derived.Test.YtkieehjpnjplmaaXG1a
import Derived.Test.YtkieehjpnjplmaaXf22
namespace Go.Proofs.Ytkieehjpnjplmaa.X
open Go.RowKit Go.Proofs.YtkieehjpnjplmaaW.PrintWords Go.Proofs.YtkieehjpnjplmaaW.PrintLast Go.Proofs.YtkieehjpnjplmaaW.PrintMore
attribute [local go_sem] max2_int min2_int max_two min_two max_three min_three max_four min_four   -- for this text's walks alone
set_option linter.unusedVariables false
set_option linter.unusedSimpArgs false

/-! ### arrays_Distance: function 27 -/
mutual
def arrays_Distance.l0 : Nat → Int → List (List Int) → Int → Int → Int → List (List Int) → Option (Int × Int)
 | 0, _, _, _, _, _, _ => none
 | k + 1, x4, x23, x24, x25, x159000, x159001 => if x25 < x24 then (if 0 ≤ x25 then (if x25 < (x23.length : Int) then (if x25 ≤ (x159001.length : Int) then ((some (x159001.take (x25 : Int).toNat : List (List Int))).bind fun y162 => (arrays_Distance.l1 k x4 (rd_L1 x23 x25) x23 x24 x25 y162 (y162.length : Int) 0 x159000 x159001)) else (none)) else (none)) else (none)) else (some (x4, 0))
def arrays_Distance.l1 : Nat → Int → List Int → List (List Int) → Int → Int → List (List Int) → Int → Int → Int → List (List Int) → Option (Int × Int)
 | 0, _, _, _, _, _, _, _, _, _, _ => none
 | k + 1, x4, x6, x23, x24, x25, x33, x34, x35, x159000, x159001 => if x35 < x34 then (if 0 ≤ x35 then (if x35 < (x33.length : Int) then (arrays_Distance.l2 k x4 x6 (rd_L1 x33 x35) 0 x23 x24 x25 x33 x34 x35 (x6.length : Int) 0 x159000 x159001) else (none)) else (none)) else (arrays_Distance.l0 k x4 x23 x24 (wrap64 (x25 + 1)) x159000 x159001)
def arrays_Distance.l2 : Nat → Int → List Int → List Int → Int → List (List Int) → Int → Int → List (List Int) → Int → Int → Int → Int → Int → List (List Int) → Option (Int × Int)
 | 0, _, _, _, _, _, _, _, _, _, _, _, _, _, _ => none
 | k + 1, x4, x6, x8, x9, x23, x24, x25, x33, x34, x35, x40, x41, x159000, x159001 => if x41 < x40 then (if 0 ≤ x41 then (if x41 < (x6.length : Int) then (if x41 < (x8.length : Int) then (if (rd x6 x41) = (rd x8 x41) then (arrays_Distance.l2 k x4 x6 x8 x9 x23 x24 x25 x33 x34 x35 x40 (wrap64 (x41 + 1)) x159000 x159001) else (arrays_Distance.l2 k x4 x6 x8 (wrap64 (x9 + 1)) x23 x24 x25 x33 x34 x35 x40 (wrap64 (x41 + 1)) x159000 x159001)) else (none)) else (none)) else (none)) else (arrays_Distance.l1 k (mn x4 x9) x6 x23 x24 x25 x33 x34 (wrap64 (x35 + 1)) x159000 x159001)
end
def arrays_Distance.f (k : Nat) (a0_0 : Int) (l0_1 : List (List Int)) : Option (Int × Int) := (arrays_Array_valid.f k a0_0 l0_1).bind fun t159 => (if t159 = true then (if (l0_1.length : Int) = 1 then (some (0, 4)) else ((arrays_Array_columns.f a0_0 l0_1).bind fun t160 => (arrays_Distance.l0 k t160 l0_1 (l0_1.length : Int) 0 a0_0 l0_1))) else (some (0, 2)))
theorem arrays_Distance.mono_l : ∀ k, (∀ y0 y1 y2 y3 y4 y5, LeO (arrays_Distance.l0 k y0 y1 y2 y3 y4 y5) (arrays_Distance.l0 (k + 1) y0 y1 y2 y3 y4 y5)) ∧ (∀ y0 y1 y2 y3 y4 y5 y6 y7 y8 y9, LeO (arrays_Distance.l1 k y0 y1 y2 y3 y4 y5 y6 y7 y8 y9) (arrays_Distance.l1 (k + 1) y0 y1 y2 y3 y4 y5 y6 y7 y8 y9)) ∧ (∀ y0 y1 y2 y3 y4 y5 y6 y7 y8 y9 y10 y11 y12 y13, LeO (arrays_Distance.l2 k y0 y1 y2 y3 y4 y5 y6 y7 y8 y9 y10 y11 y12 y13) (arrays_Distance.l2 (k + 1) y0 y1 y2 y3 y4 y5 y6 y7 y8 y9 y10 y11 y12 y13))
 | 0 => ⟨fun _ _ _ _ _ _ r h => by simp [arrays_Distance.l0] at h, fun _ _ _ _ _ _ _ _ _ _ r h => by simp [arrays_Distance.l1] at h, fun _ _ _ _ _ _ _ _ _ _ _ _ _ _ r h => by simp [arrays_Distance.l2] at h⟩
 | k + 1 => by
  obtain ⟨ih0, ih1, ih2⟩ := arrays_Distance.mono_l k
  refine ⟨?_, ?_, ?_⟩
  ·intro y0 y1 y2 y3 y4 y5
   unfold arrays_Distance.l0
   repeat' first
   | (with_reducible exact ih0 _ _ _ _ _ _)
   | (with_reducible exact ih1 _ _ _ _ _ _ _ _ _ _)
   | (with_reducible exact ih2 _ _ _ _ _ _ _ _ _ _ _ _ _ _)
   | (with_reducible exact arrays_Array_valid.mono _ _ _)
   | (with_reducible exact LeO.refl _)
   | (with_reducible exact LeO.none _)
   | (with_reducible refine LeO.ite ?_ ?_)
   | (with_reducible refine LeO.bind ?_ (fun _ => ?_))
   | exact ih0 _ _ _ _ _ _
   | exact ih1 _ _ _ _ _ _ _ _ _ _
   | exact ih2 _ _ _ _ _ _ _ _ _ _ _ _ _ _
   | exact arrays_Array_valid.mono _ _ _
   | exact LeO.none _
   | refine LeO.ite ?_ ?_
   | refine LeO.bind ?_ (fun _ => ?_)
  ·intro y0 y1 y2 y3 y4 y5 y6 y7 y8 y9
   unfold arrays_Distance.l1
   repeat' first
   | (with_reducible exact ih0 _ _ _ _ _ _)
   | (with_reducible exact ih1 _ _ _ _ _ _ _ _ _ _)
   | (with_reducible exact ih2 _ _ _ _ _ _ _ _ _ _ _ _ _ _)
   | (with_reducible exact arrays_Array_valid.mono _ _ _)
   | (with_reducible exact LeO.refl _)
   | (with_reducible exact LeO.none _)
   | (with_reducible refine LeO.ite ?_ ?_)
   | (with_reducible refine LeO.bind ?_ (fun _ => ?_))
   | exact ih0 _ _ _ _ _ _
   | exact ih1 _ _ _ _ _ _ _ _ _ _
   | exact ih2 _ _ _ _ _ _ _ _ _ _ _ _ _ _
   | exact arrays_Array_valid.mono _ _ _
   | exact LeO.none _
   | refine LeO.ite ?_ ?_
   | refine LeO.bind ?_ (fun _ => ?_)
  ·intro y0 y1 y2 y3 y4 y5 y6 y7 y8 y9 y10 y11 y12 y13
   unfold arrays_Distance.l2
   repeat' first
   | (with_reducible exact ih0 _ _ _ _ _ _)
   | (with_reducible exact ih1 _ _ _ _ _ _ _ _ _ _)
   | (with_reducible exact ih2 _ _ _ _ _ _ _ _ _ _ _ _ _ _)
   | (with_reducible exact arrays_Array_valid.mono _ _ _)
   | (with_reducible exact LeO.refl _)
   | (with_reducible exact LeO.none _)
   | (with_reducible refine LeO.ite ?_ ?_)
   | (with_reducible refine LeO.bind ?_ (fun _ => ?_))
   | exact ih0 _ _ _ _ _ _
   | exact ih1 _ _ _ _ _ _ _ _ _ _
   | exact ih2 _ _ _ _ _ _ _ _ _ _ _ _ _ _
   | exact arrays_Array_valid.mono _ _ _
   | exact LeO.none _
   | refine LeO.ite ?_ ?_
   | refine LeO.bind ?_ (fun _ => ?_)
theorem arrays_Distance.mono : ∀ a0 a1 k, LeO (arrays_Distance.f k a0 a1) (arrays_Distance.f (k + 1) a0 a1) := by
 intro a0 a1 k
 obtain ⟨ih0, ih1, ih2⟩ := arrays_Distance.mono_l k
 unfold arrays_Distance.f
 repeat' first
   | (with_reducible exact ih0 _ _ _ _ _ _)
   | (with_reducible exact ih1 _ _ _ _ _ _ _ _ _ _)
   | (with_reducible exact ih2 _ _ _ _ _ _ _ _ _ _ _ _ _ _)
   | (with_reducible exact arrays_Array_valid.mono _ _ _)
   | (with_reducible exact LeO.refl _)
   | (with_reducible exact LeO.none _)
   | (with_reducible refine LeO.ite ?_ ?_)
   | (with_reducible refine LeO.bind ?_ (fun _ => ?_))
   | exact ih0 _ _ _ _ _ _
   | exact ih1 _ _ _ _ _ _ _ _ _ _
   | exact ih2 _ _ _ _ _ _ _ _ _ _ _ _ _ _
   | exact arrays_Array_valid.mono _ _ _
   | exact LeO.none _
   | refine LeO.ite ?_ ?_
   | refine LeO.bind ?_ (fun _ => ?_)
set_option maxHeartbeats 8000000 in
set_option maxRecDepth 100000 in
theorem arrays_Distance.calls (k : Nat) (a0_0 : Int) (A0_1 : Option Addr) (c0_1 : Nat) (l0_1 : List (List Int)) (r1 : Int) (r2 : Int) (w : World) (hr0_1 : Kd.C (Kd.slice 3 (Kd.int .i64)) w A0_1 l0_1.length l0_1) (hc0_1 : l0_1.length ≤ c0_1) (h : arrays_Distance.f k a0_0 l0_1 = some (r1, r2)) :
  Calls Try.prog 27 #[.agg #[.int .i64 a0_0, .slice A0_1 l0_1.length c0_1]] w fun e w' => e = .returned (.tuple #[.int .i64 r1, .int .i64 r2]) ∧ Below w.heap.size w w' := by
 have hu25 := Try.underlying25
 have HR0_1 := Aside0.mk hr0_1
 have HC0_1 := Aside0.mk hc0_1
 clear hr0_1 hc0_1
 have HB := ak (Below.refl w.heap.size w)
 have H : ((arrays_Array_valid.f k a0_0 l0_1).bind fun t159 => (if t159 = true then (if (l0_1.length : Int) = 1 then (some (0, 4)) else ((arrays_Array_columns.f a0_0 l0_1).bind fun t160 => (arrays_Distance.l0 k t160 l0_1 (l0_1.length : Int) 0 a0_0 l0_1))) else (some (0, 2)))) = some (r1, r2) := h
 clear h
 replace H := Option.bind_eq_some_iff.mp H
 obtain ⟨t159, A20, H⟩ := H
 replace H : (if t159 = true then (if (l0_1.length : Int) = 1 then (some (0, 4)) else ((arrays_Array_columns.f a0_0 l0_1).bind fun t160 => (arrays_Distance.l0 k t160 l0_1 (l0_1.length : Int) 0 a0_0 l0_1))) else (some (0, 2))) = some (r1, r2) := H
 have A2 := Aside0.mk A20
 clear A20
 by_cases c3 : t159 = true
 rotate_left
 ·replace c3 := Bool.eq_false_iff.mpr c3
  subst c3
  have H1 : (some (0, 2)) = some (r1, r2) := by rw [if_neg (show ¬ (false = true) by decide)] at H; exact H
  clear H
  have H := H1
  clear H1
  simp only [Option.some.injEq, Prod.mk.injEq] at H
  obtain ⟨rfl, rfl⟩ := H
  go_enter Try.func27, Try.ntmps27
  go_wp2_with (first | ((with_reducible refine gate_dst (N := 1) rfl ?_); refine bE 1 #[.int .i64 a0_0, .slice A0_1 l0_1.length c0_1] 25 ?_; intro gb158 hg w32 hbox hb; have BK158 := ak (hbox); have GW158 := kG w hg; have GE158 := kG w hg; replace HB := kH _ hb; clear hb hbox hg; have hcz33_0 : w32.cell? ⟨gb158, 0, none⟩ = some (.int .i64 a0_0) := bc BK158 0; have hcz33_1 : w32.cell? ⟨gb158, 1, none⟩ = some (.slice A0_1 l0_1.length c0_1) := bc BK158 1; have hfz33_0 := fz BK158 0; have hfz33_1 := fz BK158 1) | (go_at_call 22; (with_reducible refine (arrays_Array_valid.calls k a0_0 _ _ l0_1 false _ ?side1 ?side2 A2.out).mono ?_); (case side1 => exact kC HR0_1); (case side2 => exact HC0_1.out); rintro e w34 ⟨rfl, hb⟩; replace BK158 := kB BK158 hb; replace HB := kH _ hb; (try clear hb); (try clear hb2); (try clear hk); (try clear hi)))
  repeat (go_quiet (first | ((with_reducible refine gate_dst (N := 1) rfl ?_); refine bE 1 #[.int .i64 a0_0, .slice A0_1 l0_1.length c0_1] 25 ?_; intro gb158 hg w32 hbox hb; have BK158 := ak (hbox); have GW158 := kG w hg; have GE158 := kG w hg; replace HB := kH _ hb; clear hb hbox hg; have hcz33_0 : w32.cell? ⟨gb158, 0, none⟩ = some (.int .i64 a0_0) := bc BK158 0; have hcz33_1 : w32.cell? ⟨gb158, 1, none⟩ = some (.slice A0_1 l0_1.length c0_1) := bc BK158 1; have hfz33_0 := fz BK158 0; have hfz33_1 := fz BK158 1) | (go_at_call 22; (with_reducible refine (arrays_Array_valid.calls k a0_0 _ _ l0_1 false _ ?side1 ?side2 A2.out).mono ?_); (case side1 => exact kC HR0_1); (case side2 => exact HC0_1.out); rintro e w34 ⟨rfl, hb⟩; replace BK158 := kB BK158 hb; replace HB := kH _ hb; (try clear hb); (try clear hb2); (try clear hk); (try clear hi))); try go_wp2_with (first | ((with_reducible refine gate_dst (N := 1) rfl ?_); refine bE 1 #[.int .i64 a0_0, .slice A0_1 l0_1.length c0_1] 25 ?_; intro gb158 hg w32 hbox hb; have BK158 := ak (hbox); have GW158 := kG w hg; have GE158 := kG w hg; replace HB := kH _ hb; clear hb hbox hg; have hcz33_0 : w32.cell? ⟨gb158, 0, none⟩ = some (.int .i64 a0_0) := bc BK158 0; have hcz33_1 : w32.cell? ⟨gb158, 1, none⟩ = some (.slice A0_1 l0_1.length c0_1) := bc BK158 1; have hfz33_0 := fz BK158 0; have hfz33_1 := fz BK158 1) | (go_at_call 22; (with_reducible refine (arrays_Array_valid.calls k a0_0 _ _ l0_1 false _ ?side1 ?side2 A2.out).mono ?_); (case side1 => exact kC HR0_1); (case side2 => exact HC0_1.out); rintro e w34 ⟨rfl, hb⟩; replace BK158 := kB BK158 hb; replace HB := kH _ hb; (try clear hb); (try clear hb2); (try clear hk); (try clear hi))))
  go_ret2
  exact ⟨by first | rfl | (simp [errW_none, errW_some] <;> rfl) | (simp [*, errW_none, errW_some] <;> rfl), hbC _⟩
 subst c3
 have H1 : (if (l0_1.length : Int) = 1 then (some (0, 4)) else ((arrays_Array_columns.f a0_0 l0_1).bind fun t160 => (arrays_Distance.l0 k t160 l0_1 (l0_1.length : Int) 0 a0_0 l0_1))) = some (r1, r2) := by rw [if_pos rfl] at H; exact H
 clear H
 have H := H1
 clear H1
 by_cases c4 : (l0_1.length : Int) = 1
 ·rw [if_pos c4] at H
  have c4b0 : ((l0_1.length : Int) == 1) = true := beq_iff_eq.mpr c4
  have c4b1 : ((l0_1.length : Int) != 1) = false := bne_eq_false_iff_eq.mpr c4
  clear c4
  simp only [Option.some.injEq, Prod.mk.injEq] at H
  obtain ⟨rfl, rfl⟩ := H
  go_enter Try.func27, Try.ntmps27
  go_wp2_with (first | ((with_reducible refine gate_dst (N := 1) rfl ?_); refine bE 1 #[.int .i64 a0_0, .slice A0_1 l0_1.length c0_1] 25 ?_; intro gb158 hg w5 hbox hb; have BK158 := ak (hbox); have GW158 := kG w hg; have GE158 := kG w hg; replace HB := kH _ hb; clear hb hbox hg; have hcz6_0 : w5.cell? ⟨gb158, 0, none⟩ = some (.int .i64 a0_0) := bc BK158 0; have hcz6_1 : w5.cell? ⟨gb158, 1, none⟩ = some (.slice A0_1 l0_1.length c0_1) := bc BK158 1; have hfz6_0 := fz BK158 0; have hfz6_1 := fz BK158 1) | (go_at_call 22; (with_reducible refine (arrays_Array_valid.calls k a0_0 _ _ l0_1 true _ ?side1 ?side2 A2.out).mono ?_); (case side1 => exact kC HR0_1); (case side2 => exact HC0_1.out); rintro e w7 ⟨rfl, hb⟩; replace BK158 := kB BK158 hb; replace HB := kH _ hb; (try clear hb); (try clear hb2); (try clear hk); (try clear hi); have hcz8_0 : w7.cell? ⟨gb158, 0, none⟩ = some (.int .i64 a0_0) := bc BK158 0; have hcz8_1 : w7.cell? ⟨gb158, 1, none⟩ = some (.slice A0_1 l0_1.length c0_1) := bc BK158 1; have hfz8_0 := fz BK158 0; have hfz8_1 := fz BK158 1))
  repeat (go_quiet (first | ((with_reducible refine gate_dst (N := 1) rfl ?_); refine bE 1 #[.int .i64 a0_0, .slice A0_1 l0_1.length c0_1] 25 ?_; intro gb158 hg w5 hbox hb; have BK158 := ak (hbox); have GW158 := kG w hg; have GE158 := kG w hg; replace HB := kH _ hb; clear hb hbox hg; have hcz6_0 : w5.cell? ⟨gb158, 0, none⟩ = some (.int .i64 a0_0) := bc BK158 0; have hcz6_1 : w5.cell? ⟨gb158, 1, none⟩ = some (.slice A0_1 l0_1.length c0_1) := bc BK158 1; have hfz6_0 := fz BK158 0; have hfz6_1 := fz BK158 1) | (go_at_call 22; (with_reducible refine (arrays_Array_valid.calls k a0_0 _ _ l0_1 true _ ?side1 ?side2 A2.out).mono ?_); (case side1 => exact kC HR0_1); (case side2 => exact HC0_1.out); rintro e w7 ⟨rfl, hb⟩; replace BK158 := kB BK158 hb; replace HB := kH _ hb; (try clear hb); (try clear hb2); (try clear hk); (try clear hi); have hcz8_0 : w7.cell? ⟨gb158, 0, none⟩ = some (.int .i64 a0_0) := bc BK158 0; have hcz8_1 : w7.cell? ⟨gb158, 1, none⟩ = some (.slice A0_1 l0_1.length c0_1) := bc BK158 1; have hfz8_0 := fz BK158 0; have hfz8_1 := fz BK158 1)); try go_wp2_with (first | ((with_reducible refine gate_dst (N := 1) rfl ?_); refine bE 1 #[.int .i64 a0_0, .slice A0_1 l0_1.length c0_1] 25 ?_; intro gb158 hg w5 hbox hb; have BK158 := ak (hbox); have GW158 := kG w hg; have GE158 := kG w hg; replace HB := kH _ hb; clear hb hbox hg; have hcz6_0 : w5.cell? ⟨gb158, 0, none⟩ = some (.int .i64 a0_0) := bc BK158 0; have hcz6_1 : w5.cell? ⟨gb158, 1, none⟩ = some (.slice A0_1 l0_1.length c0_1) := bc BK158 1; have hfz6_0 := fz BK158 0; have hfz6_1 := fz BK158 1) | (go_at_call 22; (with_reducible refine (arrays_Array_valid.calls k a0_0 _ _ l0_1 true _ ?side1 ?side2 A2.out).mono ?_); (case side1 => exact kC HR0_1); (case side2 => exact HC0_1.out); rintro e w7 ⟨rfl, hb⟩; replace BK158 := kB BK158 hb; replace HB := kH _ hb; (try clear hb); (try clear hb2); (try clear hk); (try clear hi); have hcz8_0 : w7.cell? ⟨gb158, 0, none⟩ = some (.int .i64 a0_0) := bc BK158 0; have hcz8_1 : w7.cell? ⟨gb158, 1, none⟩ = some (.slice A0_1 l0_1.length c0_1) := bc BK158 1; have hfz8_0 := fz BK158 0; have hfz8_1 := fz BK158 1)))
  go_ret2
  exact ⟨by first | rfl | (simp [errW_none, errW_some] <;> rfl) | (simp [*, errW_none, errW_some] <;> rfl), hbC _⟩
 rw [if_neg c4] at H
 have c4b0 : ((l0_1.length : Int) == 1) = false := beq_eq_false_iff_ne.mpr c4
 have c4b1 : ((l0_1.length : Int) != 1) = true := bne_iff_ne.mpr c4
 replace H := Option.bind_eq_some_iff.mp H
 obtain ⟨t160, A90, H⟩ := H
 replace H : (arrays_Distance.l0 k t160 l0_1 (l0_1.length : Int) 0 a0_0 l0_1) = some (r1, r2) := H
 have A9 := Aside0.mk A90
 clear A90
 have H' := Aside0.mk H
 clear H
 go_enter Try.func27, Try.ntmps27
 go_wp2_with (first | ((with_reducible refine gate_dst (N := 1) rfl ?_); refine bE 1 #[.int .i64 a0_0, .slice A0_1 l0_1.length c0_1] 25 ?_; intro gb158 hg w10 hbox hb; have BK158 := ak (hbox); have GW158 := kG w hg; have GE158 := kG w hg; replace HB := kH _ hb; clear hb hbox hg; have hcz11_0 : w10.cell? ⟨gb158, 0, none⟩ = some (.int .i64 a0_0) := bc BK158 0; have hcz11_1 : w10.cell? ⟨gb158, 1, none⟩ = some (.slice A0_1 l0_1.length c0_1) := bc BK158 1; have hfz11_0 := fz BK158 0; have hfz11_1 := fz BK158 1) | (go_at_call 22; (with_reducible refine (arrays_Array_valid.calls k a0_0 _ _ l0_1 true _ ?side1 ?side2 A2.out).mono ?_); (case side1 => exact kC HR0_1); (case side2 => exact HC0_1.out); rintro e w12 ⟨rfl, hb⟩; replace BK158 := kB BK158 hb; replace HB := kH _ hb; (try clear hb); (try clear hb2); (try clear hk); (try clear hi); have hcz13_0 : w12.cell? ⟨gb158, 0, none⟩ = some (.int .i64 a0_0) := bc BK158 0; have hcz13_1 : w12.cell? ⟨gb158, 1, none⟩ = some (.slice A0_1 l0_1.length c0_1) := bc BK158 1; have hfz13_0 := fz BK158 0; have hfz13_1 := fz BK158 1) | (go_at_call 23; (with_reducible refine (arrays_Array_columns.calls a0_0 _ _ l0_1 t160 _ ?side1 ?side2 A9.out).mono ?_); (case side1 => exact kC HR0_1); (case side2 => exact HC0_1.out); rintro e w14 ⟨rfl, hb⟩; replace BK158 := kB BK158 hb; replace HB := kH _ hb; (try clear hb); (try clear hb2); (try clear hk); (try clear hi); have hcz15_0 : w14.cell? ⟨gb158, 0, none⟩ = some (.int .i64 a0_0) := bc BK158 0; have hcz15_1 : w14.cell? ⟨gb158, 1, none⟩ = some (.slice A0_1 l0_1.length c0_1) := bc BK158 1; have hfz15_0 := fz BK158 0; have hfz15_1 := fz BK158 1))
 repeat (go_quiet (first | ((with_reducible refine gate_dst (N := 1) rfl ?_); refine bE 1 #[.int .i64 a0_0, .slice A0_1 l0_1.length c0_1] 25 ?_; intro gb158 hg w10 hbox hb; have BK158 := ak (hbox); have GW158 := kG w hg; have GE158 := kG w hg; replace HB := kH _ hb; clear hb hbox hg; have hcz11_0 : w10.cell? ⟨gb158, 0, none⟩ = some (.int .i64 a0_0) := bc BK158 0; have hcz11_1 : w10.cell? ⟨gb158, 1, none⟩ = some (.slice A0_1 l0_1.length c0_1) := bc BK158 1; have hfz11_0 := fz BK158 0; have hfz11_1 := fz BK158 1) | (go_at_call 22; (with_reducible refine (arrays_Array_valid.calls k a0_0 _ _ l0_1 true _ ?side1 ?side2 A2.out).mono ?_); (case side1 => exact kC HR0_1); (case side2 => exact HC0_1.out); rintro e w12 ⟨rfl, hb⟩; replace BK158 := kB BK158 hb; replace HB := kH _ hb; (try clear hb); (try clear hb2); (try clear hk); (try clear hi); have hcz13_0 : w12.cell? ⟨gb158, 0, none⟩ = some (.int .i64 a0_0) := bc BK158 0; have hcz13_1 : w12.cell? ⟨gb158, 1, none⟩ = some (.slice A0_1 l0_1.length c0_1) := bc BK158 1; have hfz13_0 := fz BK158 0; have hfz13_1 := fz BK158 1) | (go_at_call 23; (with_reducible refine (arrays_Array_columns.calls a0_0 _ _ l0_1 t160 _ ?side1 ?side2 A9.out).mono ?_); (case side1 => exact kC HR0_1); (case side2 => exact HC0_1.out); rintro e w14 ⟨rfl, hb⟩; replace BK158 := kB BK158 hb; replace HB := kH _ hb; (try clear hb); (try clear hb2); (try clear hk); (try clear hi); have hcz15_0 : w14.cell? ⟨gb158, 0, none⟩ = some (.int .i64 a0_0) := bc BK158 0; have hcz15_1 : w14.cell? ⟨gb158, 1, none⟩ = some (.slice A0_1 l0_1.length c0_1) := bc BK158 1; have hfz15_0 := fz BK158 0; have hfz15_1 := fz BK158 1)); try go_wp2_with (first | ((with_reducible refine gate_dst (N := 1) rfl ?_); refine bE 1 #[.int .i64 a0_0, .slice A0_1 l0_1.length c0_1] 25 ?_; intro gb158 hg w10 hbox hb; have BK158 := ak (hbox); have GW158 := kG w hg; have GE158 := kG w hg; replace HB := kH _ hb; clear hb hbox hg; have hcz11_0 : w10.cell? ⟨gb158, 0, none⟩ = some (.int .i64 a0_0) := bc BK158 0; have hcz11_1 : w10.cell? ⟨gb158, 1, none⟩ = some (.slice A0_1 l0_1.length c0_1) := bc BK158 1; have hfz11_0 := fz BK158 0; have hfz11_1 := fz BK158 1) | (go_at_call 22; (with_reducible refine (arrays_Array_valid.calls k a0_0 _ _ l0_1 true _ ?side1 ?side2 A2.out).mono ?_); (case side1 => exact kC HR0_1); (case side2 => exact HC0_1.out); rintro e w12 ⟨rfl, hb⟩; replace BK158 := kB BK158 hb; replace HB := kH _ hb; (try clear hb); (try clear hb2); (try clear hk); (try clear hi); have hcz13_0 : w12.cell? ⟨gb158, 0, none⟩ = some (.int .i64 a0_0) := bc BK158 0; have hcz13_1 : w12.cell? ⟨gb158, 1, none⟩ = some (.slice A0_1 l0_1.length c0_1) := bc BK158 1; have hfz13_0 := fz BK158 0; have hfz13_1 := fz BK158 1) | (go_at_call 23; (with_reducible refine (arrays_Array_columns.calls a0_0 _ _ l0_1 t160 _ ?side1 ?side2 A9.out).mono ?_); (case side1 => exact kC HR0_1); (case side2 => exact HC0_1.out); rintro e w14 ⟨rfl, hb⟩; replace BK158 := kB BK158 hb; replace HB := kH _ hb; (try clear hb); (try clear hb2); (try clear hk); (try clear hi); have hcz15_0 : w14.cell? ⟨gb158, 0, none⟩ = some (.int .i64 a0_0) := bc BK158 0; have hcz15_1 : w14.cell? ⟨gb158, 1, none⟩ = some (.slice A0_1 l0_1.length c0_1) := bc BK158 1; have hfz15_0 := fz BK158 0; have hfz15_1 := fz BK158 1)))
 go_loopg [4, 25] k (fun kq v4 v25 w' => ∃ (x4_1 : Int) (x25_1 : Int), v4 = .int .i64 x4_1 ∧ v25 = .int .i64 x25_1 ∧ Aside0 (arrays_Distance.l0 kq x4_1 l0_1 (l0_1.length : Int) x25_1 a0_0 l0_1 = some (r1, r2)) ∧ Aside0 (kq ≤ k) ∧ Aside0 (w'.heap[gb158]? = some (.cells #[.int .i64 a0_0, (.slice A0_1 l0_1.length c0_1)] 25 (0, 0))) ∧ Aside0 (Below w.heap.size w w'))
 case atStart => exact ⟨(t160), (0), (by first | rfl | (simp; done) | (simp [*]; done)), (by first | rfl | (simp; done) | (simp [*]; done)), H', ⟨Nat.le_refl _⟩, ⟨bkC BK158⟩, ⟨hbC _⟩⟩
 case round =>
  clear H'
  try clear c2
  try clear p2
  try clear c3
  try clear c4
  try clear c4b0
  try clear c4b1
  try clear hcz11_0
  try clear hcz11_1
  try clear hcz13_0
  try clear hcz13_1
  try clear hcz15_0
  try clear hcz15_1
  try clear hcz6_0
  try clear hcz6_1
  try clear hcz8_0
  try clear hcz8_1
  try clear hfz11_0
  try clear hfz11_1
  try clear hfz13_0
  try clear hfz13_1
  try clear hfz15_0
  try clear hfz15_1
  try clear hfz6_0
  try clear hfz6_1
  try clear hfz8_0
  try clear hfz8_1
  obtain ⟨x4_1, x25_1, rfl, rfl, HA, HK1, BK158, HB⟩ := hrel
  cases gk with
  | zero => exact absurd HA.out (by simp [arrays_Distance.l0])
  | succ k1 =>
   have H := HA.out
   clear HA
   simp only [arrays_Distance.l0] at H
   by_cases c16 : x25_1 < (l0_1.length : Int)
   rotate_left
   ·rw [if_neg c16] at H
    have c16b0 : decide (x25_1 < (l0_1.length : Int)) = false := decide_eq_false c16
    clear c16
    simp only [Option.some.injEq, Prod.mk.injEq] at H
    obtain ⟨rfl, rfl⟩ := H
    go_wp2
    repeat (go_quiet (fail); try go_wp2)
    go_ret2
    exact ⟨by first | rfl | (simp [errW_none, errW_some] <;> rfl) | (simp [*, errW_none, errW_some] <;> rfl), hbC _⟩
   rw [if_pos c16] at H
   have c16b0 : decide (x25_1 < (l0_1.length : Int)) = true := decide_eq_true c16
   clear c16
   by_cases c17 : 0 ≤ x25_1
   rotate_left
   ·rw [if_neg c17] at H
    exact absurd H (by simp)
   rw [if_pos c17] at H
   have c17b0 : decide (0 ≤ x25_1) = true := decide_eq_true c17
   clear c17
   by_cases c18 : x25_1 < (l0_1.length : Int)
   rotate_left
   ·rw [if_neg c18] at H
    exact absurd H (by simp)
   rw [if_pos c18] at H
   have c18b0 : decide (x25_1 < (l0_1.length : Int)) = true := decide_eq_true c18
   clear c18
   have c19b0 := eq_true (dA : 0 ≤ x25_1)
   by_cases c20 : x25_1 ≤ (l0_1.length : Int)
   rotate_left
   ·rw [if_neg c20] at H
    exact absurd H (by simp)
   rw [if_pos c20] at H
   have c20b0 := eq_true c20
   have c20b1 : decide (x25_1 ≤ (l0_1.length : Int)) = true := decide_eq_true c20
   clear c20
   obtain ⟨y162, hy162⟩ : ∃ y_ : List (List Int), y_ = (l0_1.take (x25_1 : Int).toNat) := ⟨_, rfl⟩
   replace H : (arrays_Distance.l1 k1 x4_1 (rd_L1 l0_1 x25_1) l0_1 (l0_1.length : Int) x25_1 y162 (y162.length : Int) 0 a0_0 l0_1) = some (r1, r2) := by first | (rw [hy162]; with_reducible exact H) | (have H2_ := (Option.bind_some _ _).symm.trans H; rw [hy162]; with_reducible exact H2_) | (have H2_ := (Option.bind_some _ _).symm.trans H; with_reducible exact H2_) | with_reducible exact H | (rw [hy162]; exact H) | exact H
   have Ny162 := Aside0.mk hy162
   clear hy162
   have H' := Aside0.mk H
   clear H
   have p161 : 0 ≤ (x25_1 : Int) := dA
   have q161 : x25_1 < (l0_1.length : Int) := dA
   obtain ⟨ad161, A161_0, c161_0, e161, hx161_0, hl161_0, hi161_0⟩ := at_L1 HR0_1.out x25_1 p161 q161
   cases e161
   try replace hx161_0 := (HB.out.cell (World.block_lt_of_cell? w _ hx161_0)).trans hx161_0
   have HR161_0 := Aside0.mk hi161_0
   have HC161_0 := Aside0.mk hl161_0
   clear hi161_0 hl161_0
   replace p161 := eq_true p161
   replace q161 := eq_true q161
   have hcz21_0 : wr.cell? ⟨gb158, 0, none⟩ = some (.int .i64 a0_0) := bc BK158 0
   have hcz21_1 : wr.cell? ⟨gb158, 1, none⟩ = some (.slice (some ad161) l0_1.length c0_1) := bc BK158 1
   have hfz21_0 := fz BK158 0
   have hfz21_1 := fz BK158 1
   have q22 : (x25_1 : Int) ≤ ((l0_1.length : Int) : Int) := dA
   obtain ⟨i022, hi022, _, hsz22, _⟩ := info_parts info22
   have hroom22 : l0_1.length ≤ c0_1 := HC0_1.out
   have hC22 : Kd.C (Kd.slice 3 (Kd.int .i64)) _ (some ad161) l0_1.length l0_1 := HR0_1.out
   have hcut22 := cut_to (P := Try.prog) 23 22 .i64 Try.underlying23 hi022 (some ad161) l0_1.length c0_1 x25_1 (dA) q22 hroom22
   have hr22 := Kd.C_take (m := (x25_1 : Int).toNat) hC22 (by omega)
   have hy22 : y162.length = (x25_1 : Int).toNat := (by rw [Ny162.out, List.length_take]; omega)
   rw [← Ny162.out] at hr22
   rw [← hy22] at hcut22
   have HR165 := Aside0.mk hr22
   have HC165 := ak (show y162.length ≤ c0_1 from by omega)
   clear hr22 hC22 hroom22 hi022 hsz22
   have KY22 := Aside0.mk hy22
   clear hy22
   replace q22 := eq_true q22
   go_wp2
   repeat (go_quiet (fail); try go_wp2)
   go_loopg [4, 35] k1 (fun kq v4 v35 w' => ∃ (x4_2 : Int) (x35_2 : Int), v4 = .int .i64 x4_2 ∧ v35 = .int .i64 x35_2 ∧ Aside0 (arrays_Distance.l1 kq x4_2 (rd_L1 l0_1 x25_1) l0_1 (l0_1.length : Int) x25_1 y162 (y162.length : Int) x35_2 a0_0 l0_1 = some (r1, r2)) ∧ Aside0 (kq ≤ k1) ∧ Aside0 (w'.heap[gb158]? = some (.cells #[.int .i64 a0_0, (.slice (some ad161) l0_1.length c0_1)] 25 (0, 0))) ∧ Aside0 (Below w.heap.size w w'))
   case atStart => exact ⟨(x4_1), (0), (by first | rfl | (simp; done) | (simp [*]; done)), (by first | rfl | (simp; done) | (simp [*]; done)), H', ⟨Nat.le_refl _⟩, ⟨bkC BK158⟩, ⟨hbC _⟩⟩
   case round =>
    clear H'
    try clear c1
    try clear p1
    try clear q1
    try clear hx1
    try clear c2
    try clear p2
    try clear q2
    try clear c3
    try clear c4
    try clear c4b0
    try clear c4b1
    try clear c16
    try clear c16b0
    try clear p16
    try clear q16
    try clear hx16
    try clear c17
    try clear c17b0
    try clear c18
    try clear c18b0
    try clear c19
    try clear c19b0
    try clear c20
    try clear c20b0
    try clear c20b1
    try clear q22
    try clear hcz11_0
    try clear hcz11_1
    try clear hcz13_0
    try clear hcz13_1
    try clear hcz15_0
    try clear hcz15_1
    try clear hcz21_0
    try clear hcz21_1
    try clear hcz6_0
    try clear hcz6_1
    try clear hcz8_0
    try clear hcz8_1
    try clear hfz11_0
    try clear hfz11_1
    try clear hfz13_0
    try clear hfz13_1
    try clear hfz15_0
    try clear hfz15_1
    try clear hfz21_0
    try clear hfz21_1
    try clear hfz6_0
    try clear hfz6_1
    try clear hfz8_0
    try clear hfz8_1
    try clear hx161_0
    try clear p161
    try clear p2
    try clear q161
    try clear q22
    obtain ⟨x4_2, x35_2, rfl, rfl, HA, HK2, BK158, HB⟩ := hrel
    cases gk with
    | zero => exact absurd HA.out (by simp [arrays_Distance.l1])
    | succ k2 =>
     have H := HA.out
     clear HA
     simp only [arrays_Distance.l1] at H
     by_cases c23 : x35_2 < (y162.length : Int)
     rotate_left
     ·rw [if_neg c23] at H
      have c23b0 : decide (x35_2 < (y162.length : Int)) = false := decide_eq_false c23
      clear c23
      have H' := Aside0.mk H
      clear H
      go_wp2
      repeat (go_quiet (fail); try go_wp2)
      go_roundg k2
      case measure => have := HK1.out; have := HK2.out; omega
      case rel => exact ⟨(x4_2), (wrap64 (x25_1 + 1)), (by first | rfl | (simp; done) | (simp [*]; done)), (by first | rfl | (simp; done) | (simp [*]; done)), H', ⟨by have := HK1.out; have := HK2.out; omega⟩, ⟨bkC BK158⟩, ⟨hbC _⟩⟩
     rw [if_pos c23] at H
     have c23b0 : decide (x35_2 < (y162.length : Int)) = true := decide_eq_true c23
     clear c23
     by_cases c24 : 0 ≤ x35_2
     rotate_left
     ·rw [if_neg c24] at H
      exact absurd H (by simp)
     rw [if_pos c24] at H
     have c24b0 : decide (0 ≤ x35_2) = true := decide_eq_true c24
     clear c24
     by_cases c25 : x35_2 < (y162.length : Int)
     rotate_left
     ·rw [if_neg c25] at H
      exact absurd H (by simp)
     rw [if_pos c25] at H
     have c25b0 : decide (x35_2 < (y162.length : Int)) = true := decide_eq_true c25
     clear c25
     have H' := Aside0.mk H
     clear H
     have p166 : 0 ≤ (x35_2 : Int) := dA
     have q166 : x35_2 < (y162.length : Int) := dA
     obtain ⟨ad166, A166_0, c166_0, e166, hx166_0, hl166_0, hi166_0⟩ := at_L1 HR165.out x35_2 p166 q166
     obtain rfl : ad161 = ad166 := (by injection e166)
     try replace hx166_0 := (HB.out.cell (World.block_lt_of_cell? w _ hx166_0)).trans hx166_0
     have HR166_0 := Aside0.mk hi166_0
     have HC166_0 := Aside0.mk hl166_0
     clear hi166_0 hl166_0
     replace p166 := eq_true p166
     replace q166 := eq_true q166
     go_wp2
     repeat (go_quiet (fail); try go_wp2)
     go_loopg [9, 41] k2 (fun kq v9 v41 w' => ∃ (x9_3 : Int) (x41_3 : Int), v9 = .int .i64 x9_3 ∧ v41 = .int .i64 x41_3 ∧ Aside0 (arrays_Distance.l2 kq x4_2 (rd_L1 l0_1 x25_1) (rd_L1 y162 x35_2) x9_3 l0_1 (l0_1.length : Int) x25_1 y162 (y162.length : Int) x35_2 ((rd_L1 l0_1 x25_1).length : Int) x41_3 a0_0 l0_1 = some (r1, r2)) ∧ Aside0 (kq ≤ k2) ∧ Aside0 (w'.heap[gb158]? = some (.cells #[.int .i64 a0_0, (.slice (some ad161) l0_1.length c0_1)] 25 (0, 0))) ∧ Aside0 (Below w.heap.size w w'))
     case atStart => exact ⟨(0), (0), (by first | rfl | (simp; done) | (simp [*]; done)), (by first | rfl | (simp; done) | (simp [*]; done)), H', ⟨Nat.le_refl _⟩, ⟨bkC BK158⟩, ⟨hbC _⟩⟩
     case round =>
      clear H'
      try clear c1
      try clear p1
      try clear q1
      try clear hx1
      try clear c2
      try clear p2
      try clear q2
      try clear c3
      try clear c4
      try clear c4b0
      try clear c4b1
      try clear c16
      try clear c16b0
      try clear p16
      try clear q16
      try clear hx16
      try clear c17
      try clear c17b0
      try clear c18
      try clear c18b0
      try clear c19
      try clear c19b0
      try clear c20
      try clear c20b0
      try clear c20b1
      try clear q22
      try clear c23
      try clear c23b0
      try clear c24
      try clear c24b0
      try clear c25
      try clear c25b0
      try clear hcz11_0
      try clear hcz11_1
      try clear hcz13_0
      try clear hcz13_1
      try clear hcz15_0
      try clear hcz15_1
      try clear hcz21_0
      try clear hcz21_1
      try clear hcz6_0
      try clear hcz6_1
      try clear hcz8_0
      try clear hcz8_1
      try clear hfz11_0
      try clear hfz11_1
      try clear hfz13_0
      try clear hfz13_1
      try clear hfz15_0
      try clear hfz15_1
      try clear hfz21_0
      try clear hfz21_1
      try clear hfz6_0
      try clear hfz6_1
      try clear hfz8_0
      try clear hfz8_1
      try clear hx161_0
      try clear hx166_0
      try clear p1
      try clear p16
      try clear p161
      try clear p166
      try clear p2
      try clear q1
      try clear q16
      try clear q161
      try clear q166
      try clear q2
      try clear q22
      obtain ⟨x9_3, x41_3, rfl, rfl, HA, HK3, BK158, HB⟩ := hrel
      cases gk with
      | zero => exact absurd HA.out (by simp [arrays_Distance.l2])
      | succ k3 =>
       have H := HA.out
       clear HA
       simp only [arrays_Distance.l2] at H
       by_cases c26 : x41_3 < ((rd_L1 l0_1 x25_1).length : Int)
       rotate_left
       ·rw [if_neg c26] at H
        have c26b0 : decide (x41_3 < ((rd_L1 l0_1 x25_1).length : Int)) = false := decide_eq_false c26
        clear c26
        obtain ⟨ji31, hji31⟩ : ∃ j_ : Int, (mn x4_2 x9_3) = j_ := ⟨_, rfl⟩
        replace H : (arrays_Distance.l1 k3 ji31 (rd_L1 l0_1 x25_1) l0_1 (l0_1.length : Int) x25_1 y162 (y162.length : Int) (wrap64 (x35_2 + 1)) a0_0 l0_1) = some (r1, r2) := by first | (rw [hji31] at H; exact H) | (simp only [hji31] at H ⊢; exact H)
        have hji31_ : (if x9_3 < x4_2 then x9_3 else x4_2) = ji31 := hji31
        have H' := Aside0.mk H
        clear H
        go_wp2
        repeat (go_quiet (fail); try go_wp2)
        go_roundg k3
        case measure => have := HK1.out; have := HK2.out; have := HK3.out; omega
        case rel => exact ⟨(ji31), (wrap64 (x35_2 + 1)), (by first | rfl | (simp; done) | (simp only [← hji31] <;> (first | rfl | simp)) | (simp [*]; done)), (by first | rfl | (simp; done) | (simp [*]; done)), H', ⟨by have := HK1.out; have := HK2.out; have := HK3.out; omega⟩, ⟨bkC BK158⟩, ⟨hbC _⟩⟩
       rw [if_pos c26] at H
       have c26b0 : decide (x41_3 < ((rd_L1 l0_1 x25_1).length : Int)) = true := decide_eq_true c26
       clear c26
       by_cases c27 : 0 ≤ x41_3
       rotate_left
       ·rw [if_neg c27] at H
        exact absurd H (by simp)
       rw [if_pos c27] at H
       have c27b0 : decide (0 ≤ x41_3) = true := decide_eq_true c27
       clear c27
       by_cases c28 : x41_3 < ((rd_L1 l0_1 x25_1).length : Int)
       rotate_left
       ·rw [if_neg c28] at H
        exact absurd H (by simp)
       rw [if_pos c28] at H
       have c28b0 : decide (x41_3 < ((rd_L1 l0_1 x25_1).length : Int)) = true := decide_eq_true c28
       clear c28
       by_cases c29 : x41_3 < ((rd_L1 y162 x35_2).length : Int)
       rotate_left
       ·rw [if_neg c29] at H
        exact absurd H (by simp)
       rw [if_pos c29] at H
       have c29b0 : decide (x41_3 < ((rd_L1 y162 x35_2).length : Int)) = true := decide_eq_true c29
       clear c29
       by_cases c30 : (rd (rd_L1 l0_1 x25_1) x41_3) = (rd (rd_L1 y162 x35_2) x41_3)
       rotate_left
       ·rw [if_neg c30] at H
        have c30b0 : ((rd (rd_L1 l0_1 x25_1) x41_3) == (rd (rd_L1 y162 x35_2) x41_3)) = false := beq_eq_false_iff_ne.mpr c30
        have c30b1 : ((rd (rd_L1 l0_1 x25_1) x41_3) != (rd (rd_L1 y162 x35_2) x41_3)) = true := bne_iff_ne.mpr c30
        have H' := Aside0.mk H
        clear H
        have p167 : 0 ≤ (x41_3 : Int) := dA
        have q167 : x41_3 < ((rd_L1 l0_1 x25_1).length : Int) := dA
        obtain ⟨ad167, e167, hx167_0⟩ := Kd.at_int HR161_0.out x41_3 p167 q167
        cases e167
        try replace hx167_0 := (HB.out.cell (World.block_lt_of_cell? w _ hx167_0)).trans hx167_0
        replace p167 := eq_true p167
        replace q167 := eq_true q167
        have p168 : 0 ≤ (x41_3 : Int) := dA
        have q168 : x41_3 < ((rd_L1 y162 x35_2).length : Int) := dA
        obtain ⟨ad168, e168, hx168_0⟩ := Kd.at_int HR166_0.out x41_3 p168 q168
        cases e168
        try replace hx168_0 := (HB.out.cell (World.block_lt_of_cell? w _ hx168_0)).trans hx168_0
        replace p168 := eq_true p168
        replace q168 := eq_true q168
        go_wp2
        repeat (go_quiet (fail); try go_wp2)
        go_roundg k3
        case measure => have := HK1.out; have := HK2.out; have := HK3.out; omega
        case rel => exact ⟨(wrap64 (x9_3 + 1)), (wrap64 (x41_3 + 1)), (by first | rfl | (simp; done) | (simp [*]; done)), (by first | rfl | (simp; done) | (simp [*]; done)), H', ⟨by have := HK1.out; have := HK2.out; have := HK3.out; omega⟩, ⟨bkC BK158⟩, ⟨hbC _⟩⟩
       rw [if_pos c30] at H
       have c30b0 : ((rd (rd_L1 l0_1 x25_1) x41_3) == (rd (rd_L1 y162 x35_2) x41_3)) = true := beq_iff_eq.mpr c30
       have c30b1 : ((rd (rd_L1 l0_1 x25_1) x41_3) != (rd (rd_L1 y162 x35_2) x41_3)) = false := bne_eq_false_iff_eq.mpr c30
       clear c30
       have H' := Aside0.mk H
       clear H
       have p167 : 0 ≤ (x41_3 : Int) := dA
       have q167 : x41_3 < ((rd_L1 l0_1 x25_1).length : Int) := dA
       obtain ⟨ad167, e167, hx167_0⟩ := Kd.at_int HR161_0.out x41_3 p167 q167
       cases e167
       try replace hx167_0 := (HB.out.cell (World.block_lt_of_cell? w _ hx167_0)).trans hx167_0
       replace p167 := eq_true p167
       replace q167 := eq_true q167
       have p168 : 0 ≤ (x41_3 : Int) := dA
       have q168 : x41_3 < ((rd_L1 y162 x35_2).length : Int) := dA
       obtain ⟨ad168, e168, hx168_0⟩ := Kd.at_int HR166_0.out x41_3 p168 q168
       cases e168
       try replace hx168_0 := (HB.out.cell (World.block_lt_of_cell? w _ hx168_0)).trans hx168_0
       replace p168 := eq_true p168
       replace q168 := eq_true q168
       go_wp2
       repeat (go_quiet (fail); try go_wp2)
       go_roundg k3
       case measure => have := HK1.out; have := HK2.out; have := HK3.out; omega
       case rel => exact ⟨(x9_3), (wrap64 (x41_3 + 1)), (by first | rfl | (simp; done) | (simp [*]; done)), (by first | rfl | (simp; done) | (simp [*]; done)), H', ⟨by have := HK1.out; have := HK2.out; have := HK3.out; omega⟩, ⟨bkC BK158⟩, ⟨hbC _⟩⟩

end Go.Proofs.Ytkieehjpnjplmaa.X
