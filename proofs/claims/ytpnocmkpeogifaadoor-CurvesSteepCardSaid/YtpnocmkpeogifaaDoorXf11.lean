-- Written by a program of this work (wip/xprint.py, over the kit's printer) out of the translation.
import Derived.Test.YtpnocmkpeogifaaDoorX0
import Derived.Test.YtpnocmkpeogifaaDoorXG1a
import Derived.Test.YtpnocmkpeogifaaDoorXG2a
import Derived.Test.YtpnocmkpeogifaaDoorXf23
namespace Go.Proofs.YtpnocmkpeogifaaDoor.X
open Go.RowKit Go.Proofs.YtpnocmkpeogifaaDoorW.PrintWords Go.Proofs.YtpnocmkpeogifaaDoorW.PrintLast Go.Proofs.YtpnocmkpeogifaaDoorW.PrintMore
attribute [local go_sem] max2_int min2_int max_two min_two max_three min_three max_four min_four   -- for this text's walks alone
set_option linter.unusedVariables false
set_option linter.unusedSimpArgs false

/-! ### curves_Slope: function 11 -/
def curves_Slope.l0 : Nat → List (S26) → Int → Int → Int → Int → List Int → List Int → Option (Int × List Int × (List (S26)) × Int)
 | 0, _, _, _, _, _, _, _ => none
 | k + 1, x4, x6, x22, x23, x353000, x353001, x353002 => if x23 < x22 then ((curves_of.f k 0 1).bind fun bt358 => (if 0 ≤ (wrap64 ((wrap64 (x23 + x6)) + 1)) then (if (wrap64 ((wrap64 (x23 + x6)) + 1)) < (x353001.length : Int) then (if 0 ≤ (wrap64 (x23 + 1)) then (if (wrap64 (x23 + 1)) < (x353001.length : Int) then (if (wrap64 ((rd x353001 (wrap64 ((wrap64 (x23 + x6)) + 1))) - (rd x353001 (wrap64 (x23 + 1))))) > 0 then (if (wrap64 (x23 + 1)) < (x353002.length : Int) then (if 0 ≤ x23 then (if x23 < (x353002.length : Int) then ((curves_of.f k (wrap64 (x6 * (wrap64 ((rd x353002 (wrap64 (x23 + 1))) - (rd x353002 x23))))) (wrap64 ((rd x353001 (wrap64 ((wrap64 (x23 + x6)) + 1))) - (rd x353001 (wrap64 (x23 + 1)))))).bind fun bt365 => (if x4.length < 8796093022208 then (curves_Slope.l0 k (x4 ++ [(⟨bt365.1, bt365.2⟩ : S26)]) x6 x22 (wrap64 (x23 + 1)) x353000 x353001 x353002) else (none))) else (none)) else (none)) else (none)) else (if x4.length < 8796093022208 then (curves_Slope.l0 k (x4 ++ [(⟨bt358.1, bt358.2⟩ : S26)]) x6 x22 (wrap64 (x23 + 1)) x353000 x353001 x353002) else (none))) else (none)) else (none)) else (none)) else (none))) else (if 1 ≤ (wrap64 ((x353001.length : Int) - 1)) then (if (wrap64 ((x353001.length : Int) - 1)) ≤ (x353001.length : Int) then ((slices_Clone_int_int.f ((x353001.take ((wrap64 ((x353001.length : Int) - 1)) : Int).toNat).drop 1)).bind fun t355 => (some (wrap64 (x6 - 1), t355, x4, 0))) else (none)) else (none))
def curves_Slope.f (k : Nat) (a0_0 : Int) (l0_1 : List Int) (l0_2 : List Int) : Option (Int × List Int × (List (S26)) × Int) := (curves_Curve_valid.f k a0_0 l0_1 l0_2).bind fun t353 => (if t353 = true then (if a0_0 = 0 then (some (0, ([] : List Int), ([] : List (S26)), 4)) else (curves_Slope.l0 k ([] : List (S26)) a0_0 (wrap64 ((l0_2.length : Int) - 1)) 0 a0_0 l0_1 l0_2)) else (some (0, ([] : List Int), ([] : List (S26)), 2)))
theorem curves_Slope.mono_l : ∀ k, (∀ y0 y1 y2 y3 y4 y5 y6, LeO (curves_Slope.l0 k y0 y1 y2 y3 y4 y5 y6) (curves_Slope.l0 (k + 1) y0 y1 y2 y3 y4 y5 y6))
 | 0 => fun _ _ _ _ _ _ _ r h => by simp [curves_Slope.l0] at h
 | k + 1 => by
  have ih0 := curves_Slope.mono_l k
  ·intro y0 y1 y2 y3 y4 y5 y6
   unfold curves_Slope.l0
   repeat' first
   | (with_reducible exact ih0 _ _ _ _ _ _ _)
   | (with_reducible exact curves_Curve_valid.mono _ _ _ _)
   | (with_reducible exact curves_of.mono _ _ _)
   | (with_reducible exact LeO.refl _)
   | (with_reducible exact LeO.none _)
   | (with_reducible refine LeO.ite ?_ ?_)
   | (with_reducible refine LeO.bind ?_ (fun _ => ?_))
   | exact ih0 _ _ _ _ _ _ _
   | exact curves_Curve_valid.mono _ _ _ _
   | exact curves_of.mono _ _ _
   | exact LeO.none _
   | refine LeO.ite ?_ ?_
   | refine LeO.bind ?_ (fun _ => ?_)
theorem curves_Slope.mono : ∀ a0 a1 a2 k, LeO (curves_Slope.f k a0 a1 a2) (curves_Slope.f (k + 1) a0 a1 a2) := by
 intro a0 a1 a2 k
 have ih0 := curves_Slope.mono_l k
 unfold curves_Slope.f
 repeat' first
   | (with_reducible exact ih0 _ _ _ _ _ _ _)
   | (with_reducible exact curves_Curve_valid.mono _ _ _ _)
   | (with_reducible exact curves_of.mono _ _ _)
   | (with_reducible exact LeO.refl _)
   | (with_reducible exact LeO.none _)
   | (with_reducible refine LeO.ite ?_ ?_)
   | (with_reducible refine LeO.bind ?_ (fun _ => ?_))
   | exact ih0 _ _ _ _ _ _ _
   | exact curves_Curve_valid.mono _ _ _ _
   | exact curves_of.mono _ _ _
   | exact LeO.none _
   | refine LeO.ite ?_ ?_
   | refine LeO.bind ?_ (fun _ => ?_)
def curves_Slope.T10 : Bool × List (List Nat × List Nat) := (true, [([], []), ([0], [0]), ([], []), ([], []), ([2, 3], [2, 3]), ([4], [4]), ([1, 5], [1, 5]), ([6], [6]), ([], []), ([8], [8]), ([], []), ([10], [10]), ([9, 11], [9, 11]), ([12], [12]), ([7, 13], [7, 13]), ([14, 0, 1, 2, 3, 4, 5, 6, 7, 8, 9, 10, 11, 12, 13, 14], [14])])
def curves_Slope.B10 : List Nat := [0, 1, 0, 0, 12, 28, 63, 127, 0, 256, 0, 1024, 3840, 7936, 16383, 32767]
theorem curves_Slope.tab10 : rtab .any (opsOf Tryd.f11 10) = curves_Slope.T10 := by kernel_rfl
theorem curves_Slope.bits10 : waitsOk curves_Slope.T10.2 curves_Slope.B10 = true := by kernel_rfl
def curves_Slope.T12 : Bool × List (List Nat × List Nat) := (true, [([], []), ([], []), ([1], [1]), ([], []), ([3], [3]), ([2, 4], [2, 4]), ([5], [5]), ([], []), ([7], [7]), ([], []), ([8, 9], [8, 9]), ([10], [10]), ([6, 11], [6, 11]), ([0, 12], [0, 12]), ([], []), ([13, 14], [13, 14]), ([15, 15, 0, 1, 2, 3, 4, 5, 6, 7, 8, 9, 10, 11, 12, 13, 14, 15], [15])])
def curves_Slope.B12 : List Nat := [0, 0, 2, 0, 8, 30, 62, 0, 128, 0, 896, 1920, 4094, 8191, 0, 32767, 65535]
theorem curves_Slope.tab12 : rtab .any (opsOf Tryd.f11 12) = curves_Slope.T12 := by kernel_rfl
theorem curves_Slope.bits12 : waitsOk curves_Slope.T12.2 curves_Slope.B12 = true := by kernel_rfl
set_option maxHeartbeats 8000000 in
set_option maxRecDepth 100000 in
theorem curves_Slope.calls (k : Nat) (a0_0 : Int) (A0_1 : Option Addr) (c0_1 : Nat) (l0_1 : List Int) (A0_2 : Option Addr) (c0_2 : Nat) (l0_2 : List Int) (r1 : Int) (r2 : List Int) (r3 : List (S26)) (r4 : Int) (w : World) (hr0_1 : Kd.C (Kd.int .i64) w A0_1 l0_1.length l0_1) (hc0_1 : l0_1.length ≤ c0_1) (hr0_2 : Kd.C (Kd.int .i64) w A0_2 l0_2.length l0_2) (hc0_2 : l0_2.length ≤ c0_2) (h : curves_Slope.f k a0_0 l0_1 l0_2 = some (r1, r2, r3, r4)) :
  Calls Tryd.prog 11 #[.agg #[.int .i64 a0_0, .slice A0_1 l0_1.length c0_1, .slice A0_2 l0_2.length c0_2]] w fun e w' => ∃ v1_ v2_ : Value, e = .returned (.tuple #[.int .i64 r1, v1_, v2_, .int .i64 r4]) ∧ Kd.R (Kd.int .i64) 3 w' w.heap.size (fun _ => True) v1_ r2 ∧ Kd.R k26 26 w' w.heap.size (fun _ => True) v2_ r3 ∧ Below w.heap.size w w' := by
 have hu31 := Tryd.underlying31
 have hu49 := Tryd.underlying49
 have hu26 := Tryd.underlying26
 have HR0_1 := Aside0.mk hr0_1
 have HC0_1 := Aside0.mk hc0_1
 clear hr0_1 hc0_1
 have HR0_2 := Aside0.mk hr0_2
 have HC0_2 := Aside0.mk hc0_2
 clear hr0_2 hc0_2
 have HB := ak (Below.refl w.heap.size w)
 have H : ((curves_Curve_valid.f k a0_0 l0_1 l0_2).bind fun t353 => (if t353 = true then (if a0_0 = 0 then (some (0, ([] : List Int), ([] : List (S26)), 4)) else (curves_Slope.l0 k ([] : List (S26)) a0_0 (wrap64 ((l0_2.length : Int) - 1)) 0 a0_0 l0_1 l0_2)) else (some (0, ([] : List Int), ([] : List (S26)), 2)))) = some (r1, r2, r3, r4) := h
 clear h
 replace H := Option.bind_eq_some_iff.mp H
 obtain ⟨t353, A20, H⟩ := H
 replace H : (if t353 = true then (if a0_0 = 0 then (some (0, ([] : List Int), ([] : List (S26)), 4)) else (curves_Slope.l0 k ([] : List (S26)) a0_0 (wrap64 ((l0_2.length : Int) - 1)) 0 a0_0 l0_1 l0_2)) else (some (0, ([] : List Int), ([] : List (S26)), 2))) = some (r1, r2, r3, r4) := H
 have A2 := Aside0.mk A20
 clear A20
 by_cases c3 : t353 = true
 rotate_left
 ·replace c3 := Bool.eq_false_iff.mpr c3
  subst c3
  have H1 : (some (0, ([] : List Int), ([] : List (S26)), 2)) = some (r1, r2, r3, r4) := by rw [if_neg (show ¬ (false = true) by decide)] at H; exact H
  clear H
  have H := H1
  clear H1
  simp only [Option.some.injEq, Prod.mk.injEq] at H
  obtain ⟨rfl, rfl, rfl, rfl⟩ := H
  go_enter Tryd.func11, Tryd.ntmps11
  go_wp2_with (first | ((with_reducible refine gate_dst (N := 1) rfl ?_); refine bE 1 #[.int .i64 a0_0, .slice A0_1 l0_1.length c0_1, .slice A0_2 l0_2.length c0_2] 31 ?_; intro gb352 hg w53 hbox hb; have BK352 := ak (hbox); have GW352 := kG w hg; have GE352 := kG w hg; replace HB := kH _ hb; clear hb hbox hg; have hcz54_0 : w53.cell? ⟨gb352, 0, none⟩ = some (.int .i64 a0_0) := bc BK352 0; have hcz54_1 : w53.cell? ⟨gb352, 1, none⟩ = some (.slice A0_1 l0_1.length c0_1) := bc BK352 1; have hcz54_2 : w53.cell? ⟨gb352, 2, none⟩ = some (.slice A0_2 l0_2.length c0_2) := bc BK352 2; have hfz54_0 := fz BK352 0; have hfz54_1 := fz BK352 1; have hfz54_2 := fz BK352 2) | ((with_reducible refine gate_callee (f := 23) rfl ?_); refine gL 14 Tryd.func23 #[.agg #[.int .i64 a0_0, .slice A0_1 l0_1.length c0_1, .slice A0_2 l0_2.length c0_2]] ?_; (with_reducible refine (curves_Curve_valid.calls k a0_0 _ _ l0_1 _ _ l0_2 false _ ?side1 ?side2 ?side3 ?side4 A2.out).mono ?_); (case side1 => exact kC HR0_1); (case side2 => exact HC0_1.out); (case side3 => exact kC HR0_2); (case side4 => exact HC0_2.out); rintro e w55 ⟨rfl, hb⟩; refine ⟨_, rfl, ?_⟩; replace BK352 := kB BK352 hb; replace HB := kH _ hb; (try clear hb); (try clear hb2); (try clear hk); (try clear hi)))
  refine bodyPost_ret (results_list (rs := [.tmp 2, .tmp 3, .tmp 4, .tmp 5]) rfl (by simp) (.tmp (.tmp (.tmp (.tmp .nil))))) rfl ?_
  exact ⟨_, _, by first | rfl | (simp [errW_none, errW_some] <;> rfl) | (simp [*, errW_none, errW_some] <;> rfl), by first | exact Kd.R_nil _ _ _ _ _ | exact Kd.N_nil _ _ _ _ _ | exact Kd.V_nil _ _ _ _ _ | exact Kd.Q_nil _ _ _ _ _ | exact Kd.S_nil _ _ _ _ _, by first | exact Kd.R_nil _ _ _ _ _ | exact Kd.N_nil _ _ _ _ _ | exact Kd.V_nil _ _ _ _ _ | exact Kd.Q_nil _ _ _ _ _ | exact Kd.S_nil _ _ _ _ _, hbC _⟩
 subst c3
 have H1 : (if a0_0 = 0 then (some (0, ([] : List Int), ([] : List (S26)), 4)) else (curves_Slope.l0 k ([] : List (S26)) a0_0 (wrap64 ((l0_2.length : Int) - 1)) 0 a0_0 l0_1 l0_2)) = some (r1, r2, r3, r4) := by rw [if_pos rfl] at H; exact H
 clear H
 have H := H1
 clear H1
 by_cases c4 : a0_0 = 0
 ·rw [if_pos c4] at H
  have c4b0 : (a0_0 == 0) = true := beq_iff_eq.mpr c4
  have c4b1 : (a0_0 != 0) = false := bne_eq_false_iff_eq.mpr c4
  clear c4
  simp only [Option.some.injEq, Prod.mk.injEq] at H
  obtain ⟨rfl, rfl, rfl, rfl⟩ := H
  go_enter Tryd.func11, Tryd.ntmps11
  go_wp2_with (first | ((with_reducible refine gate_dst (N := 1) rfl ?_); refine bE 1 #[.int .i64 a0_0, .slice A0_1 l0_1.length c0_1, .slice A0_2 l0_2.length c0_2] 31 ?_; intro gb352 hg w5 hbox hb; have BK352 := ak (hbox); have GW352 := kG w hg; have GE352 := kG w hg; replace HB := kH _ hb; clear hb hbox hg; have hcz6_0 : w5.cell? ⟨gb352, 0, none⟩ = some (.int .i64 a0_0) := bc BK352 0; have hcz6_1 : w5.cell? ⟨gb352, 1, none⟩ = some (.slice A0_1 l0_1.length c0_1) := bc BK352 1; have hcz6_2 : w5.cell? ⟨gb352, 2, none⟩ = some (.slice A0_2 l0_2.length c0_2) := bc BK352 2; have hfz6_0 := fz BK352 0; have hfz6_1 := fz BK352 1; have hfz6_2 := fz BK352 2) | ((with_reducible refine gate_callee (f := 23) rfl ?_); refine gL 14 Tryd.func23 #[.agg #[.int .i64 a0_0, .slice A0_1 l0_1.length c0_1, .slice A0_2 l0_2.length c0_2]] ?_; (with_reducible refine (curves_Curve_valid.calls k a0_0 _ _ l0_1 _ _ l0_2 true _ ?side1 ?side2 ?side3 ?side4 A2.out).mono ?_); (case side1 => exact kC HR0_1); (case side2 => exact HC0_1.out); (case side3 => exact kC HR0_2); (case side4 => exact HC0_2.out); rintro e w7 ⟨rfl, hb⟩; refine ⟨_, rfl, ?_⟩; replace BK352 := kB BK352 hb; replace HB := kH _ hb; (try clear hb); (try clear hb2); (try clear hk); (try clear hi)))
  refine bodyPost_ret (results_list (rs := [.tmp 2, .tmp 3, .tmp 4, .tmp 5]) rfl (by simp) (.tmp (.tmp (.tmp (.tmp .nil))))) rfl ?_
  exact ⟨_, _, by first | rfl | (simp [errW_none, errW_some] <;> rfl) | (simp [*, errW_none, errW_some] <;> rfl), by first | exact Kd.R_nil _ _ _ _ _ | exact Kd.N_nil _ _ _ _ _ | exact Kd.V_nil _ _ _ _ _ | exact Kd.Q_nil _ _ _ _ _ | exact Kd.S_nil _ _ _ _ _, by first | exact Kd.R_nil _ _ _ _ _ | exact Kd.N_nil _ _ _ _ _ | exact Kd.V_nil _ _ _ _ _ | exact Kd.Q_nil _ _ _ _ _ | exact Kd.S_nil _ _ _ _ _, hbC _⟩
 rw [if_neg c4] at H
 have c4b0 : (a0_0 == 0) = false := beq_eq_false_iff_ne.mpr c4
 have c4b1 : (a0_0 != 0) = true := bne_iff_ne.mpr c4
 have H' := Aside0.mk H
 clear H
 go_enter Tryd.func11, Tryd.ntmps11
 go_wp2_with (first | ((with_reducible refine gate_dst (N := 1) rfl ?_); refine bE 1 #[.int .i64 a0_0, .slice A0_1 l0_1.length c0_1, .slice A0_2 l0_2.length c0_2] 31 ?_; intro gb352 hg w8 hbox hb; have BK352 := ak (hbox); have GW352 := kG w hg; have GE352 := kG w hg; replace HB := kH _ hb; clear hb hbox hg; have hcz9_0 : w8.cell? ⟨gb352, 0, none⟩ = some (.int .i64 a0_0) := bc BK352 0; have hcz9_1 : w8.cell? ⟨gb352, 1, none⟩ = some (.slice A0_1 l0_1.length c0_1) := bc BK352 1; have hcz9_2 : w8.cell? ⟨gb352, 2, none⟩ = some (.slice A0_2 l0_2.length c0_2) := bc BK352 2; have hfz9_0 := fz BK352 0; have hfz9_1 := fz BK352 1; have hfz9_2 := fz BK352 2) | ((with_reducible refine gate_callee (f := 23) rfl ?_); refine gL 14 Tryd.func23 #[.agg #[.int .i64 a0_0, .slice A0_1 l0_1.length c0_1, .slice A0_2 l0_2.length c0_2]] ?_; (with_reducible refine (curves_Curve_valid.calls k a0_0 _ _ l0_1 _ _ l0_2 true _ ?side1 ?side2 ?side3 ?side4 A2.out).mono ?_); (case side1 => exact kC HR0_1); (case side2 => exact HC0_1.out); (case side3 => exact kC HR0_2); (case side4 => exact HC0_2.out); rintro e w10 ⟨rfl, hb⟩; refine ⟨_, rfl, ?_⟩; replace BK352 := kB BK352 hb; replace HB := kH _ hb; (try clear hb); (try clear hb2); (try clear hk); (try clear hi); have hcz11_0 : w10.cell? ⟨gb352, 0, none⟩ = some (.int .i64 a0_0) := bc BK352 0; have hcz11_1 : w10.cell? ⟨gb352, 1, none⟩ = some (.slice A0_1 l0_1.length c0_1) := bc BK352 1; have hcz11_2 : w10.cell? ⟨gb352, 2, none⟩ = some (.slice A0_2 l0_2.length c0_2) := bc BK352 2; have hfz11_0 := fz BK352 0; have hfz11_1 := fz BK352 1; have hfz11_2 := fz BK352 2))
 go_loopg [4, 23] k (fun kq v4 v23 w' => ∃ (x4_1 : List (S26)) (x23_1 : Int), v23 = .int .i64 x23_1 ∧ Aside0 (curves_Slope.l0 kq x4_1 a0_0 (wrap64 ((l0_2.length : Int) - 1)) x23_1 a0_0 l0_1 l0_2 = some (r1, r2, r3, r4)) ∧ Aside0 (kq ≤ k) ∧ Aside0 (Kd.R k26 26 w' w.heap.size (fun _ => True) v4 x4_1) ∧ Aside0 (w'.heap[gb352]? = some (.cells #[.int .i64 a0_0, (.slice A0_1 l0_1.length c0_1), (.slice A0_2 l0_2.length c0_2)] 31 (0, 0))) ∧ Aside0 (Below w.heap.size w w'))
 case atStart => exact ⟨(([] : List (S26))), (0), (by first | rfl | (simp; done) | (simp [*]; done)), H', ⟨Nat.le_refl _⟩, ⟨by first | exact Kd.R_nil _ _ _ _ _ | exact Kd.N_nil _ _ _ _ _ | exact Kd.V_nil _ _ _ _ _ | exact Kd.Q_nil _ _ _ _ _ | exact Kd.S_nil _ _ _ _ _⟩, ⟨bkC BK352⟩, ⟨hbC _⟩⟩
 case round =>
  clear H'
  try clear c1
  try clear c2
  try clear p2
  try clear c3
  try clear c4
  try clear c4b0
  try clear c4b1
  try clear p6
  try clear c11
  try clear hcz11_0
  try clear hcz11_1
  try clear hcz11_2
  try clear hcz6_0
  try clear hcz6_1
  try clear hcz6_2
  try clear hcz9_0
  try clear hcz9_1
  try clear hcz9_2
  try clear hfz11_0
  try clear hfz11_1
  try clear hfz11_2
  try clear hfz6_0
  try clear hfz6_1
  try clear hfz6_2
  try clear hfz9_0
  try clear hfz9_1
  try clear hfz9_2
  obtain ⟨x4_1, x23_1, rfl, HA, HK1, HO_4, BK352, HB⟩ := hrel
  cases gk with
  | zero => exact absurd HA.out (by simp [curves_Slope.l0])
  | succ k1 =>
   have H := HA.out
   clear HA
   simp only [curves_Slope.l0] at H
   by_cases c12 : x23_1 < (wrap64 ((l0_2.length : Int) - 1))
   rotate_left
   ·rw [if_neg c12] at H
    have c12b0 : decide (x23_1 < (wrap64 ((l0_2.length : Int) - 1))) = false := decide_eq_false c12
    clear c12
    by_cases c47 : 1 ≤ (wrap64 ((l0_1.length : Int) - 1))
    rotate_left
    ·rw [if_neg c47] at H
     exact absurd H (by simp)
    rw [if_pos c47] at H
    have c47b0 := eq_true c47
    have c47b1 : decide (1 ≤ (wrap64 ((l0_1.length : Int) - 1))) = true := decide_eq_true c47
    clear c47
    by_cases c48 : (wrap64 ((l0_1.length : Int) - 1)) ≤ (l0_1.length : Int)
    rotate_left
    ·rw [if_neg c48] at H
     exact absurd H (by simp)
    rw [if_pos c48] at H
    have c48b0 := eq_true c48
    have c48b1 : decide ((wrap64 ((l0_1.length : Int) - 1)) ≤ (l0_1.length : Int)) = true := decide_eq_true c48
    clear c48
    replace H := Option.bind_eq_some_iff.mp H
    obtain ⟨t355, A490, H⟩ := H
    replace H : (some (wrap64 (a0_0 - 1), t355, x4_1, 0)) = some (r1, r2, r3, r4) := H
    have A49 := Aside0.mk A490
    clear A490
    simp only [Option.some.injEq, Prod.mk.injEq] at H
    obtain ⟨rfl, rfl, rfl, rfl⟩ := H
    have hcz50_0 : wr.cell? ⟨gb352, 0, none⟩ = some (.int .i64 a0_0) := bc BK352 0
    have hcz50_1 : wr.cell? ⟨gb352, 1, none⟩ = some (.slice A0_1 l0_1.length c0_1) := bc BK352 1
    have hcz50_2 : wr.cell? ⟨gb352, 2, none⟩ = some (.slice A0_2 l0_2.length c0_2) := bc BK352 2
    have hfz50_0 := fz BK352 0
    have hfz50_1 := fz BK352 1
    have hfz50_2 := fz BK352 2
    obtain ⟨i051, hi051, _, hsz51, _⟩ := info_parts info3
    obtain ⟨A51, hcut51, hA51, hC51⟩ := print_mid_of (P := Tryd.prog) (Value.int .i64) 0 22 3 .i64 .i64 Tryd.underlying22 hi051 hsz51 A0_1 c0_1 l0_1 1 (wrap64 ((l0_1.length : Int) - 1)) (by omega) (by first | omega | exact dA) (dA) HC0_1.out
    have HR354 := ak (Kd.C_of_reads (h1 := fun _ => rfl) (hA51 _ (Kd.reads_of_C HR0_1.out)))
    have HC354 := Aside0.mk hC51
    clear hA51 hC51 hi051 hsz51
    go_wp2_with (first | ((with_reducible refine gate_callee (f := 25) rfl ?_); refine goesL_ (some 75) rfl rfl Tryd.func25 (by kernel_rfl) rfl #[.slice A51 ((l0_1.take ((wrap64 ((l0_1.length : Int) - 1)) : Int).toNat).drop 1).length (c0_1 - 1)] rfl (by (try simp only [List.map_toArray, List.map_cons, List.map_nil]); first | done | (rw [show ((l0_1.take ((wrap64 ((l0_1.length : Int) - 1)) : Int).toNat).drop 1).length = ((wrap64 ((l0_1.length : Int) - 1)).toNat - 1) from (by rw [List.length_drop, List.length_take]; have h_ : ((wrap64 ((l0_1.length : Int) - 1)) : Int) ≤ (l0_1.length : Int) := dA; omega)] <;> rfl) | rfl | (simp only [List.length_drop, List.length_take]; rfl)) ?_; (with_reducible refine (slices_Clone_int_int.calls _ _ ((l0_1.take ((wrap64 ((l0_1.length : Int) - 1)) : Int).toNat).drop 1) t355 _ ?side1 ?side2 A49.out).mono ?_); (case side1 => exact kC HR354); (case side2 => exact HC354.out); rintro e w52 ⟨v356, rfl, ho0, hb⟩; refine ⟨_, rfl, ?_⟩; replace HO_4 := kO HO_4 hb; have HO357 := ak (Kd.R_lower ho0 (below_size (hbC _))); replace BK352 := kB BK352 hb; replace HB := kH _ hb; (try clear hb); (try clear hb2); (try clear hk); (try clear hi); (try clear ho0)))
    refine bodyPost_ret (results_list (rs := [.tmp 2, .tmp 3, .tmp 4, .tmp 5]) rfl (by simp) (.tmp (.tmp (.tmp (.tmp .nil))))) rfl ?_
    exact ⟨_, _, by first | rfl | (simp [errW_none, errW_some] <;> rfl) | (simp [*, errW_none, errW_some] <;> rfl), rC HO357, rC HO_4, hbC _⟩
   rw [if_pos c12] at H
   have c12b0 : decide (x23_1 < (wrap64 ((l0_2.length : Int) - 1))) = true := decide_eq_true c12
   clear c12
   replace H := Option.bind_eq_some_iff.mp H
   obtain ⟨⟨t358, t359⟩, A130, H⟩ := H
   replace H : (if 0 ≤ (wrap64 ((wrap64 (x23_1 + a0_0)) + 1)) then (if (wrap64 ((wrap64 (x23_1 + a0_0)) + 1)) < (l0_1.length : Int) then (if 0 ≤ (wrap64 (x23_1 + 1)) then (if (wrap64 (x23_1 + 1)) < (l0_1.length : Int) then (if (wrap64 ((rd l0_1 (wrap64 ((wrap64 (x23_1 + a0_0)) + 1))) - (rd l0_1 (wrap64 (x23_1 + 1))))) > 0 then (if (wrap64 (x23_1 + 1)) < (l0_2.length : Int) then (if 0 ≤ x23_1 then (if x23_1 < (l0_2.length : Int) then ((curves_of.f k1 (wrap64 (a0_0 * (wrap64 ((rd l0_2 (wrap64 (x23_1 + 1))) - (rd l0_2 x23_1))))) (wrap64 ((rd l0_1 (wrap64 ((wrap64 (x23_1 + a0_0)) + 1))) - (rd l0_1 (wrap64 (x23_1 + 1)))))).bind fun bt365 => (if x4_1.length < 8796093022208 then (curves_Slope.l0 k1 (x4_1 ++ [(⟨bt365.1, bt365.2⟩ : S26)]) a0_0 (wrap64 ((l0_2.length : Int) - 1)) (wrap64 (x23_1 + 1)) a0_0 l0_1 l0_2) else (none))) else (none)) else (none)) else (none)) else (if x4_1.length < 8796093022208 then (curves_Slope.l0 k1 (x4_1 ++ [(⟨t358, t359⟩ : S26)]) a0_0 (wrap64 ((l0_2.length : Int) - 1)) (wrap64 (x23_1 + 1)) a0_0 l0_1 l0_2) else (none))) else (none)) else (none)) else (none)) else (none)) = some (r1, r2, r3, r4) := H
   have A13 := Aside0.mk A130
   clear A130
   obtain ⟨ji14, hji14⟩ : ∃ j_ : Int, (wrap64 ((wrap64 (x23_1 + a0_0)) + 1)) = j_ := ⟨_, rfl⟩
   replace H : (if 0 ≤ (ji14) then (if (ji14) < (l0_1.length : Int) then (if 0 ≤ (wrap64 (x23_1 + 1)) then (if (wrap64 (x23_1 + 1)) < (l0_1.length : Int) then (if (wrap64 ((rd l0_1 (ji14)) - (rd l0_1 (wrap64 (x23_1 + 1))))) > 0 then (if (wrap64 (x23_1 + 1)) < (l0_2.length : Int) then (if 0 ≤ x23_1 then (if x23_1 < (l0_2.length : Int) then ((curves_of.f k1 (wrap64 (a0_0 * (wrap64 ((rd l0_2 (wrap64 (x23_1 + 1))) - (rd l0_2 x23_1))))) (wrap64 ((rd l0_1 (ji14)) - (rd l0_1 (wrap64 (x23_1 + 1)))))).bind fun bt365 => (if x4_1.length < 8796093022208 then (curves_Slope.l0 k1 (x4_1 ++ [(⟨bt365.1, bt365.2⟩ : S26)]) a0_0 (wrap64 ((l0_2.length : Int) - 1)) (wrap64 (x23_1 + 1)) a0_0 l0_1 l0_2) else (none))) else (none)) else (none)) else (none)) else (if x4_1.length < 8796093022208 then (curves_Slope.l0 k1 (x4_1 ++ [(⟨t358, t359⟩ : S26)]) a0_0 (wrap64 ((l0_2.length : Int) - 1)) (wrap64 (x23_1 + 1)) a0_0 l0_1 l0_2) else (none))) else (none)) else (none)) else (none)) else (none)) = some (r1, r2, r3, r4) := by first | (rw [hji14] at H; exact H) | (simp only [hji14] at H ⊢; exact H)
   (try rw [hji14] at A13)
   have hji14w : (IntKind.i64.wrap ((wrap64 (x23_1 + a0_0)) + 1)) = ji14 := (i64_w _).trans hji14
   by_cases c15 : 0 ≤ (ji14)
   rotate_left
   ·rw [if_neg c15] at H
    exact absurd H (by simp)
   rw [if_pos c15] at H
   have c15b0 : decide (0 ≤ (ji14)) = true := decide_eq_true c15
   clear c15
   by_cases c16 : (ji14) < (l0_1.length : Int)
   rotate_left
   ·rw [if_neg c16] at H
    exact absurd H (by simp)
   rw [if_pos c16] at H
   have c16b0 : decide ((ji14) < (l0_1.length : Int)) = true := decide_eq_true c16
   clear c16
   obtain ⟨ji17, hji17⟩ : ∃ j_ : Int, (wrap64 (x23_1 + 1)) = j_ := ⟨_, rfl⟩
   replace H : (if 0 ≤ (ji17) then (if (ji17) < (l0_1.length : Int) then (if (wrap64 ((rd l0_1 (ji14)) - (rd l0_1 (ji17)))) > 0 then (if (ji17) < (l0_2.length : Int) then (if 0 ≤ x23_1 then (if x23_1 < (l0_2.length : Int) then ((curves_of.f k1 (wrap64 (a0_0 * (wrap64 ((rd l0_2 (ji17)) - (rd l0_2 x23_1))))) (wrap64 ((rd l0_1 (ji14)) - (rd l0_1 (ji17))))).bind fun bt365 => (if x4_1.length < 8796093022208 then (curves_Slope.l0 k1 (x4_1 ++ [(⟨bt365.1, bt365.2⟩ : S26)]) a0_0 (wrap64 ((l0_2.length : Int) - 1)) ji17 a0_0 l0_1 l0_2) else (none))) else (none)) else (none)) else (none)) else (if x4_1.length < 8796093022208 then (curves_Slope.l0 k1 (x4_1 ++ [(⟨t358, t359⟩ : S26)]) a0_0 (wrap64 ((l0_2.length : Int) - 1)) ji17 a0_0 l0_1 l0_2) else (none))) else (none)) else (none)) = some (r1, r2, r3, r4) := by first | (rw [hji17] at H; exact H) | (simp only [hji17] at H ⊢; exact H)
   (try rw [hji17] at A13)
   have hji17w : (IntKind.i64.wrap (x23_1 + 1)) = ji17 := (i64_w _).trans hji17
   by_cases c18 : 0 ≤ (ji17)
   rotate_left
   ·rw [if_neg c18] at H
    exact absurd H (by simp)
   rw [if_pos c18] at H
   have c18b0 : decide (0 ≤ (ji17)) = true := decide_eq_true c18
   clear c18
   by_cases c19 : (ji17) < (l0_1.length : Int)
   rotate_left
   ·rw [if_neg c19] at H
    exact absurd H (by simp)
   rw [if_pos c19] at H
   have c19b0 : decide ((ji17) < (l0_1.length : Int)) = true := decide_eq_true c19
   clear c19
   by_cases c20 : (wrap64 ((rd l0_1 (ji14)) - (rd l0_1 (ji17)))) > 0
   rotate_left
   ·rw [if_neg c20] at H
    have c20b0 : decide (0 < (wrap64 ((rd l0_1 (ji14)) - (rd l0_1 (ji17))))) = false := decide_eq_false c20
    clear c20
    by_cases c38 : x4_1.length < 8796093022208
    rotate_left
    ·rw [if_neg c38] at H
     exact absurd H (by simp)
    rw [if_pos c38] at H
    have LMc38 := Aside0.mk c38
    clear c38
    obtain ⟨y370, hy370⟩ : ∃ y_ : List (S26), y_ = (x4_1 ++ [(⟨t358, t359⟩ : S26)]) := ⟨_, rfl⟩
    replace H : (curves_Slope.l0 k1 y370 a0_0 (wrap64 ((l0_2.length : Int) - 1)) ji17 a0_0 l0_1 l0_2) = some (r1, r2, r3, r4) := by first | (rw [hy370]; with_reducible exact H) | (have H2_ := (Option.bind_some _ _).symm.trans H; rw [hy370]; with_reducible exact H2_) | (have H2_ := (Option.bind_some _ _).symm.trans H; with_reducible exact H2_) | with_reducible exact H | (rw [hy370]; exact H) | exact H
    have Ny370 := Aside0.mk hy370
    clear hy370
    have H' := Aside0.mk H
    clear H
    try go_wp2_with (first | ((with_reducible refine gate_callee (f := 24) rfl ?_); refine gL 26 Tryd.func24 #[.int .i64 0, .int .i64 1] ?_; (with_reducible refine (curves_of.calls k1 0 1 t358 t359 _ A13.out).mono ?_); rintro e w39 ⟨rfl, hb⟩; refine ⟨_, rfl, ?_⟩; replace HO_4 := kO HO_4 hb; replace BK352 := kB BK352 hb; replace HB := kH _ hb; (try clear hb); (try clear hb2); (try clear hk); (try clear hi)) | ((with_reducible refine gate_dst (N := 8) rfl ?_); refine bE 8 #[.int .i64 0, .int .i64 0] 49 ?_; intro gb360 hg w40 hbox hb; replace HO_4 := kO HO_4 hb; have BK360 := ak (hbox); have GW360 := kG w hg; have GE360 := kG w hg; replace HB := kH _ hb; have NB352_360 := kL BK352 hg; have NB360_352 := kR BK352 hg; replace BK352 := kB BK352 hb; clear hb hbox hg; have hnb41 := NB360_352.out; have hnc41 := NB352_360.out; have hcz42_0 : w40.cell? ⟨gb360, 0, none⟩ = some (.int .i64 0) := bc BK360 0; have hcz42_1 : w40.cell? ⟨gb360, 1, none⟩ = some (.int .i64 0) := bc BK360 1; have hfz42_0 := fz BK360 0; have hfz42_1 := fz BK360 1))
    have n0_ : Aside0 (Kd.R k26 26 ((w40.setCell ⟨gb360, 0, none⟩ (.int .i64 t358)).setCell ⟨gb360, 1, none⟩ (.int .i64 t359)) w.heap.size (fun _ => True) u4 x4_1) := ⟨rD (Kd.R_mono (Kd.R_far (p := ⟨gb360, 1, none⟩) (Kd.R_far (p := ⟨gb360, 0, none⟩) (Kd.R_types HO_4.out BK360.out (by decide)) (fun _ hk => hk.2) (.int .i64 t358)) (fun _ hk => hk.2) (.int .i64 t359)) (fun _ hk => trivial))⟩
    have n1_ : Aside0 (((w40.setCell ⟨gb360, 0, none⟩ (.int .i64 t358)).setCell ⟨gb360, 1, none⟩ (.int .i64 t359)).heap[gb352]? = some (.cells #[.int .i64 a0_0, .slice A0_1 l0_1.length c0_1, .slice A0_2 l0_2.length c0_2] 31 (0, 0))) := ⟨bF BK352⟩
    have n2_ : Aside0 (((w40.setCell ⟨gb360, 0, none⟩ (.int .i64 t358)).setCell ⟨gb360, 1, none⟩ (.int .i64 t359)).heap[gb360]? = some (.cells #[.int .i64 t358, .int .i64 t359] 49 (0, 0))) := ⟨by (with_reducible repeat (first | refine blk_drewN ?_ _ | refine blk_drew ?_ | refine blk_alloc ?_ _)); refine blk_put (cs := #[.int .i64 t358, .int .i64 0]) ?_ 1 _ rfl; (with_reducible repeat (first | refine blk_drewN ?_ _ | refine blk_drew ?_ | refine blk_alloc ?_ _)); refine blk_put (cs := #[.int .i64 0, .int .i64 0]) ?_ 0 _ rfl; (with_reducible repeat (first | refine blk_drewN ?_ _ | refine blk_drew ?_ | refine blk_alloc ?_ _)); exact BK360.out⟩
    have n3_ : Aside0 (Below w.heap.size w ((w40.setCell ⟨gb360, 0, none⟩ (.int .i64 t358)).setCell ⟨gb360, 1, none⟩ (.int .i64 t359))) := ⟨hbC _⟩
    (try clear HO_4)
    (try clear BK352)
    (try clear BK360)
    (try clear HB)
    generalize ((w40.setCell ⟨gb360, 0, none⟩ (.int .i64 t358)).setCell ⟨gb360, 1, none⟩ (.int .i64 t359)) = w43 at n0_ n1_ n2_ n3_ ⊢
    have HO_4 := n0_
    have BK352 := n1_
    have BK360 := n2_
    have HB := n3_
    clear n0_ n1_ n2_ n3_
    replace HO_4 := ak (Kd.R_drew HO_4.out)
    replace BK352 := kd BK352
    replace BK360 := kd BK360
    replace HB := ak (below_drew1 HB.out)
    have p361 : 0 ≤ ((ji14) : Int) := dA
    have q361 : (ji14) < (l0_1.length : Int) := dA
    obtain ⟨ad361, e361, hx361_0⟩ := Kd.at_int HR0_1.out (ji14) p361 q361
    have hw361_0 := hx361_0
    cases e361
    try replace hx361_0 := (HB.out.cell (World.block_lt_of_cell? w _ hx361_0)).trans hx361_0
    replace p361 := eq_true p361
    replace q361 := eq_true q361
    have p362 : 0 ≤ ((ji17) : Int) := dA
    have q362 : (ji17) < (l0_1.length : Int) := dA
    obtain ⟨ad362, e362, hx362_0⟩ := Kd.at_int HR0_1.out (ji17) p362 q362
    have hw362_0 := hx362_0
    obtain rfl : ad361 = ad362 := (by injection e362)
    try replace hx362_0 := (HB.out.cell (World.block_lt_of_cell? w _ hx362_0)).trans hx362_0
    replace p362 := eq_true p362
    replace q362 := eq_true q362
    refine sS (n := 16) (S := fun w' => w'.cell? ⟨gb352, 0, none⟩ = some (.int .i64 a0_0) ∧ w'.cell? ⟨gb352, 1, none⟩ = some (.slice (some ad361) l0_1.length c0_1) ∧ w'.cell? ⟨gb352, 2, none⟩ = some (.slice A0_2 l0_2.length c0_2) ∧ w'.cell? (ad361.add ((ji14)).toNat) = some (.int .i64 (rd l0_1 (ji14))) ∧ w'.cell? (ad361.add ((ji17)).toNat) = some (.int .i64 (rd l0_1 (ji17)))) (ds := []) ⟨bc BK352 0, bc BK352 1, bc BK352 2, ((HB.out.cell (World.block_lt_of_cell? w _ hw361_0)).trans hw361_0), ((HB.out.cell (World.block_lt_of_cell? w _ hw362_0)).trans hw362_0)⟩ (fun hHeld => ?_); refine with_tabW curves_Slope.tab10 curves_Slope.bits10 (fun HT_ HW_ => ?_)
    generalize w43.drew = w44 at HO_4 BK352 BK360 HB hx361_0 hx362_0 hHeld ⊢
    refine pS 0 27 16 1 ?_
    refine pS 2 29 16 5 ?_
    refine pS 3 30 16 13 ?_
    refine pS 4 31 16 29 ?_
    refine pS 5 32 16 61 ?_
    refine pS 8 35 16 317 ?_
    refine pS 10 37 16 1341 ?_
    refine pS 11 38 16 3389 ?_
    refine tS 1 28 16 3391 ?_
    refine pS 6 33 16 3455 ?_
    refine tS 7 34 16 3583 ?_
    refine tS 9 36 16 4095 ?_
    refine pS 12 39 16 8191 ?_
    refine tS 13 40 16 16383 ?_
    refine pS 14 41 16 32767 ?_
    refine pS 15 9 16 65535 ?_
    refine done_ (done_of HT_.out (by kernel_rfl)) ?_
    have hcz45_0 : w44.cell? ⟨gb360, 0, none⟩ = some (.int .i64 t358) := bc BK360 0
    have hcz45_1 : w44.cell? ⟨gb360, 1, none⟩ = some (.int .i64 t359) := bc BK360 1
    have hfz45_0 := fz BK360 0
    have hfz45_1 := fz BK360 1
    try go_wp2_with (first | ((with_reducible refine gate_builtin (b := .append) (xs := #[.tmp 60, .tmp 63]) rfl ?_); at_builtin; refine Kd.R_append k26 (w0 := w) w.heap.size rfl (.tmp 60) (.tmp 63) 27 26 (.agg #[(.int .i64 0), (.int .i64 0)]) 16 rfl Tryd.underlying27 info26 rfl (by decide) (by omega) u4 x4_1 (⟨t358, t359⟩ : S26) [.int .i64 t358, .int .i64 t359] (fun _ => True) (fun _ => False) rfl rfl ?aP (fun _ hk => hk.elim) ?aF ?aO ?aB ?aS ?aL ?_; (case aP => exact k26_mkM _ _ _ (⟨t358, t359⟩ : S26)); (case aB => exact (hbC _)); (case aF => exact (fun _ _ => trivial)); (case aO => exact (rC HO_4)); (case aS => exact (below_size (hbC _))); (case aL => have := LMc38.out; omega); intro v371 w46 ho hb hg hat; rw [← Ny370.out] at ho; have n0_ := ak (blk_grown (g := gb352) (o := .cells #[.int .i64 a0_0, .slice (some ad361) l0_1.length c0_1, .slice A0_2 l0_2.length c0_2] 31 (0, 0)) (bkC BK352) hg (Kd.R_ne HO_4.out BK352.out (by decide))); have n1_ := ak (blk_grown (g := gb360) (o := .cells #[.int .i64 t358, .int .i64 t359] 49 (0, 0)) (bkC BK360) hg (Kd.R_ne HO_4.out BK360.out (by decide))); have n2_ := ak (hb); have n3_ := ak (ho); clear BK352; clear BK360; clear HB; clear HO_4; have BK352 := n0_; have BK360 := n1_; have HB := n2_; have HO372 := n3_; clear n0_ n1_ n2_ n3_; clear ho hb hg hat))
    go_roundg k1
    case measure => have := HK1.out; omega
    case rel => exact ⟨(y370), (ji17), (by first | rfl | (simp; done) | (simp only [← hji17] <;> (first | rfl | simp)) | (simp [*]; done)), H', ⟨by have := HK1.out; omega⟩, ⟨rC HO372⟩, ⟨bkC BK352⟩, ⟨hbC _⟩⟩
   rw [if_pos c20] at H
   have c20b0 : decide (0 < (wrap64 ((rd l0_1 (ji14)) - (rd l0_1 (ji17))))) = true := decide_eq_true c20
   clear c20
   by_cases c21 : (ji17) < (l0_2.length : Int)
   rotate_left
   ·rw [if_neg c21] at H
    exact absurd H (by simp)
   rw [if_pos c21] at H
   have c21b0 : decide ((ji17) < (l0_2.length : Int)) = true := decide_eq_true c21
   clear c21
   by_cases c22 : 0 ≤ x23_1
   rotate_left
   ·rw [if_neg c22] at H
    exact absurd H (by simp)
   rw [if_pos c22] at H
   have c22b0 : decide (0 ≤ x23_1) = true := decide_eq_true c22
   clear c22
   by_cases c23 : x23_1 < (l0_2.length : Int)
   rotate_left
   ·rw [if_neg c23] at H
    exact absurd H (by simp)
   rw [if_pos c23] at H
   have c23b0 : decide (x23_1 < (l0_2.length : Int)) = true := decide_eq_true c23
   clear c23
   replace H := Option.bind_eq_some_iff.mp H
   obtain ⟨⟨t365, t366⟩, A240, H⟩ := H
   replace H : (if x4_1.length < 8796093022208 then (curves_Slope.l0 k1 (x4_1 ++ [(⟨t365, t366⟩ : S26)]) a0_0 (wrap64 ((l0_2.length : Int) - 1)) ji17 a0_0 l0_1 l0_2) else (none)) = some (r1, r2, r3, r4) := H
   have A24 := Aside0.mk A240
   clear A240
   by_cases c25 : x4_1.length < 8796093022208
   rotate_left
   ·rw [if_neg c25] at H
    exact absurd H (by simp)
   rw [if_pos c25] at H
   have LMc25 := Aside0.mk c25
   clear c25
   obtain ⟨y367, hy367⟩ : ∃ y_ : List (S26), y_ = (x4_1 ++ [(⟨t365, t366⟩ : S26)]) := ⟨_, rfl⟩
   replace H : (curves_Slope.l0 k1 y367 a0_0 (wrap64 ((l0_2.length : Int) - 1)) ji17 a0_0 l0_1 l0_2) = some (r1, r2, r3, r4) := by first | (rw [hy367]; with_reducible exact H) | (have H2_ := (Option.bind_some _ _).symm.trans H; rw [hy367]; with_reducible exact H2_) | (have H2_ := (Option.bind_some _ _).symm.trans H; with_reducible exact H2_) | with_reducible exact H | (rw [hy367]; exact H) | exact H
   have Ny367 := Aside0.mk hy367
   clear hy367
   have H' := Aside0.mk H
   clear H
   try go_wp2_with (first | ((with_reducible refine gate_callee (f := 24) rfl ?_); refine gL 26 Tryd.func24 #[.int .i64 0, .int .i64 1] ?_; (with_reducible refine (curves_of.calls k1 0 1 t358 t359 _ A13.out).mono ?_); rintro e w26 ⟨rfl, hb⟩; refine ⟨_, rfl, ?_⟩; replace HO_4 := kO HO_4 hb; replace BK352 := kB BK352 hb; replace HB := kH _ hb; (try clear hb); (try clear hb2); (try clear hk); (try clear hi)) | ((with_reducible refine gate_dst (N := 8) rfl ?_); refine bE 8 #[.int .i64 0, .int .i64 0] 49 ?_; intro gb360 hg w27 hbox hb; replace HO_4 := kO HO_4 hb; have BK360 := ak (hbox); have GW360 := kG w hg; have GE360 := kG w hg; replace HB := kH _ hb; have NB352_360 := kL BK352 hg; have NB360_352 := kR BK352 hg; replace BK352 := kB BK352 hb; clear hb hbox hg; have hnb28 := NB360_352.out; have hnc28 := NB352_360.out; have hcz29_0 : w27.cell? ⟨gb360, 0, none⟩ = some (.int .i64 0) := bc BK360 0; have hcz29_1 : w27.cell? ⟨gb360, 1, none⟩ = some (.int .i64 0) := bc BK360 1; have hfz29_0 := fz BK360 0; have hfz29_1 := fz BK360 1))
   have n0_ : Aside0 (Kd.R k26 26 ((w27.setCell ⟨gb360, 0, none⟩ (.int .i64 t358)).setCell ⟨gb360, 1, none⟩ (.int .i64 t359)) w.heap.size (fun _ => True) u4 x4_1) := ⟨rD (Kd.R_mono (Kd.R_far (p := ⟨gb360, 1, none⟩) (Kd.R_far (p := ⟨gb360, 0, none⟩) (Kd.R_types HO_4.out BK360.out (by decide)) (fun _ hk => hk.2) (.int .i64 t358)) (fun _ hk => hk.2) (.int .i64 t359)) (fun _ hk => trivial))⟩
   have n1_ : Aside0 (((w27.setCell ⟨gb360, 0, none⟩ (.int .i64 t358)).setCell ⟨gb360, 1, none⟩ (.int .i64 t359)).heap[gb352]? = some (.cells #[.int .i64 a0_0, .slice A0_1 l0_1.length c0_1, .slice A0_2 l0_2.length c0_2] 31 (0, 0))) := ⟨bF BK352⟩
   have n2_ : Aside0 (((w27.setCell ⟨gb360, 0, none⟩ (.int .i64 t358)).setCell ⟨gb360, 1, none⟩ (.int .i64 t359)).heap[gb360]? = some (.cells #[.int .i64 t358, .int .i64 t359] 49 (0, 0))) := ⟨by (with_reducible repeat (first | refine blk_drewN ?_ _ | refine blk_drew ?_ | refine blk_alloc ?_ _)); refine blk_put (cs := #[.int .i64 t358, .int .i64 0]) ?_ 1 _ rfl; (with_reducible repeat (first | refine blk_drewN ?_ _ | refine blk_drew ?_ | refine blk_alloc ?_ _)); refine blk_put (cs := #[.int .i64 0, .int .i64 0]) ?_ 0 _ rfl; (with_reducible repeat (first | refine blk_drewN ?_ _ | refine blk_drew ?_ | refine blk_alloc ?_ _)); exact BK360.out⟩
   have n3_ : Aside0 (Below w.heap.size w ((w27.setCell ⟨gb360, 0, none⟩ (.int .i64 t358)).setCell ⟨gb360, 1, none⟩ (.int .i64 t359))) := ⟨hbC _⟩
   (try clear HO_4)
   (try clear BK352)
   (try clear BK360)
   (try clear HB)
   generalize ((w27.setCell ⟨gb360, 0, none⟩ (.int .i64 t358)).setCell ⟨gb360, 1, none⟩ (.int .i64 t359)) = w30 at n0_ n1_ n2_ n3_ ⊢
   have HO_4 := n0_
   have BK352 := n1_
   have BK360 := n2_
   have HB := n3_
   clear n0_ n1_ n2_ n3_
   replace HO_4 := ak (Kd.R_drew HO_4.out)
   replace BK352 := kd BK352
   replace BK360 := kd BK360
   replace HB := ak (below_drew1 HB.out)
   have p361 : 0 ≤ ((ji14) : Int) := dA
   have q361 : (ji14) < (l0_1.length : Int) := dA
   obtain ⟨ad361, e361, hx361_0⟩ := Kd.at_int HR0_1.out (ji14) p361 q361
   have hw361_0 := hx361_0
   cases e361
   try replace hx361_0 := (HB.out.cell (World.block_lt_of_cell? w _ hx361_0)).trans hx361_0
   replace p361 := eq_true p361
   replace q361 := eq_true q361
   have p362 : 0 ≤ ((ji17) : Int) := dA
   have q362 : (ji17) < (l0_1.length : Int) := dA
   obtain ⟨ad362, e362, hx362_0⟩ := Kd.at_int HR0_1.out (ji17) p362 q362
   have hw362_0 := hx362_0
   obtain rfl : ad361 = ad362 := (by injection e362)
   try replace hx362_0 := (HB.out.cell (World.block_lt_of_cell? w _ hx362_0)).trans hx362_0
   replace p362 := eq_true p362
   replace q362 := eq_true q362
   refine sS (n := 16) (S := fun w' => w'.cell? ⟨gb352, 0, none⟩ = some (.int .i64 a0_0) ∧ w'.cell? ⟨gb352, 1, none⟩ = some (.slice (some ad361) l0_1.length c0_1) ∧ w'.cell? ⟨gb352, 2, none⟩ = some (.slice A0_2 l0_2.length c0_2) ∧ w'.cell? (ad361.add ((ji14)).toNat) = some (.int .i64 (rd l0_1 (ji14))) ∧ w'.cell? (ad361.add ((ji17)).toNat) = some (.int .i64 (rd l0_1 (ji17)))) (ds := []) ⟨bc BK352 0, bc BK352 1, bc BK352 2, ((HB.out.cell (World.block_lt_of_cell? w _ hw361_0)).trans hw361_0), ((HB.out.cell (World.block_lt_of_cell? w _ hw362_0)).trans hw362_0)⟩ (fun hHeld => ?_); refine with_tabW curves_Slope.tab10 curves_Slope.bits10 (fun HT_ HW_ => ?_)
   generalize w30.drew = w31 at HO_4 BK352 BK360 HB hx361_0 hx362_0 hHeld ⊢
   refine pS 0 27 16 1 ?_
   refine pS 2 29 16 5 ?_
   refine pS 3 30 16 13 ?_
   refine pS 4 31 16 29 ?_
   refine pS 5 32 16 61 ?_
   refine pS 8 35 16 317 ?_
   refine pS 10 37 16 1341 ?_
   refine pS 11 38 16 3389 ?_
   refine tS 1 28 16 3391 ?_
   refine pS 6 33 16 3455 ?_
   refine tS 7 34 16 3583 ?_
   refine tS 9 36 16 4095 ?_
   refine pS 12 39 16 8191 ?_
   refine tS 13 40 16 16383 ?_
   refine pS 14 41 16 32767 ?_
   refine pS 15 9 16 65535 ?_
   refine done_ (done_of HT_.out (by kernel_rfl)) ?_
   try go_wp2
   replace HO_4 := ak (Kd.R_drew HO_4.out)
   replace BK352 := kd BK352
   replace BK360 := kd BK360
   replace HB := ak (below_drew1 HB.out)
   have p363 : 0 ≤ ((ji17) : Int) := dA
   have q363 : (ji17) < (l0_2.length : Int) := dA
   obtain ⟨ad363, e363, hx363_0⟩ := Kd.at_int HR0_2.out (ji17) p363 q363
   have hw363_0 := hx363_0
   cases e363
   try replace hx363_0 := (HB.out.cell (World.block_lt_of_cell? w _ hx363_0)).trans hx363_0
   replace p363 := eq_true p363
   replace q363 := eq_true q363
   have p364 : 0 ≤ (x23_1 : Int) := dA
   have q364 : x23_1 < (l0_2.length : Int) := dA
   obtain ⟨ad364, e364, hx364_0⟩ := Kd.at_int HR0_2.out x23_1 p364 q364
   have hw364_0 := hx364_0
   obtain rfl : ad363 = ad364 := (by injection e364)
   try replace hx364_0 := (HB.out.cell (World.block_lt_of_cell? w _ hx364_0)).trans hx364_0
   replace p364 := eq_true p364
   replace q364 := eq_true q364
   refine sS (n := 17) (S := fun w' => w'.cell? ⟨gb352, 0, none⟩ = some (.int .i64 a0_0) ∧ w'.cell? ⟨gb352, 1, none⟩ = some (.slice (some ad361) l0_1.length c0_1) ∧ w'.cell? ⟨gb352, 2, none⟩ = some (.slice (some ad363) l0_2.length c0_2) ∧ w'.cell? (ad363.add ((ji17)).toNat) = some (.int .i64 (rd l0_2 (ji17))) ∧ w'.cell? (ad363.add (x23_1).toNat) = some (.int .i64 (rd l0_2 x23_1))) (ds := []) ⟨bc BK352 0, bc BK352 1, bc BK352 2, ((HB.out.cell (World.block_lt_of_cell? w _ hw363_0)).trans hw363_0), ((HB.out.cell (World.block_lt_of_cell? w _ hw364_0)).trans hw364_0)⟩ (fun hHeld => ?_); refine with_tabW curves_Slope.tab12 curves_Slope.bits12 (fun HT_ HW_ => ?_)
   generalize w31.drew = w32 at HO_4 BK352 BK360 HB hx363_0 hx364_0 hHeld ⊢
   refine pS 0 44 17 1 ?_
   refine pS 1 45 17 3 ?_
   refine pS 3 47 17 11 ?_
   refine pS 4 48 17 27 ?_
   refine pS 7 51 17 155 ?_
   refine pS 9 53 17 667 ?_
   refine pS 14 58 17 17051 ?_
   refine tS 2 46 17 17055 ?_
   refine pS 5 49 17 17087 ?_
   refine tS 6 50 17 17151 ?_
   refine tS 8 52 17 17407 ?_
   refine pS 10 54 17 18431 ?_
   refine tS 11 55 17 20479 ?_
   refine pS 12 56 17 24575 ?_
   refine pS 13 57 17 32767 ?_
   refine one_ (i := 15) (N := some 59) (ba 17 65535) rfl rfl (one_of HT_.out (by kernel_rfl)) (by decide) (fun K hK => ?_)
   refine goes_ Tryd.func24 (by kernel_rfl) rfl #[.int .i64 (wrap64 (a0_0 * (wrap64 ((rd l0_2 (ji17)) - (rd l0_2 x23_1))))), .int .i64 (wrap64 ((rd l0_1 (ji14)) - (rd l0_1 (ji17))))] (by rfl) rfl rfl (by (try simp only [List.map_toArray, List.map_cons, List.map_nil]); first | done | (simp only [hji14, hji17]; rfl) | rfl | (simp only [List.length_drop, List.length_take]; rfl)) ?_
   with_reducible refine (curves_of.calls k1 (wrap64 (a0_0 * (wrap64 ((rd l0_2 (ji17)) - (rd l0_2 x23_1))))) (wrap64 ((rd l0_1 (ji14)) - (rd l0_1 (ji17)))) t365 t366 _ A24.out).mono ?_
   rintro e w33 ⟨rfl, hb⟩
   refine ⟨_, rfl, ?_⟩
   replace HO_4 := kO HO_4 hb
   replace BK352 := kB BK352 hb
   replace BK360 := kB BK360 hb
   replace HB := kH _ hb
   (try clear hb)
   (try clear hb2)
   (try clear hk)
   (try clear hi)
   refine hK.out _ _ ⟨bc BK352 0, bc BK352 1, bc BK352 2, ((HB.out.cell (World.block_lt_of_cell? w _ hw363_0)).trans hw363_0), ((HB.out.cell (World.block_lt_of_cell? w _ hw364_0)).trans hw364_0)⟩ (fun hHeld => ?_)
   clear hK K
   refine norm_ (a' := ?_) ?_ ?_
   rotate_left
   ·show Act.put _ (some 59) _ = _
    simp only [Act.put, List.setIfInBounds_toArray, List.set_cons_zero, List.set_cons_succ, i64_w, i32_w]
    rfl
   refine one_ (i := 16) (N := none) (ba 17 131071) rfl rfl (one_of HT_.out (by kernel_rfl)) (by decide) (fun K hK => ?_)
   have hs34 : w33.cell? ⟨gb360, 0, none⟩ = some (.int .i64 t358) := bc BK360 0
   have hfs34 := fz BK360 0
   have hns34_0 := NB352_360.out
   have hms34_0 := NB360_352.out
   have hs35 : w33.cell? ⟨gb360, 1, none⟩ = some (.int .i64 t359) := bc BK360 1
   have hfs35 := fz BK360 1
   have hns35_0 := NB352_360.out
   have hms35_0 := NB360_352.out
   refine skip_ (w1 := ?_) (by rfl) rfl ?_ ?_
   rotate_left
   ·go_simp
    rfl
   refine hK.out _ _ ⟨((cell_far (p := ⟨gb360, _, none⟩) NB352_360.out _).trans (((cell_far (p := ⟨gb360, _, none⟩) NB352_360.out _).trans (hHeld.1)))), ((cell_far (p := ⟨gb360, _, none⟩) NB352_360.out _).trans (((cell_far (p := ⟨gb360, _, none⟩) NB352_360.out _).trans (hHeld.2.1)))), ((cell_far (p := ⟨gb360, _, none⟩) NB352_360.out _).trans (((cell_far (p := ⟨gb360, _, none⟩) NB352_360.out _).trans (hHeld.2.2.1)))), ((cell_far (p := ⟨gb360, _, none⟩) (by first | exact Nat.ne_of_lt (Nat.lt_of_lt_of_le (by have := World.block_lt_of_cell? _ _ hw363_0; first | rwa [add_block] at this | exact this) GW360.out) | (rw [add_block]; exact Nat.ne_of_lt (Nat.lt_of_lt_of_le (by have := World.block_lt_of_cell? _ _ hw363_0; first | rwa [add_block] at this | exact this) GW360.out)) | (show (Addr.add _ _).block ≠ _; rw [add_block]; exact Nat.ne_of_lt (Nat.lt_of_lt_of_le (by have := World.block_lt_of_cell? _ _ hw363_0; first | rwa [add_block] at this | exact this) GW360.out)) | (dsimp only; exact Nat.ne_of_lt (Nat.lt_of_lt_of_le (by have := World.block_lt_of_cell? _ _ hw363_0; first | rwa [add_block] at this | exact this) GW360.out))) _).trans (((cell_far (p := ⟨gb360, _, none⟩) (by first | exact Nat.ne_of_lt (Nat.lt_of_lt_of_le (by have := World.block_lt_of_cell? _ _ hw363_0; first | rwa [add_block] at this | exact this) GW360.out) | (rw [add_block]; exact Nat.ne_of_lt (Nat.lt_of_lt_of_le (by have := World.block_lt_of_cell? _ _ hw363_0; first | rwa [add_block] at this | exact this) GW360.out)) | (show (Addr.add _ _).block ≠ _; rw [add_block]; exact Nat.ne_of_lt (Nat.lt_of_lt_of_le (by have := World.block_lt_of_cell? _ _ hw363_0; first | rwa [add_block] at this | exact this) GW360.out)) | (dsimp only; exact Nat.ne_of_lt (Nat.lt_of_lt_of_le (by have := World.block_lt_of_cell? _ _ hw363_0; first | rwa [add_block] at this | exact this) GW360.out))) _).trans (hHeld.2.2.2.1)))), ((cell_far (p := ⟨gb360, _, none⟩) (by first | exact Nat.ne_of_lt (Nat.lt_of_lt_of_le (by have := World.block_lt_of_cell? _ _ hw364_0; first | rwa [add_block] at this | exact this) GW360.out) | (rw [add_block]; exact Nat.ne_of_lt (Nat.lt_of_lt_of_le (by have := World.block_lt_of_cell? _ _ hw364_0; first | rwa [add_block] at this | exact this) GW360.out)) | (show (Addr.add _ _).block ≠ _; rw [add_block]; exact Nat.ne_of_lt (Nat.lt_of_lt_of_le (by have := World.block_lt_of_cell? _ _ hw364_0; first | rwa [add_block] at this | exact this) GW360.out)) | (dsimp only; exact Nat.ne_of_lt (Nat.lt_of_lt_of_le (by have := World.block_lt_of_cell? _ _ hw364_0; first | rwa [add_block] at this | exact this) GW360.out))) _).trans (((cell_far (p := ⟨gb360, _, none⟩) (by first | exact Nat.ne_of_lt (Nat.lt_of_lt_of_le (by have := World.block_lt_of_cell? _ _ hw364_0; first | rwa [add_block] at this | exact this) GW360.out) | (rw [add_block]; exact Nat.ne_of_lt (Nat.lt_of_lt_of_le (by have := World.block_lt_of_cell? _ _ hw364_0; first | rwa [add_block] at this | exact this) GW360.out)) | (show (Addr.add _ _).block ≠ _; rw [add_block]; exact Nat.ne_of_lt (Nat.lt_of_lt_of_le (by have := World.block_lt_of_cell? _ _ hw364_0; first | rwa [add_block] at this | exact this) GW360.out)) | (dsimp only; exact Nat.ne_of_lt (Nat.lt_of_lt_of_le (by have := World.block_lt_of_cell? _ _ hw364_0; first | rwa [add_block] at this | exact this) GW360.out))) _).trans (hHeld.2.2.2.2))))⟩ (fun hHeld => ?_)
   clear hK K
   refine done_ (done_of HT_.out (by kernel_rfl)) ?_
   have hcz36_0 : w33.cell? ⟨gb360, 0, none⟩ = some (.int .i64 t358) := bc BK360 0
   have hcz36_1 : w33.cell? ⟨gb360, 1, none⟩ = some (.int .i64 t359) := bc BK360 1
   have hfz36_0 := fz BK360 0
   have hfz36_1 := fz BK360 1
   try go_wp2_with (first | ((with_reducible refine gate_builtin (b := .append) (xs := #[.tmp 60, .tmp 63]) rfl ?_); at_builtin; refine Kd.R_append k26 (w0 := w) w.heap.size rfl (.tmp 60) (.tmp 63) 27 26 (.agg #[(.int .i64 0), (.int .i64 0)]) 16 rfl Tryd.underlying27 info26 rfl (by decide) (by omega) u4 x4_1 (⟨t365, t366⟩ : S26) [.int .i64 t365, .int .i64 t366] (fun _ => True) (fun _ => False) rfl (by first | (go_simp; done) | (go_simp; rfl)) ?aP (fun _ hk => hk.elim) ?aF ?aO ?aB ?aS ?aL ?_; (case aP => exact k26_mkM _ _ _ (⟨t365, t366⟩ : S26)); (case aB => exact (hbC _)); (case aF => exact (fun _ _ => trivial)); (case aO => exact (rD (Kd.R_mono (Kd.R_far (p := ⟨gb360, 1, none⟩) (Kd.R_far (p := ⟨gb360, 0, none⟩) (Kd.R_types HO_4.out BK360.out (by decide)) (fun _ hk => hk.2) (.int .i64 t365)) (fun _ hk => hk.2) (.int .i64 t366)) (fun _ hk => trivial)))); (case aS => exact (below_size (hbC _))); (case aL => have := LMc25.out; omega); intro v368 w37 ho hb hg hat; rw [← Ny367.out] at ho; have n0_ := ak (blk_grown (g := gb352) (o := .cells #[.int .i64 a0_0, .slice (some ad361) l0_1.length c0_1, .slice (some ad363) l0_2.length c0_2] 31 (0, 0)) (bF BK352) hg (Kd.R_ne HO_4.out BK352.out (by decide))); have n1_ := ak (blk_grown (g := gb360) (o := .cells #[.int .i64 t365, .int .i64 t366] 49 (0, 0)) (by (with_reducible repeat (first | refine blk_drewN ?_ _ | refine blk_drew ?_ | refine blk_alloc ?_ _)); refine blk_put (cs := #[.int .i64 t365, .int .i64 t359]) ?_ 1 _ rfl; (with_reducible repeat (first | refine blk_drewN ?_ _ | refine blk_drew ?_ | refine blk_alloc ?_ _)); refine blk_put (cs := #[.int .i64 t358, .int .i64 t359]) ?_ 0 _ rfl; (with_reducible repeat (first | refine blk_drewN ?_ _ | refine blk_drew ?_ | refine blk_alloc ?_ _)); exact BK360.out) hg (Kd.R_ne HO_4.out BK360.out (by decide))); have n2_ := ak (hb); have n3_ := ak (ho); clear BK352; clear BK360; clear HB; clear HO_4; have BK352 := n0_; have BK360 := n1_; have HB := n2_; have HO369 := n3_; clear n0_ n1_ n2_ n3_; clear ho hb hg hat))
   go_roundg k1
   case measure => have := HK1.out; omega
   case rel => exact ⟨(y367), (ji17), (by first | rfl | (simp; done) | (simp only [← hji17] <;> (first | rfl | simp)) | (simp [*]; done)), H', ⟨by have := HK1.out; omega⟩, ⟨rC HO369⟩, ⟨bkC BK352⟩, ⟨hbC _⟩⟩

end Go.Proofs.YtpnocmkpeogifaaDoor.X
