-- Written by a program of this work (wip/xprint.py, over the kit's printer) out of the translation.
import Derived.Test.YtpnocmkpeogifaaX0
import Derived.Test.YtpnocmkpeogifaaXG1a
import Derived.Test.YtpnocmkpeogifaaXG2a
import Derived.Test.YtpnocmkpeogifaaXf61
namespace Go.Proofs.Ytpnocmkpeogifaa.X
open Go.RowKit Go.Proofs.YtpnocmkpeogifaaW.PrintWords Go.Proofs.YtpnocmkpeogifaaW.PrintLast Go.Proofs.YtpnocmkpeogifaaW.PrintMore
attribute [local go_sem] max2_int min2_int max_two min_two max_three min_three max_four min_four   -- for this text's walks alone
set_option linter.unusedVariables false
set_option linter.unusedSimpArgs false

/-! ### curves_Slope: function 40 -/
def curves_Slope.l0 : Nat → List (S26) → Int → Int → Int → Int → List Int → List Int → Option (Int × List Int × (List (S26)) × Int)
 | 0, _, _, _, _, _, _, _ => none
 | k + 1, x4, x6, x22, x23, x871000, x871001, x871002 => if x23 < x22 then ((curves_of.f k 0 1).bind fun bt876 => (if 0 ≤ (wrap64 ((wrap64 (x23 + x6)) + 1)) then (if (wrap64 ((wrap64 (x23 + x6)) + 1)) < (x871001.length : Int) then (if 0 ≤ (wrap64 (x23 + 1)) then (if (wrap64 (x23 + 1)) < (x871001.length : Int) then (if (wrap64 ((rd x871001 (wrap64 ((wrap64 (x23 + x6)) + 1))) - (rd x871001 (wrap64 (x23 + 1))))) > 0 then (if (wrap64 (x23 + 1)) < (x871002.length : Int) then (if 0 ≤ x23 then (if x23 < (x871002.length : Int) then ((curves_of.f k (wrap64 (x6 * (wrap64 ((rd x871002 (wrap64 (x23 + 1))) - (rd x871002 x23))))) (wrap64 ((rd x871001 (wrap64 ((wrap64 (x23 + x6)) + 1))) - (rd x871001 (wrap64 (x23 + 1)))))).bind fun bt883 => (if x4.length < 8796093022208 then (curves_Slope.l0 k (x4 ++ [(⟨bt883.1, bt883.2⟩ : S26)]) x6 x22 (wrap64 (x23 + 1)) x871000 x871001 x871002) else (none))) else (none)) else (none)) else (none)) else (if x4.length < 8796093022208 then (curves_Slope.l0 k (x4 ++ [(⟨bt876.1, bt876.2⟩ : S26)]) x6 x22 (wrap64 (x23 + 1)) x871000 x871001 x871002) else (none))) else (none)) else (none)) else (none)) else (none))) else (if 1 ≤ (wrap64 ((x871001.length : Int) - 1)) then (if (wrap64 ((x871001.length : Int) - 1)) ≤ (x871001.length : Int) then ((slices_Clone_int_int.f ((x871001.take ((wrap64 ((x871001.length : Int) - 1)) : Int).toNat).drop 1)).bind fun t873 => (some (wrap64 (x6 - 1), t873, x4, 0))) else (none)) else (none))
def curves_Slope.f (k : Nat) (a0_0 : Int) (l0_1 : List Int) (l0_2 : List Int) : Option (Int × List Int × (List (S26)) × Int) := (curves_Curve_valid.f k a0_0 l0_1 l0_2).bind fun t871 => (if t871 = true then (if a0_0 = 0 then (some (0, ([] : List Int), ([] : List (S26)), 4)) else (curves_Slope.l0 k ([] : List (S26)) a0_0 (wrap64 ((l0_2.length : Int) - 1)) 0 a0_0 l0_1 l0_2)) else (some (0, ([] : List Int), ([] : List (S26)), 2)))
theorem curves_Slope.mono_l : ∀ k, (∀ y0 y1 y2 y3 y4 y5 y6, LeO (curves_Slope.l0 k y0 y1 y2 y3 y4 y5 y6) (curves_Slope.l0 (k + 1) y0 y1 y2 y3 y4 y5 y6))
 | 0 => fun _ _ _ _ _ _ _ r h => by simp [curves_Slope.l0] at h
 | k + 1 => by
  have ih0 := curves_Slope.mono_l k
  ·intro y0 y1 y2 y3 y4 y5 y6
   unfold curves_Slope.l0
   repeat' first
   | (with_reducible exact ih0 _ _ _ _ _ _ _)
   | (with_reducible exact curves_Curve_valid.mono _ _ _ _)
   | (with_reducible exact curves_of.mono _ _ _)
   | (with_reducible exact LeO.refl _)
   | (with_reducible exact LeO.none _)
   | (with_reducible refine LeO.ite ?_ ?_)
   | (with_reducible refine LeO.bind ?_ (fun _ => ?_))
   | exact ih0 _ _ _ _ _ _ _
   | exact curves_Curve_valid.mono _ _ _ _
   | exact curves_of.mono _ _ _
   | exact LeO.none _
   | refine LeO.ite ?_ ?_
   | refine LeO.bind ?_ (fun _ => ?_)
theorem curves_Slope.mono : ∀ a0 a1 a2 k, LeO (curves_Slope.f k a0 a1 a2) (curves_Slope.f (k + 1) a0 a1 a2) := by
 intro a0 a1 a2 k
 have ih0 := curves_Slope.mono_l k
 unfold curves_Slope.f
 repeat' first
   | (with_reducible exact ih0 _ _ _ _ _ _ _)
   | (with_reducible exact curves_Curve_valid.mono _ _ _ _)
   | (with_reducible exact curves_of.mono _ _ _)
   | (with_reducible exact LeO.refl _)
   | (with_reducible exact LeO.none _)
   | (with_reducible refine LeO.ite ?_ ?_)
   | (with_reducible refine LeO.bind ?_ (fun _ => ?_))
   | exact ih0 _ _ _ _ _ _ _
   | exact curves_Curve_valid.mono _ _ _ _
   | exact curves_of.mono _ _ _
   | exact LeO.none _
   | refine LeO.ite ?_ ?_
   | refine LeO.bind ?_ (fun _ => ?_)
def curves_Slope.T10 : Bool × List (List Nat × List Nat) := (true, [([], []), ([0], [0]), ([], []), ([], []), ([2, 3], [2, 3]), ([4], [4]), ([1, 5], [1, 5]), ([6], [6]), ([], []), ([8], [8]), ([], []), ([10], [10]), ([9, 11], [9, 11]), ([12], [12]), ([7, 13], [7, 13]), ([14, 0, 1, 2, 3, 4, 5, 6, 7, 8, 9, 10, 11, 12, 13, 14], [14])])
def curves_Slope.B10 : List Nat := [0, 1, 0, 0, 12, 28, 63, 127, 0, 256, 0, 1024, 3840, 7936, 16383, 32767]
theorem curves_Slope.tab10 : rtab .any (opsOf Try.f40 10) = curves_Slope.T10 := by kernel_rfl
theorem curves_Slope.bits10 : waitsOk curves_Slope.T10.2 curves_Slope.B10 = true := by kernel_rfl
def curves_Slope.T12 : Bool × List (List Nat × List Nat) := (true, [([], []), ([], []), ([1], [1]), ([], []), ([3], [3]), ([2, 4], [2, 4]), ([5], [5]), ([], []), ([7], [7]), ([], []), ([8, 9], [8, 9]), ([10], [10]), ([6, 11], [6, 11]), ([0, 12], [0, 12]), ([], []), ([13, 14], [13, 14]), ([15, 15, 0, 1, 2, 3, 4, 5, 6, 7, 8, 9, 10, 11, 12, 13, 14, 15], [15])])
def curves_Slope.B12 : List Nat := [0, 0, 2, 0, 8, 30, 62, 0, 128, 0, 896, 1920, 4094, 8191, 0, 32767, 65535]
theorem curves_Slope.tab12 : rtab .any (opsOf Try.f40 12) = curves_Slope.T12 := by kernel_rfl
theorem curves_Slope.bits12 : waitsOk curves_Slope.T12.2 curves_Slope.B12 = true := by kernel_rfl
set_option maxHeartbeats 8000000 in
set_option maxRecDepth 100000 in
theorem curves_Slope.calls (k : Nat) (a0_0 : Int) (A0_1 : Option Addr) (c0_1 : Nat) (l0_1 : List Int) (A0_2 : Option Addr) (c0_2 : Nat) (l0_2 : List Int) (r1 : Int) (r2 : List Int) (r3 : List (S26)) (r4 : Int) (w : World) (hr0_1 : Kd.C (Kd.int .i64) w A0_1 l0_1.length l0_1) (hc0_1 : l0_1.length ≤ c0_1) (hr0_2 : Kd.C (Kd.int .i64) w A0_2 l0_2.length l0_2) (hc0_2 : l0_2.length ≤ c0_2) (h : curves_Slope.f k a0_0 l0_1 l0_2 = some (r1, r2, r3, r4)) :
  Calls Try.prog 40 #[.agg #[.int .i64 a0_0, .slice A0_1 l0_1.length c0_1, .slice A0_2 l0_2.length c0_2]] w fun e w' => ∃ v1_ v2_ : Value, e = .returned (.tuple #[.int .i64 r1, v1_, v2_, .int .i64 r4]) ∧ Kd.R (Kd.int .i64) 3 w' w.heap.size (fun _ => True) v1_ r2 ∧ Kd.R k26 26 w' w.heap.size (fun _ => True) v2_ r3 ∧ Below w.heap.size w w' := by
 have hu30 := Try.underlying30
 have hu76 := Try.underlying76
 have hu26 := Try.underlying26
 have HR0_1 := Aside0.mk hr0_1
 have HC0_1 := Aside0.mk hc0_1
 clear hr0_1 hc0_1
 have HR0_2 := Aside0.mk hr0_2
 have HC0_2 := Aside0.mk hc0_2
 clear hr0_2 hc0_2
 have HB := Aside0.mk (Below.refl w.heap.size w)
 have H : ((curves_Curve_valid.f k a0_0 l0_1 l0_2).bind fun t871 => (if t871 = true then (if a0_0 = 0 then (some (0, ([] : List Int), ([] : List (S26)), 4)) else (curves_Slope.l0 k ([] : List (S26)) a0_0 (wrap64 ((l0_2.length : Int) - 1)) 0 a0_0 l0_1 l0_2)) else (some (0, ([] : List Int), ([] : List (S26)), 2)))) = some (r1, r2, r3, r4) := h
 clear h
 replace H := Option.bind_eq_some_iff.mp H
 obtain ⟨t871, A20, H⟩ := H
 replace H : (if t871 = true then (if a0_0 = 0 then (some (0, ([] : List Int), ([] : List (S26)), 4)) else (curves_Slope.l0 k ([] : List (S26)) a0_0 (wrap64 ((l0_2.length : Int) - 1)) 0 a0_0 l0_1 l0_2)) else (some (0, ([] : List Int), ([] : List (S26)), 2))) = some (r1, r2, r3, r4) := H
 have A2 := Aside0.mk A20
 clear A20
 by_cases c3 : t871 = true
 ·subst c3
  have H1 : (if a0_0 = 0 then (some (0, ([] : List Int), ([] : List (S26)), 4)) else (curves_Slope.l0 k ([] : List (S26)) a0_0 (wrap64 ((l0_2.length : Int) - 1)) 0 a0_0 l0_1 l0_2)) = some (r1, r2, r3, r4) := by rw [if_pos rfl] at H; exact H
  clear H
  have H := H1
  clear H1
  by_cases c4 : a0_0 = 0
  ·rw [if_pos c4] at H
   have c4b0 : (a0_0 == 0) = true := beq_iff_eq.mpr c4
   have c4b1 : (a0_0 != 0) = false := bne_eq_false_iff_eq.mpr c4
   clear c4
   simp only [Option.some.injEq, Prod.mk.injEq] at H
   obtain ⟨rfl, rfl, rfl, rfl⟩ := H
   go_enter Try.func40, Try.ntmps40
   go_wp2_with (first | ((with_reducible refine gate_dst (N := 1) rfl ?_); refine bE 1 #[.int .i64 a0_0, .slice A0_1 l0_1.length c0_1, .slice A0_2 l0_2.length c0_2] 30 ?_; intro gb870 hg w5 hbox hb; have BK870 := Aside0.mk (hbox); have GW870 := kG w hg; have GE870 := kG w hg; replace HB := kH _ hb; clear hb hbox hg; have hcz6_0 : w5.cell? ⟨gb870, 0, none⟩ = some (.int .i64 a0_0) := bc BK870 0; have hcz6_1 : w5.cell? ⟨gb870, 1, none⟩ = some (.slice A0_1 l0_1.length c0_1) := bc BK870 1; have hcz6_2 : w5.cell? ⟨gb870, 2, none⟩ = some (.slice A0_2 l0_2.length c0_2) := bc BK870 2; have hfz6_0 := fz BK870 0; have hfz6_1 := fz BK870 1; have hfz6_2 := fz BK870 2) | ((with_reducible refine gate_callee (f := 61) rfl ?_); refine gL 14 Try.func61 #[.agg #[.int .i64 a0_0, .slice A0_1 l0_1.length c0_1, .slice A0_2 l0_2.length c0_2]] ?_; (with_reducible refine (curves_Curve_valid.calls k a0_0 _ _ l0_1 _ _ l0_2 true _ ?side1 ?side2 ?side3 ?side4 A2.out).mono ?_); (case side1 => exact kC HR0_1); (case side2 => exact HC0_1.out); (case side3 => exact kC HR0_2); (case side4 => exact HC0_2.out); rintro e w7 ⟨rfl, hb⟩; refine ⟨_, rfl, ?_⟩; replace BK870 := kB BK870 hb; replace HB := kH _ hb; (try clear hb); (try clear hb2); (try clear hk); (try clear hi)))
   refine bodyPost_ret (results_list (rs := [.tmp 2, .tmp 3, .tmp 4, .tmp 5]) rfl (by simp) (.tmp (.tmp (.tmp (.tmp .nil))))) rfl ?_
   exact ⟨_, _, by first | rfl | (simp [errW_none, errW_some] <;> rfl) | (simp [*, errW_none, errW_some] <;> rfl), by first | exact Kd.R_nil _ _ _ _ _ | exact Kd.N_nil _ _ _ _ _ | exact Kd.V_nil _ _ _ _ _ | exact Kd.Q_nil _ _ _ _ _ | exact Kd.S_nil _ _ _ _ _, by first | exact Kd.R_nil _ _ _ _ _ | exact Kd.N_nil _ _ _ _ _ | exact Kd.V_nil _ _ _ _ _ | exact Kd.Q_nil _ _ _ _ _ | exact Kd.S_nil _ _ _ _ _, hbC _⟩
  ·rw [if_neg c4] at H
   have c4b0 : (a0_0 == 0) = false := beq_eq_false_iff_ne.mpr c4
   have c4b1 : (a0_0 != 0) = true := bne_iff_ne.mpr c4
   have H' := Aside0.mk H
   clear H
   go_enter Try.func40, Try.ntmps40
   go_wp2_with (first | ((with_reducible refine gate_dst (N := 1) rfl ?_); refine bE 1 #[.int .i64 a0_0, .slice A0_1 l0_1.length c0_1, .slice A0_2 l0_2.length c0_2] 30 ?_; intro gb870 hg w8 hbox hb; have BK870 := Aside0.mk (hbox); have GW870 := kG w hg; have GE870 := kG w hg; replace HB := kH _ hb; clear hb hbox hg; have hcz9_0 : w8.cell? ⟨gb870, 0, none⟩ = some (.int .i64 a0_0) := bc BK870 0; have hcz9_1 : w8.cell? ⟨gb870, 1, none⟩ = some (.slice A0_1 l0_1.length c0_1) := bc BK870 1; have hcz9_2 : w8.cell? ⟨gb870, 2, none⟩ = some (.slice A0_2 l0_2.length c0_2) := bc BK870 2; have hfz9_0 := fz BK870 0; have hfz9_1 := fz BK870 1; have hfz9_2 := fz BK870 2) | ((with_reducible refine gate_callee (f := 61) rfl ?_); refine gL 14 Try.func61 #[.agg #[.int .i64 a0_0, .slice A0_1 l0_1.length c0_1, .slice A0_2 l0_2.length c0_2]] ?_; (with_reducible refine (curves_Curve_valid.calls k a0_0 _ _ l0_1 _ _ l0_2 true _ ?side1 ?side2 ?side3 ?side4 A2.out).mono ?_); (case side1 => exact kC HR0_1); (case side2 => exact HC0_1.out); (case side3 => exact kC HR0_2); (case side4 => exact HC0_2.out); rintro e w10 ⟨rfl, hb⟩; refine ⟨_, rfl, ?_⟩; replace BK870 := kB BK870 hb; replace HB := kH _ hb; (try clear hb); (try clear hb2); (try clear hk); (try clear hi); have hcz11_0 : w10.cell? ⟨gb870, 0, none⟩ = some (.int .i64 a0_0) := bc BK870 0; have hcz11_1 : w10.cell? ⟨gb870, 1, none⟩ = some (.slice A0_1 l0_1.length c0_1) := bc BK870 1; have hcz11_2 : w10.cell? ⟨gb870, 2, none⟩ = some (.slice A0_2 l0_2.length c0_2) := bc BK870 2; have hfz11_0 := fz BK870 0; have hfz11_1 := fz BK870 1; have hfz11_2 := fz BK870 2))
   go_loopg [4, 23] k (fun kq v4 v23 w' => ∃ (x4_1 : List (S26)) (x23_1 : Int), v23 = .int .i64 x23_1 ∧ Aside0 (curves_Slope.l0 kq x4_1 a0_0 (wrap64 ((l0_2.length : Int) - 1)) x23_1 a0_0 l0_1 l0_2 = some (r1, r2, r3, r4)) ∧ Aside0 (kq ≤ k) ∧ Aside0 (Kd.R k26 26 w' w.heap.size (fun _ => True) v4 x4_1) ∧ Aside0 (w'.heap[gb870]? = some (.cells #[.int .i64 a0_0, (.slice A0_1 l0_1.length c0_1), (.slice A0_2 l0_2.length c0_2)] 30 (0, 0))) ∧ Aside0 (Below w.heap.size w w'))
   case atStart => exact ⟨(([] : List (S26))), (0), (by first | rfl | (simp; done) | (simp [*]; done)), H', ⟨Nat.le_refl _⟩, ⟨by first | exact Kd.R_nil _ _ _ _ _ | exact Kd.N_nil _ _ _ _ _ | exact Kd.V_nil _ _ _ _ _ | exact Kd.Q_nil _ _ _ _ _ | exact Kd.S_nil _ _ _ _ _⟩, ⟨bkC BK870⟩, ⟨hbC _⟩⟩
   case round =>
    clear H'
    try clear p2
    try clear c3
    try clear c4
    try clear c4b0
    try clear c4b1
    try clear c6
    try clear p6
    try clear hcz11_0
    try clear hcz11_1
    try clear hcz11_2
    try clear hcz6_0
    try clear hcz6_1
    try clear hcz6_2
    try clear hcz9_0
    try clear hcz9_1
    try clear hcz9_2
    try clear hfz11_0
    try clear hfz11_1
    try clear hfz11_2
    try clear hfz6_0
    try clear hfz6_1
    try clear hfz6_2
    try clear hfz9_0
    try clear hfz9_1
    try clear hfz9_2
    obtain ⟨x4_1, x23_1, rfl, HA, HK1, HO_4, BK870, HB⟩ := hrel
    cases gk with
    | zero => exact absurd HA.out (by simp [curves_Slope.l0])
    | succ k1 =>
     have H := HA.out
     clear HA
     simp only [curves_Slope.l0] at H
     by_cases c12 : x23_1 < (wrap64 ((l0_2.length : Int) - 1))
     ·rw [if_pos c12] at H
      have c12b0 : decide (x23_1 < (wrap64 ((l0_2.length : Int) - 1))) = true := decide_eq_true c12
      clear c12
      replace H := Option.bind_eq_some_iff.mp H
      obtain ⟨⟨t876, t877⟩, A130, H⟩ := H
      replace H : (if 0 ≤ (wrap64 ((wrap64 (x23_1 + a0_0)) + 1)) then (if (wrap64 ((wrap64 (x23_1 + a0_0)) + 1)) < (l0_1.length : Int) then (if 0 ≤ (wrap64 (x23_1 + 1)) then (if (wrap64 (x23_1 + 1)) < (l0_1.length : Int) then (if (wrap64 ((rd l0_1 (wrap64 ((wrap64 (x23_1 + a0_0)) + 1))) - (rd l0_1 (wrap64 (x23_1 + 1))))) > 0 then (if (wrap64 (x23_1 + 1)) < (l0_2.length : Int) then (if 0 ≤ x23_1 then (if x23_1 < (l0_2.length : Int) then ((curves_of.f k1 (wrap64 (a0_0 * (wrap64 ((rd l0_2 (wrap64 (x23_1 + 1))) - (rd l0_2 x23_1))))) (wrap64 ((rd l0_1 (wrap64 ((wrap64 (x23_1 + a0_0)) + 1))) - (rd l0_1 (wrap64 (x23_1 + 1)))))).bind fun bt883 => (if x4_1.length < 8796093022208 then (curves_Slope.l0 k1 (x4_1 ++ [(⟨bt883.1, bt883.2⟩ : S26)]) a0_0 (wrap64 ((l0_2.length : Int) - 1)) (wrap64 (x23_1 + 1)) a0_0 l0_1 l0_2) else (none))) else (none)) else (none)) else (none)) else (if x4_1.length < 8796093022208 then (curves_Slope.l0 k1 (x4_1 ++ [(⟨t876, t877⟩ : S26)]) a0_0 (wrap64 ((l0_2.length : Int) - 1)) (wrap64 (x23_1 + 1)) a0_0 l0_1 l0_2) else (none))) else (none)) else (none)) else (none)) else (none)) = some (r1, r2, r3, r4) := H
      have A13 := Aside0.mk A130
      clear A130
      obtain ⟨ji14, hji14⟩ : ∃ j_ : Int, (wrap64 ((wrap64 (x23_1 + a0_0)) + 1)) = j_ := ⟨_, rfl⟩
      replace H : (if 0 ≤ (ji14) then (if (ji14) < (l0_1.length : Int) then (if 0 ≤ (wrap64 (x23_1 + 1)) then (if (wrap64 (x23_1 + 1)) < (l0_1.length : Int) then (if (wrap64 ((rd l0_1 (ji14)) - (rd l0_1 (wrap64 (x23_1 + 1))))) > 0 then (if (wrap64 (x23_1 + 1)) < (l0_2.length : Int) then (if 0 ≤ x23_1 then (if x23_1 < (l0_2.length : Int) then ((curves_of.f k1 (wrap64 (a0_0 * (wrap64 ((rd l0_2 (wrap64 (x23_1 + 1))) - (rd l0_2 x23_1))))) (wrap64 ((rd l0_1 (ji14)) - (rd l0_1 (wrap64 (x23_1 + 1)))))).bind fun bt883 => (if x4_1.length < 8796093022208 then (curves_Slope.l0 k1 (x4_1 ++ [(⟨bt883.1, bt883.2⟩ : S26)]) a0_0 (wrap64 ((l0_2.length : Int) - 1)) (wrap64 (x23_1 + 1)) a0_0 l0_1 l0_2) else (none))) else (none)) else (none)) else (none)) else (if x4_1.length < 8796093022208 then (curves_Slope.l0 k1 (x4_1 ++ [(⟨t876, t877⟩ : S26)]) a0_0 (wrap64 ((l0_2.length : Int) - 1)) (wrap64 (x23_1 + 1)) a0_0 l0_1 l0_2) else (none))) else (none)) else (none)) else (none)) else (none)) = some (r1, r2, r3, r4) := by first | (rw [hji14] at H; exact H) | (simp only [hji14] at H ⊢; exact H)
      (try rw [hji14] at A13)
      have hji14w : (IntKind.i64.wrap ((wrap64 (x23_1 + a0_0)) + 1)) = ji14 := (i64_w _).trans hji14
      by_cases c15 : 0 ≤ (ji14)
      ·rw [if_pos c15] at H
       have c15b0 : decide (0 ≤ (ji14)) = true := decide_eq_true c15
       clear c15
       by_cases c16 : (ji14) < (l0_1.length : Int)
       ·rw [if_pos c16] at H
        have c16b0 : decide ((ji14) < (l0_1.length : Int)) = true := decide_eq_true c16
        clear c16
        obtain ⟨ji17, hji17⟩ : ∃ j_ : Int, (wrap64 (x23_1 + 1)) = j_ := ⟨_, rfl⟩
        replace H : (if 0 ≤ (ji17) then (if (ji17) < (l0_1.length : Int) then (if (wrap64 ((rd l0_1 (ji14)) - (rd l0_1 (ji17)))) > 0 then (if (ji17) < (l0_2.length : Int) then (if 0 ≤ x23_1 then (if x23_1 < (l0_2.length : Int) then ((curves_of.f k1 (wrap64 (a0_0 * (wrap64 ((rd l0_2 (ji17)) - (rd l0_2 x23_1))))) (wrap64 ((rd l0_1 (ji14)) - (rd l0_1 (ji17))))).bind fun bt883 => (if x4_1.length < 8796093022208 then (curves_Slope.l0 k1 (x4_1 ++ [(⟨bt883.1, bt883.2⟩ : S26)]) a0_0 (wrap64 ((l0_2.length : Int) - 1)) ji17 a0_0 l0_1 l0_2) else (none))) else (none)) else (none)) else (none)) else (if x4_1.length < 8796093022208 then (curves_Slope.l0 k1 (x4_1 ++ [(⟨t876, t877⟩ : S26)]) a0_0 (wrap64 ((l0_2.length : Int) - 1)) ji17 a0_0 l0_1 l0_2) else (none))) else (none)) else (none)) = some (r1, r2, r3, r4) := by first | (rw [hji17] at H; exact H) | (simp only [hji17] at H ⊢; exact H)
        (try rw [hji17] at A13)
        have hji17w : (IntKind.i64.wrap (x23_1 + 1)) = ji17 := (i64_w _).trans hji17
        by_cases c18 : 0 ≤ (ji17)
        ·rw [if_pos c18] at H
         have c18b0 : decide (0 ≤ (ji17)) = true := decide_eq_true c18
         clear c18
         by_cases c19 : (ji17) < (l0_1.length : Int)
         ·rw [if_pos c19] at H
          have c19b0 : decide ((ji17) < (l0_1.length : Int)) = true := decide_eq_true c19
          clear c19
          by_cases c20 : (wrap64 ((rd l0_1 (ji14)) - (rd l0_1 (ji17)))) > 0
          ·rw [if_pos c20] at H
           have c20b0 : decide (0 < (wrap64 ((rd l0_1 (ji14)) - (rd l0_1 (ji17))))) = true := decide_eq_true c20
           clear c20
           by_cases c21 : (ji17) < (l0_2.length : Int)
           ·rw [if_pos c21] at H
            have c21b0 : decide ((ji17) < (l0_2.length : Int)) = true := decide_eq_true c21
            clear c21
            by_cases c22 : 0 ≤ x23_1
            ·rw [if_pos c22] at H
             have c22b0 : decide (0 ≤ x23_1) = true := decide_eq_true c22
             clear c22
             by_cases c23 : x23_1 < (l0_2.length : Int)
             ·rw [if_pos c23] at H
              have c23b0 : decide (x23_1 < (l0_2.length : Int)) = true := decide_eq_true c23
              clear c23
              replace H := Option.bind_eq_some_iff.mp H
              obtain ⟨⟨t883, t884⟩, A240, H⟩ := H
              replace H : (if x4_1.length < 8796093022208 then (curves_Slope.l0 k1 (x4_1 ++ [(⟨t883, t884⟩ : S26)]) a0_0 (wrap64 ((l0_2.length : Int) - 1)) ji17 a0_0 l0_1 l0_2) else (none)) = some (r1, r2, r3, r4) := H
              have A24 := Aside0.mk A240
              clear A240
              by_cases c25 : x4_1.length < 8796093022208
              ·rw [if_pos c25] at H
               have LMc25 := Aside0.mk c25
               clear c25
               obtain ⟨y885, hy885⟩ : ∃ y_ : List (S26), y_ = (x4_1 ++ [(⟨t883, t884⟩ : S26)]) := ⟨_, rfl⟩
               replace H : (curves_Slope.l0 k1 y885 a0_0 (wrap64 ((l0_2.length : Int) - 1)) ji17 a0_0 l0_1 l0_2) = some (r1, r2, r3, r4) := by first | (rw [hy885]; with_reducible exact H) | (have H2_ := (Option.bind_some _ _).symm.trans H; rw [hy885]; with_reducible exact H2_) | (have H2_ := (Option.bind_some _ _).symm.trans H; with_reducible exact H2_) | with_reducible exact H | (rw [hy885]; exact H) | exact H
               have Ny885 := Aside0.mk hy885
               clear hy885
               have H' := Aside0.mk H
               clear H
               try go_wp2_with (first | ((with_reducible refine gate_callee (f := 48) rfl ?_); refine gL 26 Try.func48 #[.int .i64 0, .int .i64 1] ?_; (with_reducible refine (curves_of.calls k1 0 1 t876 t877 _ A13.out).mono ?_); rintro e w26 ⟨rfl, hb⟩; refine ⟨_, rfl, ?_⟩; replace HO_4 := kO HO_4 hb; replace BK870 := kB BK870 hb; replace HB := kH _ hb; (try clear hb); (try clear hb2); (try clear hk); (try clear hi)) | ((with_reducible refine gate_dst (N := 8) rfl ?_); refine bE 8 #[.int .i64 0, .int .i64 0] 76 ?_; intro gb878 hg w27 hbox hb; replace HO_4 := kO HO_4 hb; have BK878 := Aside0.mk (hbox); have GW878 := kG w hg; have GE878 := kG w hg; replace HB := kH _ hb; have NB870_878 := kL BK870 hg; have NB878_870 := kR BK870 hg; replace BK870 := kB BK870 hb; clear hb hbox hg; have hnb28 := NB878_870.out; have hnc28 := NB870_878.out; have hcz29_0 : w27.cell? ⟨gb878, 0, none⟩ = some (.int .i64 0) := bc BK878 0; have hcz29_1 : w27.cell? ⟨gb878, 1, none⟩ = some (.int .i64 0) := bc BK878 1; have hfz29_0 := fz BK878 0; have hfz29_1 := fz BK878 1))
               have n0_ : Aside0 (Kd.R k26 26 ((w27.setCell ⟨gb878, 0, none⟩ (.int .i64 t876)).setCell ⟨gb878, 1, none⟩ (.int .i64 t877)) w.heap.size (fun _ => True) u4 x4_1) := ⟨by (with_reducible repeat (first | apply Kd.R_alloc | apply Kd.R_drewN | apply Kd.R_drew)); exact Kd.R_mono (Kd.R_far (p := ⟨gb878, 1, none⟩) (Kd.R_far (p := ⟨gb878, 0, none⟩) (Kd.R_types HO_4.out BK878.out (by decide)) (fun _ hk => hk.2) (.int .i64 t876)) (fun _ hk => hk.2) (.int .i64 t877)) (fun _ hk => trivial)⟩
               have n1_ : Aside0 (((w27.setCell ⟨gb878, 0, none⟩ (.int .i64 t876)).setCell ⟨gb878, 1, none⟩ (.int .i64 t877)).heap[gb870]? = some (.cells #[.int .i64 a0_0, .slice A0_1 l0_1.length c0_1, .slice A0_2 l0_2.length c0_2] 30 (0, 0))) := ⟨bF BK870⟩
               have n2_ : Aside0 (((w27.setCell ⟨gb878, 0, none⟩ (.int .i64 t876)).setCell ⟨gb878, 1, none⟩ (.int .i64 t877)).heap[gb878]? = some (.cells #[.int .i64 t876, .int .i64 t877] 76 (0, 0))) := ⟨by (with_reducible repeat (first | refine blk_drewN ?_ _ | refine blk_drew ?_ | refine blk_alloc ?_ _)); refine blk_put (cs := #[.int .i64 t876, .int .i64 0]) ?_ 1 _ rfl; (with_reducible repeat (first | refine blk_drewN ?_ _ | refine blk_drew ?_ | refine blk_alloc ?_ _)); refine blk_put (cs := #[.int .i64 0, .int .i64 0]) ?_ 0 _ rfl; (with_reducible repeat (first | refine blk_drewN ?_ _ | refine blk_drew ?_ | refine blk_alloc ?_ _)); exact BK878.out⟩
               have n3_ : Aside0 (Below w.heap.size w ((w27.setCell ⟨gb878, 0, none⟩ (.int .i64 t876)).setCell ⟨gb878, 1, none⟩ (.int .i64 t877))) := ⟨hbC _⟩
               (try clear HO_4)
               (try clear BK870)
               (try clear BK878)
               (try clear HB)
               generalize ((w27.setCell ⟨gb878, 0, none⟩ (.int .i64 t876)).setCell ⟨gb878, 1, none⟩ (.int .i64 t877)) = w30 at n0_ n1_ n2_ n3_ ⊢
               have HO_4 := n0_
               have BK870 := n1_
               have BK878 := n2_
               have HB := n3_
               clear n0_ n1_ n2_ n3_
               replace HO_4 := Aside0.mk (Kd.R_drew HO_4.out)
               replace BK870 := kd BK870
               replace BK878 := kd BK878
               replace HB := Aside0.mk (below_drew1 HB.out)
               have p879 : 0 ≤ ((ji14) : Int) := dA
               have q879 : (ji14) < (l0_1.length : Int) := dA
               obtain ⟨ad879, e879, hx879_0⟩ := Kd.at_int HR0_1.out (ji14) p879 q879
               have hw879_0 := hx879_0
               cases e879
               try replace hx879_0 := (HB.out.cell (World.block_lt_of_cell? w _ hx879_0)).trans hx879_0
               replace p879 := eq_true p879
               replace q879 := eq_true q879
               have p880 : 0 ≤ ((ji17) : Int) := dA
               have q880 : (ji17) < (l0_1.length : Int) := dA
               obtain ⟨ad880, e880, hx880_0⟩ := Kd.at_int HR0_1.out (ji17) p880 q880
               have hw880_0 := hx880_0
               obtain rfl : ad879 = ad880 := (by injection e880)
               try replace hx880_0 := (HB.out.cell (World.block_lt_of_cell? w _ hx880_0)).trans hx880_0
               replace p880 := eq_true p880
               replace q880 := eq_true q880
               refine sS (n := 16) (S := fun w' => w'.cell? ⟨gb870, 0, none⟩ = some (.int .i64 a0_0) ∧ w'.cell? ⟨gb870, 1, none⟩ = some (.slice (some ad879) l0_1.length c0_1) ∧ w'.cell? ⟨gb870, 2, none⟩ = some (.slice A0_2 l0_2.length c0_2) ∧ w'.cell? (ad879.add ((ji14)).toNat) = some (.int .i64 (rd l0_1 (ji14))) ∧ w'.cell? (ad879.add ((ji17)).toNat) = some (.int .i64 (rd l0_1 (ji17)))) (ds := []) ⟨bc BK870 0, bc BK870 1, bc BK870 2, ((HB.out.cell (World.block_lt_of_cell? w _ hw879_0)).trans hw879_0), ((HB.out.cell (World.block_lt_of_cell? w _ hw880_0)).trans hw880_0)⟩ (fun hHeld => ?_); refine with_tabW curves_Slope.tab10 curves_Slope.bits10 (fun HT_ HW_ => ?_)
               generalize w30.drew = w31 at HO_4 BK870 BK878 HB hx879_0 hx880_0 hHeld ⊢
               refine pS 0 27 16 1 ?_
               refine pS 2 29 16 5 ?_
               refine pS 3 30 16 13 ?_
               refine pS 4 31 16 29 ?_
               refine pS 5 32 16 61 ?_
               refine pS 8 35 16 317 ?_
               refine pS 10 37 16 1341 ?_
               refine pS 11 38 16 3389 ?_
               refine tS 1 28 16 3391 ?_
               refine pS 6 33 16 3455 ?_
               refine tS 7 34 16 3583 ?_
               refine tS 9 36 16 4095 ?_
               refine pS 12 39 16 8191 ?_
               refine tS 13 40 16 16383 ?_
               refine pS 14 41 16 32767 ?_
               refine pS 15 9 16 65535 ?_
               refine done_ (done_of HT_.out (by kernel_rfl)) ?_
               try go_wp2
               replace HO_4 := Aside0.mk (Kd.R_drew HO_4.out)
               replace BK870 := kd BK870
               replace BK878 := kd BK878
               replace HB := Aside0.mk (below_drew1 HB.out)
               have p881 : 0 ≤ ((ji17) : Int) := dA
               have q881 : (ji17) < (l0_2.length : Int) := dA
               obtain ⟨ad881, e881, hx881_0⟩ := Kd.at_int HR0_2.out (ji17) p881 q881
               have hw881_0 := hx881_0
               cases e881
               try replace hx881_0 := (HB.out.cell (World.block_lt_of_cell? w _ hx881_0)).trans hx881_0
               replace p881 := eq_true p881
               replace q881 := eq_true q881
               have p882 : 0 ≤ (x23_1 : Int) := dA
               have q882 : x23_1 < (l0_2.length : Int) := dA
               obtain ⟨ad882, e882, hx882_0⟩ := Kd.at_int HR0_2.out x23_1 p882 q882
               have hw882_0 := hx882_0
               obtain rfl : ad881 = ad882 := (by injection e882)
               try replace hx882_0 := (HB.out.cell (World.block_lt_of_cell? w _ hx882_0)).trans hx882_0
               replace p882 := eq_true p882
               replace q882 := eq_true q882
               refine sS (n := 17) (S := fun w' => w'.cell? ⟨gb870, 0, none⟩ = some (.int .i64 a0_0) ∧ w'.cell? ⟨gb870, 1, none⟩ = some (.slice (some ad879) l0_1.length c0_1) ∧ w'.cell? ⟨gb870, 2, none⟩ = some (.slice (some ad881) l0_2.length c0_2) ∧ w'.cell? (ad881.add ((ji17)).toNat) = some (.int .i64 (rd l0_2 (ji17))) ∧ w'.cell? (ad881.add (x23_1).toNat) = some (.int .i64 (rd l0_2 x23_1))) (ds := []) ⟨bc BK870 0, bc BK870 1, bc BK870 2, ((HB.out.cell (World.block_lt_of_cell? w _ hw881_0)).trans hw881_0), ((HB.out.cell (World.block_lt_of_cell? w _ hw882_0)).trans hw882_0)⟩ (fun hHeld => ?_); refine with_tabW curves_Slope.tab12 curves_Slope.bits12 (fun HT_ HW_ => ?_)
               generalize w31.drew = w32 at HO_4 BK870 BK878 HB hx881_0 hx882_0 hHeld ⊢
               refine pS 0 44 17 1 ?_
               refine pS 1 45 17 3 ?_
               refine pS 3 47 17 11 ?_
               refine pS 4 48 17 27 ?_
               refine pS 7 51 17 155 ?_
               refine pS 9 53 17 667 ?_
               refine pS 14 58 17 17051 ?_
               refine tS 2 46 17 17055 ?_
               refine pS 5 49 17 17087 ?_
               refine tS 6 50 17 17151 ?_
               refine tS 8 52 17 17407 ?_
               refine pS 10 54 17 18431 ?_
               refine tS 11 55 17 20479 ?_
               refine pS 12 56 17 24575 ?_
               refine pS 13 57 17 32767 ?_
               refine one_ (i := 15) (N := some 59) (ba 17 65535) rfl rfl (one_of HT_.out (by kernel_rfl)) (by decide) (fun K hK => ?_)
               refine goes_ Try.func48 (by kernel_rfl) rfl #[.int .i64 (wrap64 (a0_0 * (wrap64 ((rd l0_2 (ji17)) - (rd l0_2 x23_1))))), .int .i64 (wrap64 ((rd l0_1 (ji14)) - (rd l0_1 (ji17))))] (by rfl) rfl rfl (by (try simp only [List.map_toArray, List.map_cons, List.map_nil]); first | done | (simp only [hji14, hji17]; rfl) | rfl | (simp only [List.length_drop, List.length_take]; rfl)) ?_
               with_reducible refine (curves_of.calls k1 (wrap64 (a0_0 * (wrap64 ((rd l0_2 (ji17)) - (rd l0_2 x23_1))))) (wrap64 ((rd l0_1 (ji14)) - (rd l0_1 (ji17)))) t883 t884 _ A24.out).mono ?_
               rintro e w33 ⟨rfl, hb⟩
               refine ⟨_, rfl, ?_⟩
               replace HO_4 := kO HO_4 hb
               replace BK870 := kB BK870 hb
               replace BK878 := kB BK878 hb
               replace HB := kH _ hb
               (try clear hb)
               (try clear hb2)
               (try clear hk)
               (try clear hi)
               refine hK.out _ _ ⟨bc BK870 0, bc BK870 1, bc BK870 2, ((HB.out.cell (World.block_lt_of_cell? w _ hw881_0)).trans hw881_0), ((HB.out.cell (World.block_lt_of_cell? w _ hw882_0)).trans hw882_0)⟩ (fun hHeld => ?_)
               clear hK K
               refine norm_ (a' := ?_) ?_ ?_
               rotate_left
               ·show Act.put _ (some 59) _ = _
                simp only [Act.put, List.setIfInBounds_toArray, List.set_cons_zero, List.set_cons_succ, i64_w, i32_w]
                rfl
               refine one_ (i := 16) (N := none) (ba 17 131071) rfl rfl (one_of HT_.out (by kernel_rfl)) (by decide) (fun K hK => ?_)
               have hs34 : w33.cell? ⟨gb878, 0, none⟩ = some (.int .i64 t876) := bc BK878 0
               have hfs34 := fz BK878 0
               have hns34_0 := NB870_878.out
               have hms34_0 := NB878_870.out
               have hs35 : w33.cell? ⟨gb878, 1, none⟩ = some (.int .i64 t877) := bc BK878 1
               have hfs35 := fz BK878 1
               have hns35_0 := NB870_878.out
               have hms35_0 := NB878_870.out
               refine skip_ (w1 := ?_) (by rfl) rfl ?_ ?_
               rotate_left
               ·go_simp
                rfl
               refine hK.out _ _ ⟨((cell_far (p := ⟨gb878, _, none⟩) NB870_878.out _).trans (((cell_far (p := ⟨gb878, _, none⟩) NB870_878.out _).trans (hHeld.1)))), ((cell_far (p := ⟨gb878, _, none⟩) NB870_878.out _).trans (((cell_far (p := ⟨gb878, _, none⟩) NB870_878.out _).trans (hHeld.2.1)))), ((cell_far (p := ⟨gb878, _, none⟩) NB870_878.out _).trans (((cell_far (p := ⟨gb878, _, none⟩) NB870_878.out _).trans (hHeld.2.2.1)))), ((cell_far (p := ⟨gb878, _, none⟩) (by first | exact Nat.ne_of_lt (Nat.lt_of_lt_of_le (by have := World.block_lt_of_cell? _ _ hw881_0; first | rwa [add_block] at this | exact this) GW878.out) | (rw [add_block]; exact Nat.ne_of_lt (Nat.lt_of_lt_of_le (by have := World.block_lt_of_cell? _ _ hw881_0; first | rwa [add_block] at this | exact this) GW878.out)) | (show (Addr.add _ _).block ≠ _; rw [add_block]; exact Nat.ne_of_lt (Nat.lt_of_lt_of_le (by have := World.block_lt_of_cell? _ _ hw881_0; first | rwa [add_block] at this | exact this) GW878.out)) | (dsimp only; exact Nat.ne_of_lt (Nat.lt_of_lt_of_le (by have := World.block_lt_of_cell? _ _ hw881_0; first | rwa [add_block] at this | exact this) GW878.out))) _).trans (((cell_far (p := ⟨gb878, _, none⟩) (by first | exact Nat.ne_of_lt (Nat.lt_of_lt_of_le (by have := World.block_lt_of_cell? _ _ hw881_0; first | rwa [add_block] at this | exact this) GW878.out) | (rw [add_block]; exact Nat.ne_of_lt (Nat.lt_of_lt_of_le (by have := World.block_lt_of_cell? _ _ hw881_0; first | rwa [add_block] at this | exact this) GW878.out)) | (show (Addr.add _ _).block ≠ _; rw [add_block]; exact Nat.ne_of_lt (Nat.lt_of_lt_of_le (by have := World.block_lt_of_cell? _ _ hw881_0; first | rwa [add_block] at this | exact this) GW878.out)) | (dsimp only; exact Nat.ne_of_lt (Nat.lt_of_lt_of_le (by have := World.block_lt_of_cell? _ _ hw881_0; first | rwa [add_block] at this | exact this) GW878.out))) _).trans (hHeld.2.2.2.1)))), ((cell_far (p := ⟨gb878, _, none⟩) (by first | exact Nat.ne_of_lt (Nat.lt_of_lt_of_le (by have := World.block_lt_of_cell? _ _ hw882_0; first | rwa [add_block] at this | exact this) GW878.out) | (rw [add_block]; exact Nat.ne_of_lt (Nat.lt_of_lt_of_le (by have := World.block_lt_of_cell? _ _ hw882_0; first | rwa [add_block] at this | exact this) GW878.out)) | (show (Addr.add _ _).block ≠ _; rw [add_block]; exact Nat.ne_of_lt (Nat.lt_of_lt_of_le (by have := World.block_lt_of_cell? _ _ hw882_0; first | rwa [add_block] at this | exact this) GW878.out)) | (dsimp only; exact Nat.ne_of_lt (Nat.lt_of_lt_of_le (by have := World.block_lt_of_cell? _ _ hw882_0; first | rwa [add_block] at this | exact this) GW878.out))) _).trans (((cell_far (p := ⟨gb878, _, none⟩) (by first | exact Nat.ne_of_lt (Nat.lt_of_lt_of_le (by have := World.block_lt_of_cell? _ _ hw882_0; first | rwa [add_block] at this | exact this) GW878.out) | (rw [add_block]; exact Nat.ne_of_lt (Nat.lt_of_lt_of_le (by have := World.block_lt_of_cell? _ _ hw882_0; first | rwa [add_block] at this | exact this) GW878.out)) | (show (Addr.add _ _).block ≠ _; rw [add_block]; exact Nat.ne_of_lt (Nat.lt_of_lt_of_le (by have := World.block_lt_of_cell? _ _ hw882_0; first | rwa [add_block] at this | exact this) GW878.out)) | (dsimp only; exact Nat.ne_of_lt (Nat.lt_of_lt_of_le (by have := World.block_lt_of_cell? _ _ hw882_0; first | rwa [add_block] at this | exact this) GW878.out))) _).trans (hHeld.2.2.2.2))))⟩ (fun hHeld => ?_)
               clear hK K
               refine done_ (done_of HT_.out (by kernel_rfl)) ?_
               have hcz36_0 : w33.cell? ⟨gb878, 0, none⟩ = some (.int .i64 t876) := bc BK878 0
               have hcz36_1 : w33.cell? ⟨gb878, 1, none⟩ = some (.int .i64 t877) := bc BK878 1
               have hfz36_0 := fz BK878 0
               have hfz36_1 := fz BK878 1
               try go_wp2_with (first | ((with_reducible refine gate_builtin (b := .append) (xs := #[.tmp 60, .tmp 63]) rfl ?_); at_builtin; refine Kd.R_append k26 (w0 := w) w.heap.size rfl (.tmp 60) (.tmp 63) 34 26 (.agg #[(.int .i64 0), (.int .i64 0)]) 16 rfl Try.underlying34 info26 rfl (by decide) (by omega) u4 x4_1 (⟨t883, t884⟩ : S26) [.int .i64 t883, .int .i64 t884] (fun _ => True) (fun _ => False) rfl (by first | (go_simp; done) | (go_simp; rfl)) ?aP (fun _ hk => hk.elim) ?aF ?aO ?aB ?aS ?aL ?_; (case aP => exact k26_mkM _ _ _ (⟨t883, t884⟩ : S26)); (case aB => exact (hbC _)); (case aF => exact (fun _ _ => trivial)); (case aO => exact (by (with_reducible repeat (first | apply Kd.R_alloc | apply Kd.R_drewN | apply Kd.R_drew)); exact Kd.R_mono (Kd.R_far (p := ⟨gb878, 1, none⟩) (Kd.R_far (p := ⟨gb878, 0, none⟩) (Kd.R_types HO_4.out BK878.out (by decide)) (fun _ hk => hk.2) (.int .i64 t883)) (fun _ hk => hk.2) (.int .i64 t884)) (fun _ hk => trivial))); (case aS => exact (below_size (hbC _))); (case aL => have := LMc25.out; omega); intro v886 w37 ho hb hg hat; rw [← Ny885.out] at ho; have n0_ := Aside0.mk (blk_grown (g := gb870) (o := .cells #[.int .i64 a0_0, .slice (some ad879) l0_1.length c0_1, .slice (some ad881) l0_2.length c0_2] 30 (0, 0)) (bF BK870) hg (Kd.R_ne HO_4.out BK870.out (by decide))); have n1_ := Aside0.mk (blk_grown (g := gb878) (o := .cells #[.int .i64 t883, .int .i64 t884] 76 (0, 0)) (by (with_reducible repeat (first | refine blk_drewN ?_ _ | refine blk_drew ?_ | refine blk_alloc ?_ _)); refine blk_put (cs := #[.int .i64 t883, .int .i64 t877]) ?_ 1 _ rfl; (with_reducible repeat (first | refine blk_drewN ?_ _ | refine blk_drew ?_ | refine blk_alloc ?_ _)); refine blk_put (cs := #[.int .i64 t876, .int .i64 t877]) ?_ 0 _ rfl; (with_reducible repeat (first | refine blk_drewN ?_ _ | refine blk_drew ?_ | refine blk_alloc ?_ _)); exact BK878.out) hg (Kd.R_ne HO_4.out BK878.out (by decide))); have n2_ := Aside0.mk (hb); have n3_ := Aside0.mk (ho); clear BK870; clear BK878; clear HB; clear HO_4; have BK870 := n0_; have BK878 := n1_; have HB := n2_; have HO887 := n3_; clear n0_ n1_ n2_ n3_; clear ho hb hg hat))
               go_roundg k1
               case measure => have := HK1.out; omega
               case rel => exact ⟨(y885), (ji17), (by first | rfl | (simp; done) | (simp only [← hji17] <;> (first | rfl | simp)) | (simp [*]; done)), H', ⟨by have := HK1.out; omega⟩, ⟨rC HO887⟩, ⟨bkC BK870⟩, ⟨hbC _⟩⟩
              ·rw [if_neg c25] at H
               exact absurd H (by simp)
             ·rw [if_neg c23] at H
              exact absurd H (by simp)
            ·rw [if_neg c22] at H
             exact absurd H (by simp)
           ·rw [if_neg c21] at H
            exact absurd H (by simp)
          ·rw [if_neg c20] at H
           have c20b0 : decide (0 < (wrap64 ((rd l0_1 (ji14)) - (rd l0_1 (ji17))))) = false := decide_eq_false c20
           clear c20
           by_cases c38 : x4_1.length < 8796093022208
           ·rw [if_pos c38] at H
            have LMc38 := Aside0.mk c38
            clear c38
            obtain ⟨y888, hy888⟩ : ∃ y_ : List (S26), y_ = (x4_1 ++ [(⟨t876, t877⟩ : S26)]) := ⟨_, rfl⟩
            replace H : (curves_Slope.l0 k1 y888 a0_0 (wrap64 ((l0_2.length : Int) - 1)) ji17 a0_0 l0_1 l0_2) = some (r1, r2, r3, r4) := by first | (rw [hy888]; with_reducible exact H) | (have H2_ := (Option.bind_some _ _).symm.trans H; rw [hy888]; with_reducible exact H2_) | (have H2_ := (Option.bind_some _ _).symm.trans H; with_reducible exact H2_) | with_reducible exact H | (rw [hy888]; exact H) | exact H
            have Ny888 := Aside0.mk hy888
            clear hy888
            have H' := Aside0.mk H
            clear H
            try go_wp2_with (first | ((with_reducible refine gate_callee (f := 48) rfl ?_); refine gL 26 Try.func48 #[.int .i64 0, .int .i64 1] ?_; (with_reducible refine (curves_of.calls k1 0 1 t876 t877 _ A13.out).mono ?_); rintro e w39 ⟨rfl, hb⟩; refine ⟨_, rfl, ?_⟩; replace HO_4 := kO HO_4 hb; replace BK870 := kB BK870 hb; replace HB := kH _ hb; (try clear hb); (try clear hb2); (try clear hk); (try clear hi)) | ((with_reducible refine gate_dst (N := 8) rfl ?_); refine bE 8 #[.int .i64 0, .int .i64 0] 76 ?_; intro gb878 hg w40 hbox hb; replace HO_4 := kO HO_4 hb; have BK878 := Aside0.mk (hbox); have GW878 := kG w hg; have GE878 := kG w hg; replace HB := kH _ hb; have NB870_878 := kL BK870 hg; have NB878_870 := kR BK870 hg; replace BK870 := kB BK870 hb; clear hb hbox hg; have hnb41 := NB878_870.out; have hnc41 := NB870_878.out; have hcz42_0 : w40.cell? ⟨gb878, 0, none⟩ = some (.int .i64 0) := bc BK878 0; have hcz42_1 : w40.cell? ⟨gb878, 1, none⟩ = some (.int .i64 0) := bc BK878 1; have hfz42_0 := fz BK878 0; have hfz42_1 := fz BK878 1))
            have n0_ : Aside0 (Kd.R k26 26 ((w40.setCell ⟨gb878, 0, none⟩ (.int .i64 t876)).setCell ⟨gb878, 1, none⟩ (.int .i64 t877)) w.heap.size (fun _ => True) u4 x4_1) := ⟨by (with_reducible repeat (first | apply Kd.R_alloc | apply Kd.R_drewN | apply Kd.R_drew)); exact Kd.R_mono (Kd.R_far (p := ⟨gb878, 1, none⟩) (Kd.R_far (p := ⟨gb878, 0, none⟩) (Kd.R_types HO_4.out BK878.out (by decide)) (fun _ hk => hk.2) (.int .i64 t876)) (fun _ hk => hk.2) (.int .i64 t877)) (fun _ hk => trivial)⟩
            have n1_ : Aside0 (((w40.setCell ⟨gb878, 0, none⟩ (.int .i64 t876)).setCell ⟨gb878, 1, none⟩ (.int .i64 t877)).heap[gb870]? = some (.cells #[.int .i64 a0_0, .slice A0_1 l0_1.length c0_1, .slice A0_2 l0_2.length c0_2] 30 (0, 0))) := ⟨bF BK870⟩
            have n2_ : Aside0 (((w40.setCell ⟨gb878, 0, none⟩ (.int .i64 t876)).setCell ⟨gb878, 1, none⟩ (.int .i64 t877)).heap[gb878]? = some (.cells #[.int .i64 t876, .int .i64 t877] 76 (0, 0))) := ⟨by (with_reducible repeat (first | refine blk_drewN ?_ _ | refine blk_drew ?_ | refine blk_alloc ?_ _)); refine blk_put (cs := #[.int .i64 t876, .int .i64 0]) ?_ 1 _ rfl; (with_reducible repeat (first | refine blk_drewN ?_ _ | refine blk_drew ?_ | refine blk_alloc ?_ _)); refine blk_put (cs := #[.int .i64 0, .int .i64 0]) ?_ 0 _ rfl; (with_reducible repeat (first | refine blk_drewN ?_ _ | refine blk_drew ?_ | refine blk_alloc ?_ _)); exact BK878.out⟩
            have n3_ : Aside0 (Below w.heap.size w ((w40.setCell ⟨gb878, 0, none⟩ (.int .i64 t876)).setCell ⟨gb878, 1, none⟩ (.int .i64 t877))) := ⟨hbC _⟩
            (try clear HO_4)
            (try clear BK870)
            (try clear BK878)
            (try clear HB)
            generalize ((w40.setCell ⟨gb878, 0, none⟩ (.int .i64 t876)).setCell ⟨gb878, 1, none⟩ (.int .i64 t877)) = w43 at n0_ n1_ n2_ n3_ ⊢
            have HO_4 := n0_
            have BK870 := n1_
            have BK878 := n2_
            have HB := n3_
            clear n0_ n1_ n2_ n3_
            replace HO_4 := Aside0.mk (Kd.R_drew HO_4.out)
            replace BK870 := kd BK870
            replace BK878 := kd BK878
            replace HB := Aside0.mk (below_drew1 HB.out)
            have p879 : 0 ≤ ((ji14) : Int) := dA
            have q879 : (ji14) < (l0_1.length : Int) := dA
            obtain ⟨ad879, e879, hx879_0⟩ := Kd.at_int HR0_1.out (ji14) p879 q879
            have hw879_0 := hx879_0
            cases e879
            try replace hx879_0 := (HB.out.cell (World.block_lt_of_cell? w _ hx879_0)).trans hx879_0
            replace p879 := eq_true p879
            replace q879 := eq_true q879
            have p880 : 0 ≤ ((ji17) : Int) := dA
            have q880 : (ji17) < (l0_1.length : Int) := dA
            obtain ⟨ad880, e880, hx880_0⟩ := Kd.at_int HR0_1.out (ji17) p880 q880
            have hw880_0 := hx880_0
            obtain rfl : ad879 = ad880 := (by injection e880)
            try replace hx880_0 := (HB.out.cell (World.block_lt_of_cell? w _ hx880_0)).trans hx880_0
            replace p880 := eq_true p880
            replace q880 := eq_true q880
            refine sS (n := 16) (S := fun w' => w'.cell? ⟨gb870, 0, none⟩ = some (.int .i64 a0_0) ∧ w'.cell? ⟨gb870, 1, none⟩ = some (.slice (some ad879) l0_1.length c0_1) ∧ w'.cell? ⟨gb870, 2, none⟩ = some (.slice A0_2 l0_2.length c0_2) ∧ w'.cell? (ad879.add ((ji14)).toNat) = some (.int .i64 (rd l0_1 (ji14))) ∧ w'.cell? (ad879.add ((ji17)).toNat) = some (.int .i64 (rd l0_1 (ji17)))) (ds := []) ⟨bc BK870 0, bc BK870 1, bc BK870 2, ((HB.out.cell (World.block_lt_of_cell? w _ hw879_0)).trans hw879_0), ((HB.out.cell (World.block_lt_of_cell? w _ hw880_0)).trans hw880_0)⟩ (fun hHeld => ?_); refine with_tabW curves_Slope.tab10 curves_Slope.bits10 (fun HT_ HW_ => ?_)
            generalize w43.drew = w44 at HO_4 BK870 BK878 HB hx879_0 hx880_0 hHeld ⊢
            refine pS 0 27 16 1 ?_
            refine pS 2 29 16 5 ?_
            refine pS 3 30 16 13 ?_
            refine pS 4 31 16 29 ?_
            refine pS 5 32 16 61 ?_
            refine pS 8 35 16 317 ?_
            refine pS 10 37 16 1341 ?_
            refine pS 11 38 16 3389 ?_
            refine tS 1 28 16 3391 ?_
            refine pS 6 33 16 3455 ?_
            refine tS 7 34 16 3583 ?_
            refine tS 9 36 16 4095 ?_
            refine pS 12 39 16 8191 ?_
            refine tS 13 40 16 16383 ?_
            refine pS 14 41 16 32767 ?_
            refine pS 15 9 16 65535 ?_
            refine done_ (done_of HT_.out (by kernel_rfl)) ?_
            have hcz45_0 : w44.cell? ⟨gb878, 0, none⟩ = some (.int .i64 t876) := bc BK878 0
            have hcz45_1 : w44.cell? ⟨gb878, 1, none⟩ = some (.int .i64 t877) := bc BK878 1
            have hfz45_0 := fz BK878 0
            have hfz45_1 := fz BK878 1
            try go_wp2_with (first | ((with_reducible refine gate_builtin (b := .append) (xs := #[.tmp 60, .tmp 63]) rfl ?_); at_builtin; refine Kd.R_append k26 (w0 := w) w.heap.size rfl (.tmp 60) (.tmp 63) 34 26 (.agg #[(.int .i64 0), (.int .i64 0)]) 16 rfl Try.underlying34 info26 rfl (by decide) (by omega) u4 x4_1 (⟨t876, t877⟩ : S26) [.int .i64 t876, .int .i64 t877] (fun _ => True) (fun _ => False) rfl rfl ?aP (fun _ hk => hk.elim) ?aF ?aO ?aB ?aS ?aL ?_; (case aP => exact k26_mkM _ _ _ (⟨t876, t877⟩ : S26)); (case aB => exact (hbC _)); (case aF => exact (fun _ _ => trivial)); (case aO => exact (rC HO_4)); (case aS => exact (below_size (hbC _))); (case aL => have := LMc38.out; omega); intro v889 w46 ho hb hg hat; rw [← Ny888.out] at ho; have n0_ := Aside0.mk (blk_grown (g := gb870) (o := .cells #[.int .i64 a0_0, .slice (some ad879) l0_1.length c0_1, .slice A0_2 l0_2.length c0_2] 30 (0, 0)) (bkC BK870) hg (Kd.R_ne HO_4.out BK870.out (by decide))); have n1_ := Aside0.mk (blk_grown (g := gb878) (o := .cells #[.int .i64 t876, .int .i64 t877] 76 (0, 0)) (bkC BK878) hg (Kd.R_ne HO_4.out BK878.out (by decide))); have n2_ := Aside0.mk (hb); have n3_ := Aside0.mk (ho); clear BK870; clear BK878; clear HB; clear HO_4; have BK870 := n0_; have BK878 := n1_; have HB := n2_; have HO890 := n3_; clear n0_ n1_ n2_ n3_; clear ho hb hg hat))
            go_roundg k1
            case measure => have := HK1.out; omega
            case rel => exact ⟨(y888), (ji17), (by first | rfl | (simp; done) | (simp only [← hji17] <;> (first | rfl | simp)) | (simp [*]; done)), H', ⟨by have := HK1.out; omega⟩, ⟨rC HO890⟩, ⟨bkC BK870⟩, ⟨hbC _⟩⟩
           ·rw [if_neg c38] at H
            exact absurd H (by simp)
         ·rw [if_neg c19] at H
          exact absurd H (by simp)
        ·rw [if_neg c18] at H
         exact absurd H (by simp)
       ·rw [if_neg c16] at H
        exact absurd H (by simp)
      ·rw [if_neg c15] at H
       exact absurd H (by simp)
     ·rw [if_neg c12] at H
      have c12b0 : decide (x23_1 < (wrap64 ((l0_2.length : Int) - 1))) = false := decide_eq_false c12
      clear c12
      by_cases c47 : 1 ≤ (wrap64 ((l0_1.length : Int) - 1))
      ·rw [if_pos c47] at H
       have c47b0 := eq_true c47
       have c47b1 : decide (1 ≤ (wrap64 ((l0_1.length : Int) - 1))) = true := decide_eq_true c47
       clear c47
       by_cases c48 : (wrap64 ((l0_1.length : Int) - 1)) ≤ (l0_1.length : Int)
       ·rw [if_pos c48] at H
        have c48b0 := eq_true c48
        have c48b1 : decide ((wrap64 ((l0_1.length : Int) - 1)) ≤ (l0_1.length : Int)) = true := decide_eq_true c48
        clear c48
        replace H := Option.bind_eq_some_iff.mp H
        obtain ⟨t873, A490, H⟩ := H
        replace H : (some (wrap64 (a0_0 - 1), t873, x4_1, 0)) = some (r1, r2, r3, r4) := H
        have A49 := Aside0.mk A490
        clear A490
        simp only [Option.some.injEq, Prod.mk.injEq] at H
        obtain ⟨rfl, rfl, rfl, rfl⟩ := H
        have hcz50_0 : wr.cell? ⟨gb870, 0, none⟩ = some (.int .i64 a0_0) := bc BK870 0
        have hcz50_1 : wr.cell? ⟨gb870, 1, none⟩ = some (.slice A0_1 l0_1.length c0_1) := bc BK870 1
        have hcz50_2 : wr.cell? ⟨gb870, 2, none⟩ = some (.slice A0_2 l0_2.length c0_2) := bc BK870 2
        have hfz50_0 := fz BK870 0
        have hfz50_1 := fz BK870 1
        have hfz50_2 := fz BK870 2
        obtain ⟨i051, hi051, _, hsz51, _⟩ := info_parts info3
        obtain ⟨A51, hcut51, hA51, hC51⟩ := print_mid_of (P := Try.prog) (Value.int .i64) 0 22 3 .i64 .i64 Try.underlying22 hi051 hsz51 A0_1 c0_1 l0_1 1 (wrap64 ((l0_1.length : Int) - 1)) (by omega) (by first | omega | exact dA) (dA) HC0_1.out
        have HR872 := Aside0.mk (Kd.C_of_reads (h1 := fun _ => rfl) (hA51 _ (Kd.reads_of_C HR0_1.out)))
        have HC872 := Aside0.mk hC51
        clear hA51 hC51 hi051 hsz51
        go_wp2_with (first | ((with_reducible refine gate_callee (f := 54) rfl ?_); refine goesL_ (some 75) rfl rfl Try.func54 (by kernel_rfl) rfl #[.slice A51 ((l0_1.take ((wrap64 ((l0_1.length : Int) - 1)) : Int).toNat).drop 1).length (c0_1 - 1)] rfl (by (try simp only [List.map_toArray, List.map_cons, List.map_nil]); first | done | (rw [show ((l0_1.take ((wrap64 ((l0_1.length : Int) - 1)) : Int).toNat).drop 1).length = ((wrap64 ((l0_1.length : Int) - 1)).toNat - 1) from (by rw [List.length_drop, List.length_take]; have h_ : ((wrap64 ((l0_1.length : Int) - 1)) : Int) ≤ (l0_1.length : Int) := dA; omega)] <;> rfl) | rfl | (simp only [List.length_drop, List.length_take]; rfl)) ?_; (with_reducible refine (slices_Clone_int_int.calls _ _ ((l0_1.take ((wrap64 ((l0_1.length : Int) - 1)) : Int).toNat).drop 1) t873 _ ?side1 ?side2 A49.out).mono ?_); (case side1 => exact kC HR872); (case side2 => exact HC872.out); rintro e w52 ⟨v874, rfl, ho0, hb⟩; refine ⟨_, rfl, ?_⟩; replace HO_4 := kO HO_4 hb; have HO875 := Aside0.mk (Kd.R_lower ho0 (below_size (hbC _))); replace BK870 := kB BK870 hb; replace HB := kH _ hb; (try clear hb); (try clear hb2); (try clear hk); (try clear hi); (try clear ho0)))
        refine bodyPost_ret (results_list (rs := [.tmp 2, .tmp 3, .tmp 4, .tmp 5]) rfl (by simp) (.tmp (.tmp (.tmp (.tmp .nil))))) rfl ?_
        exact ⟨_, _, by first | rfl | (simp [errW_none, errW_some] <;> rfl) | (simp [*, errW_none, errW_some] <;> rfl), rC HO875, rC HO_4, hbC _⟩
       ·rw [if_neg c48] at H
        exact absurd H (by simp)
      ·rw [if_neg c47] at H
       exact absurd H (by simp)
 ·replace c3 := Bool.eq_false_iff.mpr c3
  subst c3
  have H1 : (some (0, ([] : List Int), ([] : List (S26)), 2)) = some (r1, r2, r3, r4) := by rw [if_neg (show ¬ (false = true) by decide)] at H; exact H
  clear H
  have H := H1
  clear H1
  simp only [Option.some.injEq, Prod.mk.injEq] at H
  obtain ⟨rfl, rfl, rfl, rfl⟩ := H
  go_enter Try.func40, Try.ntmps40
  go_wp2_with (first | ((with_reducible refine gate_dst (N := 1) rfl ?_); refine bE 1 #[.int .i64 a0_0, .slice A0_1 l0_1.length c0_1, .slice A0_2 l0_2.length c0_2] 30 ?_; intro gb870 hg w53 hbox hb; have BK870 := Aside0.mk (hbox); have GW870 := kG w hg; have GE870 := kG w hg; replace HB := kH _ hb; clear hb hbox hg; have hcz54_0 : w53.cell? ⟨gb870, 0, none⟩ = some (.int .i64 a0_0) := bc BK870 0; have hcz54_1 : w53.cell? ⟨gb870, 1, none⟩ = some (.slice A0_1 l0_1.length c0_1) := bc BK870 1; have hcz54_2 : w53.cell? ⟨gb870, 2, none⟩ = some (.slice A0_2 l0_2.length c0_2) := bc BK870 2; have hfz54_0 := fz BK870 0; have hfz54_1 := fz BK870 1; have hfz54_2 := fz BK870 2) | ((with_reducible refine gate_callee (f := 61) rfl ?_); refine gL 14 Try.func61 #[.agg #[.int .i64 a0_0, .slice A0_1 l0_1.length c0_1, .slice A0_2 l0_2.length c0_2]] ?_; (with_reducible refine (curves_Curve_valid.calls k a0_0 _ _ l0_1 _ _ l0_2 false _ ?side1 ?side2 ?side3 ?side4 A2.out).mono ?_); (case side1 => exact kC HR0_1); (case side2 => exact HC0_1.out); (case side3 => exact kC HR0_2); (case side4 => exact HC0_2.out); rintro e w55 ⟨rfl, hb⟩; refine ⟨_, rfl, ?_⟩; replace BK870 := kB BK870 hb; replace HB := kH _ hb; (try clear hb); (try clear hb2); (try clear hk); (try clear hi)))
  refine bodyPost_ret (results_list (rs := [.tmp 2, .tmp 3, .tmp 4, .tmp 5]) rfl (by simp) (.tmp (.tmp (.tmp (.tmp .nil))))) rfl ?_
  exact ⟨_, _, by first | rfl | (simp [errW_none, errW_some] <;> rfl) | (simp [*, errW_none, errW_some] <;> rfl), by first | exact Kd.R_nil _ _ _ _ _ | exact Kd.N_nil _ _ _ _ _ | exact Kd.V_nil _ _ _ _ _ | exact Kd.Q_nil _ _ _ _ _ | exact Kd.S_nil _ _ _ _ _, by first | exact Kd.R_nil _ _ _ _ _ | exact Kd.N_nil _ _ _ _ _ | exact Kd.V_nil _ _ _ _ _ | exact Kd.Q_nil _ _ _ _ _ | exact Kd.S_nil _ _ _ _ _, hbC _⟩

end Go.Proofs.Ytpnocmkpeogifaa.X
