-- Written by a program of this work (wip/xprint.py, over the kit's printer) out of the translation.
import Derived.Test.YtpnocmkpeogifaaX0
import Derived.Test.YtpnocmkpeogifaaXG1a
import Derived.Test.YtpnocmkpeogifaaXG2a
import Derived.Test.YtpnocmkpeogifaaXf61
namespace Go.Proofs.Ytpnocmkpeogifaa.X
open Go.RowKit Go.Proofs.YtpnocmkpeogifaaW.PrintWords Go.Proofs.YtpnocmkpeogifaaW.PrintLast Go.Proofs.YtpnocmkpeogifaaW.PrintMore
attribute [local go_sem] max2_int min2_int max_two min_two max_three min_three max_four min_four   -- for this text's walks alone
set_option linter.unusedVariables false
set_option linter.unusedSimpArgs false

/-! ### curves_Means: function 34 -/
mutual
def curves_Means.l0 : Nat → List (S76) → Int → Int → Int → List Int → List Int → Option ((List (S26)) × Int)
 | 0, _, _, _, _, _, _ => none
 | k + 1, x4, x19, x20, x630000, x630001, x630002 => if x20 < x19 then (if 0 ≤ (wrap64 (x20 + 1)) then (if (wrap64 (x20 + 1)) ≤ (wrap64 ((wrap64 (x20 + 1)) + x630000)) then (if (wrap64 ((wrap64 (x20 + 1)) + x630000)) ≤ (x630001.length : Int) then (curves_Means.l1 k x4 0 x19 x20 ((x630001.take ((wrap64 ((wrap64 (x20 + 1)) + x630000)) : Int).toNat).drop ((wrap64 (x20 + 1)) : Int).toNat) (((x630001.take ((wrap64 ((wrap64 (x20 + 1)) + x630000)) : Int).toNat).drop ((wrap64 (x20 + 1)) : Int).toNat).length : Int) 0 x630000 x630001 x630002) else (none)) else (none)) else (none)) else ((curves_told.f k x4).bind fun t631 => (some (t631, 0)))
def curves_Means.l1 : Nat → List (S76) → Int → Int → Int → List Int → Int → Int → Int → List Int → List Int → Option ((List (S26)) × Int)
 | 0, _, _, _, _, _, _, _, _, _, _ => none
 | k + 1, x4, x6, x19, x20, x32, x33, x34, x630000, x630001, x630002 => if x34 < x33 then (if 0 ≤ x34 then (if x34 < (x32.length : Int) then (curves_Means.l1 k x4 (wrap64 (x6 + (rd x32 x34))) x19 x20 x32 x33 (wrap64 (x34 + 1)) x630000 x630001 x630002) else (none)) else (none)) else ((curves_of.f k x6 x630000).bind fun bt636 => (if x4.length < 8796093022208 then (curves_Means.l0 k (x4 ++ [(⟨(⟨bt636.1, bt636.2⟩ : S26)⟩ : S76)]) x19 (wrap64 (x20 + 1)) x630000 x630001 x630002) else (none)))
end
def curves_Means.f (k : Nat) (a0_0 : Int) (l0_1 : List Int) (l0_2 : List Int) : Option ((List (S26)) × Int) := (curves_Curve_valid.f k a0_0 l0_1 l0_2).bind fun t630 => (if t630 = true then (if a0_0 = 0 then (some (([] : List (S26)), 4)) else (curves_Means.l0 k ([] : List (S76)) (l0_2.length : Int) 0 a0_0 l0_1 l0_2)) else (some (([] : List (S26)), 2)))
theorem curves_Means.mono_l : ∀ k, (∀ y0 y1 y2 y3 y4 y5, LeO (curves_Means.l0 k y0 y1 y2 y3 y4 y5) (curves_Means.l0 (k + 1) y0 y1 y2 y3 y4 y5)) ∧ (∀ y0 y1 y2 y3 y4 y5 y6 y7 y8 y9, LeO (curves_Means.l1 k y0 y1 y2 y3 y4 y5 y6 y7 y8 y9) (curves_Means.l1 (k + 1) y0 y1 y2 y3 y4 y5 y6 y7 y8 y9))
 | 0 => ⟨fun _ _ _ _ _ _ r h => by simp [curves_Means.l0] at h, fun _ _ _ _ _ _ _ _ _ _ r h => by simp [curves_Means.l1] at h⟩
 | k + 1 => by
  obtain ⟨ih0, ih1⟩ := curves_Means.mono_l k
  refine ⟨?_, ?_⟩
  ·intro y0 y1 y2 y3 y4 y5
   unfold curves_Means.l0
   repeat' first
   | (with_reducible exact ih0 _ _ _ _ _ _)
   | (with_reducible exact ih1 _ _ _ _ _ _ _ _ _ _)
   | (with_reducible exact curves_Curve_valid.mono _ _ _ _)
   | (with_reducible exact curves_of.mono _ _ _)
   | (with_reducible exact curves_told.mono _ _)
   | (with_reducible exact LeO.refl _)
   | (with_reducible exact LeO.none _)
   | (with_reducible refine LeO.ite ?_ ?_)
   | (with_reducible refine LeO.bind ?_ (fun _ => ?_))
   | exact ih0 _ _ _ _ _ _
   | exact ih1 _ _ _ _ _ _ _ _ _ _
   | exact curves_Curve_valid.mono _ _ _ _
   | exact curves_of.mono _ _ _
   | exact curves_told.mono _ _
   | exact LeO.none _
   | refine LeO.ite ?_ ?_
   | refine LeO.bind ?_ (fun _ => ?_)
  ·intro y0 y1 y2 y3 y4 y5 y6 y7 y8 y9
   unfold curves_Means.l1
   repeat' first
   | (with_reducible exact ih0 _ _ _ _ _ _)
   | (with_reducible exact ih1 _ _ _ _ _ _ _ _ _ _)
   | (with_reducible exact curves_Curve_valid.mono _ _ _ _)
   | (with_reducible exact curves_of.mono _ _ _)
   | (with_reducible exact curves_told.mono _ _)
   | (with_reducible exact LeO.refl _)
   | (with_reducible exact LeO.none _)
   | (with_reducible refine LeO.ite ?_ ?_)
   | (with_reducible refine LeO.bind ?_ (fun _ => ?_))
   | exact ih0 _ _ _ _ _ _
   | exact ih1 _ _ _ _ _ _ _ _ _ _
   | exact curves_Curve_valid.mono _ _ _ _
   | exact curves_of.mono _ _ _
   | exact curves_told.mono _ _
   | exact LeO.none _
   | refine LeO.ite ?_ ?_
   | refine LeO.bind ?_ (fun _ => ?_)
theorem curves_Means.mono : ∀ a0 a1 a2 k, LeO (curves_Means.f k a0 a1 a2) (curves_Means.f (k + 1) a0 a1 a2) := by
 intro a0 a1 a2 k
 obtain ⟨ih0, ih1⟩ := curves_Means.mono_l k
 unfold curves_Means.f
 repeat' first
   | (with_reducible exact ih0 _ _ _ _ _ _)
   | (with_reducible exact ih1 _ _ _ _ _ _ _ _ _ _)
   | (with_reducible exact curves_Curve_valid.mono _ _ _ _)
   | (with_reducible exact curves_of.mono _ _ _)
   | (with_reducible exact curves_told.mono _ _)
   | (with_reducible exact LeO.refl _)
   | (with_reducible exact LeO.none _)
   | (with_reducible refine LeO.ite ?_ ?_)
   | (with_reducible refine LeO.bind ?_ (fun _ => ?_))
   | exact ih0 _ _ _ _ _ _
   | exact ih1 _ _ _ _ _ _ _ _ _ _
   | exact curves_Curve_valid.mono _ _ _ _
   | exact curves_of.mono _ _ _
   | exact curves_told.mono _ _
   | exact LeO.none _
   | refine LeO.ite ?_ ?_
   | refine LeO.bind ?_ (fun _ => ?_)
set_option maxHeartbeats 8000000 in
set_option maxRecDepth 100000 in
theorem curves_Means.calls (k : Nat) (a0_0 : Int) (A0_1 : Option Addr) (c0_1 : Nat) (l0_1 : List Int) (A0_2 : Option Addr) (c0_2 : Nat) (l0_2 : List Int) (r1 : List (S26)) (r2 : Int) (w : World) (hr0_1 : Kd.C (Kd.int .i64) w A0_1 l0_1.length l0_1) (hc0_1 : l0_1.length ≤ c0_1) (hr0_2 : Kd.C (Kd.int .i64) w A0_2 l0_2.length l0_2) (hc0_2 : l0_2.length ≤ c0_2) (h : curves_Means.f k a0_0 l0_1 l0_2 = some (r1, r2)) :
  Calls Try.prog 34 #[.agg #[.int .i64 a0_0, .slice A0_1 l0_1.length c0_1, .slice A0_2 l0_2.length c0_2]] w fun e w' => ∃ v0_ : Value, e = .returned (.tuple #[v0_, .int .i64 r2]) ∧ Kd.R k26 26 w' w.heap.size (fun _ => True) v0_ r1 ∧ Below w.heap.size w w' := by
 have hu30 := Try.underlying30
 have HR0_1 := Aside0.mk hr0_1
 have HC0_1 := Aside0.mk hc0_1
 clear hr0_1 hc0_1
 have HR0_2 := Aside0.mk hr0_2
 have HC0_2 := Aside0.mk hc0_2
 clear hr0_2 hc0_2
 have HB := ak (Below.refl w.heap.size w)
 have H : ((curves_Curve_valid.f k a0_0 l0_1 l0_2).bind fun t630 => (if t630 = true then (if a0_0 = 0 then (some (([] : List (S26)), 4)) else (curves_Means.l0 k ([] : List (S76)) (l0_2.length : Int) 0 a0_0 l0_1 l0_2)) else (some (([] : List (S26)), 2)))) = some (r1, r2) := h
 clear h
 replace H := Option.bind_eq_some_iff.mp H
 obtain ⟨t630, A20, H⟩ := H
 replace H : (if t630 = true then (if a0_0 = 0 then (some (([] : List (S26)), 4)) else (curves_Means.l0 k ([] : List (S76)) (l0_2.length : Int) 0 a0_0 l0_1 l0_2)) else (some (([] : List (S26)), 2))) = some (r1, r2) := H
 have A2 := Aside0.mk A20
 clear A20
 by_cases c3 : t630 = true
 rotate_left
 ·replace c3 := Bool.eq_false_iff.mpr c3
  subst c3
  have H1 : (some (([] : List (S26)), 2)) = some (r1, r2) := by rw [if_neg (show ¬ (false = true) by decide)] at H; exact H
  clear H
  have H := H1
  clear H1
  simp only [Option.some.injEq, Prod.mk.injEq] at H
  obtain ⟨rfl, rfl⟩ := H
  go_enter Try.func34, Try.ntmps34
  go_wp2_with (first | ((with_reducible refine gate_dst (N := 1) rfl ?_); refine bE 1 #[.int .i64 a0_0, .slice A0_1 l0_1.length c0_1, .slice A0_2 l0_2.length c0_2] 30 ?_; intro gb629 hg w31 hbox hb; have BK629 := ak (hbox); have GW629 := kG w hg; have GE629 := kG w hg; replace HB := kH _ hb; clear hb hbox hg; have hcz32_0 : w31.cell? ⟨gb629, 0, none⟩ = some (.int .i64 a0_0) := bc BK629 0; have hcz32_1 : w31.cell? ⟨gb629, 1, none⟩ = some (.slice A0_1 l0_1.length c0_1) := bc BK629 1; have hcz32_2 : w31.cell? ⟨gb629, 2, none⟩ = some (.slice A0_2 l0_2.length c0_2) := bc BK629 2; have hfz32_0 := fz BK629 0; have hfz32_1 := fz BK629 1; have hfz32_2 := fz BK629 2) | ((with_reducible refine gate_callee (f := 61) rfl ?_); refine gL 11 Try.func61 #[.agg #[.int .i64 a0_0, .slice A0_1 l0_1.length c0_1, .slice A0_2 l0_2.length c0_2]] ?_; (with_reducible refine (curves_Curve_valid.calls k a0_0 _ _ l0_1 _ _ l0_2 false _ ?side1 ?side2 ?side3 ?side4 A2.out).mono ?_); (case side1 => exact kC HR0_1); (case side2 => exact HC0_1.out); (case side3 => exact kC HR0_2); (case side4 => exact HC0_2.out); rintro e w33 ⟨rfl, hb⟩; refine ⟨_, rfl, ?_⟩; replace BK629 := kB BK629 hb; replace HB := kH _ hb; (try clear hb); (try clear hb2); (try clear hk); (try clear hi)))
  go_ret2
  exact ⟨_, by first | rfl | (simp [errW_none, errW_some] <;> rfl) | (simp [*, errW_none, errW_some] <;> rfl), by first | exact Kd.R_nil _ _ _ _ _ | exact Kd.N_nil _ _ _ _ _ | exact Kd.V_nil _ _ _ _ _ | exact Kd.Q_nil _ _ _ _ _ | exact Kd.S_nil _ _ _ _ _, hbC _⟩
 subst c3
 have H1 : (if a0_0 = 0 then (some (([] : List (S26)), 4)) else (curves_Means.l0 k ([] : List (S76)) (l0_2.length : Int) 0 a0_0 l0_1 l0_2)) = some (r1, r2) := by rw [if_pos rfl] at H; exact H
 clear H
 have H := H1
 clear H1
 by_cases c4 : a0_0 = 0
 ·rw [if_pos c4] at H
  have c4b0 : (a0_0 == 0) = true := beq_iff_eq.mpr c4
  have c4b1 : (a0_0 != 0) = false := bne_eq_false_iff_eq.mpr c4
  clear c4
  simp only [Option.some.injEq, Prod.mk.injEq] at H
  obtain ⟨rfl, rfl⟩ := H
  go_enter Try.func34, Try.ntmps34
  go_wp2_with (first | ((with_reducible refine gate_dst (N := 1) rfl ?_); refine bE 1 #[.int .i64 a0_0, .slice A0_1 l0_1.length c0_1, .slice A0_2 l0_2.length c0_2] 30 ?_; intro gb629 hg w5 hbox hb; have BK629 := ak (hbox); have GW629 := kG w hg; have GE629 := kG w hg; replace HB := kH _ hb; clear hb hbox hg; have hcz6_0 : w5.cell? ⟨gb629, 0, none⟩ = some (.int .i64 a0_0) := bc BK629 0; have hcz6_1 : w5.cell? ⟨gb629, 1, none⟩ = some (.slice A0_1 l0_1.length c0_1) := bc BK629 1; have hcz6_2 : w5.cell? ⟨gb629, 2, none⟩ = some (.slice A0_2 l0_2.length c0_2) := bc BK629 2; have hfz6_0 := fz BK629 0; have hfz6_1 := fz BK629 1; have hfz6_2 := fz BK629 2) | ((with_reducible refine gate_callee (f := 61) rfl ?_); refine gL 11 Try.func61 #[.agg #[.int .i64 a0_0, .slice A0_1 l0_1.length c0_1, .slice A0_2 l0_2.length c0_2]] ?_; (with_reducible refine (curves_Curve_valid.calls k a0_0 _ _ l0_1 _ _ l0_2 true _ ?side1 ?side2 ?side3 ?side4 A2.out).mono ?_); (case side1 => exact kC HR0_1); (case side2 => exact HC0_1.out); (case side3 => exact kC HR0_2); (case side4 => exact HC0_2.out); rintro e w7 ⟨rfl, hb⟩; refine ⟨_, rfl, ?_⟩; replace BK629 := kB BK629 hb; replace HB := kH _ hb; (try clear hb); (try clear hb2); (try clear hk); (try clear hi); have hcz8_0 : w7.cell? ⟨gb629, 0, none⟩ = some (.int .i64 a0_0) := bc BK629 0; have hcz8_1 : w7.cell? ⟨gb629, 1, none⟩ = some (.slice A0_1 l0_1.length c0_1) := bc BK629 1; have hcz8_2 : w7.cell? ⟨gb629, 2, none⟩ = some (.slice A0_2 l0_2.length c0_2) := bc BK629 2; have hfz8_0 := fz BK629 0; have hfz8_1 := fz BK629 1; have hfz8_2 := fz BK629 2))
  go_ret2
  exact ⟨_, by first | rfl | (simp [errW_none, errW_some] <;> rfl) | (simp [*, errW_none, errW_some] <;> rfl), by first | exact Kd.R_nil _ _ _ _ _ | exact Kd.N_nil _ _ _ _ _ | exact Kd.V_nil _ _ _ _ _ | exact Kd.Q_nil _ _ _ _ _ | exact Kd.S_nil _ _ _ _ _, hbC _⟩
 rw [if_neg c4] at H
 have c4b0 : (a0_0 == 0) = false := beq_eq_false_iff_ne.mpr c4
 have c4b1 : (a0_0 != 0) = true := bne_iff_ne.mpr c4
 have H' := Aside0.mk H
 clear H
 go_enter Try.func34, Try.ntmps34
 go_wp2_with (first | ((with_reducible refine gate_dst (N := 1) rfl ?_); refine bE 1 #[.int .i64 a0_0, .slice A0_1 l0_1.length c0_1, .slice A0_2 l0_2.length c0_2] 30 ?_; intro gb629 hg w9 hbox hb; have BK629 := ak (hbox); have GW629 := kG w hg; have GE629 := kG w hg; replace HB := kH _ hb; clear hb hbox hg; have hcz10_0 : w9.cell? ⟨gb629, 0, none⟩ = some (.int .i64 a0_0) := bc BK629 0; have hcz10_1 : w9.cell? ⟨gb629, 1, none⟩ = some (.slice A0_1 l0_1.length c0_1) := bc BK629 1; have hcz10_2 : w9.cell? ⟨gb629, 2, none⟩ = some (.slice A0_2 l0_2.length c0_2) := bc BK629 2; have hfz10_0 := fz BK629 0; have hfz10_1 := fz BK629 1; have hfz10_2 := fz BK629 2) | ((with_reducible refine gate_callee (f := 61) rfl ?_); refine gL 11 Try.func61 #[.agg #[.int .i64 a0_0, .slice A0_1 l0_1.length c0_1, .slice A0_2 l0_2.length c0_2]] ?_; (with_reducible refine (curves_Curve_valid.calls k a0_0 _ _ l0_1 _ _ l0_2 true _ ?side1 ?side2 ?side3 ?side4 A2.out).mono ?_); (case side1 => exact kC HR0_1); (case side2 => exact HC0_1.out); (case side3 => exact kC HR0_2); (case side4 => exact HC0_2.out); rintro e w11 ⟨rfl, hb⟩; refine ⟨_, rfl, ?_⟩; replace BK629 := kB BK629 hb; replace HB := kH _ hb; (try clear hb); (try clear hb2); (try clear hk); (try clear hi); have hcz12_0 : w11.cell? ⟨gb629, 0, none⟩ = some (.int .i64 a0_0) := bc BK629 0; have hcz12_1 : w11.cell? ⟨gb629, 1, none⟩ = some (.slice A0_1 l0_1.length c0_1) := bc BK629 1; have hcz12_2 : w11.cell? ⟨gb629, 2, none⟩ = some (.slice A0_2 l0_2.length c0_2) := bc BK629 2; have hfz12_0 := fz BK629 0; have hfz12_1 := fz BK629 1; have hfz12_2 := fz BK629 2))
 go_loopg [4, 20] k (fun kq v4 v20 w' => ∃ (x4_1 : List (S76)) (x20_1 : Int), v20 = .int .i64 x20_1 ∧ Aside0 (curves_Means.l0 kq x4_1 (l0_2.length : Int) x20_1 a0_0 l0_1 l0_2 = some (r1, r2)) ∧ Aside0 (kq ≤ k) ∧ Aside0 (Kd.R k76 76 w' w.heap.size (fun _ => True) v4 x4_1) ∧ Aside0 (w'.heap[gb629]? = some (.cells #[.int .i64 a0_0, (.slice A0_1 l0_1.length c0_1), (.slice A0_2 l0_2.length c0_2)] 30 (0, 0))) ∧ Aside0 (Below w.heap.size w w'))
 case atStart => exact ⟨(([] : List (S76))), (0), (by first | rfl | (simp; done) | (simp [*]; done)), H', ⟨Nat.le_refl _⟩, ⟨by first | exact Kd.R_nil _ _ _ _ _ | exact Kd.N_nil _ _ _ _ _ | exact Kd.V_nil _ _ _ _ _ | exact Kd.Q_nil _ _ _ _ _ | exact Kd.S_nil _ _ _ _ _⟩, ⟨bkC BK629⟩, ⟨hbC _⟩⟩
 case round =>
  clear H'
  try clear p2
  try clear c3
  try clear c4
  try clear c4b0
  try clear c4b1
  try clear c6
  try clear hcz10_0
  try clear hcz10_1
  try clear hcz10_2
  try clear hcz12_0
  try clear hcz12_1
  try clear hcz12_2
  try clear hcz6_0
  try clear hcz6_1
  try clear hcz6_2
  try clear hcz8_0
  try clear hcz8_1
  try clear hcz8_2
  try clear hfz10_0
  try clear hfz10_1
  try clear hfz10_2
  try clear hfz12_0
  try clear hfz12_1
  try clear hfz12_2
  try clear hfz6_0
  try clear hfz6_1
  try clear hfz6_2
  try clear hfz8_0
  try clear hfz8_1
  try clear hfz8_2
  obtain ⟨x4_1, x20_1, rfl, HA, HK1, HO_4, BK629, HB⟩ := hrel
  cases gk with
  | zero => exact absurd HA.out (by simp [curves_Means.l0])
  | succ k1 =>
   have H := HA.out
   clear HA
   simp only [curves_Means.l0] at H
   by_cases c13 : x20_1 < (l0_2.length : Int)
   rotate_left
   ·rw [if_neg c13] at H
    have c13b0 : decide (x20_1 < (l0_2.length : Int)) = false := decide_eq_false c13
    clear c13
    replace H := Option.bind_eq_some_iff.mp H
    obtain ⟨t631, A280, H⟩ := H
    replace H : (some (t631, 0)) = some (r1, r2) := H
    have A28 := Aside0.mk A280
    clear A280
    simp only [Option.some.injEq, Prod.mk.injEq] at H
    obtain ⟨rfl, rfl⟩ := H
    obtain ⟨Ao29, co29, eo29⟩ := Kd.R_slice HO_4.out
    subst eo29
    go_wp2_with (first | ((with_reducible refine gate_callee (f := 52) rfl ?_); refine gL 51 Try.func52 #[.slice Ao29 x4_1.length co29] ?_; (with_reducible refine (curves_told.calls k1 _ _ x4_1 t631 _ ?side1 ?side2 A28.out).mono ?_); (case side1 => exact kD (Kd.R_reads' HO_4.out).2.2); (case side2 => exact (Kd.R_reads' HO_4.out).2.1); rintro e w30 ⟨v632, rfl, ho0, hb⟩; refine ⟨_, rfl, ?_⟩; replace HO_4 := kO HO_4 hb; have HO633 := ak (Kd.R_lower ho0 (below_size (hbC _))); replace BK629 := kB BK629 hb; replace HB := kH _ hb; (try clear hb); (try clear hb2); (try clear hk); (try clear hi); (try clear ho0)))
    go_ret2
    exact ⟨_, by first | rfl | (simp [errW_none, errW_some] <;> rfl) | (simp [*, errW_none, errW_some] <;> rfl), rC HO633, hbC _⟩
   rw [if_pos c13] at H
   have c13b0 : decide (x20_1 < (l0_2.length : Int)) = true := decide_eq_true c13
   clear c13
   obtain ⟨ji14, hji14⟩ : ∃ j_ : Int, (wrap64 (x20_1 + 1)) = j_ := ⟨_, rfl⟩
   replace H : (if 0 ≤ (ji14) then (if (ji14) ≤ (wrap64 ((ji14) + a0_0)) then (if (wrap64 ((ji14) + a0_0)) ≤ (l0_1.length : Int) then (curves_Means.l1 k1 x4_1 0 (l0_2.length : Int) x20_1 ((l0_1.take ((wrap64 ((ji14) + a0_0)) : Int).toNat).drop ((ji14) : Int).toNat) (((l0_1.take ((wrap64 ((ji14) + a0_0)) : Int).toNat).drop ((ji14) : Int).toNat).length : Int) 0 a0_0 l0_1 l0_2) else (none)) else (none)) else (none)) = some (r1, r2) := by first | (rw [hji14] at H; exact H) | (simp only [hji14] at H ⊢; exact H)
   have hji14w : (IntKind.i64.wrap (x20_1 + 1)) = ji14 := (i64_w _).trans hji14
   by_cases c15 : 0 ≤ (ji14)
   rotate_left
   ·rw [if_neg c15] at H
    exact absurd H (by simp)
   rw [if_pos c15] at H
   have c15b0 := eq_true c15
   have c15b1 : decide (0 ≤ (ji14)) = true := decide_eq_true c15
   clear c15
   by_cases c16 : (ji14) ≤ (wrap64 ((ji14) + a0_0))
   rotate_left
   ·rw [if_neg c16] at H
    exact absurd H (by simp)
   rw [if_pos c16] at H
   have c16b0 := eq_true c16
   have c16b1 : decide ((ji14) ≤ (wrap64 ((ji14) + a0_0))) = true := decide_eq_true c16
   by_cases c17 : (wrap64 ((ji14) + a0_0)) ≤ (l0_1.length : Int)
   rotate_left
   ·rw [if_neg c17] at H
    exact absurd H (by simp)
   rw [if_pos c17] at H
   have c17b0 := eq_true c17
   have c17b1 : decide ((wrap64 ((ji14) + a0_0)) ≤ (l0_1.length : Int)) = true := decide_eq_true c17
   have H' := Aside0.mk H
   clear H
   have hcz18_0 : wr.cell? ⟨gb629, 0, none⟩ = some (.int .i64 a0_0) := bc BK629 0
   have hcz18_1 : wr.cell? ⟨gb629, 1, none⟩ = some (.slice A0_1 l0_1.length c0_1) := bc BK629 1
   have hcz18_2 : wr.cell? ⟨gb629, 2, none⟩ = some (.slice A0_2 l0_2.length c0_2) := bc BK629 2
   have hfz18_0 := fz BK629 0
   have hfz18_1 := fz BK629 1
   have hfz18_2 := fz BK629 2
   obtain ⟨i019, hi019, _, hsz19, _⟩ := info_parts info3
   obtain ⟨A19, hcut19, hA19, hC19⟩ := print_mid_of (P := Try.prog) (Value.int .i64) 0 22 3 .i64 .i64 Try.underlying22 hi019 hsz19 A0_1 c0_1 l0_1 (ji14) (wrap64 ((ji14) + a0_0)) (dA) (by first | omega | exact dA) (dA) HC0_1.out
   have HR634 := ak (Kd.C_of_reads (h1 := fun _ => rfl) (hA19 _ (Kd.reads_of_C HR0_1.out)))
   have HC634 := Aside0.mk hC19
   clear hA19 hC19 hi019 hsz19
   go_wp2
   have hmin9_ : (wrap64 ((ji14) + a0_0) : Int).toNat ≤ l0_1.length := by omega
   go_loopg [6, 34] k1 (fun kq v6 v34 w' => ∃ (x6_2 : Int) (x34_2 : Int), v6 = .int .i64 x6_2 ∧ v34 = .int .i64 x34_2 ∧ Aside0 (curves_Means.l1 kq x4_1 x6_2 (l0_2.length : Int) x20_1 ((l0_1.take ((wrap64 ((ji14) + a0_0)) : Int).toNat).drop ((ji14) : Int).toNat) (((l0_1.take ((wrap64 ((ji14) + a0_0)) : Int).toNat).drop ((ji14) : Int).toNat).length : Int) x34_2 a0_0 l0_1 l0_2 = some (r1, r2)) ∧ Aside0 (kq ≤ k1) ∧ Aside0 (Kd.R k76 76 w' w.heap.size (fun _ => True) u4 x4_1) ∧ Aside0 (w'.heap[gb629]? = some (.cells #[.int .i64 a0_0, (.slice A0_1 l0_1.length c0_1), (.slice A0_2 l0_2.length c0_2)] 30 (0, 0))) ∧ Aside0 (Below w.heap.size w w'))
   case atStart => exact ⟨(0), (0), (by first | rfl | (simp; done) | (simp [*]; done)), (by first | rfl | (simp; done) | (simp [*]; done)), H', ⟨Nat.le_refl _⟩, ⟨rC HO_4⟩, ⟨bkC BK629⟩, ⟨hbC _⟩⟩
   case round =>
    clear H'
    try clear c1
    try clear p2
    try clear c3
    try clear c4
    try clear c4b0
    try clear c4b1
    try clear c6
    try clear p6
    try clear c13
    try clear c13b0
    try clear c15
    try clear c15b0
    try clear c15b1
    try clear c16
    try clear c16b0
    try clear c16b1
    try clear c17
    try clear c17b0
    try clear c17b1
    try clear hcz10_0
    try clear hcz10_1
    try clear hcz10_2
    try clear hcz12_0
    try clear hcz12_1
    try clear hcz12_2
    try clear hcz18_0
    try clear hcz18_1
    try clear hcz18_2
    try clear hcz6_0
    try clear hcz6_1
    try clear hcz6_2
    try clear hcz8_0
    try clear hcz8_1
    try clear hcz8_2
    try clear hfz10_0
    try clear hfz10_1
    try clear hfz10_2
    try clear hfz12_0
    try clear hfz12_1
    try clear hfz12_2
    try clear hfz18_0
    try clear hfz18_1
    try clear hfz18_2
    try clear hfz6_0
    try clear hfz6_1
    try clear hfz6_2
    try clear hfz8_0
    try clear hfz8_1
    try clear hfz8_2
    try clear p2
    obtain ⟨x6_2, x34_2, rfl, rfl, HA, HK2, HO_4, BK629, HB⟩ := hrel
    cases gk with
    | zero => exact absurd HA.out (by simp [curves_Means.l1])
    | succ k2 =>
     have H := HA.out
     clear HA
     simp only [curves_Means.l1] at H
     by_cases c20 : x34_2 < (((l0_1.take ((wrap64 ((ji14) + a0_0)) : Int).toNat).drop ((ji14) : Int).toNat).length : Int)
     ·rw [if_pos c20] at H
      have c20b0 : decide (x34_2 < (((l0_1.take ((wrap64 ((ji14) + a0_0)) : Int).toNat).drop ((ji14) : Int).toNat).length : Int)) = true := decide_eq_true c20
      have c20b0z := c20b0
      rw [List.length_drop, List.length_take, Nat.min_eq_left hmin9_] at c20b0z
      clear c20
      by_cases c21 : 0 ≤ x34_2
      rotate_left
      ·rw [if_neg c21] at H
       exact absurd H (by simp)
      rw [if_pos c21] at H
      have c21b0 : decide (0 ≤ x34_2) = true := decide_eq_true c21
      clear c21
      by_cases c22 : x34_2 < (((l0_1.take ((wrap64 ((ji14) + a0_0)) : Int).toNat).drop ((ji14) : Int).toNat).length : Int)
      rotate_left
      ·rw [if_neg c22] at H
       exact absurd H (by simp)
      rw [if_pos c22] at H
      have c22b0 : decide (x34_2 < (((l0_1.take ((wrap64 ((ji14) + a0_0)) : Int).toNat).drop ((ji14) : Int).toNat).length : Int)) = true := decide_eq_true c22
      have c22b0z := c22b0
      rw [List.length_drop, List.length_take, Nat.min_eq_left hmin9_] at c22b0z
      clear c22
      have H' := Aside0.mk H
      clear H
      have p635 : 0 ≤ (x34_2 : Int) := dA
      have q635 : x34_2 < (((l0_1.take ((wrap64 ((ji14) + a0_0)) : Int).toNat).drop ((ji14) : Int).toNat).length : Int) := dA
      have q635z := q635
      rw [List.length_drop, List.length_take, Nat.min_eq_left hmin9_] at q635z
      obtain ⟨ad635, e635, hx635_0⟩ := Kd.at_int HR634.out x34_2 p635 q635
      cases e635
      try replace hx635_0 := (HB.out.cell (World.block_lt_of_cell? w _ hx635_0)).trans hx635_0
      replace p635 := eq_true p635
      replace q635 := eq_true q635
      go_wp2
      go_roundg k2
      case measure => have := HK1.out; have := HK2.out; omega
      case rel => exact ⟨(wrap64 (x6_2 + (rd ((l0_1.take ((wrap64 ((ji14) + a0_0)) : Int).toNat).drop ((ji14) : Int).toNat) x34_2))), (wrap64 (x34_2 + 1)), (by first | rfl | (simp; done) | (simp only [← hji14] <;> (first | rfl | simp)) | (simp [*]; done)), (by first | rfl | (simp; done) | (simp [*]; done)), H', ⟨by have := HK1.out; have := HK2.out; omega⟩, ⟨rC HO_4⟩, ⟨bkC BK629⟩, ⟨hbC _⟩⟩
     rw [if_neg c20] at H
     have c20b0 : decide (x34_2 < (((l0_1.take ((wrap64 ((ji14) + a0_0)) : Int).toNat).drop ((ji14) : Int).toNat).length : Int)) = false := decide_eq_false c20
     have c20b0z := c20b0
     rw [List.length_drop, List.length_take, Nat.min_eq_left hmin9_] at c20b0z
     clear c20
     replace H := Option.bind_eq_some_iff.mp H
     obtain ⟨⟨t636, t637⟩, A230, H⟩ := H
     replace H : (if x4_1.length < 8796093022208 then (curves_Means.l0 k2 (x4_1 ++ [(⟨(⟨t636, t637⟩ : S26)⟩ : S76)]) (l0_2.length : Int) (wrap64 (x20_1 + 1)) a0_0 l0_1 l0_2) else (none)) = some (r1, r2) := H
     have A23 := Aside0.mk A230
     clear A230
     by_cases c24 : x4_1.length < 8796093022208
     rotate_left
     ·rw [if_neg c24] at H
      exact absurd H (by simp)
     rw [if_pos c24] at H
     have LMc24 := Aside0.mk c24
     clear c24
     obtain ⟨y638, hy638⟩ : ∃ y_ : List (S76), y_ = (x4_1 ++ [(⟨(⟨t636, t637⟩ : S26)⟩ : S76)]) := ⟨_, rfl⟩
     replace H : (curves_Means.l0 k2 y638 (l0_2.length : Int) (wrap64 (x20_1 + 1)) a0_0 l0_1 l0_2) = some (r1, r2) := by first | (rw [hy638]; with_reducible exact H) | (have H2_ := (Option.bind_some _ _).symm.trans H; rw [hy638]; with_reducible exact H2_) | (have H2_ := (Option.bind_some _ _).symm.trans H; with_reducible exact H2_) | with_reducible exact H | (rw [hy638]; exact H) | exact H
     have Ny638 := Aside0.mk hy638
     clear hy638
     have H' := Aside0.mk H
     clear H
     have hcz25_0 : wr.cell? ⟨gb629, 0, none⟩ = some (.int .i64 a0_0) := bc BK629 0
     have hcz25_1 : wr.cell? ⟨gb629, 1, none⟩ = some (.slice A0_1 l0_1.length c0_1) := bc BK629 1
     have hcz25_2 : wr.cell? ⟨gb629, 2, none⟩ = some (.slice A0_2 l0_2.length c0_2) := bc BK629 2
     have hfz25_0 := fz BK629 0
     have hfz25_1 := fz BK629 1
     have hfz25_2 := fz BK629 2
     go_wp2_with (first | ((with_reducible refine gate_callee (f := 48) rfl ?_); refine gL 46 Try.func48 #[.int .i64 x6_2, .int .i64 a0_0] ?_; (with_reducible refine (curves_of.calls k2 x6_2 a0_0 t636 t637 _ A23.out).mono ?_); rintro e w26 ⟨rfl, hb⟩; refine ⟨_, rfl, ?_⟩; replace HO_4 := kO HO_4 hb; replace BK629 := kB BK629 hb; replace HB := kH _ hb; (try clear hb); (try clear hb2); (try clear hk); (try clear hi)) | ((with_reducible refine gate_builtin (b := .append) (xs := #[.tmp 42, .tmp 47]) rfl ?_); at_builtin; refine Kd.R_append k76 (w0 := w) w.heap.size rfl (.tmp 42) (.tmp 47) 80 76 (.agg #[(.int .i64 0), (.int .i64 0)]) 16 rfl Try.underlying80 info76 rfl (by decide) (by omega) u4 x4_1 (⟨(⟨t636, t637⟩ : S26)⟩ : S76) [.int .i64 t636, .int .i64 t637] (fun _ => True) (fun _ => False) rfl rfl ?aP (fun _ hk => hk.elim) ?aF ?aO ?aB ?aS ?aL ?_; (case aP => exact k76_mkM _ _ _ (⟨(⟨t636, t637⟩ : S26)⟩ : S76)); (case aB => exact (hbC _)); (case aF => exact (fun _ _ => trivial)); (case aO => exact (rC HO_4)); (case aS => exact (below_size (hbC _))); (case aL => have := LMc24.out; omega); intro v639 w27 ho hb hg hat; rw [← Ny638.out] at ho; have n0_ := ak (blk_grown (g := gb629) (o := .cells #[.int .i64 a0_0, .slice A0_1 l0_1.length c0_1, .slice A0_2 l0_2.length c0_2] 30 (0, 0)) (bkC BK629) hg (Kd.R_ne HO_4.out BK629.out (by decide))); have n1_ := ak (hb); have n2_ := ak (ho); clear BK629; clear HB; clear HO_4; have BK629 := n0_; have HB := n1_; have HO640 := n2_; clear n0_ n1_ n2_; clear ho hb hg hat))
     go_roundg k2
     case measure => have := HK1.out; have := HK2.out; omega
     case rel => exact ⟨(y638), (wrap64 (x20_1 + 1)), (by first | rfl | (simp; done) | (simp [*]; done)), H', ⟨by have := HK1.out; have := HK2.out; omega⟩, ⟨rC HO640⟩, ⟨bkC BK629⟩, ⟨hbC _⟩⟩

end Go.Proofs.Ytpnocmkpeogifaa.X
