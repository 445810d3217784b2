-- Written by a program of this work (wip/xprint.py, over the kit's printer) out of the translation.
import Derived.Test.YtpnocmkpeogifaaX0
import Derived.Test.YtpnocmkpeogifaaXG2a
import Derived.Test.YtpnocmkpeogifaaXf15
import Derived.Test.YtpnocmkpeogifaaXf17
import Derived.Test.YtpnocmkpeogifaaXf29
import Derived.Test.YtpnocmkpeogifaaXf44
import Derived.Test.YtpnocmkpeogifaaXf46
namespace Go.Proofs.Ytpnocmkpeogifaa.X
open Go.RowKit Go.Proofs.YtpnocmkpeogifaaW.PrintWords Go.Proofs.YtpnocmkpeogifaaW.PrintLast Go.Proofs.YtpnocmkpeogifaaW.PrintMore
attribute [local go_sem] max2_int min2_int max_two min_two max_three min_three max_four min_four   -- for this text's walks alone
set_option linter.unusedVariables false
set_option linter.unusedSimpArgs false

/-! ### congoulaw04_CurvesInserts: function 13 -/
def congoulaw04_CurvesInserts.j0 : Nat → Int → List (S26) → Int → Bool → Int → List Int → List Int → Option (Bool)
 | 0, _, _, _, _, _, _, _ => none
 | k + 1, x1, x5, x6, x39, x1140000, x1140001, x1140002 => if x39 = true then (if (x5.length : Int) = 0 then (if x6 = 2 then ((congoulaw04_awake.f k).bind fun t1154 => (some t1154)) else (some false)) else (some false)) else ((congouref04_Insert.f k x1140000 x1140001 x1140002 x1).bind fun bt1155 => ((api_Frac.f k x5 bt1155.1).bind fun t1159 => (if t1159 = true then (if x6 = bt1155.2 then ((congoulaw04_awake.f k).bind fun t1160 => (some t1160)) else (some false)) else (some false))))
def congoulaw04_CurvesInserts.f (k : Nat) (a0_0 : Int) (l0_1 : List Int) (l0_2 : List Int) (a1 : Int) : Option (Bool) := (congoulaw04_Of.f a0_0 l0_1 l0_2).bind fun bt1140 => ((curves_Insert.f k bt1140.1 bt1140.2.1 bt1140.2.2 a1).bind fun bt1147 => ((congouref04_Valid.f k a0_0 l0_1 l0_2).bind fun t1151 => (if t1151 = true then (if 0 ≤ a0_0 then (if a0_0 < (l0_1.length : Int) then (if a1 < (rd l0_1 a0_0) then (congoulaw04_CurvesInserts.j0 k a1 bt1147.1 bt1147.2 true a0_0 l0_1 l0_2) else (if 0 ≤ (l0_2.length : Int) then (if (l0_2.length : Int) < (l0_1.length : Int) then (congoulaw04_CurvesInserts.j0 k a1 bt1147.1 bt1147.2 (decide (a1 ≥ (rd l0_1 (l0_2.length : Int)))) a0_0 l0_1 l0_2) else (none)) else (none))) else (none)) else (none)) else (congoulaw04_CurvesInserts.j0 k a1 bt1147.1 bt1147.2 true a0_0 l0_1 l0_2))))
theorem congoulaw04_CurvesInserts.mono_l : ∀ k, (∀ y0 y1 y2 y3 y4 y5 y6, LeO (congoulaw04_CurvesInserts.j0 k y0 y1 y2 y3 y4 y5 y6) (congoulaw04_CurvesInserts.j0 (k + 1) y0 y1 y2 y3 y4 y5 y6))
 | 0 => fun _ _ _ _ _ _ _ r h => by simp [congoulaw04_CurvesInserts.j0] at h
 | k + 1 => by
  have ih0 := congoulaw04_CurvesInserts.mono_l k
  ·intro y0 y1 y2 y3 y4 y5 y6
   unfold congoulaw04_CurvesInserts.j0
   repeat' first
   | (with_reducible exact ih0 _ _ _ _ _ _ _)
   | (with_reducible exact api_Frac.mono _ _ _)
   | (with_reducible exact congoulaw04_awake.mono _)
   | (with_reducible exact congouref04_Insert.mono _ _ _ _ _)
   | (with_reducible exact congouref04_Valid.mono _ _ _ _)
   | (with_reducible exact curves_Insert.mono _ _ _ _ _)
   | (with_reducible exact LeO.refl _)
   | (with_reducible exact LeO.none _)
   | (with_reducible refine LeO.ite ?_ ?_)
   | (with_reducible refine LeO.bind ?_ (fun _ => ?_))
   | exact ih0 _ _ _ _ _ _ _
   | exact api_Frac.mono _ _ _
   | exact congoulaw04_awake.mono _
   | exact congouref04_Insert.mono _ _ _ _ _
   | exact congouref04_Valid.mono _ _ _ _
   | exact curves_Insert.mono _ _ _ _ _
   | exact LeO.none _
   | refine LeO.ite ?_ ?_
   | refine LeO.bind ?_ (fun _ => ?_)
theorem congoulaw04_CurvesInserts.mono : ∀ a0 a1 a2 a3 k, LeO (congoulaw04_CurvesInserts.f k a0 a1 a2 a3) (congoulaw04_CurvesInserts.f (k + 1) a0 a1 a2 a3) := by
 intro a0 a1 a2 a3 k
 have ih0 := congoulaw04_CurvesInserts.mono_l k
 unfold congoulaw04_CurvesInserts.f
 repeat' first
   | (with_reducible exact ih0 _ _ _ _ _ _ _)
   | (with_reducible exact api_Frac.mono _ _ _)
   | (with_reducible exact congoulaw04_awake.mono _)
   | (with_reducible exact congouref04_Insert.mono _ _ _ _ _)
   | (with_reducible exact congouref04_Valid.mono _ _ _ _)
   | (with_reducible exact curves_Insert.mono _ _ _ _ _)
   | (with_reducible exact LeO.refl _)
   | (with_reducible exact LeO.none _)
   | (with_reducible refine LeO.ite ?_ ?_)
   | (with_reducible refine LeO.bind ?_ (fun _ => ?_))
   | exact ih0 _ _ _ _ _ _ _
   | exact api_Frac.mono _ _ _
   | exact congoulaw04_awake.mono _
   | exact congouref04_Insert.mono _ _ _ _ _
   | exact congouref04_Valid.mono _ _ _ _
   | exact curves_Insert.mono _ _ _ _ _
   | exact LeO.none _
   | refine LeO.ite ?_ ?_
   | refine LeO.bind ?_ (fun _ => ?_)
set_option maxHeartbeats 8000000 in
set_option maxRecDepth 100000 in
theorem congoulaw04_CurvesInserts.calls (k : Nat) (a0_0 : Int) (A0_1 : Option Addr) (c0_1 : Nat) (l0_1 : List Int) (A0_2 : Option Addr) (c0_2 : Nat) (l0_2 : List Int) (a1 : Int) (r : Bool) (w : World) (hr0_1 : Kd.C (Kd.int .i64) w A0_1 l0_1.length l0_1) (hc0_1 : l0_1.length ≤ c0_1) (hr0_2 : Kd.C (Kd.int .i64) w A0_2 l0_2.length l0_2) (hc0_2 : l0_2.length ≤ c0_2) (hrt : r = true) (h : congoulaw04_CurvesInserts.f k a0_0 l0_1 l0_2 a1 = some r) :
  Calls Try.prog 13 #[.agg #[.int .i64 a0_0, .slice A0_1 l0_1.length c0_1, .slice A0_2 l0_2.length c0_2], .int .i64 a1] w fun e w' => e = .returned (.bool r) ∧ Below w.heap.size w w' := by
 have hu24 := Try.underlying24
 have HR0_1 := Aside0.mk hr0_1
 have HC0_1 := Aside0.mk hc0_1
 clear hr0_1 hc0_1
 have HR0_2 := Aside0.mk hr0_2
 have HC0_2 := Aside0.mk hc0_2
 clear hr0_2 hc0_2
 have HB := ak (Below.refl w.heap.size w)
 have H : ((congoulaw04_Of.f a0_0 l0_1 l0_2).bind fun bt1140 => ((curves_Insert.f k bt1140.1 bt1140.2.1 bt1140.2.2 a1).bind fun bt1147 => ((congouref04_Valid.f k a0_0 l0_1 l0_2).bind fun t1151 => (if t1151 = true then (if 0 ≤ a0_0 then (if a0_0 < (l0_1.length : Int) then (if a1 < (rd l0_1 a0_0) then (congoulaw04_CurvesInserts.j0 k a1 bt1147.1 bt1147.2 true a0_0 l0_1 l0_2) else (if 0 ≤ (l0_2.length : Int) then (if (l0_2.length : Int) < (l0_1.length : Int) then (congoulaw04_CurvesInserts.j0 k a1 bt1147.1 bt1147.2 (decide (a1 ≥ (rd l0_1 (l0_2.length : Int)))) a0_0 l0_1 l0_2) else (none)) else (none))) else (none)) else (none)) else (congoulaw04_CurvesInserts.j0 k a1 bt1147.1 bt1147.2 true a0_0 l0_1 l0_2))))) = some r := h
 clear h
 have HRT := Aside0.mk hrt
 clear hrt
 replace H := Option.bind_eq_some_iff.mp H
 obtain ⟨⟨t1140, t1141, t1144⟩, A30, H⟩ := H
 replace H : ((curves_Insert.f k t1140 t1141 t1144 a1).bind fun bt1147 => ((congouref04_Valid.f k a0_0 l0_1 l0_2).bind fun t1151 => (if t1151 = true then (if 0 ≤ a0_0 then (if a0_0 < (l0_1.length : Int) then (if a1 < (rd l0_1 a0_0) then (congoulaw04_CurvesInserts.j0 k a1 bt1147.1 bt1147.2 true a0_0 l0_1 l0_2) else (if 0 ≤ (l0_2.length : Int) then (if (l0_2.length : Int) < (l0_1.length : Int) then (congoulaw04_CurvesInserts.j0 k a1 bt1147.1 bt1147.2 (decide (a1 ≥ (rd l0_1 (l0_2.length : Int)))) a0_0 l0_1 l0_2) else (none)) else (none))) else (none)) else (none)) else (congoulaw04_CurvesInserts.j0 k a1 bt1147.1 bt1147.2 true a0_0 l0_1 l0_2)))) = some r := H
 have A3 := Aside0.mk A30
 clear A30
 replace H := Option.bind_eq_some_iff.mp H
 obtain ⟨⟨t1147, t1150⟩, A40, H⟩ := H
 replace H : ((congouref04_Valid.f k a0_0 l0_1 l0_2).bind fun t1151 => (if t1151 = true then (if 0 ≤ a0_0 then (if a0_0 < (l0_1.length : Int) then (if a1 < (rd l0_1 a0_0) then (congoulaw04_CurvesInserts.j0 k a1 t1147 t1150 true a0_0 l0_1 l0_2) else (if 0 ≤ (l0_2.length : Int) then (if (l0_2.length : Int) < (l0_1.length : Int) then (congoulaw04_CurvesInserts.j0 k a1 t1147 t1150 (decide (a1 ≥ (rd l0_1 (l0_2.length : Int)))) a0_0 l0_1 l0_2) else (none)) else (none))) else (none)) else (none)) else (congoulaw04_CurvesInserts.j0 k a1 t1147 t1150 true a0_0 l0_1 l0_2))) = some r := H
 have A4 := Aside0.mk A40
 clear A40
 have HC5 := Aside0.mk H
 clear H
 go_enter Try.func13, Try.ntmps13
 go_upto_region 2 with (first | ((with_reducible refine gate_dst (N := 2) rfl ?_); (try (refine gate_guard (by rfl) ?_; dsimp only)); refine bE 2 #[.int .i64 a0_0, .slice A0_1 l0_1.length c0_1, .slice A0_2 l0_2.length c0_2] 24 ?_; intro gb1139 hg w6 hbox hb; have BK1139 := ak (hbox); have GW1139 := kG w hg; have GE1139 := kG w hg; replace HB := kH _ hb; clear hb hbox hg; have hcz7_0 : w6.cell? ⟨gb1139, 0, none⟩ = some (.int .i64 a0_0) := bc BK1139 0; have hcz7_1 : w6.cell? ⟨gb1139, 1, none⟩ = some (.slice A0_1 l0_1.length c0_1) := bc BK1139 1; have hcz7_2 : w6.cell? ⟨gb1139, 2, none⟩ = some (.slice A0_2 l0_2.length c0_2) := bc BK1139 2; have hfz7_0 := fz BK1139 0; have hfz7_1 := fz BK1139 1; have hfz7_2 := fz BK1139 2) | ((with_reducible refine gate_callee (f := 15) rfl ?_); refine gL 11 Try.func15 #[.agg #[.int .i64 a0_0, .slice A0_1 l0_1.length c0_1, .slice A0_2 l0_2.length c0_2]] ?_; (with_reducible refine (congoulaw04_Of.calls a0_0 _ _ l0_1 _ _ l0_2 t1140 t1141 t1144 _ ?side1 ?side2 ?side3 ?side4 A3.out).mono ?_); (case side1 => exact kC HR0_1); (case side2 => exact HC0_1.out); (case side3 => exact kC HR0_2); (case side4 => exact HC0_2.out); rintro e w8 ⟨v1142, v1145, rfl, ho0, ho1, hb⟩; refine ⟨_, rfl, ?_⟩; have HO1143 := ak (Kd.R_lower ho0 (below_size (hbC _))); have HO1146 := ak (Kd.R_lower ho1 (below_size (hbC _))); replace BK1139 := kB BK1139 hb; replace HB := kH _ hb; (try clear hb); (try clear hb2); (try clear hk); (try clear hi); (try clear ho0); (try clear ho1); obtain ⟨Ao9, co9, eo9⟩ := Kd.R_slice HO1143.out; subst eo9; obtain ⟨Ao10, co10, eo10⟩ := Kd.R_slice HO1146.out; subst eo10) | ((with_reducible refine gate_callee (f := 44) rfl ?_); refine gL 13 Try.func44 #[.agg #[.int .i64 t1140, .slice Ao9 t1141.length co9, .slice Ao10 t1144.length co10], .int .i64 a1] ?_; (with_reducible refine (curves_Insert.calls k t1140 _ _ t1141 _ _ t1144 a1 t1147 t1150 _ ?side1 ?side2 ?side3 ?side4 A4.out).mono ?_); (case side1 => exact kD (Kd.R_reads' HO1143.out).2.2); (case side2 => exact (Kd.R_reads' HO1143.out).2.1); (case side3 => exact kD (Kd.R_reads' HO1146.out).2.2); (case side4 => exact (Kd.R_reads' HO1146.out).2.1); rintro e w11 ⟨v1148, rfl, ho0, hb⟩; refine ⟨_, rfl, ?_⟩; replace HO1143 := kO HO1143 hb; replace HO1146 := kO HO1146 hb; have HO1149 := ak (Kd.R_lower ho0 (below_size (hbC _))); replace BK1139 := kB BK1139 hb; replace HB := kH _ hb; (try clear hb); (try clear hb2); (try clear hk); (try clear hi); (try clear ho0)))
 (try simp only [Act.put, List.setIfInBounds_toArray, List.set_cons_zero, List.set_cons_succ])
 go_cut [39] (fun v39 wc => ∃ (kq : Nat) (x39_4 : Bool), v39 = .bool x39_4 ∧ Aside0 (congoulaw04_CurvesInserts.j0 kq a1 t1147 t1150 x39_4 a0_0 l0_1 l0_2 = some r) ∧ Aside0 (kq ≤ k) ∧ Aside0 (Kd.R k26 26 wc w.heap.size (fun _ => True) v1148 t1147) ∧ Aside0 (wc.heap[gb1139]? = some (.cells #[.int .i64 a0_0, (.slice A0_1 l0_1.length c0_1), (.slice A0_2 l0_2.length c0_2)] 24 (0, 0))) ∧ Aside0 (Below w.heap.size w wc))
 case first =>
  have H := HC5.out
  clear HC5
  replace H := Option.bind_eq_some_iff.mp H
  obtain ⟨t1151, A120, H⟩ := H
  replace H : (if t1151 = true then (if 0 ≤ a0_0 then (if a0_0 < (l0_1.length : Int) then (if a1 < (rd l0_1 a0_0) then (congoulaw04_CurvesInserts.j0 k a1 t1147 t1150 true a0_0 l0_1 l0_2) else (if 0 ≤ (l0_2.length : Int) then (if (l0_2.length : Int) < (l0_1.length : Int) then (congoulaw04_CurvesInserts.j0 k a1 t1147 t1150 (decide (a1 ≥ (rd l0_1 (l0_2.length : Int)))) a0_0 l0_1 l0_2) else (none)) else (none))) else (none)) else (none)) else (congoulaw04_CurvesInserts.j0 k a1 t1147 t1150 true a0_0 l0_1 l0_2)) = some r := H
  have A12 := Aside0.mk A120
  clear A120
  by_cases c13 : t1151 = true
  rotate_left
  ·replace c13 := Bool.eq_false_iff.mpr c13
   subst c13
   have H1 : (congoulaw04_CurvesInserts.j0 k a1 t1147 t1150 true a0_0 l0_1 l0_2) = some r := by rw [if_neg (show ¬ (false = true) by decide)] at H; exact H
   clear H
   have H := H1
   clear H1
   have H' := Aside0.mk H
   clear H
   have hcz25_0 : w11.cell? ⟨gb1139, 0, none⟩ = some (.int .i64 a0_0) := bc BK1139 0
   have hcz25_1 : w11.cell? ⟨gb1139, 1, none⟩ = some (.slice A0_1 l0_1.length c0_1) := bc BK1139 1
   have hcz25_2 : w11.cell? ⟨gb1139, 2, none⟩ = some (.slice A0_2 l0_2.length c0_2) := bc BK1139 2
   have hfz25_0 := fz BK1139 0
   have hfz25_1 := fz BK1139 1
   have hfz25_2 := fz BK1139 2
   go_wp2_with (first | ((with_reducible refine gate_callee (f := 29) rfl ?_); refine gL 17 Try.func29 #[.agg #[.int .i64 a0_0, .slice A0_1 l0_1.length c0_1, .slice A0_2 l0_2.length c0_2]] ?_; (with_reducible refine (congouref04_Valid.calls k a0_0 _ _ l0_1 _ _ l0_2 false _ ?side1 ?side2 ?side3 ?side4 A12.out).mono ?_); (case side1 => exact kC HR0_1); (case side2 => exact HC0_1.out); (case side3 => exact kC HR0_2); (case side4 => exact HC0_2.out); rintro e w26 ⟨rfl, hb⟩; refine ⟨_, rfl, ?_⟩; replace HO1143 := kO HO1143 hb; replace HO1146 := kO HO1146 hb; replace HO1149 := kO HO1149 hb; replace BK1139 := kB BK1139 hb; replace HB := kH _ hb; (try clear hb); (try clear hb2); (try clear hk); (try clear hi)))
   go_meet
   case rel => exact ⟨_, (true), (by first | rfl | (simp; done) | (simp [*]; done)), H', ⟨by first | omega | exact Nat.le_refl _⟩, ⟨rC HO1149⟩, ⟨bkC BK1139⟩, ⟨hbC _⟩⟩
  subst c13
  have H1 : (if 0 ≤ a0_0 then (if a0_0 < (l0_1.length : Int) then (if a1 < (rd l0_1 a0_0) then (congoulaw04_CurvesInserts.j0 k a1 t1147 t1150 true a0_0 l0_1 l0_2) else (if 0 ≤ (l0_2.length : Int) then (if (l0_2.length : Int) < (l0_1.length : Int) then (congoulaw04_CurvesInserts.j0 k a1 t1147 t1150 (decide (a1 ≥ (rd l0_1 (l0_2.length : Int)))) a0_0 l0_1 l0_2) else (none)) else (none))) else (none)) else (none)) = some r := by rw [if_pos rfl] at H; exact H
  clear H
  have H := H1
  clear H1
  by_cases c14 : 0 ≤ a0_0
  rotate_left
  ·rw [if_neg c14] at H
   exact absurd H (by simp)
  rw [if_pos c14] at H
  have c14b0 : decide (0 ≤ a0_0) = true := decide_eq_true c14
  clear c14
  (first | rw [c14b0] | (simp only [i64_w, i32_w]; rw [c14b0]) | skip)
  by_cases c15 : a0_0 < (l0_1.length : Int)
  rotate_left
  ·rw [if_neg c15] at H
   exact absurd H (by simp)
  rw [if_pos c15] at H
  have c15b0 : decide (a0_0 < (l0_1.length : Int)) = true := decide_eq_true c15
  clear c15
  by_cases c16 : a1 < (rd l0_1 a0_0)
  ·rw [if_pos c16] at H
   have c16b0 : decide (a1 < (rd l0_1 a0_0)) = true := decide_eq_true c16
   clear c16
   have H' := Aside0.mk H
   clear H
   have hcz17_0 : w11.cell? ⟨gb1139, 0, none⟩ = some (.int .i64 a0_0) := bc BK1139 0
   have hcz17_1 : w11.cell? ⟨gb1139, 1, none⟩ = some (.slice A0_1 l0_1.length c0_1) := bc BK1139 1
   have hcz17_2 : w11.cell? ⟨gb1139, 2, none⟩ = some (.slice A0_2 l0_2.length c0_2) := bc BK1139 2
   have hfz17_0 := fz BK1139 0
   have hfz17_1 := fz BK1139 1
   have hfz17_2 := fz BK1139 2
   go_wp2_with (first | ((with_reducible refine gate_callee (f := 29) rfl ?_); refine gL 17 Try.func29 #[.agg #[.int .i64 a0_0, .slice A0_1 l0_1.length c0_1, .slice A0_2 l0_2.length c0_2]] ?_; (with_reducible refine (congouref04_Valid.calls k a0_0 _ _ l0_1 _ _ l0_2 true _ ?side1 ?side2 ?side3 ?side4 A12.out).mono ?_); (case side1 => exact kC HR0_1); (case side2 => exact HC0_1.out); (case side3 => exact kC HR0_2); (case side4 => exact HC0_2.out); rintro e w18 ⟨rfl, hb⟩; refine ⟨_, rfl, ?_⟩; replace HO1143 := kO HO1143 hb; replace HO1146 := kO HO1146 hb; replace HO1149 := kO HO1149 hb; replace BK1139 := kB BK1139 hb; replace HB := kH _ hb; (try clear hb); (try clear hb2); (try clear hk); (try clear hi); have hcz19_0 : w18.cell? ⟨gb1139, 0, none⟩ = some (.int .i64 a0_0) := bc BK1139 0; have hcz19_1 : w18.cell? ⟨gb1139, 1, none⟩ = some (.slice A0_1 l0_1.length c0_1) := bc BK1139 1; have hcz19_2 : w18.cell? ⟨gb1139, 2, none⟩ = some (.slice A0_2 l0_2.length c0_2) := bc BK1139 2; have hfz19_0 := fz BK1139 0; have hfz19_1 := fz BK1139 1; have hfz19_2 := fz BK1139 2; have p1152 : 0 ≤ (a0_0 : Int) := dA; have q1152 : a0_0 < (l0_1.length : Int) := dA; obtain ⟨ad1152, e1152, hx1152_0⟩ := Kd.at_int HR0_1.out a0_0 p1152 q1152; cases e1152; replace hx1152_0 := (HB.out.cell (World.block_lt_of_cell? w _ hx1152_0)).trans hx1152_0; replace p1152 := eq_true p1152; replace q1152 := eq_true q1152))
   go_meet
   case rel => exact ⟨_, (true), (by first | rfl | (simp; done) | (simp [*]; done)), H', ⟨by first | omega | exact Nat.le_refl _⟩, ⟨rC HO1149⟩, ⟨bkC BK1139⟩, ⟨hbC _⟩⟩
  rw [if_neg c16] at H
  have c16b0 : decide (a1 < (rd l0_1 a0_0)) = false := decide_eq_false c16
  clear c16
  by_cases c20 : 0 ≤ (l0_2.length : Int)
  rotate_left
  ·rw [if_neg c20] at H
   exact absurd H (by simp)
  rw [if_pos c20] at H
  have c20b0 : decide (0 ≤ (l0_2.length : Int)) = true := decide_eq_true c20
  have c20b1 : decide (0 ≤ l0_2.length) = true := decide_eq_true (by omega)
  clear c20
  by_cases c21 : (l0_2.length : Int) < (l0_1.length : Int)
  rotate_left
  ·rw [if_neg c21] at H
   exact absurd H (by simp)
  rw [if_pos c21] at H
  have c21b0 : decide ((l0_2.length : Int) < (l0_1.length : Int)) = true := decide_eq_true c21
  have c21b1 : decide (l0_2.length < l0_1.length) = true := decide_eq_true (Int.ofNat_lt.mp c21)
  clear c21
  have H' := Aside0.mk H
  clear H
  have hcz22_0 : w11.cell? ⟨gb1139, 0, none⟩ = some (.int .i64 a0_0) := bc BK1139 0
  have hcz22_1 : w11.cell? ⟨gb1139, 1, none⟩ = some (.slice A0_1 l0_1.length c0_1) := bc BK1139 1
  have hcz22_2 : w11.cell? ⟨gb1139, 2, none⟩ = some (.slice A0_2 l0_2.length c0_2) := bc BK1139 2
  have hfz22_0 := fz BK1139 0
  have hfz22_1 := fz BK1139 1
  have hfz22_2 := fz BK1139 2
  go_wp2_with (first | ((with_reducible refine gate_callee (f := 29) rfl ?_); refine gL 17 Try.func29 #[.agg #[.int .i64 a0_0, .slice A0_1 l0_1.length c0_1, .slice A0_2 l0_2.length c0_2]] ?_; (with_reducible refine (congouref04_Valid.calls k a0_0 _ _ l0_1 _ _ l0_2 true _ ?side1 ?side2 ?side3 ?side4 A12.out).mono ?_); (case side1 => exact kC HR0_1); (case side2 => exact HC0_1.out); (case side3 => exact kC HR0_2); (case side4 => exact HC0_2.out); rintro e w23 ⟨rfl, hb⟩; refine ⟨_, rfl, ?_⟩; replace HO1143 := kO HO1143 hb; replace HO1146 := kO HO1146 hb; replace HO1149 := kO HO1149 hb; replace BK1139 := kB BK1139 hb; replace HB := kH _ hb; (try clear hb); (try clear hb2); (try clear hk); (try clear hi); have hcz24_0 : w23.cell? ⟨gb1139, 0, none⟩ = some (.int .i64 a0_0) := bc BK1139 0; have hcz24_1 : w23.cell? ⟨gb1139, 1, none⟩ = some (.slice A0_1 l0_1.length c0_1) := bc BK1139 1; have hcz24_2 : w23.cell? ⟨gb1139, 2, none⟩ = some (.slice A0_2 l0_2.length c0_2) := bc BK1139 2; have hfz24_0 := fz BK1139 0; have hfz24_1 := fz BK1139 1; have hfz24_2 := fz BK1139 2; have p1152 : 0 ≤ (a0_0 : Int) := dA; have q1152 : a0_0 < (l0_1.length : Int) := dA; obtain ⟨ad1152, e1152, hx1152_0⟩ := Kd.at_int HR0_1.out a0_0 p1152 q1152; cases e1152; replace hx1152_0 := (HB.out.cell (World.block_lt_of_cell? w _ hx1152_0)).trans hx1152_0; replace p1152 := eq_true p1152; replace q1152 := eq_true q1152; have p1153 : 0 ≤ ((l0_2.length : Int) : Int) := dA; have q1153 : (l0_2.length : Int) < (l0_1.length : Int) := dA; obtain ⟨ad1153, e1153, hx1153_0⟩ := Kd.at_int HR0_1.out (l0_2.length : Int) p1153 q1153; obtain rfl : ad1152 = ad1153 := (by injection e1153); replace hx1153_0 := (HB.out.cell (World.block_lt_of_cell? w _ hx1153_0)).trans hx1153_0; (try simp only [Go.IntWalk.toNatUp] at hx1153_0); replace p1153 := eq_true p1153; replace q1153 := eq_true q1153))
  go_meet
  case rel => exact ⟨_, (decide (a1 ≥ (rd l0_1 (l0_2.length : Int)))), (by first | rfl | (simp; done) | (simp [*]; done)), H', ⟨by first | omega | exact Nat.le_refl _⟩, ⟨rC HO1149⟩, ⟨bkC BK1139⟩, ⟨hbC _⟩⟩
 case rest =>
  clear HC5
  try clear c1
  try clear p1
  try clear q1
  try clear hx1
  try clear c2
  try clear p2
  try clear c4
  try clear p11
  try clear q11
  try clear hx11
  try clear c13
  try clear c14
  try clear c14b0
  try clear c15
  try clear c15b0
  try clear c16
  try clear c16b0
  try clear c20
  try clear c20b0
  try clear c20b1
  try clear c21
  try clear c21b0
  try clear c21b1
  try clear hcz17_0
  try clear hcz17_1
  try clear hcz17_2
  try clear hcz19_0
  try clear hcz19_1
  try clear hcz19_2
  try clear hcz22_0
  try clear hcz22_1
  try clear hcz22_2
  try clear hcz24_0
  try clear hcz24_1
  try clear hcz24_2
  try clear hcz25_0
  try clear hcz25_1
  try clear hcz25_2
  try clear hcz7_0
  try clear hcz7_1
  try clear hcz7_2
  try clear hfz17_0
  try clear hfz17_1
  try clear hfz17_2
  try clear hfz19_0
  try clear hfz19_1
  try clear hfz19_2
  try clear hfz22_0
  try clear hfz22_1
  try clear hfz22_2
  try clear hfz24_0
  try clear hfz24_1
  try clear hfz24_2
  try clear hfz25_0
  try clear hfz25_1
  try clear hfz25_2
  try clear hfz7_0
  try clear hfz7_1
  try clear hfz7_2
  try clear hx1152_0
  try clear hx1153_0
  try clear p1152
  try clear p1153
  try clear q1152
  try clear q1153
  obtain ⟨kq, x39_4, rfl, HA, HJ4, HO_5, BK1139, HB⟩ := hcut
  cases kq with
  | zero => exact absurd HA.out (by simp [congoulaw04_CurvesInserts.j0])
  | succ kj4 =>
   have H := HA.out
   clear HA
   simp only [congoulaw04_CurvesInserts.j0] at H
   by_cases c27 : x39_4 = true
   ·subst c27
    have H1 : (if (t1147.length : Int) = 0 then (if t1150 = 2 then ((congoulaw04_awake.f kj4).bind fun t1154 => (some t1154)) else (some false)) else (some false)) = some r := by rw [if_pos rfl] at H; exact H
    clear H
    have H := H1
    clear H1
    by_cases c28 : (t1147.length : Int) = 0
    rotate_left
    ·rw [if_neg c28] at H
     have c28b0 : ((t1147.length : Int) == 0) = false := beq_eq_false_iff_ne.mpr c28
     have c28b1 : ((t1147.length : Int) != 0) = true := bne_iff_ne.mpr c28
     have c28b2 : ¬ (t1147 = []) := fun h_ => c28 (by rw [h_]; rfl)
     exact absurd (H.trans (congrArg some HRT.out)) (by simp)
    rw [if_pos c28] at H
    have c28b0 : ((t1147.length : Int) == 0) = true := beq_iff_eq.mpr c28
    have c28b1 : ((t1147.length : Int) != 0) = false := bne_eq_false_iff_eq.mpr c28
    clear c28
    by_cases c29 : t1150 = 2
    rotate_left
    ·rw [if_neg c29] at H
     have c29b0 : (t1150 == 2) = false := beq_eq_false_iff_ne.mpr c29
     have c29b1 : (t1150 != 2) = true := bne_iff_ne.mpr c29
     exact absurd (H.trans (congrArg some HRT.out)) (by simp)
    rw [if_pos c29] at H
    have c29b0 : (t1150 == 2) = true := beq_iff_eq.mpr c29
    have c29b1 : (t1150 != 2) = false := bne_eq_false_iff_eq.mpr c29
    clear c29
    replace H := Option.bind_eq_some_iff.mp H
    obtain ⟨t1154, A300, H⟩ := H
    replace H : (some t1154) = some r := H
    have A30 := Aside0.mk A300
    clear A300
    obtain rfl := Option.some.inj H
    obtain ⟨Ao31, co31, eo31⟩ := Kd.R_slice HO_5.out
    subst eo31
    go_wp2_with (first | (go_at_call 17; (with_reducible refine (congoulaw04_awake.calls kj4  t1154 _ A30.out).mono ?_); rintro e w32 ⟨rfl, hb⟩; replace HO_5 := kO HO_5 hb; replace BK1139 := kB BK1139 hb; replace HB := kH _ hb; (try clear hb); (try clear hb2); (try clear hk); (try clear hi)))
    go_ret
    exact ⟨by first | rfl | (simp [errW_none, errW_some] <;> rfl) | (simp [*, errW_none, errW_some] <;> rfl), hbC _⟩
   replace c27 := Bool.eq_false_iff.mpr c27
   subst c27
   have H1 : ((congouref04_Insert.f kj4 a0_0 l0_1 l0_2 a1).bind fun bt1155 => ((api_Frac.f kj4 t1147 bt1155.1).bind fun t1159 => (if t1159 = true then (if t1150 = bt1155.2 then ((congoulaw04_awake.f kj4).bind fun t1160 => (some t1160)) else (some false)) else (some false)))) = some r := by rw [if_neg (show ¬ (false = true) by decide)] at H; exact H
   clear H
   have H := H1
   clear H1
   replace H := Option.bind_eq_some_iff.mp H
   obtain ⟨⟨t1155, t1158⟩, A330, H⟩ := H
   replace H : ((api_Frac.f kj4 t1147 t1155).bind fun t1159 => (if t1159 = true then (if t1150 = t1158 then ((congoulaw04_awake.f kj4).bind fun t1160 => (some t1160)) else (some false)) else (some false))) = some r := H
   have A33 := Aside0.mk A330
   clear A330
   replace H := Option.bind_eq_some_iff.mp H
   obtain ⟨t1159, A340, H⟩ := H
   replace H : (if t1159 = true then (if t1150 = t1158 then ((congoulaw04_awake.f kj4).bind fun t1160 => (some t1160)) else (some false)) else (some false)) = some r := H
   have A34 := Aside0.mk A340
   clear A340
   by_cases c35 : t1159 = true
   rotate_left
   ·replace c35 := Bool.eq_false_iff.mpr c35
    subst c35
    have H1 : (some false) = some r := by rw [if_neg (show ¬ (false = true) by decide)] at H; exact H
    clear H
    have H := H1
    clear H1
    exact absurd (H.trans (congrArg some HRT.out)) (by simp)
   subst c35
   have H1 : (if t1150 = t1158 then ((congoulaw04_awake.f kj4).bind fun t1160 => (some t1160)) else (some false)) = some r := by rw [if_pos rfl] at H; exact H
   clear H
   have H := H1
   clear H1
   by_cases c36 : t1150 = t1158
   rotate_left
   ·rw [if_neg c36] at H
    have c36b0 : (t1150 == t1158) = false := beq_eq_false_iff_ne.mpr c36
    have c36b1 : (t1150 != t1158) = true := bne_iff_ne.mpr c36
    exact absurd (H.trans (congrArg some HRT.out)) (by simp)
   rw [if_pos c36] at H
   have c36b0 : (t1150 == t1158) = true := beq_iff_eq.mpr c36
   have c36b1 : (t1150 != t1158) = false := bne_eq_false_iff_eq.mpr c36
   clear c36
   replace H := Option.bind_eq_some_iff.mp H
   obtain ⟨t1160, A370, H⟩ := H
   replace H : (some t1160) = some r := H
   have A37 := Aside0.mk A370
   clear A370
   obtain rfl := Option.some.inj H
   have hcz38_0 : wc.cell? ⟨gb1139, 0, none⟩ = some (.int .i64 a0_0) := bc BK1139 0
   have hcz38_1 : wc.cell? ⟨gb1139, 1, none⟩ = some (.slice A0_1 l0_1.length c0_1) := bc BK1139 1
   have hcz38_2 : wc.cell? ⟨gb1139, 2, none⟩ = some (.slice A0_2 l0_2.length c0_2) := bc BK1139 2
   have hfz38_0 := fz BK1139 0
   have hfz38_1 := fz BK1139 1
   have hfz38_2 := fz BK1139 2
   go_wp2_with (first | ((with_reducible refine gate_callee (f := 46) rfl ?_); refine gL 53 Try.func46 #[.agg #[.int .i64 a0_0, .slice A0_1 l0_1.length c0_1, .slice A0_2 l0_2.length c0_2], .int .i64 a1] ?_; (with_reducible refine (congouref04_Insert.calls kj4 a0_0 _ _ l0_1 _ _ l0_2 a1 t1155 t1158 _ ?side1 ?side2 ?side3 ?side4 A33.out).mono ?_); (case side1 => exact kC HR0_1); (case side2 => exact HC0_1.out); (case side3 => exact kC HR0_2); (case side4 => exact HC0_2.out); rintro e w39 ⟨v1156, rfl, ho0, hb⟩; refine ⟨_, rfl, ?_⟩; have HO1157 := ak (Kd.R_lower (Kd.R_new' ho0 (Kd.R_lt (rC HO_5))) (below_size (hbC _))); replace HO_5 := ak (Kd.R_elder' (rC HO_5) (Kd.R_base ho0) hb); replace BK1139 := kB BK1139 hb; replace HB := kH _ hb; (try clear hb); (try clear hb2); (try clear hk); (try clear hi); (try clear ho0); obtain ⟨Ao40, co40, eo40⟩ := Kd.R_slice HO_5.out; subst eo40; obtain ⟨Ao41, co41, eo41⟩ := Kd.R_slice HO1157.out; subst eo41) | ((with_reducible refine gate_callee (f := 23) rfl ?_); refine gL 58 Try.func23 #[.slice Ao40 t1147.length co40, .slice Ao41 t1155.length co41] ?_; (with_reducible refine (api_Frac.calls kj4 _ _ t1147 _ _ t1155 true _ ?side1 ?side2 ?side3 ?side4 A34.out).mono ?_); (case side1 => exact kD (Kd.R_reads' HO_5.out).2.2); (case side2 => exact (Kd.R_reads' HO_5.out).2.1); (case side3 => exact kD (Kd.R_reads' HO1157.out).2.2); (case side4 => exact (Kd.R_reads' HO1157.out).2.1); rintro e w' ⟨rfl, ⟨nd, rfl⟩⟩; refine ⟨_, rfl, ?_⟩) | (go_at_call 17; (with_reducible refine (congoulaw04_awake.calls kj4  t1160 _ A37.out).mono ?_); rintro e w42 ⟨rfl, hb⟩; replace HO_5 := kO HO_5 hb; replace HO1157 := kO HO1157 hb; replace BK1139 := kB BK1139 hb; replace HB := kH _ hb; (try clear hb); (try clear hb2); (try clear hk); (try clear hi)))
   go_ret
   exact ⟨by first | rfl | (simp [errW_none, errW_some] <;> rfl) | (simp [*, errW_none, errW_some] <;> rfl), hbC _⟩

end Go.Proofs.Ytpnocmkpeogifaa.X
