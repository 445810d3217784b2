-- Written by a program of this work (wip/xprint.py, over the kit's printer) out of the translation.
import Derived.Test.YtdffhffhnjkcpaaX0
import Derived.Test.YtdffhffhnjkcpaaXG1a
import Derived.Test.YtdffhffhnjkcpaaXG2a
namespace Go.Proofs.Ytdffhffhnjkcpaa.X
open Go.RowKit Go.Proofs.YtdffhffhnjkcpaaW.PrintWords Go.Proofs.YtdffhffhnjkcpaaW.PrintLast Go.Proofs.YtdffhffhnjkcpaaW.PrintMore
attribute [local go_sem] max2_int min2_int max_two min_two max_three min_three max_four min_four   -- for this text's walks alone
set_option linter.unusedVariables false
set_option linter.unusedSimpArgs false

/-! ### congouref03_Short: function 50 -/
mutual
def congouref03_Short.l0 : Nat → Int → List (S64) → List Int → Int → Int → Option ((List (S64)))
  | 0, _, _, _, _, _ => none
  | k + 1, x0, x5, x12, x13, x14 => if x14 < x13 then (if 0 ≤ x14 then (if x14 < (x12.length : Int) then ((congouref03_find.f k x5 (rd x12 x14)).bind fun t560 => (if t560 ≥ 0 then (if 0 ≤ t560 then (if t560 < (x5.length : Int) then (congouref03_Short.l0 k x0 (x5.set (t560 : Int).toNat (⟨(rd_T64 x5 t560).f0, wrap64 (((rd_T64 x5 t560).f1) + 1), (rd_T64 x5 t560).f2⟩ : S64)) x12 x13 (wrap64 (x14 + 1))) else (none)) else (none)) else (if (x5.length : Int) < x0 then (if x5.length < 5864062014805 then (congouref03_Short.l0 k x0 (x5 ++ [(⟨rd x12 x14, 1, 0⟩ : S64)]) x12 x13 (wrap64 (x14 + 1))) else (none)) else (congouref03_Short.l1 k x0 ([] : List (S64)) x12 x13 x14 x5 (x5.length : Int) 0)))) else (none)) else (none)) else ((congouref03_rising.f k x5).bind fun t556 => (some t556))
def congouref03_Short.l1 : Nat → Int → List (S64) → List Int → Int → Int → List (S64) → Int → Int → Option ((List (S64)))
  | 0, _, _, _, _, _, _, _, _ => none
  | k + 1, x0, x9, x12, x13, x14, x21, x22, x23 => if x23 < x22 then (if 0 ≤ x23 then (if x23 < (x21.length : Int) then (if (wrap64 (((rd_T64 x21 x23).f1) - 1)) > 0 then (if x9.length < 5864062014805 then (congouref03_Short.l1 k x0 (x9 ++ [(⟨(rd_T64 x21 x23).f0, wrap64 (((rd_T64 x21 x23).f1) - 1), (rd_T64 x21 x23).f2⟩ : S64)]) x12 x13 x14 x21 x22 (wrap64 (x23 + 1))) else (none)) else (congouref03_Short.l1 k x0 x9 x12 x13 x14 x21 x22 (wrap64 (x23 + 1)))) else (none)) else (none)) else (congouref03_Short.l0 k x0 x9 x12 x13 (wrap64 (x14 + 1)))
end
def congouref03_Short.f (k : Nat) (a0 : Int) (l1 : List Int) : Option ((List (S64))) := congouref03_Short.l0 k a0 ([] : List (S64)) l1 (l1.length : Int) 0
theorem congouref03_Short.mono_l : ∀ k, (∀ y0 y1 y2 y3 y4, LeO (congouref03_Short.l0 k y0 y1 y2 y3 y4) (congouref03_Short.l0 (k + 1) y0 y1 y2 y3 y4)) ∧ (∀ y0 y1 y2 y3 y4 y5 y6 y7, LeO (congouref03_Short.l1 k y0 y1 y2 y3 y4 y5 y6 y7) (congouref03_Short.l1 (k + 1) y0 y1 y2 y3 y4 y5 y6 y7))
  | 0 => ⟨fun _ _ _ _ _ r h => by simp [congouref03_Short.l0] at h, fun _ _ _ _ _ _ _ _ r h => by simp [congouref03_Short.l1] at h⟩
  | k + 1 => by
    obtain ⟨ih0, ih1⟩ := congouref03_Short.mono_l k
    refine ⟨?_, ?_⟩
    · intro y0 y1 y2 y3 y4
      unfold congouref03_Short.l0
      repeat' first
      | (with_reducible exact ih0 _ _ _ _ _)
      | (with_reducible exact ih1 _ _ _ _ _ _ _ _)
      | (with_reducible exact congouref03_find.mono _ _ _)
      | (with_reducible exact congouref03_rising.mono _ _)
      | (with_reducible exact LeO.refl _)
      | (with_reducible exact LeO.none _)
      | (with_reducible refine LeO.ite ?_ ?_)
      | (with_reducible refine LeO.bind ?_ (fun _ => ?_))
      | exact ih0 _ _ _ _ _
      | exact ih1 _ _ _ _ _ _ _ _
      | exact congouref03_find.mono _ _ _
      | exact congouref03_rising.mono _ _
      | exact LeO.none _
      | refine LeO.ite ?_ ?_
      | refine LeO.bind ?_ (fun _ => ?_)
    · intro y0 y1 y2 y3 y4 y5 y6 y7
      unfold congouref03_Short.l1
      repeat' first
      | (with_reducible exact ih0 _ _ _ _ _)
      | (with_reducible exact ih1 _ _ _ _ _ _ _ _)
      | (with_reducible exact congouref03_find.mono _ _ _)
      | (with_reducible exact congouref03_rising.mono _ _)
      | (with_reducible exact LeO.refl _)
      | (with_reducible exact LeO.none _)
      | (with_reducible refine LeO.ite ?_ ?_)
      | (with_reducible refine LeO.bind ?_ (fun _ => ?_))
      | exact ih0 _ _ _ _ _
      | exact ih1 _ _ _ _ _ _ _ _
      | exact congouref03_find.mono _ _ _
      | exact congouref03_rising.mono _ _
      | exact LeO.none _
      | refine LeO.ite ?_ ?_
      | refine LeO.bind ?_ (fun _ => ?_)
theorem congouref03_Short.mono : ∀ a0 a1 k, LeO (congouref03_Short.f k a0 a1) (congouref03_Short.f (k + 1) a0 a1) := by
  intro a0 a1 k
  obtain ⟨ih0, ih1⟩ := congouref03_Short.mono_l k
  unfold congouref03_Short.f
  repeat' first
      | (with_reducible exact ih0 _ _ _ _ _)
      | (with_reducible exact ih1 _ _ _ _ _ _ _ _)
      | (with_reducible exact congouref03_find.mono _ _ _)
      | (with_reducible exact congouref03_rising.mono _ _)
      | (with_reducible exact LeO.refl _)
      | (with_reducible exact LeO.none _)
      | (with_reducible refine LeO.ite ?_ ?_)
      | (with_reducible refine LeO.bind ?_ (fun _ => ?_))
      | exact ih0 _ _ _ _ _
      | exact ih1 _ _ _ _ _ _ _ _
      | exact congouref03_find.mono _ _ _
      | exact congouref03_rising.mono _ _
      | exact LeO.none _
      | refine LeO.ite ?_ ?_
      | refine LeO.bind ?_ (fun _ => ?_)
theorem congouref03_Short.chain4 {w : World} {g : Nat} {z0 z1 z2 : Value} (h0 : w.cell? ⟨g, 0, none⟩ = some z0) (h1 : w.cell? ⟨g, 1, none⟩ = some z1) (h2 : w.cell? ⟨g, 2, none⟩ = some z2) (a b c d : Value) :
    ((((w.setCell ⟨g, 0, none⟩ a).setCell ⟨g, 1, none⟩ b).setCell ⟨g, 2, none⟩ c).setCell ⟨g, 1, none⟩ d).cell? ⟨g, 0, none⟩ = some a ∧
    ((((w.setCell ⟨g, 0, none⟩ a).setCell ⟨g, 1, none⟩ b).setCell ⟨g, 2, none⟩ c).setCell ⟨g, 1, none⟩ d).cell? ⟨g, 1, none⟩ = some d ∧
    ((((w.setCell ⟨g, 0, none⟩ a).setCell ⟨g, 1, none⟩ b).setCell ⟨g, 2, none⟩ c).setCell ⟨g, 1, none⟩ d).cell? ⟨g, 2, none⟩ = some c := by
  have k0 : (w.setCell ⟨g, 0, none⟩ a).cell? ⟨g, 1, none⟩ = some z1 := by go_simp
  have k1 : (w.setCell ⟨g, 0, none⟩ a).cell? ⟨g, 0, none⟩ = some a := by go_simp
  have k2 : (w.setCell ⟨g, 0, none⟩ a).cell? ⟨g, 2, none⟩ = some z2 := by go_simp
  generalize w.setCell ⟨g, 0, none⟩ a = w1 at *
  have m0 : (w1.setCell ⟨g, 1, none⟩ b).cell? ⟨g, 1, none⟩ = some b := by go_simp
  have m1 : (w1.setCell ⟨g, 1, none⟩ b).cell? ⟨g, 0, none⟩ = some a := by go_simp
  have m2 : (w1.setCell ⟨g, 1, none⟩ b).cell? ⟨g, 2, none⟩ = some z2 := by go_simp
  generalize w1.setCell ⟨g, 1, none⟩ b = w2 at *
  have n0 : (w2.setCell ⟨g, 2, none⟩ c).cell? ⟨g, 1, none⟩ = some b := by go_simp
  have n1 : (w2.setCell ⟨g, 2, none⟩ c).cell? ⟨g, 0, none⟩ = some a := by go_simp
  have n2 : (w2.setCell ⟨g, 2, none⟩ c).cell? ⟨g, 2, none⟩ = some c := by go_simp
  generalize w2.setCell ⟨g, 2, none⟩ c = w3 at *
  exact ⟨by go_simp, by go_simp, by go_simp⟩
set_option maxHeartbeats 8000000 in
set_option maxRecDepth 100000 in
theorem congouref03_Short.calls (k : Nat) (a0 : Int) (A1 : Option Addr) (c1 : Nat) (l1 : List Int) (r : List (S64)) (w : World) (hr1 : Kd.C (Kd.int .i64) w A1 l1.length l1) (hc1 : l1.length ≤ c1) (h : congouref03_Short.f k a0 l1 = some r) :
    Calls Try.prog 50 #[.int .i64 a0, .slice A1 l1.length c1] w fun e w' => ∃ v0_ : Value, e = .returned (v0_) ∧ Kd.R k64 64 w' w.heap.size (fun _ => True) v0_ r ∧ Below w.heap.size w w' := by
  have hu64 := Try.underlying64
  have HR1 := Aside0.mk hr1
  have HC1 := Aside0.mk hc1
  clear hr1 hc1
  have HB := Aside0.mk (Below.refl w.heap.size w)
  have H : (congouref03_Short.l0 k a0 ([] : List (S64)) l1 (l1.length : Int) 0) = some r := h
  clear h
  have H' := Aside0.mk H
  clear H
  go_enter Try.func50, Try.ntmps50
  go_wp2
  go_loopg [5, 14] k (fun kq v5 v14 w' => ∃ (x5_1 : List (S64)) (x14_1 : Int), v14 = .int .i64 x14_1 ∧ Aside0 (congouref03_Short.l0 kq a0 x5_1 l1 (l1.length : Int) x14_1 = some r) ∧ Aside0 (kq ≤ k) ∧ Aside0 (Kd.R k64 64 w' w.heap.size (fun _ => True) v5 x5_1) ∧ Aside0 (Below w.heap.size w w'))
  case atStart => exact ⟨(([] : List (S64))), (0), (by first | rfl | (simp; done) | (simp [*]; done)), H', ⟨Nat.le_refl _⟩, ⟨by first | exact Kd.R_nil _ _ _ _ _ | exact Kd.N_nil _ _ _ _ _ | exact Kd.V_nil _ _ _ _ _ | exact Kd.Q_nil _ _ _ _ _ | exact Kd.S_nil _ _ _ _ _⟩, ⟨by repeat (first | (with_reducible first | exact HB.out | apply below_alloc | apply pw_below_drewN | apply below_drew1) | exact HB.out)⟩⟩
  case round =>
    clear H'
    try clear c1
    try clear p2
    obtain ⟨x5_1, x14_1, rfl, HA, HK1, HO_5, HB⟩ := hrel
    cases gk with
    | zero => exact absurd HA.out (by simp [congouref03_Short.l0])
    | succ k1 =>
      have H := HA.out
      clear HA
      simp only [congouref03_Short.l0] at H
      by_cases c3 : x14_1 < (l1.length : Int)
      · rw [if_pos c3] at H
        have c3b0 : decide (x14_1 < (l1.length : Int)) = true := decide_eq_true c3
        clear c3
        by_cases c4 : 0 ≤ x14_1
        · rw [if_pos c4] at H
          have c4b0 : decide (0 ≤ x14_1) = true := decide_eq_true c4
          clear c4
          by_cases c5 : x14_1 < (l1.length : Int)
          · rw [if_pos c5] at H
            have c5b0 : decide (x14_1 < (l1.length : Int)) = true := decide_eq_true c5
            clear c5
            replace H := Option.bind_eq_some_iff.mp H
            obtain ⟨t560, A60, H⟩ := H
            replace H : (if t560 ≥ 0 then (if 0 ≤ t560 then (if t560 < (x5_1.length : Int) then (congouref03_Short.l0 k1 a0 (x5_1.set (t560 : Int).toNat (⟨(rd_T64 x5_1 t560).f0, wrap64 (((rd_T64 x5_1 t560).f1) + 1), (rd_T64 x5_1 t560).f2⟩ : S64)) l1 (l1.length : Int) (wrap64 (x14_1 + 1))) else (none)) else (none)) else (if (x5_1.length : Int) < a0 then (if x5_1.length < 5864062014805 then (congouref03_Short.l0 k1 a0 (x5_1 ++ [(⟨rd l1 x14_1, 1, 0⟩ : S64)]) l1 (l1.length : Int) (wrap64 (x14_1 + 1))) else (none)) else (congouref03_Short.l1 k1 a0 ([] : List (S64)) l1 (l1.length : Int) x14_1 x5_1 (x5_1.length : Int) 0))) = some r := H
            have A6 := Aside0.mk A60
            clear A60
            by_cases c7 : t560 ≥ 0
            · rw [if_pos c7] at H
              have c7b0 : decide (0 ≤ t560) = true := decide_eq_true c7
              clear c7
              by_cases c8 : 0 ≤ t560
              · rw [if_pos c8] at H
                have c8b0 : decide (0 ≤ t560) = true := decide_eq_true c8
                clear c8
                by_cases c9 : t560 < (x5_1.length : Int)
                · rw [if_pos c9] at H
                  have c9b0 : decide (t560 < (x5_1.length : Int)) = true := decide_eq_true c9
                  clear c9
                  obtain ⟨y562, hy562⟩ : ∃ y_ : List (S64), y_ = (x5_1.set (t560 : Int).toNat (⟨(rd_T64 x5_1 t560).f0, wrap64 (((rd_T64 x5_1 t560).f1) + 1), (rd_T64 x5_1 t560).f2⟩ : S64)) := ⟨_, rfl⟩
                  replace H : (congouref03_Short.l0 k1 a0 y562 l1 (l1.length : Int) (wrap64 (x14_1 + 1))) = some r := by first | (rw [hy562]; with_reducible exact H) | (have H2_ := (Option.bind_some _ _).symm.trans H; rw [hy562]; with_reducible exact H2_) | (have H2_ := (Option.bind_some _ _).symm.trans H; with_reducible exact H2_) | with_reducible exact H | (rw [hy562]; exact H) | exact H
                  have Ny562 := Aside0.mk hy562
                  clear hy562
                  have H' := Aside0.mk H
                  clear H
                  have p559 : 0 ≤ (x14_1 : Int) := of_decide_eq_true (by first | (with_reducible assumption) | assumption)
                  have q559 : x14_1 < (l1.length : Int) := of_decide_eq_true (by first | (with_reducible assumption) | assumption)
                  obtain ⟨ad559, e559, hx559_0⟩ := Kd.at_int HR1.out x14_1 p559 q559
                  cases e559
                  try replace hx559_0 := (HB.out.cell (World.block_lt_of_cell? w _ hx559_0)).trans hx559_0
                  replace p559 := eq_true p559
                  replace q559 := eq_true q559
                  obtain ⟨Ao11, co11, eo11⟩ := Kd.R_slice HO_5.out
                  subst eo11
                  go_wp2_with (first | ((with_reducible refine gate_callee (f := 72) rfl ?_); refine goesL_ (some 20) rfl rfl Try.func72 (by kernel_rfl) rfl #[.slice Ao11 x5_1.length co11, .int .i64 (rd l1 x14_1)] rfl (by (try simp only [List.map_toArray, List.map_cons, List.map_nil]); first | done | rfl | (simp only [List.length_drop, List.length_take]; rfl)) ?_; (with_reducible refine (congouref03_find.calls k1 _ _ x5_1 (rd l1 x14_1) t560 _ ?side1 ?side2 A6.out).mono ?_); (case side1 => repeat (first | exact (Kd.R_reads' HO_5.out).2.2 | (with_reducible refine Kd.C_alloc ?_ _) | (with_reducible refine Kd.C_drewN ?_ _) | (with_reducible refine Kd.C_drew ?_))); (case side2 => exact (Kd.R_reads' HO_5.out).2.1); rintro e w12 ⟨rfl, hb⟩; refine ⟨_, rfl, ?_⟩; have n0_ := Aside0.mk (Kd.R_below (by (with_reducible repeat (first | apply Kd.R_alloc | apply Kd.R_drewN | apply Kd.R_drew)); exact HO_5.out) hb); have n1_ := Aside0.mk (below_step (by repeat (first | (with_reducible first | exact HB.out | apply below_alloc | apply pw_below_drewN | apply below_drew1) | exact HB.out)) hb); clear HO_5; clear HB; have HO_5 := n0_; have HB := n1_; clear n0_ n1_; (try clear hb); (try clear hb2); (try clear hk); (try clear hi); have p561 : 0 ≤ (t560 : Int) := of_decide_eq_true (by first | (with_reducible assumption) | assumption); have q561 : t560 < (x5_1.length : Int) := of_decide_eq_true (by first | (with_reducible assumption) | assumption); obtain ⟨ad561, e561, hx561_0, hx561_1, hx561_2⟩ := at_T64 (Kd.R_reads' HO_5.out).2.2 t560 p561 q561; cases e561; replace p561 := eq_true p561; replace q561 := eq_true q561; have p10 : 0 ≤ (t560 : Int) := of_decide_eq_true (by first | (with_reducible assumption) | assumption); have q10 : (t560 : Int) < ((x5_1.length : Int) : Int) := of_decide_eq_true (by first | (with_reducible assumption) | assumption); obtain ⟨go10, co10, eo10, gb10, gl10, cl10, HG10⟩ := Kd.R_form HO_5.out (by omega); (first | cases eo10 | (injection eo10 with ea_ en_ ec_; (first | subst ea_ | (injection ea_ with ea_; subst ea_)); subst ec_; clear en_)); have GB10 := Aside0.mk gb10; have GG10 := Aside0.mk HG10; clear gb10 gl10 HG10; (first | simp only [add_plain] at hx561_0 | skip); (first | simp only [add_plain] at hx561_1 | skip); (first | simp only [add_plain] at hx561_2 | skip); obtain ⟨ce10, hcl10, hM10, hcc10, hfr10⟩ := Kd.R_elem HO_5.out z64 (t560 : Int) p10 q10; obtain rfl := k64_openM hM10; have hx10_0 : w12.cell? ⟨go10, (t560 : Int).toNat * 3, none⟩ = some (.int .i64 ((rd_T64 x5_1 t560).f0)) := hcc10 0 _ rfl; have hx10_1 : w12.cell? ⟨go10, (t560 : Int).toNat * 3 + 1, none⟩ = some (.int .i64 ((rd_T64 x5_1 t560).f1)) := hcc10 1 _ rfl; have hx10_2 : w12.cell? ⟨go10, (t560 : Int).toNat * 3 + 2, none⟩ = some (.int .i64 ((rd_T64 x5_1 t560).f2)) := hcc10 2 _ rfl; have hf10_0 : w12.frozen? ⟨go10, (t560 : Int).toNat * 3, none⟩ = false := hfr10 0; have hf10_1 : w12.frozen? ⟨go10, (t560 : Int).toNat * 3 + 1, none⟩ = false := hfr10 1; have hf10_2 : w12.frozen? ⟨go10, (t560 : Int).toNat * 3 + 2, none⟩ = false := hfr10 2; clear hcl10 hcc10 hfr10 hM10; replace p10 := eq_true p10; replace q10 := eq_true q10; have HX13 := Aside0.mk (show Kd.R k64 64 w12 w.heap.size (fun _ => True) (.slice (some ⟨go10, 0, none⟩) x5_1.length co11) x5_1 from (by (with_reducible repeat (first | apply Kd.R_alloc | apply Kd.R_drewN | apply Kd.R_drew)); exact HO_5.out)); obtain ⟨ce13, hcl13, hM13, hcc13, hfr13⟩ := Kd.R_elem HX13.out z64 (t560 : Int) (of_decide_eq_true (by first | (with_reducible assumption) | assumption)) (by have h_ : (t560 : Int) < ((x5_1.length : Int) : Int) := of_decide_eq_true (by first | (with_reducible assumption) | assumption); first | exact h_ | (have e_ := (Kd.R_reads' HO_5.out).1; omega) | simpa using h_); obtain rfl := k64_openM hM13; have HP13 := Kd.R_seg HX13.out (t560 : Int) (of_decide_eq_true (by first | (with_reducible assumption) | assumption)) (by have h_ : (t560 : Int) < ((x5_1.length : Int) : Int) := of_decide_eq_true (by first | (with_reducible assumption) | assumption); first | exact h_ | (have e_ := (Kd.R_reads' HO_5.out).1; omega) | simpa using h_) (seg := [.int .i64 (wrap64 (((rd_T64 x5_1 t560).f1) + 1))]) (j := 1) hcl13 hcc13 (show 2 ≤ 3 from by decide) (x' := (⟨(rd_T64 x5_1 t560).f0, wrap64 (((rd_T64 x5_1 t560).f1) + 1), (rd_T64 x5_1 t560).f2⟩ : S64)) (k64_mkM _ _ _ (⟨(rd_T64 x5_1 t560).f0, wrap64 (((rd_T64 x5_1 t560).f1) + 1), (rd_T64 x5_1 t560).f2⟩ : S64) ) (fun _ hk => hk); have hx13_1 := hcc13 1 _ rfl; (try simp only [show (k64).sz = 3 from rfl, Nat.mul_one, Nat.add_zero] at hx13_1); have hf13_1 := hfr13 1; (try simp only [show (k64).sz = 3 from rfl, Nat.mul_one, Nat.add_zero] at hf13_1); clear hcl13 hcc13 hfr13 hM13) | ((with_reducible refine gate_store (t := 3) (p := 50) rfl ?_); refine store_event (t := 3) (p := 50) (v := ?vo_w14) (w1 := (w12.setCell ⟨go10, (t560 : Int).toNat * 3 + 1, none⟩ (.int .i64 (wrap64 (((rd_T64 x5_1 t560).f1) + 1))))) ?hg ?ho ?hn ?hr ?_; (case ho => rfl); (case hg => rfl); (case hn => rfl); (case hr => first | (go_simp; done) | (go_simp; rfl)); intro w14 hw; have hg : w12.grownBy w14 (some go10) := (by rw [hw]; exact HP13.2); have hp_ : Kd.R k64 64 w14 w.heap.size (fun _ => True) (.slice (some ⟨go10, 0, none⟩) x5_1.length co11) y562 := (by rw [hw, Ny562.out]; exact HP13.1); clear HP13; have n0_ := Aside0.mk (hp_); have n1_ := Aside0.mk ((by rw [hw]; exact below_set (HB.out) GB10.out : Below w.heap.size w w14)); clear HO_5; clear HB; have HO_5 := n0_; have HB := n1_; clear n0_ n1_; clear hg hw hp_))
                  go_roundg k1
                  case measure => have := HK1.out; omega
                  case rel => exact ⟨(y562), (wrap64 (x14_1 + 1)), (by first | rfl | (simp; done) | (simp [*]; done)), H', ⟨by have := HK1.out; omega⟩, ⟨by (with_reducible repeat (first | apply Kd.R_alloc | apply Kd.R_drewN | apply Kd.R_drew)); exact HO_5.out⟩, ⟨by repeat (first | (with_reducible first | exact HB.out | apply below_alloc | apply pw_below_drewN | apply below_drew1) | exact HB.out)⟩⟩
                · rw [if_neg c9] at H
                  exact absurd H (by simp)
              · rw [if_neg c8] at H
                exact absurd H (by simp)
            · rw [if_neg c7] at H
              have c7b0 : decide (0 ≤ t560) = false := decide_eq_false c7
              clear c7
              by_cases c15 : (x5_1.length : Int) < a0
              · rw [if_pos c15] at H
                have c15b0 : decide ((x5_1.length : Int) < a0) = true := decide_eq_true c15
                clear c15
                by_cases c16 : x5_1.length < 5864062014805
                · rw [if_pos c16] at H
                  have LMc16 := Aside0.mk c16
                  clear c16
                  obtain ⟨y563, hy563⟩ : ∃ y_ : List (S64), y_ = (x5_1 ++ [(⟨rd l1 x14_1, 1, 0⟩ : S64)]) := ⟨_, rfl⟩
                  replace H : (congouref03_Short.l0 k1 a0 y563 l1 (l1.length : Int) (wrap64 (x14_1 + 1))) = some r := by first | (rw [hy563]; with_reducible exact H) | (have H2_ := (Option.bind_some _ _).symm.trans H; rw [hy563]; with_reducible exact H2_) | (have H2_ := (Option.bind_some _ _).symm.trans H; with_reducible exact H2_) | with_reducible exact H | (rw [hy563]; exact H) | exact H
                  have Ny563 := Aside0.mk hy563
                  clear hy563
                  have H' := Aside0.mk H
                  clear H
                  have p559 : 0 ≤ (x14_1 : Int) := of_decide_eq_true (by first | (with_reducible assumption) | assumption)
                  have q559 : x14_1 < (l1.length : Int) := of_decide_eq_true (by first | (with_reducible assumption) | assumption)
                  obtain ⟨ad559, e559, hx559_0⟩ := Kd.at_int HR1.out x14_1 p559 q559
                  cases e559
                  try replace hx559_0 := (HB.out.cell (World.block_lt_of_cell? w _ hx559_0)).trans hx559_0
                  replace p559 := eq_true p559
                  replace q559 := eq_true q559
                  obtain ⟨Ao17, co17, eo17⟩ := Kd.R_slice HO_5.out
                  subst eo17
                  go_wp2_with (first | ((with_reducible refine gate_callee (f := 72) rfl ?_); refine goesL_ (some 20) rfl rfl Try.func72 (by kernel_rfl) rfl #[.slice Ao17 x5_1.length co17, .int .i64 (rd l1 x14_1)] rfl (by (try simp only [List.map_toArray, List.map_cons, List.map_nil]); first | done | rfl | (simp only [List.length_drop, List.length_take]; rfl)) ?_; (with_reducible refine (congouref03_find.calls k1 _ _ x5_1 (rd l1 x14_1) t560 _ ?side1 ?side2 A6.out).mono ?_); (case side1 => repeat (first | exact (Kd.R_reads' HO_5.out).2.2 | (with_reducible refine Kd.C_alloc ?_ _) | (with_reducible refine Kd.C_drewN ?_ _) | (with_reducible refine Kd.C_drew ?_))); (case side2 => exact (Kd.R_reads' HO_5.out).2.1); rintro e w18 ⟨rfl, hb⟩; refine ⟨_, rfl, ?_⟩; have n0_ := Aside0.mk (Kd.R_below (by (with_reducible repeat (first | apply Kd.R_alloc | apply Kd.R_drewN | apply Kd.R_drew)); exact HO_5.out) hb); have n1_ := Aside0.mk (below_step (by repeat (first | (with_reducible first | exact HB.out | apply below_alloc | apply pw_below_drewN | apply below_drew1) | exact HB.out)) hb); clear HO_5; clear HB; have HO_5 := n0_; have HB := n1_; clear n0_ n1_; (try clear hb); (try clear hb2); (try clear hk); (try clear hi)) | ((with_reducible refine gate_builtin (b := .append) (xs := #[.tmp 56, .tmp 59]) rfl ?_); at_builtin; refine Kd.R_append k64 (w0 := w) w.heap.size rfl (.tmp 56) (.tmp 59) 56 64 (.agg #[(.int .i64 0), (.int .i64 0), (.int .i64 0)]) 24 rfl Try.underlying56 info64 rfl (by decide) (by omega) (.slice Ao17 x5_1.length co17) x5_1 (⟨rd l1 x14_1, 1, 0⟩ : S64) [.int .i64 (rd l1 x14_1), .int .i64 1, .int .i64 0] (fun _ => True) (fun _ => False) rfl rfl ?aP (fun _ hk => hk.elim) ?aF ?aO ?aB ?aS ?aL ?_; (case aP => exact k64_mkM _ _ _ (⟨rd l1 x14_1, 1, 0⟩ : S64)); (case aB => exact (by repeat (first | (with_reducible first | exact HB.out | apply below_alloc | apply pw_below_drewN | apply below_drew1) | exact HB.out))); (case aF => exact (fun _ _ => trivial)); (case aO => exact (by (with_reducible repeat (first | apply Kd.R_alloc | apply Kd.R_drewN | apply Kd.R_drew)); exact HO_5.out)); (case aS => exact (below_size (by repeat (first | (with_reducible first | exact HB.out | apply below_alloc | apply pw_below_drewN | apply below_drew1) | exact HB.out)))); (case aL => have := LMc16.out; omega); intro v564 w19 ho hb hg hat; rw [← Ny563.out] at ho; have n0_ := Aside0.mk (hb); have n1_ := Aside0.mk (ho); clear HB; clear HO_5; have HB := n0_; have HO565 := n1_; clear n0_ n1_; clear ho hb hg hat))
                  go_roundg k1
                  case measure => have := HK1.out; omega
                  case rel => exact ⟨(y563), (wrap64 (x14_1 + 1)), (by first | rfl | (simp; done) | (simp [*]; done)), H', ⟨by have := HK1.out; omega⟩, ⟨by (with_reducible repeat (first | apply Kd.R_alloc | apply Kd.R_drewN | apply Kd.R_drew)); exact HO565.out⟩, ⟨by repeat (first | (with_reducible first | exact HB.out | apply below_alloc | apply pw_below_drewN | apply below_drew1) | exact HB.out)⟩⟩
                · rw [if_neg c16] at H
                  exact absurd H (by simp)
              · rw [if_neg c15] at H
                have c15b0 : decide ((x5_1.length : Int) < a0) = false := decide_eq_false c15
                clear c15
                have H' := Aside0.mk H
                clear H
                have p559 : 0 ≤ (x14_1 : Int) := of_decide_eq_true (by first | (with_reducible assumption) | assumption)
                have q559 : x14_1 < (l1.length : Int) := of_decide_eq_true (by first | (with_reducible assumption) | assumption)
                obtain ⟨ad559, e559, hx559_0⟩ := Kd.at_int HR1.out x14_1 p559 q559
                cases e559
                try replace hx559_0 := (HB.out.cell (World.block_lt_of_cell? w _ hx559_0)).trans hx559_0
                replace p559 := eq_true p559
                replace q559 := eq_true q559
                obtain ⟨Ao20, co20, eo20⟩ := Kd.R_slice HO_5.out
                subst eo20
                go_wp2_with (first | ((with_reducible refine gate_callee (f := 72) rfl ?_); refine goesL_ (some 20) rfl rfl Try.func72 (by kernel_rfl) rfl #[.slice Ao20 x5_1.length co20, .int .i64 (rd l1 x14_1)] rfl (by (try simp only [List.map_toArray, List.map_cons, List.map_nil]); first | done | rfl | (simp only [List.length_drop, List.length_take]; rfl)) ?_; (with_reducible refine (congouref03_find.calls k1 _ _ x5_1 (rd l1 x14_1) t560 _ ?side1 ?side2 A6.out).mono ?_); (case side1 => repeat (first | exact (Kd.R_reads' HO_5.out).2.2 | (with_reducible refine Kd.C_alloc ?_ _) | (with_reducible refine Kd.C_drewN ?_ _) | (with_reducible refine Kd.C_drew ?_))); (case side2 => exact (Kd.R_reads' HO_5.out).2.1); rintro e w21 ⟨rfl, hb⟩; refine ⟨_, rfl, ?_⟩; have n0_ := Aside0.mk (Kd.R_below (by (with_reducible repeat (first | apply Kd.R_alloc | apply Kd.R_drewN | apply Kd.R_drew)); exact HO_5.out) hb); have n1_ := Aside0.mk (below_step (by repeat (first | (with_reducible first | exact HB.out | apply below_alloc | apply pw_below_drewN | apply below_drew1) | exact HB.out)) hb); clear HO_5; clear HB; have HO_5 := n0_; have HB := n1_; clear n0_ n1_; (try clear hb); (try clear hb2); (try clear hk); (try clear hi)))
                go_loopg [9, 23] k1 (fun kq v9 v23 w' => ∃ (x9_2 : List (S64)) (x23_2 : Int), v23 = .int .i64 x23_2 ∧ Aside0 (congouref03_Short.l1 kq a0 x9_2 l1 (l1.length : Int) x14_1 x5_1 (x5_1.length : Int) x23_2 = some r) ∧ Aside0 (kq ≤ k1) ∧ Aside0 (Kd.R k64 64 w' w.heap.size (fun k_ => some k_ ≠ ((.slice Ao20 x5_1.length co20) : Value).ownBlock) v9 x9_2) ∧ Aside0 (Kd.R k64 64 w' w.heap.size (fun k_ => some k_ ≠ (v9 : Value).ownBlock) (.slice Ao20 x5_1.length co20) x5_1) ∧ Aside0 (Below w.heap.size w w'))
                case atStart => exact ⟨(([] : List (S64))), (0), (by first | rfl | (simp; done) | (simp [*]; done)), H', ⟨Nat.le_refl _⟩, ⟨by first | exact Kd.R_nil _ _ _ _ _ | exact Kd.N_nil _ _ _ _ _ | exact Kd.V_nil _ _ _ _ _ | exact Kd.Q_nil _ _ _ _ _ | exact Kd.S_nil _ _ _ _ _⟩, ⟨by (with_reducible repeat (first | apply Kd.R_alloc | apply Kd.R_drewN | apply Kd.R_drew)); exact Kd.R_mono HO_5.out (fun _ hk => (by simp [Value.ownBlock]))⟩, ⟨by repeat (first | (with_reducible first | exact HB.out | apply below_alloc | apply pw_below_drewN | apply below_drew1) | exact HB.out)⟩⟩
                case round =>
                  clear H'
                  try clear c1
                  try clear p1
                  try clear q1
                  try clear hx1
                  try clear p2
                  try clear c3
                  try clear c3b0
                  try clear c4
                  try clear c4b0
                  try clear c5
                  try clear c5b0
                  try clear p5
                  try clear q5
                  try clear hx5
                  try clear p6
                  try clear c7
                  try clear c7b0
                  try clear c8
                  try clear c8b0
                  try clear c9
                  try clear c9b0
                  try clear c10
                  try clear p10
                  try clear q10
                  try clear hx10
                  try clear hf10
                  try clear c13
                  try clear hx13
                  try clear hf13
                  try clear c15
                  try clear c15b0
                  try clear c16
                  try clear hx10_0
                  try clear hx10_1
                  try clear hx10_2
                  try clear hx13_1
                  try clear hx559_0
                  try clear hx561_0
                  try clear hx561_1
                  try clear hx561_2
                  try clear p10
                  try clear p2
                  try clear p559
                  try clear p561
                  try clear q10
                  try clear q559
                  try clear q561
                  obtain ⟨x9_2, x23_2, rfl, HA, HK2, HO_9, HO_21, HB⟩ := hrel
                  cases gk with
                  | zero => exact absurd HA.out (by simp [congouref03_Short.l1])
                  | succ k2 =>
                    have H := HA.out
                    clear HA
                    simp only [congouref03_Short.l1] at H
                    by_cases c22 : x23_2 < (x5_1.length : Int)
                    · rw [if_pos c22] at H
                      have c22b0 : decide (x23_2 < (x5_1.length : Int)) = true := decide_eq_true c22
                      clear c22
                      by_cases c23 : 0 ≤ x23_2
                      · rw [if_pos c23] at H
                        have c23b0 : decide (0 ≤ x23_2) = true := decide_eq_true c23
                        clear c23
                        by_cases c24 : x23_2 < (x5_1.length : Int)
                        · rw [if_pos c24] at H
                          have c24b0 : decide (x23_2 < (x5_1.length : Int)) = true := decide_eq_true c24
                          clear c24
                          by_cases c25 : (wrap64 (((rd_T64 x5_1 x23_2).f1) - 1)) > 0
                          · rw [if_pos c25] at H
                            have c25b0 : decide (0 < (wrap64 (((rd_T64 x5_1 x23_2).f1) - 1))) = true := decide_eq_true c25
                            clear c25
                            by_cases c26 : x9_2.length < 5864062014805
                            · rw [if_pos c26] at H
                              have LMc26 := Aside0.mk c26
                              clear c26
                              obtain ⟨y568, hy568⟩ : ∃ y_ : List (S64), y_ = (x9_2 ++ [(⟨(rd_T64 x5_1 x23_2).f0, wrap64 (((rd_T64 x5_1 x23_2).f1) - 1), (rd_T64 x5_1 x23_2).f2⟩ : S64)]) := ⟨_, rfl⟩
                              replace H : (congouref03_Short.l1 k2 a0 y568 l1 (l1.length : Int) x14_1 x5_1 (x5_1.length : Int) (wrap64 (x23_2 + 1))) = some r := by first | (rw [hy568]; with_reducible exact H) | (have H2_ := (Option.bind_some _ _).symm.trans H; rw [hy568]; with_reducible exact H2_) | (have H2_ := (Option.bind_some _ _).symm.trans H; with_reducible exact H2_) | with_reducible exact H | (rw [hy568]; exact H) | exact H
                              have Ny568 := Aside0.mk hy568
                              clear hy568
                              have H' := Aside0.mk H
                              clear H
                              have p566 : 0 ≤ (x23_2 : Int) := of_decide_eq_true (by first | (with_reducible assumption) | assumption)
                              have q566 : x23_2 < (x5_1.length : Int) := of_decide_eq_true (by first | (with_reducible assumption) | assumption)
                              obtain ⟨ad566, e566, hx566_0, hx566_1, hx566_2⟩ := at_T64 (Kd.R_reads' HO_21.out).2.2 x23_2 p566 q566
                              cases e566
                              replace p566 := eq_true p566
                              replace q566 := eq_true q566
                              go_wp2_with (first | ((with_reducible refine gate_dst (N := 11) rfl ?_); refine box_event ?hg (N := 11) ?hd (cs := #[.int .i64 0, .int .i64 0, .int .i64 0]) (t := 64) ?hr ?_; (case hd => rfl); (case hg => rfl); (case hr => first | (go_simp; done) | (go_simp; rfl)); intro gb567 hg w27 hbox hb; have n0_ := Aside0.mk (Kd.R_below (Kd.R_elderB (by (with_reducible repeat (first | apply Kd.R_alloc | apply Kd.R_drewN | apply Kd.R_drew)); exact HO_9.out) gb567 (Nat.le_of_eq hg.symm)) hb); have n1_ := Aside0.mk (Kd.R_below (Kd.R_elderB (by (with_reducible repeat (first | apply Kd.R_alloc | apply Kd.R_drewN | apply Kd.R_drew)); exact HO_21.out) gb567 (Nat.le_of_eq hg.symm)) hb); have n2_ := Aside0.mk (below_step (by repeat (first | (with_reducible first | exact HB.out | apply below_alloc | apply pw_below_drewN | apply below_drew1) | exact HB.out)) hb); have n3_ := Aside0.mk (hbox); have n4_ := Aside0.mk ((by rw [hg]; exact (below_size (by repeat (first | (with_reducible first | exact HB.out | apply below_alloc | apply pw_below_drewN | apply below_drew1) | exact HB.out))) : w.heap.size ≤ gb567)); have n5_ := Aside0.mk ((by rw [hg]; exact (below_size (by repeat (first | (with_reducible first | exact HB.out | apply below_alloc | apply pw_below_drewN | apply below_drew1) | exact HB.out))) : w.heap.size ≤ gb567)); clear HO_9; clear HO_21; clear HB; have HO_9 := n0_; have HO_21 := n1_; have HB := n2_; have BK567 := n3_; have GW567 := n4_; have GE567 := n5_; clear n0_ n1_ n2_ n3_ n4_ n5_; clear hb hbox hg; have hcz28_0 : w27.cell? ⟨gb567, 0, none⟩ = some (.int .i64 0) := (blk_cell BK567.out 0).trans rfl; have hcz28_1 : w27.cell? ⟨gb567, 1, none⟩ = some (.int .i64 0) := (blk_cell BK567.out 1).trans rfl; have hcz28_2 : w27.cell? ⟨gb567, 2, none⟩ = some (.int .i64 0) := (blk_cell BK567.out 2).trans rfl; have hfz28_0 := blk_frozen BK567.out 0; have hfz28_1 := blk_frozen BK567.out 1; have hfz28_2 := blk_frozen BK567.out 2; obtain ⟨hq9a, hq9b, hq9c⟩ := congouref03_Short.chain4 hcz28_0 hcz28_1 hcz28_2 (.int .i64 ((rd_T64 x5_1 x23_2).f0)) (.int .i64 ((rd_T64 x5_1 x23_2).f1)) (.int .i64 ((rd_T64 x5_1 x23_2).f2)) (.int .i64 (wrap64 (((rd_T64 x5_1 x23_2).f1) - 1)))) | ((with_reducible refine gate_builtin (b := .append) (xs := #[.tmp 34, .tmp 36]) rfl ?_); at_builtin; refine Kd.R_append k64 (w0 := w) w.heap.size rfl (.tmp 34) (.tmp 36) 56 64 (.agg #[(.int .i64 0), (.int .i64 0), (.int .i64 0)]) 24 rfl Try.underlying56 info64 rfl (by decide) (by omega) u9 x9_2 (⟨(rd_T64 x5_1 x23_2).f0, wrap64 (((rd_T64 x5_1 x23_2).f1) - 1), (rd_T64 x5_1 x23_2).f2⟩ : S64) [.int .i64 ((rd_T64 x5_1 x23_2).f0), .int .i64 (wrap64 (((rd_T64 x5_1 x23_2).f1) - 1)), .int .i64 ((rd_T64 x5_1 x23_2).f2)] (fun k_ => some k_ ≠ (.slice (some ad566) x5_1.length co20 : Value).ownBlock ∧ k_ ≠ gb567) (fun _ => False) rfl (by first | (go_simp; done) | (go_simp; rfl)) ?aP (fun _ hk => hk.elim) ?aF ?aO ?aB ?aS ?aL ?_; (case aP => exact k64_mkM _ _ _ (⟨(rd_T64 x5_1 x23_2).f0, wrap64 (((rd_T64 x5_1 x23_2).f1) - 1), (rd_T64 x5_1 x23_2).f2⟩ : S64)); (case aB => exact (by repeat (first | (with_reducible first | exact HB.out | apply below_alloc | apply pw_below_drewN | apply below_drew1 | refine below_set ?_ GE567.out) | exact HB.out))); (case aF => exact (fun k_ hk => ⟨Kd.fresh' (Kd.R_lt (by (with_reducible repeat (first | apply Kd.R_alloc | apply Kd.R_drewN | apply Kd.R_drew)); exact (Kd.R_mono (Kd.R_far (p := ⟨gb567, 1, none⟩) (Kd.R_far (p := ⟨gb567, 2, none⟩) (Kd.R_far (p := ⟨gb567, 1, none⟩) (Kd.R_far (p := ⟨gb567, 0, none⟩) (Kd.R_mono HO_21.out (fun k_ hk => (⟨hk, hk.2⟩ : _ ∧ k_ ≠ gb567))) (fun _ hk => hk.2) (.int .i64 ((rd_T64 x5_1 x23_2).f0))) (fun _ hk => hk.2) (.int .i64 ((rd_T64 x5_1 x23_2).f1))) (fun _ hk => hk.2) (.int .i64 ((rd_T64 x5_1 x23_2).f2))) (fun _ hk => hk.2) (.int .i64 (wrap64 (((rd_T64 x5_1 x23_2).f1) - 1)))) (fun _ h_ => h_.1)))) k_ hk, Kd.freshB (g := gb567) (o := .cells #[.int .i64 ((rd_T64 x5_1 x23_2).f0), .int .i64 (wrap64 (((rd_T64 x5_1 x23_2).f1) - 1)), .int .i64 ((rd_T64 x5_1 x23_2).f2)] 64 (0, 0)) (by (with_reducible repeat (first | refine blk_drewN ?_ _ | refine blk_drew ?_ | refine blk_alloc ?_ _)); refine blk_put (cs := #[.int .i64 ((rd_T64 x5_1 x23_2).f0), .int .i64 ((rd_T64 x5_1 x23_2).f1), .int .i64 ((rd_T64 x5_1 x23_2).f2)]) ?_ 1 _ rfl; (with_reducible repeat (first | refine blk_drewN ?_ _ | refine blk_drew ?_ | refine blk_alloc ?_ _)); refine blk_put (cs := #[.int .i64 ((rd_T64 x5_1 x23_2).f0), .int .i64 ((rd_T64 x5_1 x23_2).f1), .int .i64 0]) ?_ 2 _ rfl; (with_reducible repeat (first | refine blk_drewN ?_ _ | refine blk_drew ?_ | refine blk_alloc ?_ _)); refine blk_put (cs := #[.int .i64 ((rd_T64 x5_1 x23_2).f0), .int .i64 0, .int .i64 0]) ?_ 1 _ rfl; (with_reducible repeat (first | refine blk_drewN ?_ _ | refine blk_drew ?_ | refine blk_alloc ?_ _)); refine blk_put (cs := #[.int .i64 0, .int .i64 0, .int .i64 0]) ?_ 0 _ rfl; (with_reducible repeat (first | refine blk_drewN ?_ _ | refine blk_drew ?_ | refine blk_alloc ?_ _)); exact BK567.out) k_ hk⟩)); (case aO => exact (by (with_reducible repeat (first | apply Kd.R_alloc | apply Kd.R_drewN | apply Kd.R_drew)); exact Kd.R_mono (Kd.R_far (p := ⟨gb567, 1, none⟩) (Kd.R_far (p := ⟨gb567, 2, none⟩) (Kd.R_far (p := ⟨gb567, 1, none⟩) (Kd.R_far (p := ⟨gb567, 0, none⟩) (Kd.R_mono HO_9.out (fun k_ hk => (⟨hk, hk.2⟩ : _ ∧ k_ ≠ gb567))) (fun _ hk => hk.2) (.int .i64 ((rd_T64 x5_1 x23_2).f0))) (fun _ hk => hk.2) (.int .i64 ((rd_T64 x5_1 x23_2).f1))) (fun _ hk => hk.2) (.int .i64 ((rd_T64 x5_1 x23_2).f2))) (fun _ hk => hk.2) (.int .i64 (wrap64 (((rd_T64 x5_1 x23_2).f1) - 1)))) (fun _ hk => ⟨hk.1.1, hk.1.2⟩))); (case aS => exact (below_size (by repeat (first | (with_reducible first | exact HB.out | apply below_alloc | apply pw_below_drewN | apply below_drew1 | refine below_set ?_ GE567.out) | exact HB.out)))); (case aL => have := LMc26.out; omega); intro v569 w29 ho hb hg hat; rw [← Ny568.out] at ho; have n0_ := Aside0.mk (Kd.R_after (ok := (fun k_ => k_ ≠ gb567)) (by (with_reducible repeat (first | apply Kd.R_alloc | apply Kd.R_drewN | apply Kd.R_drew)); exact Kd.R_mono (Kd.R_far (p := ⟨gb567, 1, none⟩) (Kd.R_far (p := ⟨gb567, 2, none⟩) (Kd.R_far (p := ⟨gb567, 1, none⟩) (Kd.R_far (p := ⟨gb567, 0, none⟩) (Kd.R_mono HO_21.out (fun k_ hk => (⟨hk, hk.2⟩ : _ ∧ k_ ≠ gb567))) (fun _ hk => hk.2) (.int .i64 ((rd_T64 x5_1 x23_2).f0))) (fun _ hk => hk.2) (.int .i64 ((rd_T64 x5_1 x23_2).f1))) (fun _ hk => hk.2) (.int .i64 ((rd_T64 x5_1 x23_2).f2))) (fun _ hk => hk.2) (.int .i64 (wrap64 (((rd_T64 x5_1 x23_2).f1) - 1)))) (fun _ hk => ⟨hk.1.2, hk.1.1⟩)) hg hat); have n1_ := Aside0.mk (blk_grown (g := gb567) (o := .cells #[.int .i64 ((rd_T64 x5_1 x23_2).f0), .int .i64 (wrap64 (((rd_T64 x5_1 x23_2).f1) - 1)), .int .i64 ((rd_T64 x5_1 x23_2).f2)] 64 (0, 0)) (by (with_reducible repeat (first | refine blk_drewN ?_ _ | refine blk_drew ?_ | refine blk_alloc ?_ _)); refine blk_put (cs := #[.int .i64 ((rd_T64 x5_1 x23_2).f0), .int .i64 ((rd_T64 x5_1 x23_2).f1), .int .i64 ((rd_T64 x5_1 x23_2).f2)]) ?_ 1 _ rfl; (with_reducible repeat (first | refine blk_drewN ?_ _ | refine blk_drew ?_ | refine blk_alloc ?_ _)); refine blk_put (cs := #[.int .i64 ((rd_T64 x5_1 x23_2).f0), .int .i64 ((rd_T64 x5_1 x23_2).f1), .int .i64 0]) ?_ 2 _ rfl; (with_reducible repeat (first | refine blk_drewN ?_ _ | refine blk_drew ?_ | refine blk_alloc ?_ _)); refine blk_put (cs := #[.int .i64 ((rd_T64 x5_1 x23_2).f0), .int .i64 0, .int .i64 0]) ?_ 1 _ rfl; (with_reducible repeat (first | refine blk_drewN ?_ _ | refine blk_drew ?_ | refine blk_alloc ?_ _)); refine blk_put (cs := #[.int .i64 0, .int .i64 0, .int .i64 0]) ?_ 0 _ rfl; (with_reducible repeat (first | refine blk_drewN ?_ _ | refine blk_drew ?_ | refine blk_alloc ?_ _)); exact BK567.out) hg (Kd.R_away HO_9.out (fun _ hk => hk.2))); have n2_ := Aside0.mk (hb); have n3_ := Aside0.mk (ho); clear HO_21; clear BK567; clear HB; clear HO_9; have HO_21 := n0_; have BK567 := n1_; have HB := n2_; have HO570 := n3_; clear n0_ n1_ n2_ n3_; clear ho hb hg hat))
                              go_roundg k2
                              case measure => have := HK1.out; have := HK2.out; omega
                              case rel => exact ⟨(y568), (wrap64 (x23_2 + 1)), (by first | rfl | (simp; done) | (simp [*]; done)), H', ⟨by have := HK1.out; have := HK2.out; omega⟩, ⟨by (with_reducible repeat (first | apply Kd.R_alloc | apply Kd.R_drewN | apply Kd.R_drew)); exact Kd.R_mono HO570.out (fun _ hk => hk.1)⟩, ⟨by (with_reducible repeat (first | apply Kd.R_alloc | apply Kd.R_drewN | apply Kd.R_drew)); exact Kd.R_mono HO_21.out (fun _ hk => hk.2)⟩, ⟨by repeat (first | (with_reducible first | exact HB.out | apply below_alloc | apply pw_below_drewN | apply below_drew1 | refine below_set ?_ GE567.out) | exact HB.out)⟩⟩
                            · rw [if_neg c26] at H
                              exact absurd H (by simp)
                          · rw [if_neg c25] at H
                            have c25b0 : decide (0 < (wrap64 (((rd_T64 x5_1 x23_2).f1) - 1))) = false := decide_eq_false c25
                            clear c25
                            have H' := Aside0.mk H
                            clear H
                            have p566 : 0 ≤ (x23_2 : Int) := of_decide_eq_true (by first | (with_reducible assumption) | assumption)
                            have q566 : x23_2 < (x5_1.length : Int) := of_decide_eq_true (by first | (with_reducible assumption) | assumption)
                            obtain ⟨ad566, e566, hx566_0, hx566_1, hx566_2⟩ := at_T64 (Kd.R_reads' HO_21.out).2.2 x23_2 p566 q566
                            cases e566
                            replace p566 := eq_true p566
                            replace q566 := eq_true q566
                            go_wp2_with (first | ((with_reducible refine gate_dst (N := 11) rfl ?_); refine box_event ?hg (N := 11) ?hd (cs := #[.int .i64 0, .int .i64 0, .int .i64 0]) (t := 64) ?hr ?_; (case hd => rfl); (case hg => rfl); (case hr => first | (go_simp; done) | (go_simp; rfl)); intro gb567 hg w30 hbox hb; have n0_ := Aside0.mk (Kd.R_below (Kd.R_elderB (by (with_reducible repeat (first | apply Kd.R_alloc | apply Kd.R_drewN | apply Kd.R_drew)); exact HO_9.out) gb567 (Nat.le_of_eq hg.symm)) hb); have n1_ := Aside0.mk (Kd.R_below (Kd.R_elderB (by (with_reducible repeat (first | apply Kd.R_alloc | apply Kd.R_drewN | apply Kd.R_drew)); exact HO_21.out) gb567 (Nat.le_of_eq hg.symm)) hb); have n2_ := Aside0.mk (below_step (by repeat (first | (with_reducible first | exact HB.out | apply below_alloc | apply pw_below_drewN | apply below_drew1) | exact HB.out)) hb); have n3_ := Aside0.mk (hbox); have n4_ := Aside0.mk ((by rw [hg]; exact (below_size (by repeat (first | (with_reducible first | exact HB.out | apply below_alloc | apply pw_below_drewN | apply below_drew1) | exact HB.out))) : w.heap.size ≤ gb567)); have n5_ := Aside0.mk ((by rw [hg]; exact (below_size (by repeat (first | (with_reducible first | exact HB.out | apply below_alloc | apply pw_below_drewN | apply below_drew1) | exact HB.out))) : w.heap.size ≤ gb567)); clear HO_9; clear HO_21; clear HB; have HO_9 := n0_; have HO_21 := n1_; have HB := n2_; have BK567 := n3_; have GW567 := n4_; have GE567 := n5_; clear n0_ n1_ n2_ n3_ n4_ n5_; clear hb hbox hg; have hcz31_0 : w30.cell? ⟨gb567, 0, none⟩ = some (.int .i64 0) := (blk_cell BK567.out 0).trans rfl; have hcz31_1 : w30.cell? ⟨gb567, 1, none⟩ = some (.int .i64 0) := (blk_cell BK567.out 1).trans rfl; have hcz31_2 : w30.cell? ⟨gb567, 2, none⟩ = some (.int .i64 0) := (blk_cell BK567.out 2).trans rfl; have hfz31_0 := blk_frozen BK567.out 0; have hfz31_1 := blk_frozen BK567.out 1; have hfz31_2 := blk_frozen BK567.out 2; obtain ⟨hq9a, hq9b, hq9c⟩ := congouref03_Short.chain4 hcz31_0 hcz31_1 hcz31_2 (.int .i64 ((rd_T64 x5_1 x23_2).f0)) (.int .i64 ((rd_T64 x5_1 x23_2).f1)) (.int .i64 ((rd_T64 x5_1 x23_2).f2)) (.int .i64 (wrap64 (((rd_T64 x5_1 x23_2).f1) - 1)))))
                            go_roundg k2
                            case measure => have := HK1.out; have := HK2.out; omega
                            case rel => exact ⟨(x9_2), (wrap64 (x23_2 + 1)), (by first | rfl | (simp; done) | (simp [*]; done)), H', ⟨by have := HK1.out; have := HK2.out; omega⟩, ⟨by (with_reducible repeat (first | apply Kd.R_alloc | apply Kd.R_drewN | apply Kd.R_drew)); exact Kd.R_mono (Kd.R_far (p := ⟨gb567, 1, none⟩) (Kd.R_far (p := ⟨gb567, 2, none⟩) (Kd.R_far (p := ⟨gb567, 1, none⟩) (Kd.R_far (p := ⟨gb567, 0, none⟩) (Kd.R_mono HO_9.out (fun k_ hk => (⟨hk, hk.2⟩ : _ ∧ k_ ≠ gb567))) (fun _ hk => hk.2) (.int .i64 ((rd_T64 x5_1 x23_2).f0))) (fun _ hk => hk.2) (.int .i64 ((rd_T64 x5_1 x23_2).f1))) (fun _ hk => hk.2) (.int .i64 ((rd_T64 x5_1 x23_2).f2))) (fun _ hk => hk.2) (.int .i64 (wrap64 (((rd_T64 x5_1 x23_2).f1) - 1)))) (fun _ hk => hk.1.1)⟩, ⟨by (with_reducible repeat (first | apply Kd.R_alloc | apply Kd.R_drewN | apply Kd.R_drew)); exact Kd.R_mono (Kd.R_far (p := ⟨gb567, 1, none⟩) (Kd.R_far (p := ⟨gb567, 2, none⟩) (Kd.R_far (p := ⟨gb567, 1, none⟩) (Kd.R_far (p := ⟨gb567, 0, none⟩) (Kd.R_mono HO_21.out (fun k_ hk => (⟨hk, hk.2⟩ : _ ∧ k_ ≠ gb567))) (fun _ hk => hk.2) (.int .i64 ((rd_T64 x5_1 x23_2).f0))) (fun _ hk => hk.2) (.int .i64 ((rd_T64 x5_1 x23_2).f1))) (fun _ hk => hk.2) (.int .i64 ((rd_T64 x5_1 x23_2).f2))) (fun _ hk => hk.2) (.int .i64 (wrap64 (((rd_T64 x5_1 x23_2).f1) - 1)))) (fun _ hk => hk.1.1)⟩, ⟨by repeat (first | (with_reducible first | exact HB.out | apply below_alloc | apply pw_below_drewN | apply below_drew1 | refine below_set ?_ GE567.out) | exact HB.out)⟩⟩
                        · rw [if_neg c24] at H
                          exact absurd H (by simp)
                      · rw [if_neg c23] at H
                        exact absurd H (by simp)
                    · rw [if_neg c22] at H
                      have c22b0 : decide (x23_2 < (x5_1.length : Int)) = false := decide_eq_false c22
                      clear c22
                      have H' := Aside0.mk H
                      clear H
                      go_wp2
                      go_roundg k2
                      case measure => have := HK1.out; have := HK2.out; omega
                      case rel => exact ⟨(x9_2), (wrap64 (x14_1 + 1)), (by first | rfl | (simp; done) | (simp [*]; done)), H', ⟨by have := HK1.out; have := HK2.out; omega⟩, ⟨by (with_reducible repeat (first | apply Kd.R_alloc | apply Kd.R_drewN | apply Kd.R_drew)); exact Kd.R_mono HO_9.out (fun _ hk => trivial)⟩, ⟨by repeat (first | (with_reducible first | exact HB.out | apply below_alloc | apply pw_below_drewN | apply below_drew1) | exact HB.out)⟩⟩
          · rw [if_neg c5] at H
            exact absurd H (by simp)
        · rw [if_neg c4] at H
          exact absurd H (by simp)
      · rw [if_neg c3] at H
        have c3b0 : decide (x14_1 < (l1.length : Int)) = false := decide_eq_false c3
        clear c3
        replace H := Option.bind_eq_some_iff.mp H
        obtain ⟨t556, A320, H⟩ := H
        replace H : (some t556) = some r := H
        have A32 := Aside0.mk A320
        clear A320
        obtain rfl := Option.some.inj H
        obtain ⟨Ao33, co33, eo33⟩ := Kd.R_slice HO_5.out
        subst eo33
        go_wp2_with (first | ((with_reducible refine gate_callee (f := 73) rfl ?_); refine goesL_ (some 63) rfl rfl Try.func73 (by kernel_rfl) rfl #[.slice Ao33 x5_1.length co33] rfl (by (try simp only [List.map_toArray, List.map_cons, List.map_nil]); first | done | rfl | (simp only [List.length_drop, List.length_take]; rfl)) ?_; (with_reducible refine (congouref03_rising.calls k1 _ _ x5_1 t556 _ ?side1 ?side2 A32.out).mono ?_); (case side1 => repeat (first | exact (Kd.R_reads' HO_5.out).2.2 | (with_reducible refine Kd.C_alloc ?_ _) | (with_reducible refine Kd.C_drewN ?_ _) | (with_reducible refine Kd.C_drew ?_))); (case side2 => exact (Kd.R_reads' HO_5.out).2.1); rintro e w34 ⟨v557, rfl, ho0, hb⟩; refine ⟨_, rfl, ?_⟩; have n0_ := Aside0.mk (Kd.R_elder' (by (with_reducible repeat (first | apply Kd.R_alloc | apply Kd.R_drewN | apply Kd.R_drew)); exact HO_5.out) (Kd.R_base ho0) hb); have n1_ := Aside0.mk (Kd.R_lower (Kd.R_new' ho0 (Kd.R_lt (by (with_reducible repeat (first | apply Kd.R_alloc | apply Kd.R_drewN | apply Kd.R_drew)); exact HO_5.out))) (below_size (by repeat (first | (with_reducible first | exact HB.out | apply below_alloc | apply pw_below_drewN | apply below_drew1) | exact HB.out)))); have n2_ := Aside0.mk (below_step (by repeat (first | (with_reducible first | exact HB.out | apply below_alloc | apply pw_below_drewN | apply below_drew1) | exact HB.out)) hb); clear HO_5; clear HB; have HO_5 := n0_; have HO558 := n1_; have HB := n2_; clear n0_ n1_ n2_; (try clear hb); (try clear hb2); (try clear hk); (try clear hi); (try clear ho0)))
        go_ret
        exact ⟨_, by first | rfl | (simp [errW_none, errW_some] <;> rfl) | (simp [*, errW_none, errW_some] <;> rfl), by (with_reducible repeat (first | apply Kd.R_alloc | apply Kd.R_drewN | apply Kd.R_drew)); exact Kd.R_mono HO558.out (fun _ hk => trivial), by repeat (first | (with_reducible first | exact HB.out | apply below_alloc | apply pw_below_drewN | apply below_drew1) | exact HB.out)⟩

end Go.Proofs.Ytdffhffhnjkcpaa.X
