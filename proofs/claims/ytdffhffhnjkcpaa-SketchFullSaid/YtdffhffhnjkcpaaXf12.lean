-- Written by a program of this work (wip/xprint.py, over the kit's printer) out of the translation.
import Derived.Test.YtdffhffhnjkcpaaX0
import Derived.Test.YtdffhffhnjkcpaaXG1a
import Derived.Test.YtdffhffhnjkcpaaXG2a
import Derived.Test.YtdffhffhnjkcpaaXf18
import Derived.Test.YtdffhffhnjkcpaaXf47
import Derived.Test.YtdffhffhnjkcpaaE19
import Derived.Test.YtdffhffhnjkcpaaE46
namespace Go.Proofs.Ytdffhffhnjkcpaa.X
open Go.RowKit Go.Proofs.YtdffhffhnjkcpaaW.PrintWords Go.Proofs.YtdffhffhnjkcpaaW.PrintLast Go.Proofs.YtdffhffhnjkcpaaW.PrintMore
attribute [local go_sem] max2_int min2_int max_two min_two max_three min_three max_four min_four   -- for this text's walks alone
set_option linter.unusedVariables false
set_option linter.unusedSimpArgs false

/-! ### congoulaw03_SketchFull: function 12 -/
mutual
def congoulaw03_SketchFull.j0 : Nat → Int → List Int → List (S70) → Int → Bool → Option (Bool)
  | 0, _, _, _, _, _ => none
  | k + 1, x0, x1, x5, x6, x28 => if x28 = true then (if x6 = 2 then ((congoulaw03_awake.f).bind fun t505 => (some t505)) else (some false)) else ((congoulaw03_order.f k x0 x5).bind fun t506 => (if t506 = true then (congoulaw03_SketchFull.l0 k x0 x1 x5 0 (x1.length : Int) x5 (x5.length : Int) 0) else (some false)))
def congoulaw03_SketchFull.l0 : Nat → Int → List Int → List (S70) → Int → Int → List (S70) → Int → Int → Option (Bool)
  | 0, _, _, _, _, _, _, _, _ => none
  | k + 1, x0, x1, x5, x7, x8, x40, x41, x42 => if x42 < x41 then (if 0 ≤ x42 then (if x42 < (x40.length : Int) then (congoulaw03_SketchFull.l0 k x0 x1 x5 (wrap64 (x7 + ((rd_T70 x40 x42).f1))) (mn x8 ((rd_T70 x40 x42).f1)) x40 x41 (wrap64 (x42 + 1))) else (none)) else (none)) else (congoulaw03_SketchFull.l1 k x0 x1 x5 x7 x8 0)
def congoulaw03_SketchFull.l1 : Nat → Int → List Int → List (S70) → Int → Int → Int → Option (Bool)
  | 0, _, _, _, _, _, _ => none
  | k + 1, x0, x1, x5, x7, x8, x55 => if x55 < 16 then ((congoulaw03_list.f x1).bind fun t510 => ((xOften.f t510 x55).bind fun bt513 => ((congoulaw03_of.f k x5 x55).bind fun bt515 => (if bt513.2 = 0 then (congoulaw03_SketchFull.j3 k x0 x1 x5 x7 x8 bt513.1 x55 (decide (bt515.2.2 < 0)) bt515.1 bt515.2.1 bt515.2.2) else (congoulaw03_SketchFull.j3 k x0 x1 x5 x7 x8 bt513.1 x55 true bt515.1 bt515.2.1 bt515.2.2))))) else (if x7 = (x1.length : Int) then ((congoulaw03_awake.f).bind fun t509 => (some t509)) else (some false))
def congoulaw03_SketchFull.j3 : Nat → Int → List Int → List (S70) → Int → Int → Int → Int → Bool → Int → Int → Int → Option (Bool)
  | 0, _, _, _, _, _, _, _, _, _, _, _ => none
  | k + 1, x0, x1, x5, x7, x8, x12, x55, x74, x519000, x519001, x519002 => if x74 = true then (some false) else (if x519001 > 0 then (if x519001 < x12 then (some false) else (if (wrap64 (x519001 - x519002)) > x12 then (some false) else (congoulaw03_SketchFull.l1 k x0 x1 x5 x7 x8 (wrap64 (x55 + 1))))) else (if x12 > 0 then (if (x5.length : Int) < x0 then (some false) else (if x12 > x8 then (some false) else (congoulaw03_SketchFull.l1 k x0 x1 x5 x7 x8 (wrap64 (x55 + 1))))) else (congoulaw03_SketchFull.l1 k x0 x1 x5 x7 x8 (wrap64 (x55 + 1)))))
end
def congoulaw03_SketchFull.f (k : Nat) (a0 : Int) (l1 : List Int) : Option (Bool) := (congoulaw03_list.f l1).bind fun t497 => ((xFull.f a0 t497).bind fun bt500 => (if bt500.2 = 0 then ((congouref03_Counters.f a0).bind fun t504 => (congoulaw03_SketchFull.j0 k a0 l1 bt500.1 bt500.2 (!t504))) else (congoulaw03_SketchFull.j0 k a0 l1 bt500.1 bt500.2 true)))
theorem congoulaw03_SketchFull.mono_l : ∀ k, (∀ y0 y1 y2 y3 y4, LeO (congoulaw03_SketchFull.j0 k y0 y1 y2 y3 y4) (congoulaw03_SketchFull.j0 (k + 1) y0 y1 y2 y3 y4)) ∧ (∀ y0 y1 y2 y3 y4 y5 y6 y7, LeO (congoulaw03_SketchFull.l0 k y0 y1 y2 y3 y4 y5 y6 y7) (congoulaw03_SketchFull.l0 (k + 1) y0 y1 y2 y3 y4 y5 y6 y7)) ∧ (∀ y0 y1 y2 y3 y4 y5, LeO (congoulaw03_SketchFull.l1 k y0 y1 y2 y3 y4 y5) (congoulaw03_SketchFull.l1 (k + 1) y0 y1 y2 y3 y4 y5)) ∧ (∀ y0 y1 y2 y3 y4 y5 y6 y7 y8 y9 y10, LeO (congoulaw03_SketchFull.j3 k y0 y1 y2 y3 y4 y5 y6 y7 y8 y9 y10) (congoulaw03_SketchFull.j3 (k + 1) y0 y1 y2 y3 y4 y5 y6 y7 y8 y9 y10))
  | 0 => ⟨fun _ _ _ _ _ r h => by simp [congoulaw03_SketchFull.j0] at h, fun _ _ _ _ _ _ _ _ r h => by simp [congoulaw03_SketchFull.l0] at h, fun _ _ _ _ _ _ r h => by simp [congoulaw03_SketchFull.l1] at h, fun _ _ _ _ _ _ _ _ _ _ _ r h => by simp [congoulaw03_SketchFull.j3] at h⟩
  | k + 1 => by
    obtain ⟨ih0, ih1, ih2, ih3⟩ := congoulaw03_SketchFull.mono_l k
    refine ⟨?_, ?_, ?_, ?_⟩
    · intro y0 y1 y2 y3 y4
      unfold congoulaw03_SketchFull.j0
      repeat' first
      | (with_reducible exact ih0 _ _ _ _ _)
      | (with_reducible exact ih1 _ _ _ _ _ _ _ _)
      | (with_reducible exact ih2 _ _ _ _ _ _)
      | (with_reducible exact ih3 _ _ _ _ _ _ _ _ _ _ _)
      | (with_reducible exact congoulaw03_of.mono _ _ _)
      | (with_reducible exact congoulaw03_order.mono _ _ _)
      | (with_reducible exact LeO.refl _)
      | (with_reducible exact LeO.none _)
      | (with_reducible refine LeO.ite ?_ ?_)
      | (with_reducible refine LeO.bind ?_ (fun _ => ?_))
      | exact ih0 _ _ _ _ _
      | exact ih1 _ _ _ _ _ _ _ _
      | exact ih2 _ _ _ _ _ _
      | exact ih3 _ _ _ _ _ _ _ _ _ _ _
      | exact congoulaw03_of.mono _ _ _
      | exact congoulaw03_order.mono _ _ _
      | exact LeO.none _
      | refine LeO.ite ?_ ?_
      | refine LeO.bind ?_ (fun _ => ?_)
    · intro y0 y1 y2 y3 y4 y5 y6 y7
      unfold congoulaw03_SketchFull.l0
      repeat' first
      | (with_reducible exact ih0 _ _ _ _ _)
      | (with_reducible exact ih1 _ _ _ _ _ _ _ _)
      | (with_reducible exact ih2 _ _ _ _ _ _)
      | (with_reducible exact ih3 _ _ _ _ _ _ _ _ _ _ _)
      | (with_reducible exact congoulaw03_of.mono _ _ _)
      | (with_reducible exact congoulaw03_order.mono _ _ _)
      | (with_reducible exact LeO.refl _)
      | (with_reducible exact LeO.none _)
      | (with_reducible refine LeO.ite ?_ ?_)
      | (with_reducible refine LeO.bind ?_ (fun _ => ?_))
      | exact ih0 _ _ _ _ _
      | exact ih1 _ _ _ _ _ _ _ _
      | exact ih2 _ _ _ _ _ _
      | exact ih3 _ _ _ _ _ _ _ _ _ _ _
      | exact congoulaw03_of.mono _ _ _
      | exact congoulaw03_order.mono _ _ _
      | exact LeO.none _
      | refine LeO.ite ?_ ?_
      | refine LeO.bind ?_ (fun _ => ?_)
    · intro y0 y1 y2 y3 y4 y5
      unfold congoulaw03_SketchFull.l1
      repeat' first
      | (with_reducible exact ih0 _ _ _ _ _)
      | (with_reducible exact ih1 _ _ _ _ _ _ _ _)
      | (with_reducible exact ih2 _ _ _ _ _ _)
      | (with_reducible exact ih3 _ _ _ _ _ _ _ _ _ _ _)
      | (with_reducible exact congoulaw03_of.mono _ _ _)
      | (with_reducible exact congoulaw03_order.mono _ _ _)
      | (with_reducible exact LeO.refl _)
      | (with_reducible exact LeO.none _)
      | (with_reducible refine LeO.ite ?_ ?_)
      | (with_reducible refine LeO.bind ?_ (fun _ => ?_))
      | exact ih0 _ _ _ _ _
      | exact ih1 _ _ _ _ _ _ _ _
      | exact ih2 _ _ _ _ _ _
      | exact ih3 _ _ _ _ _ _ _ _ _ _ _
      | exact congoulaw03_of.mono _ _ _
      | exact congoulaw03_order.mono _ _ _
      | exact LeO.none _
      | refine LeO.ite ?_ ?_
      | refine LeO.bind ?_ (fun _ => ?_)
    · intro y0 y1 y2 y3 y4 y5 y6 y7 y8 y9 y10
      unfold congoulaw03_SketchFull.j3
      repeat' first
      | (with_reducible exact ih0 _ _ _ _ _)
      | (with_reducible exact ih1 _ _ _ _ _ _ _ _)
      | (with_reducible exact ih2 _ _ _ _ _ _)
      | (with_reducible exact ih3 _ _ _ _ _ _ _ _ _ _ _)
      | (with_reducible exact congoulaw03_of.mono _ _ _)
      | (with_reducible exact congoulaw03_order.mono _ _ _)
      | (with_reducible exact LeO.refl _)
      | (with_reducible exact LeO.none _)
      | (with_reducible refine LeO.ite ?_ ?_)
      | (with_reducible refine LeO.bind ?_ (fun _ => ?_))
      | exact ih0 _ _ _ _ _
      | exact ih1 _ _ _ _ _ _ _ _
      | exact ih2 _ _ _ _ _ _
      | exact ih3 _ _ _ _ _ _ _ _ _ _ _
      | exact congoulaw03_of.mono _ _ _
      | exact congoulaw03_order.mono _ _ _
      | exact LeO.none _
      | refine LeO.ite ?_ ?_
      | refine LeO.bind ?_ (fun _ => ?_)
theorem congoulaw03_SketchFull.mono : ∀ a0 a1 k, LeO (congoulaw03_SketchFull.f k a0 a1) (congoulaw03_SketchFull.f (k + 1) a0 a1) := by
  intro a0 a1 k
  obtain ⟨ih0, ih1, ih2, ih3⟩ := congoulaw03_SketchFull.mono_l k
  unfold congoulaw03_SketchFull.f
  repeat' first
      | (with_reducible exact ih0 _ _ _ _ _)
      | (with_reducible exact ih1 _ _ _ _ _ _ _ _)
      | (with_reducible exact ih2 _ _ _ _ _ _)
      | (with_reducible exact ih3 _ _ _ _ _ _ _ _ _ _ _)
      | (with_reducible exact congoulaw03_of.mono _ _ _)
      | (with_reducible exact congoulaw03_order.mono _ _ _)
      | (with_reducible exact LeO.refl _)
      | (with_reducible exact LeO.none _)
      | (with_reducible refine LeO.ite ?_ ?_)
      | (with_reducible refine LeO.bind ?_ (fun _ => ?_))
      | exact ih0 _ _ _ _ _
      | exact ih1 _ _ _ _ _ _ _ _
      | exact ih2 _ _ _ _ _ _
      | exact ih3 _ _ _ _ _ _ _ _ _ _ _
      | exact congoulaw03_of.mono _ _ _
      | exact congoulaw03_order.mono _ _ _
      | exact LeO.none _
      | refine LeO.ite ?_ ?_
      | refine LeO.bind ?_ (fun _ => ?_)
set_option maxHeartbeats 8000000 in
set_option maxRecDepth 100000 in
theorem congoulaw03_SketchFull.calls (k : Nat) (a0 : Int) (A1 : Option Addr) (c1 : Nat) (l1 : List Int) (r : Bool) (w : World) (hr1 : Kd.C (Kd.int .i64) w A1 l1.length l1) (hc1 : l1.length ≤ c1) (hrt : r = true) (h : congoulaw03_SketchFull.f k a0 l1 = some r) :
    Calls Try.prog 12 #[.int .i64 a0, .slice A1 l1.length c1] w fun e w' => e = .returned (.bool r) ∧ Below w.heap.size w w' := by
  have hu70 := Try.underlying70
  have HR1 := Aside0.mk hr1
  have HC1 := Aside0.mk hc1
  clear hr1 hc1
  have HB := Aside0.mk (Below.refl w.heap.size w)
  have H : ((congoulaw03_list.f l1).bind fun t497 => ((xFull.f a0 t497).bind fun bt500 => (if bt500.2 = 0 then ((congouref03_Counters.f a0).bind fun t504 => (congoulaw03_SketchFull.j0 k a0 l1 bt500.1 bt500.2 (!t504))) else (congoulaw03_SketchFull.j0 k a0 l1 bt500.1 bt500.2 true)))) = some r := h
  clear h
  have HRT := Aside0.mk hrt
  clear hrt
  replace H := Option.bind_eq_some_iff.mp H
  obtain ⟨t497, A30, H⟩ := H
  replace H : ((xFull.f a0 t497).bind fun bt500 => (if bt500.2 = 0 then ((congouref03_Counters.f a0).bind fun t504 => (congoulaw03_SketchFull.j0 k a0 l1 bt500.1 bt500.2 (!t504))) else (congoulaw03_SketchFull.j0 k a0 l1 bt500.1 bt500.2 true))) = some r := H
  have A3 := Aside0.mk A30
  clear A30
  replace H := Option.bind_eq_some_iff.mp H
  obtain ⟨⟨t500, t501⟩, A40, H⟩ := H
  replace H : (if t501 = 0 then ((congouref03_Counters.f a0).bind fun t504 => (congoulaw03_SketchFull.j0 k a0 l1 t500 t501 (!t504))) else (congoulaw03_SketchFull.j0 k a0 l1 t500 t501 true)) = some r := H
  have A4 := Aside0.mk A40
  clear A40
  have HC5 := Aside0.mk H
  clear H
  go_enter Try.func12, Try.ntmps12
  go_upto_region 2 with (first | ((with_reducible refine gate_callee (f := 20) rfl ?_); refine goesL_ (some 18) rfl rfl Try.func20 (by kernel_rfl) rfl #[.slice A1 l1.length c1] rfl (by (try simp only [List.map_toArray, List.map_cons, List.map_nil]); first | done | rfl | (simp only [List.length_drop, List.length_take]; rfl)) ?_; (with_reducible refine (congoulaw03_list.calls _ _ l1 t497 _ ?side1 ?side2 A3.out).mono ?_); (case side1 => repeat (first | exact HR1.out | (with_reducible refine Kd.C_alloc ?_ _) | (with_reducible refine Kd.C_drewN ?_ _) | (with_reducible refine Kd.C_drew ?_))); (case side2 => exact HC1.out); rintro e w6 ⟨v498, rfl, ho0, hb⟩; refine ⟨_, rfl, ?_⟩; have n0_ := Aside0.mk (Kd.R_lower ho0 (below_size (by repeat (first | (with_reducible first | exact HB.out | apply below_alloc | apply pw_below_drewN | apply below_drew1) | exact HB.out)))); have n1_ := Aside0.mk (below_step (by repeat (first | (with_reducible first | exact HB.out | apply below_alloc | apply pw_below_drewN | apply below_drew1) | exact HB.out)) hb); clear HB; have HO499 := n0_; have HB := n1_; clear n0_ n1_; (try clear hb); (try clear hb2); (try clear hk); (try clear hi); (try clear ho0); obtain ⟨Ao7, co7, eo7⟩ := Kd.R_slice HO499.out; subst eo7) | ((with_reducible refine gate_callee (f := 46) rfl ?_); refine goesL_ (some 19) rfl rfl Try.func46 (by kernel_rfl) rfl #[.int .i64 a0, .slice Ao7 t497.length co7] rfl (by (try simp only [List.map_toArray, List.map_cons, List.map_nil]); first | done | rfl | (simp only [List.length_drop, List.length_take]; rfl)) ?_; (with_reducible refine (xFull.calls a0 _ _ t497 t500 t501 _ ?side1 ?side2 A4.out).mono ?_); (case side1 => repeat (first | exact (Kd.R_reads' HO499.out).2.2 | (with_reducible refine Kd.C_alloc ?_ _) | (with_reducible refine Kd.C_drewN ?_ _) | (with_reducible refine Kd.C_drew ?_))); (case side2 => exact (Kd.R_reads' HO499.out).2.1); rintro e w8 ⟨v502, rfl, ho0, hb⟩; refine ⟨_, rfl, ?_⟩; have n0_ := Aside0.mk (Kd.R_below (by (with_reducible repeat (first | apply Kd.R_alloc | apply Kd.R_drewN | apply Kd.R_drew)); exact HO499.out) hb); have n1_ := Aside0.mk (Kd.R_lower ho0 (below_size (by repeat (first | (with_reducible first | exact HB.out | apply below_alloc | apply pw_below_drewN | apply below_drew1) | exact HB.out)))); have n2_ := Aside0.mk (below_step (by repeat (first | (with_reducible first | exact HB.out | apply below_alloc | apply pw_below_drewN | apply below_drew1) | exact HB.out)) hb); clear HO499; clear HB; have HO499 := n0_; have HO503 := n1_; have HB := n2_; clear n0_ n1_ n2_; (try clear hb); (try clear hb2); (try clear hk); (try clear hi); (try clear ho0)))
  (try simp only [Act.put, List.setIfInBounds_toArray, List.set_cons_zero, List.set_cons_succ])
  go_cut [28] (fun v28 wc => ∃ (kq : Nat) (x28_4 : Bool), v28 = .bool x28_4 ∧ Aside0 (congoulaw03_SketchFull.j0 kq a0 l1 t500 t501 x28_4 = some r) ∧ Aside0 (kq ≤ k) ∧ Aside0 (Kd.R k70 70 wc w.heap.size (fun _ => True) v502 t500) ∧ Aside0 (Below w.heap.size w wc))
  case first =>
    have H := HC5.out
    clear HC5
    by_cases c9 : t501 = 0
    · rw [if_pos c9] at H
      have c9b0 : (t501 == 0) = true := beq_iff_eq.mpr c9
      have c9b1 : (t501 != 0) = false := bne_eq_false_iff_eq.mpr c9
      clear c9
      (first | rw [c9b0] | (simp only [i64_w, i32_w]; rw [c9b0]) | skip)
      replace H := Option.bind_eq_some_iff.mp H
      obtain ⟨t504, A100, H⟩ := H
      replace H : (congoulaw03_SketchFull.j0 k a0 l1 t500 t501 (!t504)) = some r := H
      have A10 := Aside0.mk A100
      clear A100
      have H' := Aside0.mk H
      clear H
      go_wp2_with (first | (go_at_call 24; (with_reducible refine (congouref03_Counters.calls a0 t504 _ A10.out).mono ?_); rintro e w' ⟨rfl, ⟨nd, rfl⟩⟩))
      go_meet
      case rel => exact ⟨_, (!t504), (by first | rfl | (simp; done) | (simp [*]; done)), H', ⟨by first | omega | exact Nat.le_refl _⟩, ⟨by (with_reducible repeat (first | apply Kd.R_alloc | apply Kd.R_drewN | apply Kd.R_drew)); exact HO503.out⟩, ⟨by repeat (first | (with_reducible first | exact HB.out | apply below_alloc | apply pw_below_drewN | apply below_drew1) | exact HB.out)⟩⟩
    · rw [if_neg c9] at H
      have c9b0 : (t501 == 0) = false := beq_eq_false_iff_ne.mpr c9
      have c9b1 : (t501 != 0) = true := bne_iff_ne.mpr c9
      (first | rw [c9b0] | (simp only [i64_w, i32_w]; rw [c9b0]) | skip)
      have H' := Aside0.mk H
      clear H
      go_wp2
      go_meet
      case rel => exact ⟨_, (true), (by first | rfl | (simp; done) | (simp [*]; done)), H', ⟨by first | omega | exact Nat.le_refl _⟩, ⟨by (with_reducible repeat (first | apply Kd.R_alloc | apply Kd.R_drewN | apply Kd.R_drew)); exact HO503.out⟩, ⟨by repeat (first | (with_reducible first | exact HB.out | apply below_alloc | apply pw_below_drewN | apply below_drew1) | exact HB.out)⟩⟩
  case rest =>
    clear HC5
    try clear c1
    try clear c2
    try clear p2
    try clear c4
    try clear c9
    try clear c9b0
    try clear c9b1
    obtain ⟨kq, x28_4, rfl, HA, HJ4, HO_5, HB⟩ := hcut
    cases kq with
    | zero => exact absurd HA.out (by simp [congoulaw03_SketchFull.j0])
    | succ kj4 =>
      have H := HA.out
      clear HA
      simp only [congoulaw03_SketchFull.j0] at H
      by_cases c11 : x28_4 = true
      · subst c11
        have H1 : (if t501 = 2 then ((congoulaw03_awake.f).bind fun t505 => (some t505)) else (some false)) = some r := by rw [if_pos rfl] at H; exact H
        clear H
        have H := H1
        clear H1
        by_cases c12 : t501 = 2
        · rw [if_pos c12] at H
          have c12b0 : (t501 == 2) = true := beq_iff_eq.mpr c12
          have c12b1 : (t501 != 2) = false := bne_eq_false_iff_eq.mpr c12
          clear c12
          replace H := Option.bind_eq_some_iff.mp H
          obtain ⟨t505, A130, H⟩ := H
          replace H : (some t505) = some r := H
          have A13 := Aside0.mk A130
          clear A130
          obtain rfl := Option.some.inj H
          go_wp2_with (first | (go_at_call 18; (with_reducible refine (congoulaw03_awake.calls  t505 _ A13.out).mono ?_); rintro e w14 ⟨rfl, hb⟩; have n0_ := Aside0.mk (Kd.R_below (by (with_reducible repeat (first | apply Kd.R_alloc | apply Kd.R_drewN | apply Kd.R_drew)); exact HO_5.out) hb); have n1_ := Aside0.mk (below_step (by repeat (first | (with_reducible first | exact HB.out | apply below_alloc | apply pw_below_drewN | apply below_drew1) | exact HB.out)) hb); clear HO_5; clear HB; have HO_5 := n0_; have HB := n1_; clear n0_ n1_; (try clear hb); (try clear hb2); (try clear hk); (try clear hi)))
          go_ret
          exact ⟨by first | rfl | (simp [errW_none, errW_some] <;> rfl) | (simp [*, errW_none, errW_some] <;> rfl), by repeat (first | (with_reducible first | exact HB.out | apply below_alloc | apply pw_below_drewN | apply below_drew1) | exact HB.out)⟩
        · rw [if_neg c12] at H
          have c12b0 : (t501 == 2) = false := beq_eq_false_iff_ne.mpr c12
          have c12b1 : (t501 != 2) = true := bne_iff_ne.mpr c12
          exact absurd (H.trans (congrArg some HRT.out)) (by simp)
      · replace c11 := Bool.eq_false_iff.mpr c11
        subst c11
        have H1 : ((congoulaw03_order.f kj4 a0 t500).bind fun t506 => (if t506 = true then (congoulaw03_SketchFull.l0 kj4 a0 l1 t500 0 (l1.length : Int) t500 (t500.length : Int) 0) else (some false))) = some r := by rw [if_neg (show ¬ (false = true) by decide)] at H; exact H
        clear H
        have H := H1
        clear H1
        replace H := Option.bind_eq_some_iff.mp H
        obtain ⟨t506, A150, H⟩ := H
        replace H : (if t506 = true then (congoulaw03_SketchFull.l0 kj4 a0 l1 t500 0 (l1.length : Int) t500 (t500.length : Int) 0) else (some false)) = some r := H
        have A15 := Aside0.mk A150
        clear A150
        by_cases c16 : t506 = true
        · subst c16
          have H1 : (congoulaw03_SketchFull.l0 kj4 a0 l1 t500 0 (l1.length : Int) t500 (t500.length : Int) 0) = some r := by rw [if_pos rfl] at H; exact H
          clear H
          have H := H1
          clear H1
          have H' := Aside0.mk H
          clear H
          obtain ⟨Ao17, co17, eo17⟩ := Kd.R_slice HO_5.out
          subst eo17
          go_wp2_with (first | ((with_reducible refine gate_callee (f := 47) rfl ?_); refine goesL_ (some 36) rfl rfl Try.func47 (by kernel_rfl) rfl #[.int .i64 a0, .slice Ao17 t500.length co17] rfl (by (try simp only [List.map_toArray, List.map_cons, List.map_nil]); first | done | rfl | (simp only [List.length_drop, List.length_take]; rfl)) ?_; (with_reducible refine (congoulaw03_order.calls kj4 a0 _ _ t500 true _ ?side1 ?side2 A15.out).mono ?_); (case side1 => repeat (first | exact (Kd.R_reads' HO_5.out).2.2 | (with_reducible refine Kd.C_alloc ?_ _) | (with_reducible refine Kd.C_drewN ?_ _) | (with_reducible refine Kd.C_drew ?_))); (case side2 => exact (Kd.R_reads' HO_5.out).2.1); rintro e w18 ⟨rfl, hb⟩; refine ⟨_, rfl, ?_⟩; have n0_ := Aside0.mk (Kd.R_below (by (with_reducible repeat (first | apply Kd.R_alloc | apply Kd.R_drewN | apply Kd.R_drew)); exact HO_5.out) hb); have n1_ := Aside0.mk (below_step (by repeat (first | (with_reducible first | exact HB.out | apply below_alloc | apply pw_below_drewN | apply below_drew1) | exact HB.out)) hb); clear HO_5; clear HB; have HO_5 := n0_; have HB := n1_; clear n0_ n1_; (try clear hb); (try clear hb2); (try clear hk); (try clear hi)))
          go_loopg [7, 8, 42] kj4 (fun kq v7 v8 v42 w' => ∃ (x7_2 : Int) (x8_2 : Int) (x42_2 : Int), v7 = .int .i64 x7_2 ∧ v8 = .int .i64 x8_2 ∧ v42 = .int .i64 x42_2 ∧ Aside0 (congoulaw03_SketchFull.l0 kq a0 l1 t500 x7_2 x8_2 t500 (t500.length : Int) x42_2 = some r) ∧ Aside0 (kq ≤ kj4) ∧ Aside0 (Kd.R k70 70 w' w.heap.size (fun _ => True) (.slice Ao17 t500.length co17) t500) ∧ Aside0 (Kd.R k70 70 w' w.heap.size (fun _ => True) (.slice Ao17 t500.length co17) t500) ∧ Aside0 (Below w.heap.size w w'))
          case atStart => exact ⟨(0), ((l1.length : Int)), (0), (by first | rfl | (simp; done) | (simp [*]; done)), (by first | rfl | (simp; done) | (simp [*]; done)), (by first | rfl | (simp; done) | (simp [*]; done)), H', ⟨Nat.le_refl _⟩, ⟨by (with_reducible repeat (first | apply Kd.R_alloc | apply Kd.R_drewN | apply Kd.R_drew)); exact HO_5.out⟩, ⟨by (with_reducible repeat (first | apply Kd.R_alloc | apply Kd.R_drewN | apply Kd.R_drew)); exact HO_5.out⟩, ⟨by repeat (first | (with_reducible first | exact HB.out | apply below_alloc | apply pw_below_drewN | apply below_drew1) | exact HB.out)⟩⟩
          case round =>
            clear H'
            try clear c1
            try clear c2
            try clear p2
            try clear c4
            try clear c9
            try clear c9b0
            try clear c9b1
            try clear c11
            try clear c12
            try clear c12b0
            try clear c12b1
            try clear c16
            try clear p2
            obtain ⟨x7_2, x8_2, x42_2, rfl, rfl, rfl, HA, HK2, HO_5, HO_40, HB⟩ := hrel
            cases gk with
            | zero => exact absurd HA.out (by simp [congoulaw03_SketchFull.l0])
            | succ k2 =>
              have H := HA.out
              clear HA
              simp only [congoulaw03_SketchFull.l0] at H
              by_cases c19 : x42_2 < (t500.length : Int)
              · rw [if_pos c19] at H
                have c19b0 : decide (x42_2 < (t500.length : Int)) = true := decide_eq_true c19
                clear c19
                by_cases c20 : 0 ≤ x42_2
                · rw [if_pos c20] at H
                  have c20b0 : decide (0 ≤ x42_2) = true := decide_eq_true c20
                  clear c20
                  by_cases c21 : x42_2 < (t500.length : Int)
                  · rw [if_pos c21] at H
                    have c21b0 : decide (x42_2 < (t500.length : Int)) = true := decide_eq_true c21
                    clear c21
                    obtain ⟨ji22, hji22⟩ : ∃ j_ : Int, (mn x8_2 ((rd_T70 t500 x42_2).f1)) = j_ := ⟨_, rfl⟩
                    replace H : (congoulaw03_SketchFull.l0 k2 a0 l1 t500 (wrap64 (x7_2 + ((rd_T70 t500 x42_2).f1))) ji22 t500 (t500.length : Int) (wrap64 (x42_2 + 1))) = some r := by first | (rw [hji22] at H; exact H) | (simp only [hji22] at H ⊢; exact H)
                    have hji22_ : (if ((rd_T70 t500 x42_2).f1) < x8_2 then ((rd_T70 t500 x42_2).f1) else x8_2) = ji22 := hji22
                    have H' := Aside0.mk H
                    clear H
                    have p507 : 0 ≤ (x42_2 : Int) := of_decide_eq_true (by first | (with_reducible assumption) | assumption)
                    have q507 : x42_2 < (t500.length : Int) := of_decide_eq_true (by first | (with_reducible assumption) | assumption)
                    obtain ⟨ad507, e507, hx507_0, hx507_1, hx507_2⟩ := at_T70 (Kd.R_reads' HO_40.out).2.2 x42_2 p507 q507
                    cases e507
                    replace p507 := eq_true p507
                    replace q507 := eq_true q507
                    go_wp2_with (first | ((with_reducible refine gate_dst (N := 10) rfl ?_); (try (refine gate_guard (by rfl) ?_; dsimp only)); refine box_event ?hg (N := 10) ?hd (cs := #[.int .i64 0, .int .i64 0, .int .i64 0]) (t := 70) ?hr ?_; (case hd => rfl); (case hg => rfl); (case hr => first | (go_simp; done) | (go_simp; rfl)); intro gb508 hg w23 hbox hb; have n0_ := Aside0.mk (Kd.R_below (Kd.R_elderB (by (with_reducible repeat (first | apply Kd.R_alloc | apply Kd.R_drewN | apply Kd.R_drew)); exact HO_5.out) gb508 (Nat.le_of_eq hg.symm)) hb); have n1_ := Aside0.mk (Kd.R_below (Kd.R_elderB (by (with_reducible repeat (first | apply Kd.R_alloc | apply Kd.R_drewN | apply Kd.R_drew)); exact HO_40.out) gb508 (Nat.le_of_eq hg.symm)) hb); have n2_ := Aside0.mk (below_step (by repeat (first | (with_reducible first | exact HB.out | apply below_alloc | apply pw_below_drewN | apply below_drew1) | exact HB.out)) hb); have n3_ := Aside0.mk (hbox); have n4_ := Aside0.mk ((by rw [hg]; exact (below_size (by repeat (first | (with_reducible first | exact HB.out | apply below_alloc | apply pw_below_drewN | apply below_drew1) | exact HB.out))) : w.heap.size ≤ gb508)); have n5_ := Aside0.mk ((by rw [hg]; exact (below_size (by repeat (first | (with_reducible first | exact HB.out | apply below_alloc | apply pw_below_drewN | apply below_drew1) | exact HB.out))) : w.heap.size ≤ gb508)); clear HO_5; clear HO_40; clear HB; have HO_5 := n0_; have HO_40 := n1_; have HB := n2_; have BK508 := n3_; have GW508 := n4_; have GE508 := n5_; clear n0_ n1_ n2_ n3_ n4_ n5_; clear hb hbox hg; have hcz24_0 : w23.cell? ⟨gb508, 0, none⟩ = some (.int .i64 0) := (blk_cell BK508.out 0).trans rfl; have hcz24_1 : w23.cell? ⟨gb508, 1, none⟩ = some (.int .i64 0) := (blk_cell BK508.out 1).trans rfl; have hcz24_2 : w23.cell? ⟨gb508, 2, none⟩ = some (.int .i64 0) := (blk_cell BK508.out 2).trans rfl; have hfz24_0 := blk_frozen BK508.out 0; have hfz24_1 := blk_frozen BK508.out 1; have hfz24_2 := blk_frozen BK508.out 2))
                    go_roundg k2
                    case measure => have := HJ4.out; have := HK2.out; omega
                    case rel => exact ⟨(wrap64 (x7_2 + ((rd_T70 t500 x42_2).f1))), (ji22), (wrap64 (x42_2 + 1)), (by first | rfl | (simp; done) | (simp [*]; done)), (by first | rfl | (simp; done) | (simp only [← hji22] <;> (first | rfl | simp)) | (simp [*]; done)), (by first | rfl | (simp; done) | (simp [*]; done)), H', ⟨by have := HJ4.out; have := HK2.out; omega⟩, ⟨by (with_reducible repeat (first | apply Kd.R_alloc | apply Kd.R_drewN | apply Kd.R_drew)); exact Kd.R_mono (Kd.R_far (p := ⟨gb508, 2, none⟩) (Kd.R_far (p := ⟨gb508, 1, none⟩) (Kd.R_far (p := ⟨gb508, 0, none⟩) (Kd.R_mono HO_5.out (fun k_ hk => (⟨hk, hk.2⟩ : _ ∧ k_ ≠ gb508))) (fun _ hk => hk.2) (.int .i64 ((rd_T70 t500 x42_2).f0))) (fun _ hk => hk.2) (.int .i64 ((rd_T70 t500 x42_2).f1))) (fun _ hk => hk.2) (.int .i64 ((rd_T70 t500 x42_2).f2))) (fun _ hk => trivial)⟩, ⟨by (with_reducible repeat (first | apply Kd.R_alloc | apply Kd.R_drewN | apply Kd.R_drew)); exact Kd.R_mono (Kd.R_far (p := ⟨gb508, 2, none⟩) (Kd.R_far (p := ⟨gb508, 1, none⟩) (Kd.R_far (p := ⟨gb508, 0, none⟩) (Kd.R_mono HO_40.out (fun k_ hk => (⟨hk, hk.2⟩ : _ ∧ k_ ≠ gb508))) (fun _ hk => hk.2) (.int .i64 ((rd_T70 t500 x42_2).f0))) (fun _ hk => hk.2) (.int .i64 ((rd_T70 t500 x42_2).f1))) (fun _ hk => hk.2) (.int .i64 ((rd_T70 t500 x42_2).f2))) (fun _ hk => trivial)⟩, ⟨by repeat (first | (with_reducible first | exact HB.out | apply below_alloc | apply pw_below_drewN | apply below_drew1 | refine below_set ?_ GE508.out) | exact HB.out)⟩⟩
                  · rw [if_neg c21] at H
                    exact absurd H (by simp)
                · rw [if_neg c20] at H
                  exact absurd H (by simp)
              · rw [if_neg c19] at H
                have c19b0 : decide (x42_2 < (t500.length : Int)) = false := decide_eq_false c19
                clear c19
                have H' := Aside0.mk H
                clear H
                go_wp2
                go_loopg [55] k2 (fun kq v55 w' => ∃ (x55_3 : Int), v55 = .int .i64 x55_3 ∧ Aside0 (congoulaw03_SketchFull.l1 kq a0 l1 t500 x7_2 x8_2 x55_3 = some r) ∧ Aside0 (kq ≤ k2) ∧ Aside0 (Kd.R k70 70 w' w.heap.size (fun _ => True) (.slice Ao17 t500.length co17) t500) ∧ Aside0 (Below w.heap.size w w'))
                case atStart => exact ⟨(0), (by first | rfl | (simp; done) | (simp [*]; done)), H', ⟨Nat.le_refl _⟩, ⟨by (with_reducible repeat (first | apply Kd.R_alloc | apply Kd.R_drewN | apply Kd.R_drew)); exact HO_5.out⟩, ⟨by repeat (first | (with_reducible first | exact HB.out | apply below_alloc | apply pw_below_drewN | apply below_drew1) | exact HB.out)⟩⟩
                case round =>
                  clear H'
                  try clear c1
                  try clear c2
                  try clear p2
                  try clear c4
                  try clear p5
                  try clear q5
                  try clear hx5
                  try clear p6
                  try clear c9
                  try clear c9b0
                  try clear c9b1
                  try clear c11
                  try clear c12
                  try clear c12b0
                  try clear c12b1
                  try clear c16
                  try clear c19
                  try clear c19b0
                  try clear c20
                  try clear c20b0
                  try clear c21
                  try clear c21b0
                  try clear hcz24_0
                  try clear hcz24_1
                  try clear hcz24_2
                  try clear hfz24_0
                  try clear hfz24_1
                  try clear hfz24_2
                  try clear hx507_0
                  try clear hx507_1
                  try clear hx507_2
                  try clear p2
                  try clear p507
                  try clear q507
                  obtain ⟨x55_3, rfl, HA, HK3, HO_5, HB⟩ := hrel
                  cases gk with
                  | zero => exact absurd HA.out (by simp [congoulaw03_SketchFull.l1])
                  | succ k3 =>
                    have H := HA.out
                    clear HA
                    simp only [congoulaw03_SketchFull.l1] at H
                    by_cases c25 : x55_3 < 16
                    · rw [if_pos c25] at H
                      have c25b0 : decide (x55_3 < 16) = true := decide_eq_true c25
                      clear c25
                      replace H := Option.bind_eq_some_iff.mp H
                      obtain ⟨t510, A260, H⟩ := H
                      replace H : ((xOften.f t510 x55_3).bind fun bt513 => ((congoulaw03_of.f k3 t500 x55_3).bind fun bt515 => (if bt513.2 = 0 then (congoulaw03_SketchFull.j3 k3 a0 l1 t500 x7_2 x8_2 bt513.1 x55_3 (decide (bt515.2.2 < 0)) bt515.1 bt515.2.1 bt515.2.2) else (congoulaw03_SketchFull.j3 k3 a0 l1 t500 x7_2 x8_2 bt513.1 x55_3 true bt515.1 bt515.2.1 bt515.2.2)))) = some r := H
                      have A26 := Aside0.mk A260
                      clear A260
                      replace H := Option.bind_eq_some_iff.mp H
                      obtain ⟨⟨t513, t514⟩, A270, H⟩ := H
                      replace H : ((congoulaw03_of.f k3 t500 x55_3).bind fun bt515 => (if t514 = 0 then (congoulaw03_SketchFull.j3 k3 a0 l1 t500 x7_2 x8_2 t513 x55_3 (decide (bt515.2.2 < 0)) bt515.1 bt515.2.1 bt515.2.2) else (congoulaw03_SketchFull.j3 k3 a0 l1 t500 x7_2 x8_2 t513 x55_3 true bt515.1 bt515.2.1 bt515.2.2))) = some r := H
                      have A27 := Aside0.mk A270
                      clear A270
                      replace H := Option.bind_eq_some_iff.mp H
                      obtain ⟨⟨t515, t516, t517⟩, A280, H⟩ := H
                      replace H : (if t514 = 0 then (congoulaw03_SketchFull.j3 k3 a0 l1 t500 x7_2 x8_2 t513 x55_3 (decide (t517 < 0)) t515 t516 t517) else (congoulaw03_SketchFull.j3 k3 a0 l1 t500 x7_2 x8_2 t513 x55_3 true t515 t516 t517)) = some r := H
                      have A28 := Aside0.mk A280
                      clear A280
                      have HC29 := Aside0.mk H
                      clear H
                      go_upto_region 18 with (first | ((with_reducible refine gate_callee (f := 20) rfl ?_); refine goesL_ (some 60) rfl rfl Try.func20 (by kernel_rfl) rfl #[.slice A1 l1.length c1] rfl (by (try simp only [List.map_toArray, List.map_cons, List.map_nil]); first | done | rfl | (simp only [List.length_drop, List.length_take]; rfl)) ?_; (with_reducible refine (congoulaw03_list.calls _ _ l1 t510 _ ?side1 ?side2 A26.out).mono ?_); (case side1 => repeat (first | exact (Kd.C_below HR1.out HB.out) | (with_reducible refine Kd.C_alloc ?_ _) | (with_reducible refine Kd.C_drewN ?_ _) | (with_reducible refine Kd.C_drew ?_))); (case side2 => exact HC1.out); rintro e w30 ⟨v511, rfl, ho0, hb⟩; refine ⟨_, rfl, ?_⟩; have n0_ := Aside0.mk (Kd.R_below (by (with_reducible repeat (first | apply Kd.R_alloc | apply Kd.R_drewN | apply Kd.R_drew)); exact HO_5.out) hb); have n1_ := Aside0.mk (Kd.R_lower ho0 (below_size (by repeat (first | (with_reducible first | exact HB.out | apply below_alloc | apply pw_below_drewN | apply below_drew1) | exact HB.out)))); have n2_ := Aside0.mk (below_step (by repeat (first | (with_reducible first | exact HB.out | apply below_alloc | apply pw_below_drewN | apply below_drew1) | exact HB.out)) hb); clear HO_5; clear HB; have HO_5 := n0_; have HO512 := n1_; have HB := n2_; clear n0_ n1_ n2_; (try clear hb); (try clear hb2); (try clear hk); (try clear hi); (try clear ho0); obtain ⟨Ao31, co31, eo31⟩ := Kd.R_slice HO512.out; subst eo31) | ((with_reducible refine gate_callee (f := 19) rfl ?_); refine goesL_ (some 62) rfl rfl Try.func19 (by kernel_rfl) rfl #[.slice Ao31 t510.length co31, .int .i64 x55_3] rfl (by (try simp only [List.map_toArray, List.map_cons, List.map_nil]); first | done | rfl | (simp only [List.length_drop, List.length_take]; rfl)) ?_; (with_reducible refine (xOften.calls _ _ t510 x55_3 t513 t514 _ ?side1 ?side2 A27.out).mono ?_); (case side1 => repeat (first | exact (Kd.R_reads' HO512.out).2.2 | (with_reducible refine Kd.C_alloc ?_ _) | (with_reducible refine Kd.C_drewN ?_ _) | (with_reducible refine Kd.C_drew ?_))); (case side2 => exact (Kd.R_reads' HO512.out).2.1); rintro e w32 ⟨rfl, hb⟩; refine ⟨_, rfl, ?_⟩; have n0_ := Aside0.mk (Kd.R_below (by (with_reducible repeat (first | apply Kd.R_alloc | apply Kd.R_drewN | apply Kd.R_drew)); exact HO_5.out) hb); have n1_ := Aside0.mk (Kd.R_below (by (with_reducible repeat (first | apply Kd.R_alloc | apply Kd.R_drewN | apply Kd.R_drew)); exact HO512.out) hb); have n2_ := Aside0.mk (below_step (by repeat (first | (with_reducible first | exact HB.out | apply below_alloc | apply pw_below_drewN | apply below_drew1) | exact HB.out)) hb); clear HO_5; clear HO512; clear HB; have HO_5 := n0_; have HO512 := n1_; have HB := n2_; clear n0_ n1_ n2_; (try clear hb); (try clear hb2); (try clear hk); (try clear hi)) | ((with_reducible refine gate_callee (f := 48) rfl ?_); refine goesL_ (some 67) rfl rfl Try.func48 (by kernel_rfl) rfl #[.slice Ao17 t500.length co17, .int .i64 x55_3] rfl (by (try simp only [List.map_toArray, List.map_cons, List.map_nil]); first | done | rfl | (simp only [List.length_drop, List.length_take]; rfl)) ?_; (with_reducible refine (congoulaw03_of.calls k3 _ _ t500 x55_3 t515 t516 t517 _ ?side1 ?side2 A28.out).mono ?_); (case side1 => repeat (first | exact (Kd.R_reads' HO_5.out).2.2 | (with_reducible refine Kd.C_alloc ?_ _) | (with_reducible refine Kd.C_drewN ?_ _) | (with_reducible refine Kd.C_drew ?_))); (case side2 => exact (Kd.R_reads' HO_5.out).2.1); rintro e w33 ⟨rfl, hb⟩; refine ⟨_, rfl, ?_⟩; have n0_ := Aside0.mk (Kd.R_below (by (with_reducible repeat (first | apply Kd.R_alloc | apply Kd.R_drewN | apply Kd.R_drew)); exact HO_5.out) hb); have n1_ := Aside0.mk (Kd.R_below (by (with_reducible repeat (first | apply Kd.R_alloc | apply Kd.R_drewN | apply Kd.R_drew)); exact HO512.out) hb); have n2_ := Aside0.mk (below_step (by repeat (first | (with_reducible first | exact HB.out | apply below_alloc | apply pw_below_drewN | apply below_drew1) | exact HB.out)) hb); clear HO_5; clear HO512; clear HB; have HO_5 := n0_; have HO512 := n1_; have HB := n2_; clear n0_ n1_ n2_; (try clear hb); (try clear hb2); (try clear hk); (try clear hi)) | ((with_reducible refine gate_dst (N := 14) rfl ?_); (try (refine gate_guard (by rfl) ?_; dsimp only)); refine box_event ?hg (N := 14) ?hd (cs := #[.int .i64 0, .int .i64 0, .int .i64 0]) (t := 70) ?hr ?_; (case hd => rfl); (case hg => rfl); (case hr => first | (go_simp; done) | (go_simp; rfl)); intro gb518 hg w34 hbox hb; have n0_ := Aside0.mk (Kd.R_below (Kd.R_elderB (by (with_reducible repeat (first | apply Kd.R_alloc | apply Kd.R_drewN | apply Kd.R_drew)); exact HO_5.out) gb518 (Nat.le_of_eq hg.symm)) hb); have n1_ := Aside0.mk (Kd.R_below (by (with_reducible repeat (first | apply Kd.R_alloc | apply Kd.R_drewN | apply Kd.R_drew)); exact HO512.out) hb); have n2_ := Aside0.mk (below_step (by repeat (first | (with_reducible first | exact HB.out | apply below_alloc | apply pw_below_drewN | apply below_drew1) | exact HB.out)) hb); have n3_ := Aside0.mk (hbox); have n4_ := Aside0.mk ((by rw [hg]; exact (below_size (by repeat (first | (with_reducible first | exact HB.out | apply below_alloc | apply pw_below_drewN | apply below_drew1) | exact HB.out))) : w.heap.size ≤ gb518)); have n5_ := Aside0.mk ((by rw [hg]; exact (below_size (by repeat (first | (with_reducible first | exact HB.out | apply below_alloc | apply pw_below_drewN | apply below_drew1) | exact HB.out))) : w.heap.size ≤ gb518)); clear HO_5; clear HO512; clear HB; have HO_5 := n0_; have HO512 := n1_; have HB := n2_; have BK518 := n3_; have GW518 := n4_; have GE518 := n5_; clear n0_ n1_ n2_ n3_ n4_ n5_; clear hb hbox hg; have hcz35_0 : w34.cell? ⟨gb518, 0, none⟩ = some (.int .i64 0) := (blk_cell BK518.out 0).trans rfl; have hcz35_1 : w34.cell? ⟨gb518, 1, none⟩ = some (.int .i64 0) := (blk_cell BK518.out 1).trans rfl; have hcz35_2 : w34.cell? ⟨gb518, 2, none⟩ = some (.int .i64 0) := (blk_cell BK518.out 2).trans rfl; have hfz35_0 := blk_frozen BK518.out 0; have hfz35_1 := blk_frozen BK518.out 1; have hfz35_2 := blk_frozen BK518.out 2))
                      (try simp only [Act.put, List.setIfInBounds_toArray, List.set_cons_zero, List.set_cons_succ])
                      go_cut [74] (fun v74 wc => ∃ (kq : Nat) (x74_28 : Bool), v74 = .bool x74_28 ∧ Aside0 (congoulaw03_SketchFull.j3 kq a0 l1 t500 x7_2 x8_2 t513 x55_3 x74_28 t515 t516 t517 = some r) ∧ Aside0 (kq ≤ k3) ∧ Aside0 (Kd.R k70 70 wc w.heap.size (fun k_ => k_ ≠ gb518) (.slice Ao17 t500.length co17) t500) ∧ Aside0 (wc.heap[gb518]? = some (.cells #[.int .i64 t515, .int .i64 t516, .int .i64 t517] 70 (0, 0))) ∧ Aside0 (Below w.heap.size w wc))
                      case first =>
                        have H := HC29.out
                        clear HC29
                        by_cases c36 : t514 = 0
                        · rw [if_pos c36] at H
                          have c36b0 : (t514 == 0) = true := beq_iff_eq.mpr c36
                          have c36b1 : (t514 != 0) = false := bne_eq_false_iff_eq.mpr c36
                          clear c36
                          (first | rw [c36b0] | (simp only [i64_w, i32_w]; rw [c36b0]) | skip)
                          have H' := Aside0.mk H
                          clear H
                          have hcz37_0 : w34.cell? ⟨gb518, 0, none⟩ = some (.int .i64 0) := (blk_cell BK518.out 0).trans rfl
                          have hcz37_1 : w34.cell? ⟨gb518, 1, none⟩ = some (.int .i64 0) := (blk_cell BK518.out 1).trans rfl
                          have hcz37_2 : w34.cell? ⟨gb518, 2, none⟩ = some (.int .i64 0) := (blk_cell BK518.out 2).trans rfl
                          have hfz37_0 := blk_frozen BK518.out 0
                          have hfz37_1 := blk_frozen BK518.out 1
                          have hfz37_2 := blk_frozen BK518.out 2
                          go_wp2
                          go_meet
                          case rel => exact ⟨_, (decide (t517 < 0)), (by first | rfl | (simp; done) | (simp [*]; done)), H', ⟨by have := HJ4.out; have := HK2.out; have := HK3.out; first | omega | exact Nat.le_refl _⟩, ⟨by (with_reducible repeat (first | apply Kd.R_alloc | apply Kd.R_drewN | apply Kd.R_drew)); exact Kd.R_mono (Kd.R_far (p := ⟨gb518, 2, none⟩) (Kd.R_far (p := ⟨gb518, 1, none⟩) (Kd.R_far (p := ⟨gb518, 0, none⟩) (Kd.R_mono HO_5.out (fun k_ hk => (⟨hk, hk.2⟩ : _ ∧ k_ ≠ gb518))) (fun _ hk => hk.2) (.int .i64 t515)) (fun _ hk => hk.2) (.int .i64 t516)) (fun _ hk => hk.2) (.int .i64 t517)) (fun _ hk => hk.1.2)⟩, ⟨by (with_reducible repeat (first | refine blk_drewN ?_ _ | refine blk_drew ?_ | refine blk_alloc ?_ _)); refine blk_put (cs := #[.int .i64 t515, .int .i64 t516, .int .i64 0]) ?_ 2 _ rfl; (with_reducible repeat (first | refine blk_drewN ?_ _ | refine blk_drew ?_ | refine blk_alloc ?_ _)); refine blk_put (cs := #[.int .i64 t515, .int .i64 0, .int .i64 0]) ?_ 1 _ rfl; (with_reducible repeat (first | refine blk_drewN ?_ _ | refine blk_drew ?_ | refine blk_alloc ?_ _)); refine blk_put (cs := #[.int .i64 0, .int .i64 0, .int .i64 0]) ?_ 0 _ rfl; (with_reducible repeat (first | refine blk_drewN ?_ _ | refine blk_drew ?_ | refine blk_alloc ?_ _)); exact BK518.out⟩, ⟨by repeat (first | (with_reducible first | exact HB.out | apply below_alloc | apply pw_below_drewN | apply below_drew1 | refine below_set ?_ GE518.out) | exact HB.out)⟩⟩
                        · rw [if_neg c36] at H
                          have c36b0 : (t514 == 0) = false := beq_eq_false_iff_ne.mpr c36
                          have c36b1 : (t514 != 0) = true := bne_iff_ne.mpr c36
                          (first | rw [c36b0] | (simp only [i64_w, i32_w]; rw [c36b0]) | skip)
                          have H' := Aside0.mk H
                          clear H
                          go_wp2
                          go_meet
                          case rel => exact ⟨_, (true), (by first | rfl | (simp; done) | (simp [*]; done)), H', ⟨by have := HJ4.out; have := HK2.out; have := HK3.out; first | omega | exact Nat.le_refl _⟩, ⟨by (with_reducible repeat (first | apply Kd.R_alloc | apply Kd.R_drewN | apply Kd.R_drew)); exact Kd.R_mono (Kd.R_far (p := ⟨gb518, 2, none⟩) (Kd.R_far (p := ⟨gb518, 1, none⟩) (Kd.R_far (p := ⟨gb518, 0, none⟩) (Kd.R_mono HO_5.out (fun k_ hk => (⟨hk, hk.2⟩ : _ ∧ k_ ≠ gb518))) (fun _ hk => hk.2) (.int .i64 t515)) (fun _ hk => hk.2) (.int .i64 t516)) (fun _ hk => hk.2) (.int .i64 t517)) (fun _ hk => hk.1.2)⟩, ⟨by (with_reducible repeat (first | refine blk_drewN ?_ _ | refine blk_drew ?_ | refine blk_alloc ?_ _)); refine blk_put (cs := #[.int .i64 t515, .int .i64 t516, .int .i64 0]) ?_ 2 _ rfl; (with_reducible repeat (first | refine blk_drewN ?_ _ | refine blk_drew ?_ | refine blk_alloc ?_ _)); refine blk_put (cs := #[.int .i64 t515, .int .i64 0, .int .i64 0]) ?_ 1 _ rfl; (with_reducible repeat (first | refine blk_drewN ?_ _ | refine blk_drew ?_ | refine blk_alloc ?_ _)); refine blk_put (cs := #[.int .i64 0, .int .i64 0, .int .i64 0]) ?_ 0 _ rfl; (with_reducible repeat (first | refine blk_drewN ?_ _ | refine blk_drew ?_ | refine blk_alloc ?_ _)); exact BK518.out⟩, ⟨by repeat (first | (with_reducible first | exact HB.out | apply below_alloc | apply pw_below_drewN | apply below_drew1 | refine below_set ?_ GE518.out) | exact HB.out)⟩⟩
                      case rest =>
                        clear HC29
                        try clear c1
                        try clear c2
                        try clear p2
                        try clear c3
                        try clear c4
                        try clear p5
                        try clear q5
                        try clear hx5
                        try clear p6
                        try clear c9
                        try clear c9b0
                        try clear c9b1
                        try clear c11
                        try clear c12
                        try clear c12b0
                        try clear c12b1
                        try clear c16
                        try clear c19
                        try clear c19b0
                        try clear c20
                        try clear c20b0
                        try clear c21
                        try clear c21b0
                        try clear c25
                        try clear c25b0
                        try clear c36
                        try clear c36b0
                        try clear c36b1
                        try clear hcz24_0
                        try clear hcz24_1
                        try clear hcz24_2
                        try clear hcz35_0
                        try clear hcz35_1
                        try clear hcz35_2
                        try clear hcz37_0
                        try clear hcz37_1
                        try clear hcz37_2
                        try clear hfz24_0
                        try clear hfz24_1
                        try clear hfz24_2
                        try clear hfz35_0
                        try clear hfz35_1
                        try clear hfz35_2
                        try clear hfz37_0
                        try clear hfz37_1
                        try clear hfz37_2
                        try clear hx507_0
                        try clear hx507_1
                        try clear hx507_2
                        try clear p2
                        try clear p5
                        try clear p507
                        try clear p6
                        try clear q5
                        try clear q507
                        obtain ⟨kq, x74_28, rfl, HA, HJ28, HO_5, BK518, HB⟩ := hcut
                        cases kq with
                        | zero => exact absurd HA.out (by simp [congoulaw03_SketchFull.j3])
                        | succ kj28 =>
                          have H := HA.out
                          clear HA
                          simp only [congoulaw03_SketchFull.j3] at H
                          by_cases c38 : x74_28 = true
                          · subst c38
                            have H1 : (some false) = some r := by rw [if_pos rfl] at H; exact H
                            clear H
                            have H := H1
                            clear H1
                            exact absurd (H.trans (congrArg some HRT.out)) (by simp)
                          · replace c38 := Bool.eq_false_iff.mpr c38
                            subst c38
                            have H1 : (if t516 > 0 then (if t516 < t513 then (some false) else (if (wrap64 (t516 - t517)) > t513 then (some false) else (congoulaw03_SketchFull.l1 kj28 a0 l1 t500 x7_2 x8_2 (wrap64 (x55_3 + 1))))) else (if t513 > 0 then (if (t500.length : Int) < a0 then (some false) else (if t513 > x8_2 then (some false) else (congoulaw03_SketchFull.l1 kj28 a0 l1 t500 x7_2 x8_2 (wrap64 (x55_3 + 1))))) else (congoulaw03_SketchFull.l1 kj28 a0 l1 t500 x7_2 x8_2 (wrap64 (x55_3 + 1))))) = some r := by rw [if_neg (show ¬ (false = true) by decide)] at H; exact H
                            clear H
                            have H := H1
                            clear H1
                            by_cases c39 : t516 > 0
                            · rw [if_pos c39] at H
                              have c39b0 : decide (0 < t516) = true := decide_eq_true c39
                              clear c39
                              by_cases c40 : t516 < t513
                              · rw [if_pos c40] at H
                                have c40b0 : decide (t516 < t513) = true := decide_eq_true c40
                                clear c40
                                exact absurd (H.trans (congrArg some HRT.out)) (by simp)
                              · rw [if_neg c40] at H
                                have c40b0 : decide (t516 < t513) = false := decide_eq_false c40
                                clear c40
                                by_cases c41 : (wrap64 (t516 - t517)) > t513
                                · rw [if_pos c41] at H
                                  have c41b0 : decide (t513 < (wrap64 (t516 - t517))) = true := decide_eq_true c41
                                  clear c41
                                  exact absurd (H.trans (congrArg some HRT.out)) (by simp)
                                · rw [if_neg c41] at H
                                  have c41b0 : decide (t513 < (wrap64 (t516 - t517))) = false := decide_eq_false c41
                                  clear c41
                                  have H' := Aside0.mk H
                                  clear H
                                  have hcz42_0 : wc.cell? ⟨gb518, 0, none⟩ = some (.int .i64 t515) := (blk_cell BK518.out 0).trans rfl
                                  have hcz42_1 : wc.cell? ⟨gb518, 1, none⟩ = some (.int .i64 t516) := (blk_cell BK518.out 1).trans rfl
                                  have hcz42_2 : wc.cell? ⟨gb518, 2, none⟩ = some (.int .i64 t517) := (blk_cell BK518.out 2).trans rfl
                                  have hfz42_0 := blk_frozen BK518.out 0
                                  have hfz42_1 := blk_frozen BK518.out 1
                                  have hfz42_2 := blk_frozen BK518.out 2
                                  go_wp2
                                  go_roundg kj28
                                  case measure => have := HJ4.out; have := HK2.out; have := HK3.out; have := HJ28.out; omega
                                  case rel => exact ⟨(wrap64 (x55_3 + 1)), (by first | rfl | (simp; done) | (simp [*]; done)), H', ⟨by have := HJ4.out; have := HK2.out; have := HK3.out; have := HJ28.out; omega⟩, ⟨by (with_reducible repeat (first | apply Kd.R_alloc | apply Kd.R_drewN | apply Kd.R_drew)); exact Kd.R_mono HO_5.out (fun _ hk => trivial)⟩, ⟨by repeat (first | (with_reducible first | exact HB.out | apply below_alloc | apply pw_below_drewN | apply below_drew1 | refine below_set ?_ GE518.out) | exact HB.out)⟩⟩
                            · rw [if_neg c39] at H
                              have c39b0 : decide (0 < t516) = false := decide_eq_false c39
                              clear c39
                              by_cases c43 : t513 > 0
                              · rw [if_pos c43] at H
                                have c43b0 : decide (0 < t513) = true := decide_eq_true c43
                                clear c43
                                by_cases c44 : (t500.length : Int) < a0
                                · rw [if_pos c44] at H
                                  have c44b0 : decide ((t500.length : Int) < a0) = true := decide_eq_true c44
                                  clear c44
                                  exact absurd (H.trans (congrArg some HRT.out)) (by simp)
                                · rw [if_neg c44] at H
                                  have c44b0 : decide ((t500.length : Int) < a0) = false := decide_eq_false c44
                                  clear c44
                                  by_cases c45 : t513 > x8_2
                                  · rw [if_pos c45] at H
                                    have c45b0 : decide (x8_2 < t513) = true := decide_eq_true c45
                                    clear c45
                                    exact absurd (H.trans (congrArg some HRT.out)) (by simp)
                                  · rw [if_neg c45] at H
                                    have c45b0 : decide (x8_2 < t513) = false := decide_eq_false c45
                                    clear c45
                                    have H' := Aside0.mk H
                                    clear H
                                    have hcz46_0 : wc.cell? ⟨gb518, 0, none⟩ = some (.int .i64 t515) := (blk_cell BK518.out 0).trans rfl
                                    have hcz46_1 : wc.cell? ⟨gb518, 1, none⟩ = some (.int .i64 t516) := (blk_cell BK518.out 1).trans rfl
                                    have hcz46_2 : wc.cell? ⟨gb518, 2, none⟩ = some (.int .i64 t517) := (blk_cell BK518.out 2).trans rfl
                                    have hfz46_0 := blk_frozen BK518.out 0
                                    have hfz46_1 := blk_frozen BK518.out 1
                                    have hfz46_2 := blk_frozen BK518.out 2
                                    go_wp2
                                    go_roundg kj28
                                    case measure => have := HJ4.out; have := HK2.out; have := HK3.out; have := HJ28.out; omega
                                    case rel => exact ⟨(wrap64 (x55_3 + 1)), (by first | rfl | (simp; done) | (simp [*]; done)), H', ⟨by have := HJ4.out; have := HK2.out; have := HK3.out; have := HJ28.out; omega⟩, ⟨by (with_reducible repeat (first | apply Kd.R_alloc | apply Kd.R_drewN | apply Kd.R_drew)); exact Kd.R_mono HO_5.out (fun _ hk => trivial)⟩, ⟨by repeat (first | (with_reducible first | exact HB.out | apply below_alloc | apply pw_below_drewN | apply below_drew1 | refine below_set ?_ GE518.out) | exact HB.out)⟩⟩
                              · rw [if_neg c43] at H
                                have c43b0 : decide (0 < t513) = false := decide_eq_false c43
                                clear c43
                                have H' := Aside0.mk H
                                clear H
                                have hcz47_0 : wc.cell? ⟨gb518, 0, none⟩ = some (.int .i64 t515) := (blk_cell BK518.out 0).trans rfl
                                have hcz47_1 : wc.cell? ⟨gb518, 1, none⟩ = some (.int .i64 t516) := (blk_cell BK518.out 1).trans rfl
                                have hcz47_2 : wc.cell? ⟨gb518, 2, none⟩ = some (.int .i64 t517) := (blk_cell BK518.out 2).trans rfl
                                have hfz47_0 := blk_frozen BK518.out 0
                                have hfz47_1 := blk_frozen BK518.out 1
                                have hfz47_2 := blk_frozen BK518.out 2
                                go_wp2
                                go_roundg kj28
                                case measure => have := HJ4.out; have := HK2.out; have := HK3.out; have := HJ28.out; omega
                                case rel => exact ⟨(wrap64 (x55_3 + 1)), (by first | rfl | (simp; done) | (simp [*]; done)), H', ⟨by have := HJ4.out; have := HK2.out; have := HK3.out; have := HJ28.out; omega⟩, ⟨by (with_reducible repeat (first | apply Kd.R_alloc | apply Kd.R_drewN | apply Kd.R_drew)); exact Kd.R_mono HO_5.out (fun _ hk => trivial)⟩, ⟨by repeat (first | (with_reducible first | exact HB.out | apply below_alloc | apply pw_below_drewN | apply below_drew1 | refine below_set ?_ GE518.out) | exact HB.out)⟩⟩
                    · rw [if_neg c25] at H
                      have c25b0 : decide (x55_3 < 16) = false := decide_eq_false c25
                      clear c25
                      by_cases c48 : x7_2 = (l1.length : Int)
                      · rw [if_pos c48] at H
                        have c48b0 : (x7_2 == (l1.length : Int)) = true := beq_iff_eq.mpr c48
                        have c48b1 : (x7_2 != (l1.length : Int)) = false := bne_eq_false_iff_eq.mpr c48
                        clear c48
                        replace H := Option.bind_eq_some_iff.mp H
                        obtain ⟨t509, A490, H⟩ := H
                        replace H : (some t509) = some r := H
                        have A49 := Aside0.mk A490
                        clear A490
                        obtain rfl := Option.some.inj H
                        go_wp2_with (first | (go_at_call 18; (with_reducible refine (congoulaw03_awake.calls  t509 _ A49.out).mono ?_); rintro e w50 ⟨rfl, hb⟩; have n0_ := Aside0.mk (Kd.R_below (by (with_reducible repeat (first | apply Kd.R_alloc | apply Kd.R_drewN | apply Kd.R_drew)); exact HO_5.out) hb); have n1_ := Aside0.mk (below_step (by repeat (first | (with_reducible first | exact HB.out | apply below_alloc | apply pw_below_drewN | apply below_drew1) | exact HB.out)) hb); clear HO_5; clear HB; have HO_5 := n0_; have HB := n1_; clear n0_ n1_; (try clear hb); (try clear hb2); (try clear hk); (try clear hi)))
                        go_ret
                        exact ⟨by first | rfl | (simp [errW_none, errW_some] <;> rfl) | (simp [*, errW_none, errW_some] <;> rfl), by repeat (first | (with_reducible first | exact HB.out | apply below_alloc | apply pw_below_drewN | apply below_drew1) | exact HB.out)⟩
                      · rw [if_neg c48] at H
                        have c48b0 : (x7_2 == (l1.length : Int)) = false := beq_eq_false_iff_ne.mpr c48
                        have c48b1 : (x7_2 != (l1.length : Int)) = true := bne_iff_ne.mpr c48
                        exact absurd (H.trans (congrArg some HRT.out)) (by simp)
        · replace c16 := Bool.eq_false_iff.mpr c16
          subst c16
          have H1 : (some false) = some r := by rw [if_neg (show ¬ (false = true) by decide)] at H; exact H
          clear H
          have H := H1
          clear H1
          exact absurd (H.trans (congrArg some HRT.out)) (by simp)

/-- THE ONE PURE STATEMENT of congoulaw03_SketchFull: yours. -/
def congoulaw03_SketchFull.Pure : Prop := ∀ (a0 : Int) (l1 : List Int), (Lit.int .i64 a0).wf = true → l1.length ≤ maxLen → l1.length * 8 ≤ 140737488351232 → (∀ x ∈ l1, (Lit.int .i64 x).wf = true) → ∃ k, congoulaw03_SketchFull.f k a0 l1 = some true
theorem congoulaw03_SketchFull.walk (P : congoulaw03_SketchFull.Pure) (a0 : Int) (a1 : Option Addr) (len1 cap1 : Nat) (z1 : List Int) (w : World) (w0 : (Lit.int .i64 a0).wf = true) (w1 : (a1 = none ∧ len1 = 0 ∧ cap1 = 0 ∧ z1 = []) ∨ ∃ x, a1 = some x ∧ len1 ≤ cap1 ∧ cap1 ≤ maxLen ∧ z1.length = cap1 ∧ (∀ i, i < z1.length → w.cell? (x.add i) = some (.int .i64 (z1.getD i 0))) ∧ ∀ n ∈ z1, (Lit.int .i64 n).wf = true) (y1 : len1 * 8 ≤ 140737488351232) :
    Calls Try.prog 12 #[.int .i64 a0, .slice a1 len1 cap1] w fun e w' => e = .returned (.bool true) ∧ Below w.heap.size w w' := by
  obtain ⟨l1, rfl, hr1, hm1, hw1, hc1⟩ := ReadsInt.ofRowC w1
  obtain ⟨k, h⟩ := P a0 l1 w0 hm1 y1 hw1
  refine (congoulaw03_SketchFull.calls k a0 _ _ l1 true w (Kd.C_of_reads (d := (0 : Int)) (h1 := fun _ => rfl) hr1) hc1 rfl h).mono ?_
  rintro e w' ⟨rfl, hd⟩
  exact ⟨rfl, hd⟩

end Go.Proofs.Ytdffhffhnjkcpaa.X
