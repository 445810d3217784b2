-- Written by a program of this work (wip/xprint.py, over the kit's printer) out of the translation.
import Derived.Test.YtefmafbbnkkpjaaX0
import Derived.Test.YtefmafbbnkkpjaaXG1a
import Derived.Test.YtefmafbbnkkpjaaXG2a
namespace Go.Proofs.Ytefmafbbnkkpjaa.X
open Go.RowKit Go.Proofs.YtefmafbbnkkpjaaW.PrintWords Go.Proofs.YtefmafbbnkkpjaaW.PrintLast Go.Proofs.YtefmafbbnkkpjaaW.PrintMore
attribute [local go_sem] max2_int min2_int max_two min_two max_three min_three max_four min_four   -- for this text's walks alone
set_option linter.unusedVariables false
set_option linter.unusedSimpArgs false

/-! ### shares_meet: function 68 -/
def shares_meet.l0 : Nat → List Int → List Int → List Int → Int → Int → Int → Option (List Int)
 | 0, _, _, _, _, _, _ => none
 | k + 1, x5, x6, x7, x8, x18, x19 => if x19 < x18 then (if 0 ≤ x19 then (if x19 < (x5.length : Int) then (if x19 < (x6.length : Int) then (if (mn (rd x5 x19) (rd x6 x19)) > x8 then (if x7.length < 17592186044416 then (shares_meet.l0 k x5 x6 (x7 ++ [wrap64 ((mn (rd x5 x19) (rd x6 x19)) - x8)]) (mn (rd x5 x19) (rd x6 x19)) x18 (wrap64 (x19 + 1))) else (none)) else (shares_meet.l0 k x5 x6 x7 (mn (rd x5 x19) (rd x6 x19)) x18 (wrap64 (x19 + 1)))) else (none)) else (none)) else (none)) else (some x7)
def shares_meet.f (k : Nat) (l0 : List Int) (l1 : List Int) : Option (List Int) := (shares_padded.f l0).bind fun t237 => ((shares_sums.f k t237).bind fun t240 => ((shares_padded.f l1).bind fun t243 => ((shares_sums.f k t243).bind fun t246 => (shares_meet.l0 k t240 t246 ([] : List Int) 0 (t240.length : Int) 0))))
theorem shares_meet.mono_l : ∀ k, (∀ y0 y1 y2 y3 y4 y5, LeO (shares_meet.l0 k y0 y1 y2 y3 y4 y5) (shares_meet.l0 (k + 1) y0 y1 y2 y3 y4 y5))
 | 0 => fun _ _ _ _ _ _ r h => by simp [shares_meet.l0] at h
 | k + 1 => by
  have ih0 := shares_meet.mono_l k
  ·intro y0 y1 y2 y3 y4 y5
   unfold shares_meet.l0
   repeat' first
   | (with_reducible exact ih0 _ _ _ _ _ _)
   | (with_reducible exact shares_sums.mono _ _)
   | (with_reducible exact LeO.refl _)
   | (with_reducible exact LeO.none _)
   | (with_reducible refine LeO.ite ?_ ?_)
   | (with_reducible refine LeO.bind ?_ (fun _ => ?_))
   | exact ih0 _ _ _ _ _ _
   | exact shares_sums.mono _ _
   | exact LeO.none _
   | refine LeO.ite ?_ ?_
   | refine LeO.bind ?_ (fun _ => ?_)
theorem shares_meet.mono : ∀ a0 a1 k, LeO (shares_meet.f k a0 a1) (shares_meet.f (k + 1) a0 a1) := by
 intro a0 a1 k
 have ih0 := shares_meet.mono_l k
 unfold shares_meet.f
 repeat' first
   | (with_reducible exact ih0 _ _ _ _ _ _)
   | (with_reducible exact shares_sums.mono _ _)
   | (with_reducible exact LeO.refl _)
   | (with_reducible exact LeO.none _)
   | (with_reducible refine LeO.ite ?_ ?_)
   | (with_reducible refine LeO.bind ?_ (fun _ => ?_))
   | exact ih0 _ _ _ _ _ _
   | exact shares_sums.mono _ _
   | exact LeO.none _
   | refine LeO.ite ?_ ?_
   | refine LeO.bind ?_ (fun _ => ?_)
set_option maxHeartbeats 8000000 in
set_option maxRecDepth 100000 in
theorem shares_meet.calls (k : Nat) (A0 : Option Addr) (c0 : Nat) (l0 : List Int) (A1 : Option Addr) (c1 : Nat) (l1 : List Int) (r : List Int) (w : World) (hr0 : Kd.C (Kd.int .i64) w A0 l0.length l0) (hc0 : l0.length ≤ c0) (hr1 : Kd.C (Kd.int .i64) w A1 l1.length l1) (hc1 : l1.length ≤ c1) (h : shares_meet.f k l0 l1 = some r) :
  Calls Try.prog 68 #[.slice A0 l0.length c0, .slice A1 l1.length c1] w fun e w' => ∃ v0_ : Value, e = .returned (v0_) ∧ Kd.R (Kd.int .i64) 3 w' w.heap.size (fun _ => True) v0_ r ∧ Below w.heap.size w w' := by
 have HR0 := Aside0.mk hr0
 have HC0 := Aside0.mk hc0
 clear hr0 hc0
 have HR1 := Aside0.mk hr1
 have HC1 := Aside0.mk hc1
 clear hr1 hc1
 have HB := ak (Below.refl w.heap.size w)
 have H : ((shares_padded.f l0).bind fun t237 => ((shares_sums.f k t237).bind fun t240 => ((shares_padded.f l1).bind fun t243 => ((shares_sums.f k t243).bind fun t246 => (shares_meet.l0 k t240 t246 ([] : List Int) 0 (t240.length : Int) 0))))) = some r := h
 clear h
 replace H := Option.bind_eq_some_iff.mp H
 obtain ⟨t237, A30, H⟩ := H
 replace H : ((shares_sums.f k t237).bind fun t240 => ((shares_padded.f l1).bind fun t243 => ((shares_sums.f k t243).bind fun t246 => (shares_meet.l0 k t240 t246 ([] : List Int) 0 (t240.length : Int) 0)))) = some r := H
 have A3 := Aside0.mk A30
 clear A30
 replace H := Option.bind_eq_some_iff.mp H
 obtain ⟨t240, A40, H⟩ := H
 replace H : ((shares_padded.f l1).bind fun t243 => ((shares_sums.f k t243).bind fun t246 => (shares_meet.l0 k t240 t246 ([] : List Int) 0 (t240.length : Int) 0))) = some r := H
 have A4 := Aside0.mk A40
 clear A40
 replace H := Option.bind_eq_some_iff.mp H
 obtain ⟨t243, A50, H⟩ := H
 replace H : ((shares_sums.f k t243).bind fun t246 => (shares_meet.l0 k t240 t246 ([] : List Int) 0 (t240.length : Int) 0)) = some r := H
 have A5 := Aside0.mk A50
 clear A50
 replace H := Option.bind_eq_some_iff.mp H
 obtain ⟨t246, A60, H⟩ := H
 replace H : (shares_meet.l0 k t240 t246 ([] : List Int) 0 (t240.length : Int) 0) = some r := H
 have A6 := Aside0.mk A60
 clear A60
 have H' := Aside0.mk H
 clear H
 go_enter Try.func68, Try.ntmps68
 go_wp2_with (first | (go_at_call 78; (with_reducible refine (shares_padded.calls _ _ l0 t237 _ ?side1 ?side2 A3.out).mono ?_); (case side1 => repeat (first | exact HR0.out | (with_reducible refine Kd.C_alloc ?_ _) | (with_reducible refine Kd.C_drewN ?_ _) | (with_reducible refine Kd.C_drew ?_))); (case side2 => exact HC0.out); rintro e w7 ⟨v238, rfl, ho0, hb⟩; have HO239 := ak (Kd.R_lower ho0 (below_size (hbC _))); replace HB := kH _ hb; (try clear hb); (try clear hb2); (try clear hk); (try clear hi); (try clear ho0); obtain ⟨Ao8, co8, eo8⟩ := Kd.R_slice HO239.out; subst eo8) | (go_at_call 99; (with_reducible refine (shares_sums.calls k _ _ t237 t240 _ ?side1 ?side2 A4.out).mono ?_); (case side1 => exact kD (Kd.R_reads' HO239.out).2.2); (case side2 => exact (Kd.R_reads' HO239.out).2.1); rintro e w9 ⟨v241, rfl, ho0, hb⟩; have HO242 := ak (Kd.R_lower (Kd.R_new' ho0 (Kd.R_lt (rC HO239))) (below_size (hbC _))); replace HO239 := ak (Kd.R_elder' (rC HO239) (Kd.R_base ho0) hb); replace HB := kH _ hb; (try clear hb); (try clear hb2); (try clear hk); (try clear hi); (try clear ho0)) | (go_at_call 78; (with_reducible refine (shares_padded.calls _ _ l1 t243 _ ?side1 ?side2 A5.out).mono ?_); (case side1 => exact kC HR1); (case side2 => exact HC1.out); rintro e w10 ⟨v244, rfl, ho0, hb⟩; have HO245 := ak (Kd.R_lower (Kd.R_new' (Kd.R_new' ho0 (Kd.R_lt (rC HO239))) (Kd.R_lt (rC HO242))) (below_size (hbC _))); replace HO239 := ak (Kd.R_elder' (rC HO239) (Kd.R_base ho0) hb); replace HO242 := ak (Kd.R_elder' (rC HO242) (Kd.R_base ho0) hb); replace HB := kH _ hb; (try clear hb); (try clear hb2); (try clear hk); (try clear hi); (try clear ho0); obtain ⟨Ao11, co11, eo11⟩ := Kd.R_slice HO245.out; subst eo11) | (go_at_call 99; (with_reducible refine (shares_sums.calls k _ _ t243 t246 _ ?side1 ?side2 A6.out).mono ?_); (case side1 => exact kD (Kd.R_reads' HO245.out).2.2); (case side2 => exact (Kd.R_reads' HO245.out).2.1); rintro e w12 ⟨v247, rfl, ho0, hb⟩; have HO248 := ak (Kd.R_lower (Kd.R_new' (Kd.R_new' (Kd.R_new' ho0 (Kd.R_lt (rC HO239))) (Kd.R_lt (rC HO242))) (Kd.R_lt (rC HO245))) (below_size (hbC _))); replace HO239 := ak (Kd.R_elder' (rC HO239) (Kd.R_base ho0) hb); replace HO242 := ak (Kd.R_elder' (rC HO242) (Kd.R_base ho0) hb); replace HO245 := ak (Kd.R_elder' (rC HO245) (Kd.R_base ho0) hb); replace HB := kH _ hb; (try clear hb); (try clear hb2); (try clear hk); (try clear hi); (try clear ho0); obtain ⟨Ao13, co13, eo13⟩ := Kd.R_slice HO242.out; subst eo13))
 repeat (go_quiet (first | (go_at_call 78; (with_reducible refine (shares_padded.calls _ _ l0 t237 _ ?side1 ?side2 A3.out).mono ?_); (case side1 => repeat (first | exact HR0.out | (with_reducible refine Kd.C_alloc ?_ _) | (with_reducible refine Kd.C_drewN ?_ _) | (with_reducible refine Kd.C_drew ?_))); (case side2 => exact HC0.out); rintro e w7 ⟨v238, rfl, ho0, hb⟩; have HO239 := ak (Kd.R_lower ho0 (below_size (hbC _))); replace HB := kH _ hb; (try clear hb); (try clear hb2); (try clear hk); (try clear hi); (try clear ho0); obtain ⟨Ao8, co8, eo8⟩ := Kd.R_slice HO239.out; subst eo8) | (go_at_call 99; (with_reducible refine (shares_sums.calls k _ _ t237 t240 _ ?side1 ?side2 A4.out).mono ?_); (case side1 => exact kD (Kd.R_reads' HO239.out).2.2); (case side2 => exact (Kd.R_reads' HO239.out).2.1); rintro e w9 ⟨v241, rfl, ho0, hb⟩; have HO242 := ak (Kd.R_lower (Kd.R_new' ho0 (Kd.R_lt (rC HO239))) (below_size (hbC _))); replace HO239 := ak (Kd.R_elder' (rC HO239) (Kd.R_base ho0) hb); replace HB := kH _ hb; (try clear hb); (try clear hb2); (try clear hk); (try clear hi); (try clear ho0)) | (go_at_call 78; (with_reducible refine (shares_padded.calls _ _ l1 t243 _ ?side1 ?side2 A5.out).mono ?_); (case side1 => exact kC HR1); (case side2 => exact HC1.out); rintro e w10 ⟨v244, rfl, ho0, hb⟩; have HO245 := ak (Kd.R_lower (Kd.R_new' (Kd.R_new' ho0 (Kd.R_lt (rC HO239))) (Kd.R_lt (rC HO242))) (below_size (hbC _))); replace HO239 := ak (Kd.R_elder' (rC HO239) (Kd.R_base ho0) hb); replace HO242 := ak (Kd.R_elder' (rC HO242) (Kd.R_base ho0) hb); replace HB := kH _ hb; (try clear hb); (try clear hb2); (try clear hk); (try clear hi); (try clear ho0); obtain ⟨Ao11, co11, eo11⟩ := Kd.R_slice HO245.out; subst eo11) | (go_at_call 99; (with_reducible refine (shares_sums.calls k _ _ t243 t246 _ ?side1 ?side2 A6.out).mono ?_); (case side1 => exact kD (Kd.R_reads' HO245.out).2.2); (case side2 => exact (Kd.R_reads' HO245.out).2.1); rintro e w12 ⟨v247, rfl, ho0, hb⟩; have HO248 := ak (Kd.R_lower (Kd.R_new' (Kd.R_new' (Kd.R_new' ho0 (Kd.R_lt (rC HO239))) (Kd.R_lt (rC HO242))) (Kd.R_lt (rC HO245))) (below_size (hbC _))); replace HO239 := ak (Kd.R_elder' (rC HO239) (Kd.R_base ho0) hb); replace HO242 := ak (Kd.R_elder' (rC HO242) (Kd.R_base ho0) hb); replace HO245 := ak (Kd.R_elder' (rC HO245) (Kd.R_base ho0) hb); replace HB := kH _ hb; (try clear hb); (try clear hb2); (try clear hk); (try clear hi); (try clear ho0); obtain ⟨Ao13, co13, eo13⟩ := Kd.R_slice HO242.out; subst eo13)); try go_wp2_with (first | (go_at_call 78; (with_reducible refine (shares_padded.calls _ _ l0 t237 _ ?side1 ?side2 A3.out).mono ?_); (case side1 => repeat (first | exact HR0.out | (with_reducible refine Kd.C_alloc ?_ _) | (with_reducible refine Kd.C_drewN ?_ _) | (with_reducible refine Kd.C_drew ?_))); (case side2 => exact HC0.out); rintro e w7 ⟨v238, rfl, ho0, hb⟩; have HO239 := ak (Kd.R_lower ho0 (below_size (hbC _))); replace HB := kH _ hb; (try clear hb); (try clear hb2); (try clear hk); (try clear hi); (try clear ho0); obtain ⟨Ao8, co8, eo8⟩ := Kd.R_slice HO239.out; subst eo8) | (go_at_call 99; (with_reducible refine (shares_sums.calls k _ _ t237 t240 _ ?side1 ?side2 A4.out).mono ?_); (case side1 => exact kD (Kd.R_reads' HO239.out).2.2); (case side2 => exact (Kd.R_reads' HO239.out).2.1); rintro e w9 ⟨v241, rfl, ho0, hb⟩; have HO242 := ak (Kd.R_lower (Kd.R_new' ho0 (Kd.R_lt (rC HO239))) (below_size (hbC _))); replace HO239 := ak (Kd.R_elder' (rC HO239) (Kd.R_base ho0) hb); replace HB := kH _ hb; (try clear hb); (try clear hb2); (try clear hk); (try clear hi); (try clear ho0)) | (go_at_call 78; (with_reducible refine (shares_padded.calls _ _ l1 t243 _ ?side1 ?side2 A5.out).mono ?_); (case side1 => exact kC HR1); (case side2 => exact HC1.out); rintro e w10 ⟨v244, rfl, ho0, hb⟩; have HO245 := ak (Kd.R_lower (Kd.R_new' (Kd.R_new' ho0 (Kd.R_lt (rC HO239))) (Kd.R_lt (rC HO242))) (below_size (hbC _))); replace HO239 := ak (Kd.R_elder' (rC HO239) (Kd.R_base ho0) hb); replace HO242 := ak (Kd.R_elder' (rC HO242) (Kd.R_base ho0) hb); replace HB := kH _ hb; (try clear hb); (try clear hb2); (try clear hk); (try clear hi); (try clear ho0); obtain ⟨Ao11, co11, eo11⟩ := Kd.R_slice HO245.out; subst eo11) | (go_at_call 99; (with_reducible refine (shares_sums.calls k _ _ t243 t246 _ ?side1 ?side2 A6.out).mono ?_); (case side1 => exact kD (Kd.R_reads' HO245.out).2.2); (case side2 => exact (Kd.R_reads' HO245.out).2.1); rintro e w12 ⟨v247, rfl, ho0, hb⟩; have HO248 := ak (Kd.R_lower (Kd.R_new' (Kd.R_new' (Kd.R_new' ho0 (Kd.R_lt (rC HO239))) (Kd.R_lt (rC HO242))) (Kd.R_lt (rC HO245))) (below_size (hbC _))); replace HO239 := ak (Kd.R_elder' (rC HO239) (Kd.R_base ho0) hb); replace HO242 := ak (Kd.R_elder' (rC HO242) (Kd.R_base ho0) hb); replace HO245 := ak (Kd.R_elder' (rC HO245) (Kd.R_base ho0) hb); replace HB := kH _ hb; (try clear hb); (try clear hb2); (try clear hk); (try clear hi); (try clear ho0); obtain ⟨Ao13, co13, eo13⟩ := Kd.R_slice HO242.out; subst eo13)))
 go_loopg [7, 8, 19] k (fun kq v7 v8 v19 w' => ∃ (x7_1 : List Int) (x8_1 : Int) (x19_1 : Int), v8 = .int .i64 x8_1 ∧ v19 = .int .i64 x19_1 ∧ Aside0 (shares_meet.l0 kq t240 t246 x7_1 x8_1 (t240.length : Int) x19_1 = some r) ∧ Aside0 (kq ≤ k) ∧ Aside0 (Kd.R (Kd.int .i64) 3 w' w.heap.size (fun k_ => nb k_ v247 ∧ nb k_ v7) (.slice Ao13 t240.length co13) t240) ∧ Aside0 (Kd.R (Kd.int .i64) 3 w' w.heap.size (fun k_ => some k_ ≠ ((.slice Ao13 t240.length co13) : Value).ownBlock ∧ nb k_ v7) v247 t246) ∧ Aside0 (Kd.R (Kd.int .i64) 3 w' w.heap.size (fun k_ => some k_ ≠ ((.slice Ao13 t240.length co13) : Value).ownBlock ∧ nb k_ v247) v7 x7_1) ∧ Aside0 (Below w.heap.size w w'))
 case atStart => exact ⟨(([] : List Int)), (0), (0), (by first | rfl | (simp; done) | (simp [*]; done)), (by first | rfl | (simp; done) | (simp [*]; done)), H', ⟨Nat.le_refl _⟩, ⟨rD (Kd.R_mono HO242.out (fun _ hk => ⟨hk.2, (by simp [Value.ownBlock])⟩))⟩, ⟨rD (Kd.R_mono HO248.out (fun _ hk => ⟨hk.1.2, (by simp [Value.ownBlock])⟩))⟩, ⟨by first | exact Kd.R_nil _ _ _ _ _ | exact Kd.N_nil _ _ _ _ _ | exact Kd.V_nil _ _ _ _ _ | exact Kd.Q_nil _ _ _ _ _ | exact Kd.S_nil _ _ _ _ _⟩, ⟨hbC _⟩⟩
 case round =>
  clear H'
  try clear c1
  try clear p2
  try clear c6
  obtain ⟨x7_1, x8_1, x19_1, rfl, rfl, HA, HK1, HO_5, HO_6, HO_7, HB⟩ := hrel
  cases gk with
  | zero => exact absurd HA.out (by simp [shares_meet.l0])
  | succ k1 =>
   have H := HA.out
   clear HA
   simp only [shares_meet.l0] at H
   by_cases c14 : x19_1 < (t240.length : Int)
   rotate_left
   ·rw [if_neg c14] at H
    have c14b0 : decide (x19_1 < (t240.length : Int)) = false := decide_eq_false c14
    clear c14
    obtain rfl := Option.some.inj H
    go_wp2
    repeat (go_quiet (fail); try go_wp2)
    go_ret
    exact ⟨_, by first | rfl | (simp [errW_none, errW_some] <;> rfl) | (simp [*, errW_none, errW_some] <;> rfl), rD (Kd.R_mono HO_7.out (fun _ hk => trivial)), hbC _⟩
   rw [if_pos c14] at H
   have c14b0 : decide (x19_1 < (t240.length : Int)) = true := decide_eq_true c14
   clear c14
   by_cases c15 : 0 ≤ x19_1
   rotate_left
   ·rw [if_neg c15] at H
    exact absurd H (by simp)
   rw [if_pos c15] at H
   have c15b0 : decide (0 ≤ x19_1) = true := decide_eq_true c15
   clear c15
   by_cases c16 : x19_1 < (t240.length : Int)
   rotate_left
   ·rw [if_neg c16] at H
    exact absurd H (by simp)
   rw [if_pos c16] at H
   have c16b0 : decide (x19_1 < (t240.length : Int)) = true := decide_eq_true c16
   clear c16
   by_cases c17 : x19_1 < (t246.length : Int)
   rotate_left
   ·rw [if_neg c17] at H
    exact absurd H (by simp)
   rw [if_pos c17] at H
   have c17b0 : decide (x19_1 < (t246.length : Int)) = true := decide_eq_true c17
   clear c17
   obtain ⟨ji18, hji18⟩ : ∃ j_ : Int, (mn (rd t240 x19_1) (rd t246 x19_1)) = j_ := ⟨_, rfl⟩
   replace H : (if (ji18) > x8_1 then (if x7_1.length < 17592186044416 then (shares_meet.l0 k1 t240 t246 (x7_1 ++ [wrap64 ((ji18) - x8_1)]) ji18 (t240.length : Int) (wrap64 (x19_1 + 1))) else (none)) else (shares_meet.l0 k1 t240 t246 x7_1 ji18 (t240.length : Int) (wrap64 (x19_1 + 1)))) = some r := by first | (rw [hji18] at H; exact H) | (simp only [hji18] at H ⊢; exact H)
   have hji18_ : (if (rd t246 x19_1) < (rd t240 x19_1) then (rd t246 x19_1) else (rd t240 x19_1)) = ji18 := hji18
   by_cases c19 : (ji18) > x8_1
   rotate_left
   ·rw [if_neg c19] at H
    have c19b0 : decide (x8_1 < (ji18)) = false := decide_eq_false c19
    clear c19
    have H' := Aside0.mk H
    clear H
    have p249 : 0 ≤ (x19_1 : Int) := dA
    have q249 : x19_1 < (t240.length : Int) := dA
    obtain ⟨ad249, e249, hx249_0⟩ := Kd.at_int (Kd.R_reads' HO_5.out).2.2 x19_1 p249 q249
    cases e249
    replace p249 := eq_true p249
    replace q249 := eq_true q249
    obtain ⟨Ao23, co23, eo23⟩ := Kd.R_slice HO_6.out
    subst eo23
    have p250 : 0 ≤ (x19_1 : Int) := dA
    have q250 : x19_1 < (t246.length : Int) := dA
    obtain ⟨ad250, e250, hx250_0⟩ := Kd.at_int (Kd.R_reads' HO_6.out).2.2 x19_1 p250 q250
    cases e250
    replace p250 := eq_true p250
    replace q250 := eq_true q250
    go_wp2
    repeat (go_quiet (fail); try go_wp2)
    go_roundg k1
    case measure => have := HK1.out; omega
    case rel => exact ⟨(x7_1), (ji18), (wrap64 (x19_1 + 1)), (by first | rfl | (simp; done) | (simp only [← hji18] <;> (first | rfl | simp)) | (simp [*]; done)), (by first | rfl | (simp; done) | (simp [*]; done)), H', ⟨by have := HK1.out; omega⟩, ⟨rC HO_5⟩, ⟨rC HO_6⟩, ⟨rC HO_7⟩, ⟨hbC _⟩⟩
   rw [if_pos c19] at H
   have c19b0 : decide (x8_1 < (ji18)) = true := decide_eq_true c19
   clear c19
   by_cases c20 : x7_1.length < 17592186044416
   rotate_left
   ·rw [if_neg c20] at H
    exact absurd H (by simp)
   rw [if_pos c20] at H
   have LMc20 := Aside0.mk c20
   clear c20
   obtain ⟨y251, hy251⟩ : ∃ y_ : List Int, y_ = (x7_1 ++ [wrap64 ((ji18) - x8_1)]) := ⟨_, rfl⟩
   replace H : (shares_meet.l0 k1 t240 t246 y251 ji18 (t240.length : Int) (wrap64 (x19_1 + 1))) = some r := by first | (rw [hy251]; with_reducible exact H) | (have H2_ := (Option.bind_some _ _).symm.trans H; rw [hy251]; with_reducible exact H2_) | (have H2_ := (Option.bind_some _ _).symm.trans H; with_reducible exact H2_) | with_reducible exact H | (rw [hy251]; exact H) | exact H
   have Ny251 := Aside0.mk hy251
   clear hy251
   have H' := Aside0.mk H
   clear H
   have p249 : 0 ≤ (x19_1 : Int) := dA
   have q249 : x19_1 < (t240.length : Int) := dA
   obtain ⟨ad249, e249, hx249_0⟩ := Kd.at_int (Kd.R_reads' HO_5.out).2.2 x19_1 p249 q249
   cases e249
   replace p249 := eq_true p249
   replace q249 := eq_true q249
   obtain ⟨Ao21, co21, eo21⟩ := Kd.R_slice HO_6.out
   subst eo21
   have p250 : 0 ≤ (x19_1 : Int) := dA
   have q250 : x19_1 < (t246.length : Int) := dA
   obtain ⟨ad250, e250, hx250_0⟩ := Kd.at_int (Kd.R_reads' HO_6.out).2.2 x19_1 p250 q250
   cases e250
   replace p250 := eq_true p250
   replace q250 := eq_true q250
   go_wp2_with (first | ((with_reducible refine gate_builtin (b := .append) (xs := #[.tmp 34, .tmp 38]) rfl ?_); at_builtin; refine Kd.R_append (Kd.int .i64) (w0 := w) w.heap.size rfl (.tmp 34) (.tmp 38) 22 3 (.int .i64 0) 8 rfl Try.underlying22 info3 rfl (by decide) (by omega) u7 x7_1 (wrap64 ((ji18) - x8_1)) [.int .i64 (wrap64 ((ji18) - x8_1))] (fun k_ => some k_ ≠ (.slice (some ad249) t240.length co13 : Value).ownBlock ∧ some k_ ≠ (.slice (some ad250) t246.length co21 : Value).ownBlock) (fun _ => False) rfl rfl ?aP (fun _ hk => hk.elim) ?aF ?aO ?aB ?aS ?aL ?_; (case aP => exact rfl); (case aB => exact (hbC _)); (case aF => exact (fun k_ hk => ⟨Kd.fresh' (Kd.R_lt (rC HO_5)) k_ hk, Kd.fresh' (Kd.R_lt (rC HO_6)) k_ hk⟩)); (case aO => exact (rC HO_7)); (case aS => exact (below_size (hbC _))); (case aL => have := LMc20.out; omega); intro v252 w22 ho hb hg hat; rw [← Ny251.out] at ho; have n0_ := ak (Kd.R_after (ok := (fun k_ => some k_ ≠ (.slice (some ad250) t246.length co21 : Value).ownBlock)) (rC HO_5) hg hat); have n1_ := ak (Kd.R_after (ok := (fun k_ => some k_ ≠ (.slice (some ad249) t240.length co13 : Value).ownBlock)) (rC HO_6) hg hat); have n2_ := ak (hb); have n3_ := ak (ho); clear HO_5; clear HO_6; clear HB; clear HO_7; have HO_5 := n0_; have HO_6 := n1_; have HB := n2_; have HO253 := n3_; clear n0_ n1_ n2_ n3_; clear ho hb hg hat))
   repeat (go_quiet (first | ((with_reducible refine gate_builtin (b := .append) (xs := #[.tmp 34, .tmp 38]) rfl ?_); at_builtin; refine Kd.R_append (Kd.int .i64) (w0 := w) w.heap.size rfl (.tmp 34) (.tmp 38) 22 3 (.int .i64 0) 8 rfl Try.underlying22 info3 rfl (by decide) (by omega) u7 x7_1 (wrap64 ((ji18) - x8_1)) [.int .i64 (wrap64 ((ji18) - x8_1))] (fun k_ => some k_ ≠ (.slice (some ad249) t240.length co13 : Value).ownBlock ∧ some k_ ≠ (.slice (some ad250) t246.length co21 : Value).ownBlock) (fun _ => False) rfl rfl ?aP (fun _ hk => hk.elim) ?aF ?aO ?aB ?aS ?aL ?_; (case aP => exact rfl); (case aB => exact (hbC _)); (case aF => exact (fun k_ hk => ⟨Kd.fresh' (Kd.R_lt (rC HO_5)) k_ hk, Kd.fresh' (Kd.R_lt (rC HO_6)) k_ hk⟩)); (case aO => exact (rC HO_7)); (case aS => exact (below_size (hbC _))); (case aL => have := LMc20.out; omega); intro v252 w22 ho hb hg hat; rw [← Ny251.out] at ho; have n0_ := ak (Kd.R_after (ok := (fun k_ => some k_ ≠ (.slice (some ad250) t246.length co21 : Value).ownBlock)) (rC HO_5) hg hat); have n1_ := ak (Kd.R_after (ok := (fun k_ => some k_ ≠ (.slice (some ad249) t240.length co13 : Value).ownBlock)) (rC HO_6) hg hat); have n2_ := ak (hb); have n3_ := ak (ho); clear HO_5; clear HO_6; clear HB; clear HO_7; have HO_5 := n0_; have HO_6 := n1_; have HB := n2_; have HO253 := n3_; clear n0_ n1_ n2_ n3_; clear ho hb hg hat)); try go_wp2_with (first | ((with_reducible refine gate_builtin (b := .append) (xs := #[.tmp 34, .tmp 38]) rfl ?_); at_builtin; refine Kd.R_append (Kd.int .i64) (w0 := w) w.heap.size rfl (.tmp 34) (.tmp 38) 22 3 (.int .i64 0) 8 rfl Try.underlying22 info3 rfl (by decide) (by omega) u7 x7_1 (wrap64 ((ji18) - x8_1)) [.int .i64 (wrap64 ((ji18) - x8_1))] (fun k_ => some k_ ≠ (.slice (some ad249) t240.length co13 : Value).ownBlock ∧ some k_ ≠ (.slice (some ad250) t246.length co21 : Value).ownBlock) (fun _ => False) rfl rfl ?aP (fun _ hk => hk.elim) ?aF ?aO ?aB ?aS ?aL ?_; (case aP => exact rfl); (case aB => exact (hbC _)); (case aF => exact (fun k_ hk => ⟨Kd.fresh' (Kd.R_lt (rC HO_5)) k_ hk, Kd.fresh' (Kd.R_lt (rC HO_6)) k_ hk⟩)); (case aO => exact (rC HO_7)); (case aS => exact (below_size (hbC _))); (case aL => have := LMc20.out; omega); intro v252 w22 ho hb hg hat; rw [← Ny251.out] at ho; have n0_ := ak (Kd.R_after (ok := (fun k_ => some k_ ≠ (.slice (some ad250) t246.length co21 : Value).ownBlock)) (rC HO_5) hg hat); have n1_ := ak (Kd.R_after (ok := (fun k_ => some k_ ≠ (.slice (some ad249) t240.length co13 : Value).ownBlock)) (rC HO_6) hg hat); have n2_ := ak (hb); have n3_ := ak (ho); clear HO_5; clear HO_6; clear HB; clear HO_7; have HO_5 := n0_; have HO_6 := n1_; have HB := n2_; have HO253 := n3_; clear n0_ n1_ n2_ n3_; clear ho hb hg hat)))
   go_roundg k1
   case measure => have := HK1.out; omega
   case rel => exact ⟨(y251), (ji18), (wrap64 (x19_1 + 1)), (by first | rfl | (simp; done) | (simp only [← hji18] <;> (first | rfl | simp)) | (simp [*]; done)), (by first | rfl | (simp; done) | (simp [*]; done)), H', ⟨by have := HK1.out; omega⟩, ⟨rC HO_5⟩, ⟨rC HO_6⟩, ⟨rC HO253⟩, ⟨hbC _⟩⟩

end Go.Proofs.Ytefmafbbnkkpjaa.X
