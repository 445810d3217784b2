-- Written by a program of this work (wip/xprint.py, over the kit's printer) out of the translation.
import Derived.Test.YtkieehjpnjplmaaDoorX0
import Derived.Test.YtkieehjpnjplmaaDoorXG1a
import Derived.Test.YtkieehjpnjplmaaDoorE45b
namespace Go.Proofs.YtkieehjpnjplmaaDoor.X
open Go.RowKit Go.Proofs.YtkieehjpnjplmaaDoorW.PrintWords Go.Proofs.YtkieehjpnjplmaaDoorW.PrintLast Go.Proofs.YtkieehjpnjplmaaDoorW.PrintMore
attribute [local go_sem] max2_int min2_int max_two min_two max_three min_three max_four min_four   -- for this text's walks alone
set_option linter.unusedVariables false
set_option linter.unusedSimpArgs false

/-! ### shares_uneven: function 26 -/
def shares_uneven.l0 : Nat → List Int → List Int → Int → Int → Option (Bool)
 | 0, _, _, _, _ => none
 | k + 1, x5, x6, x15, x16 => if x16 < x15 then (if 0 ≤ x16 then (if x16 < (x5.length : Int) then (if x16 < (x6.length : Int) then (if (rd x5 x16) < (rd x6 x16) then (some false) else (shares_uneven.l0 k x5 x6 x15 (wrap64 (x16 + 1)))) else (none)) else (none)) else (none)) else (if 0 ≤ (wrap64 ((x5.length : Int) - 1)) then (if (wrap64 ((x5.length : Int) - 1)) < (x5.length : Int) then (if 0 ≤ (wrap64 ((x6.length : Int) - 1)) then (if (wrap64 ((x6.length : Int) - 1)) < (x6.length : Int) then (some ((rd x5 (wrap64 ((x5.length : Int) - 1))) == (rd x6 (wrap64 ((x6.length : Int) - 1))))) else (none)) else (none)) else (none)) else (none))
def shares_uneven.f (k : Nat) (l0 : List Int) (l1 : List Int) : Option (Bool) := (xFalling.f l0).bind fun t215 => ((shares_sums.f k t215).bind fun t218 => ((xFalling.f l1).bind fun t221 => ((shares_sums.f k t221).bind fun t224 => (shares_uneven.l0 k t218 t224 (t218.length : Int) 0))))
theorem shares_uneven.mono_l : ∀ k, (∀ y0 y1 y2 y3, LeO (shares_uneven.l0 k y0 y1 y2 y3) (shares_uneven.l0 (k + 1) y0 y1 y2 y3))
 | 0 => fun _ _ _ _ r h => by simp [shares_uneven.l0] at h
 | k + 1 => by
  have ih0 := shares_uneven.mono_l k
  ·intro y0 y1 y2 y3
   unfold shares_uneven.l0
   repeat' first
   | (with_reducible exact ih0 _ _ _ _)
   | (with_reducible exact shares_sums.mono _ _)
   | (with_reducible exact LeO.refl _)
   | (with_reducible exact LeO.none _)
   | (with_reducible refine LeO.ite ?_ ?_)
   | (with_reducible refine LeO.bind ?_ (fun _ => ?_))
   | exact ih0 _ _ _ _
   | exact shares_sums.mono _ _
   | exact LeO.none _
   | refine LeO.ite ?_ ?_
   | refine LeO.bind ?_ (fun _ => ?_)
theorem shares_uneven.mono : ∀ a0 a1 k, LeO (shares_uneven.f k a0 a1) (shares_uneven.f (k + 1) a0 a1) := by
 intro a0 a1 k
 have ih0 := shares_uneven.mono_l k
 unfold shares_uneven.f
 repeat' first
   | (with_reducible exact ih0 _ _ _ _)
   | (with_reducible exact shares_sums.mono _ _)
   | (with_reducible exact LeO.refl _)
   | (with_reducible exact LeO.none _)
   | (with_reducible refine LeO.ite ?_ ?_)
   | (with_reducible refine LeO.bind ?_ (fun _ => ?_))
   | exact ih0 _ _ _ _
   | exact shares_sums.mono _ _
   | exact LeO.none _
   | refine LeO.ite ?_ ?_
   | refine LeO.bind ?_ (fun _ => ?_)
set_option maxHeartbeats 8000000 in
set_option maxRecDepth 100000 in
theorem shares_uneven.calls (k : Nat) (A0 : Option Addr) (c0 : Nat) (l0 : List Int) (A1 : Option Addr) (c1 : Nat) (l1 : List Int) (r : Bool) (w : World) (hr0 : Kd.C (Kd.int .i64) w A0 l0.length l0) (hc0 : l0.length ≤ c0) (hr1 : Kd.C (Kd.int .i64) w A1 l1.length l1) (hc1 : l1.length ≤ c1) (h : shares_uneven.f k l0 l1 = some r) :
  Calls Tryd.prog 26 #[.slice A0 l0.length c0, .slice A1 l1.length c1] w fun e w' => e = .returned (.bool r) ∧ Below w.heap.size w w' := by
 have HR0 := Aside0.mk hr0
 have HC0 := Aside0.mk hc0
 clear hr0 hc0
 have HR1 := Aside0.mk hr1
 have HC1 := Aside0.mk hc1
 clear hr1 hc1
 have HB := ak (Below.refl w.heap.size w)
 have H : ((xFalling.f l0).bind fun t215 => ((shares_sums.f k t215).bind fun t218 => ((xFalling.f l1).bind fun t221 => ((shares_sums.f k t221).bind fun t224 => (shares_uneven.l0 k t218 t224 (t218.length : Int) 0))))) = some r := h
 clear h
 replace H := Option.bind_eq_some_iff.mp H
 obtain ⟨t215, A30, H⟩ := H
 replace H : ((shares_sums.f k t215).bind fun t218 => ((xFalling.f l1).bind fun t221 => ((shares_sums.f k t221).bind fun t224 => (shares_uneven.l0 k t218 t224 (t218.length : Int) 0)))) = some r := H
 have A3 := Aside0.mk A30
 clear A30
 replace H := Option.bind_eq_some_iff.mp H
 obtain ⟨t218, A40, H⟩ := H
 replace H : ((xFalling.f l1).bind fun t221 => ((shares_sums.f k t221).bind fun t224 => (shares_uneven.l0 k t218 t224 (t218.length : Int) 0))) = some r := H
 have A4 := Aside0.mk A40
 clear A40
 replace H := Option.bind_eq_some_iff.mp H
 obtain ⟨t221, A50, H⟩ := H
 replace H : ((shares_sums.f k t221).bind fun t224 => (shares_uneven.l0 k t218 t224 (t218.length : Int) 0)) = some r := H
 have A5 := Aside0.mk A50
 clear A50
 replace H := Option.bind_eq_some_iff.mp H
 obtain ⟨t224, A60, H⟩ := H
 replace H : (shares_uneven.l0 k t218 t224 (t218.length : Int) 0) = some r := H
 have A6 := Aside0.mk A60
 clear A60
 have H' := Aside0.mk H
 clear H
 go_enter Tryd.func26, Tryd.ntmps26
 go_wp2_with (first | (go_at_call 45; (with_reducible refine (xFalling.calls _ _ l0 t215 _ ?side1 ?side2 A3.out).mono ?_); (case side1 => repeat (first | exact HR0.out | (with_reducible refine Kd.C_alloc ?_ _) | (with_reducible refine Kd.C_drewN ?_ _) | (with_reducible refine Kd.C_drew ?_))); (case side2 => exact HC0.out); rintro e w7 ⟨v216, rfl, ho0, hb⟩; have HO217 := ak (Kd.R_lower ho0 (below_size (hbC _))); replace HB := kH _ hb; (try clear hb); (try clear hb2); (try clear hk); (try clear hi); (try clear ho0); obtain ⟨Ao8, co8, eo8⟩ := Kd.R_slice HO217.out; subst eo8) | (go_at_call 44; (with_reducible refine (shares_sums.calls k _ _ t215 t218 _ ?side1 ?side2 A4.out).mono ?_); (case side1 => exact kD (Kd.R_reads' HO217.out).2.2); (case side2 => exact (Kd.R_reads' HO217.out).2.1); rintro e w9 ⟨v219, rfl, ho0, hb⟩; have HO220 := ak (Kd.R_lower (Kd.R_new' ho0 (Kd.R_lt (rC HO217))) (below_size (hbC _))); replace HO217 := ak (Kd.R_elder' (rC HO217) (Kd.R_base ho0) hb); replace HB := kH _ hb; (try clear hb); (try clear hb2); (try clear hk); (try clear hi); (try clear ho0)) | (go_at_call 45; (with_reducible refine (xFalling.calls _ _ l1 t221 _ ?side1 ?side2 A5.out).mono ?_); (case side1 => exact kC HR1); (case side2 => exact HC1.out); rintro e w10 ⟨v222, rfl, ho0, hb⟩; have HO223 := ak (Kd.R_lower (Kd.R_new' (Kd.R_new' ho0 (Kd.R_lt (rC HO217))) (Kd.R_lt (rC HO220))) (below_size (hbC _))); replace HO217 := ak (Kd.R_elder' (rC HO217) (Kd.R_base ho0) hb); replace HO220 := ak (Kd.R_elder' (rC HO220) (Kd.R_base ho0) hb); replace HB := kH _ hb; (try clear hb); (try clear hb2); (try clear hk); (try clear hi); (try clear ho0); obtain ⟨Ao11, co11, eo11⟩ := Kd.R_slice HO223.out; subst eo11) | (go_at_call 44; (with_reducible refine (shares_sums.calls k _ _ t221 t224 _ ?side1 ?side2 A6.out).mono ?_); (case side1 => exact kD (Kd.R_reads' HO223.out).2.2); (case side2 => exact (Kd.R_reads' HO223.out).2.1); rintro e w12 ⟨v225, rfl, ho0, hb⟩; have HO226 := ak (Kd.R_lower (Kd.R_new' (Kd.R_new' (Kd.R_new' ho0 (Kd.R_lt (rC HO217))) (Kd.R_lt (rC HO220))) (Kd.R_lt (rC HO223))) (below_size (hbC _))); replace HO217 := ak (Kd.R_elder' (rC HO217) (Kd.R_base ho0) hb); replace HO220 := ak (Kd.R_elder' (rC HO220) (Kd.R_base ho0) hb); replace HO223 := ak (Kd.R_elder' (rC HO223) (Kd.R_base ho0) hb); replace HB := kH _ hb; (try clear hb); (try clear hb2); (try clear hk); (try clear hi); (try clear ho0); obtain ⟨Ao13, co13, eo13⟩ := Kd.R_slice HO220.out; subst eo13))
 repeat (go_quiet (first | (go_at_call 45; (with_reducible refine (xFalling.calls _ _ l0 t215 _ ?side1 ?side2 A3.out).mono ?_); (case side1 => repeat (first | exact HR0.out | (with_reducible refine Kd.C_alloc ?_ _) | (with_reducible refine Kd.C_drewN ?_ _) | (with_reducible refine Kd.C_drew ?_))); (case side2 => exact HC0.out); rintro e w7 ⟨v216, rfl, ho0, hb⟩; have HO217 := ak (Kd.R_lower ho0 (below_size (hbC _))); replace HB := kH _ hb; (try clear hb); (try clear hb2); (try clear hk); (try clear hi); (try clear ho0); obtain ⟨Ao8, co8, eo8⟩ := Kd.R_slice HO217.out; subst eo8) | (go_at_call 44; (with_reducible refine (shares_sums.calls k _ _ t215 t218 _ ?side1 ?side2 A4.out).mono ?_); (case side1 => exact kD (Kd.R_reads' HO217.out).2.2); (case side2 => exact (Kd.R_reads' HO217.out).2.1); rintro e w9 ⟨v219, rfl, ho0, hb⟩; have HO220 := ak (Kd.R_lower (Kd.R_new' ho0 (Kd.R_lt (rC HO217))) (below_size (hbC _))); replace HO217 := ak (Kd.R_elder' (rC HO217) (Kd.R_base ho0) hb); replace HB := kH _ hb; (try clear hb); (try clear hb2); (try clear hk); (try clear hi); (try clear ho0)) | (go_at_call 45; (with_reducible refine (xFalling.calls _ _ l1 t221 _ ?side1 ?side2 A5.out).mono ?_); (case side1 => exact kC HR1); (case side2 => exact HC1.out); rintro e w10 ⟨v222, rfl, ho0, hb⟩; have HO223 := ak (Kd.R_lower (Kd.R_new' (Kd.R_new' ho0 (Kd.R_lt (rC HO217))) (Kd.R_lt (rC HO220))) (below_size (hbC _))); replace HO217 := ak (Kd.R_elder' (rC HO217) (Kd.R_base ho0) hb); replace HO220 := ak (Kd.R_elder' (rC HO220) (Kd.R_base ho0) hb); replace HB := kH _ hb; (try clear hb); (try clear hb2); (try clear hk); (try clear hi); (try clear ho0); obtain ⟨Ao11, co11, eo11⟩ := Kd.R_slice HO223.out; subst eo11) | (go_at_call 44; (with_reducible refine (shares_sums.calls k _ _ t221 t224 _ ?side1 ?side2 A6.out).mono ?_); (case side1 => exact kD (Kd.R_reads' HO223.out).2.2); (case side2 => exact (Kd.R_reads' HO223.out).2.1); rintro e w12 ⟨v225, rfl, ho0, hb⟩; have HO226 := ak (Kd.R_lower (Kd.R_new' (Kd.R_new' (Kd.R_new' ho0 (Kd.R_lt (rC HO217))) (Kd.R_lt (rC HO220))) (Kd.R_lt (rC HO223))) (below_size (hbC _))); replace HO217 := ak (Kd.R_elder' (rC HO217) (Kd.R_base ho0) hb); replace HO220 := ak (Kd.R_elder' (rC HO220) (Kd.R_base ho0) hb); replace HO223 := ak (Kd.R_elder' (rC HO223) (Kd.R_base ho0) hb); replace HB := kH _ hb; (try clear hb); (try clear hb2); (try clear hk); (try clear hi); (try clear ho0); obtain ⟨Ao13, co13, eo13⟩ := Kd.R_slice HO220.out; subst eo13)); try go_wp2_with (first | (go_at_call 45; (with_reducible refine (xFalling.calls _ _ l0 t215 _ ?side1 ?side2 A3.out).mono ?_); (case side1 => repeat (first | exact HR0.out | (with_reducible refine Kd.C_alloc ?_ _) | (with_reducible refine Kd.C_drewN ?_ _) | (with_reducible refine Kd.C_drew ?_))); (case side2 => exact HC0.out); rintro e w7 ⟨v216, rfl, ho0, hb⟩; have HO217 := ak (Kd.R_lower ho0 (below_size (hbC _))); replace HB := kH _ hb; (try clear hb); (try clear hb2); (try clear hk); (try clear hi); (try clear ho0); obtain ⟨Ao8, co8, eo8⟩ := Kd.R_slice HO217.out; subst eo8) | (go_at_call 44; (with_reducible refine (shares_sums.calls k _ _ t215 t218 _ ?side1 ?side2 A4.out).mono ?_); (case side1 => exact kD (Kd.R_reads' HO217.out).2.2); (case side2 => exact (Kd.R_reads' HO217.out).2.1); rintro e w9 ⟨v219, rfl, ho0, hb⟩; have HO220 := ak (Kd.R_lower (Kd.R_new' ho0 (Kd.R_lt (rC HO217))) (below_size (hbC _))); replace HO217 := ak (Kd.R_elder' (rC HO217) (Kd.R_base ho0) hb); replace HB := kH _ hb; (try clear hb); (try clear hb2); (try clear hk); (try clear hi); (try clear ho0)) | (go_at_call 45; (with_reducible refine (xFalling.calls _ _ l1 t221 _ ?side1 ?side2 A5.out).mono ?_); (case side1 => exact kC HR1); (case side2 => exact HC1.out); rintro e w10 ⟨v222, rfl, ho0, hb⟩; have HO223 := ak (Kd.R_lower (Kd.R_new' (Kd.R_new' ho0 (Kd.R_lt (rC HO217))) (Kd.R_lt (rC HO220))) (below_size (hbC _))); replace HO217 := ak (Kd.R_elder' (rC HO217) (Kd.R_base ho0) hb); replace HO220 := ak (Kd.R_elder' (rC HO220) (Kd.R_base ho0) hb); replace HB := kH _ hb; (try clear hb); (try clear hb2); (try clear hk); (try clear hi); (try clear ho0); obtain ⟨Ao11, co11, eo11⟩ := Kd.R_slice HO223.out; subst eo11) | (go_at_call 44; (with_reducible refine (shares_sums.calls k _ _ t221 t224 _ ?side1 ?side2 A6.out).mono ?_); (case side1 => exact kD (Kd.R_reads' HO223.out).2.2); (case side2 => exact (Kd.R_reads' HO223.out).2.1); rintro e w12 ⟨v225, rfl, ho0, hb⟩; have HO226 := ak (Kd.R_lower (Kd.R_new' (Kd.R_new' (Kd.R_new' ho0 (Kd.R_lt (rC HO217))) (Kd.R_lt (rC HO220))) (Kd.R_lt (rC HO223))) (below_size (hbC _))); replace HO217 := ak (Kd.R_elder' (rC HO217) (Kd.R_base ho0) hb); replace HO220 := ak (Kd.R_elder' (rC HO220) (Kd.R_base ho0) hb); replace HO223 := ak (Kd.R_elder' (rC HO223) (Kd.R_base ho0) hb); replace HB := kH _ hb; (try clear hb); (try clear hb2); (try clear hk); (try clear hi); (try clear ho0); obtain ⟨Ao13, co13, eo13⟩ := Kd.R_slice HO220.out; subst eo13)))
 go_loopg [16] k (fun kq v16 w' => ∃ (x16_1 : Int), v16 = .int .i64 x16_1 ∧ Aside0 (shares_uneven.l0 kq t218 t224 (t218.length : Int) x16_1 = some r) ∧ Aside0 (kq ≤ k) ∧ Aside0 (Kd.R (Kd.int .i64) 3 w' w.heap.size (fun k_ => nb k_ v225) (.slice Ao13 t218.length co13) t218) ∧ Aside0 (Kd.R (Kd.int .i64) 3 w' w.heap.size (fun k_ => some k_ ≠ ((.slice Ao13 t218.length co13) : Value).ownBlock) v225 t224) ∧ Aside0 (Below w.heap.size w w'))
 case atStart => exact ⟨(0), (by first | rfl | (simp; done) | (simp [*]; done)), H', ⟨Nat.le_refl _⟩, ⟨rD (Kd.R_mono HO220.out (fun _ hk => hk.2))⟩, ⟨rD (Kd.R_mono HO226.out (fun _ hk => hk.1.2))⟩, ⟨hbC _⟩⟩
 case round =>
  clear H'
  try clear c1
  try clear c2
  try clear p2
  obtain ⟨x16_1, rfl, HA, HK1, HO_5, HO_6, HB⟩ := hrel
  cases gk with
  | zero => exact absurd HA.out (by simp [shares_uneven.l0])
  | succ k1 =>
   have H := HA.out
   clear HA
   simp only [shares_uneven.l0] at H
   by_cases c14 : x16_1 < (t218.length : Int)
   ·rw [if_pos c14] at H
    have c14b0 : decide (x16_1 < (t218.length : Int)) = true := decide_eq_true c14
    clear c14
    by_cases c15 : 0 ≤ x16_1
    rotate_left
    ·rw [if_neg c15] at H
     exact absurd H (by simp)
    rw [if_pos c15] at H
    have c15b0 : decide (0 ≤ x16_1) = true := decide_eq_true c15
    clear c15
    by_cases c16 : x16_1 < (t218.length : Int)
    rotate_left
    ·rw [if_neg c16] at H
     exact absurd H (by simp)
    rw [if_pos c16] at H
    have c16b0 : decide (x16_1 < (t218.length : Int)) = true := decide_eq_true c16
    clear c16
    by_cases c17 : x16_1 < (t224.length : Int)
    rotate_left
    ·rw [if_neg c17] at H
     exact absurd H (by simp)
    rw [if_pos c17] at H
    have c17b0 : decide (x16_1 < (t224.length : Int)) = true := decide_eq_true c17
    clear c17
    by_cases c18 : (rd t218 x16_1) < (rd t224 x16_1)
    ·rw [if_pos c18] at H
     have c18b0 : decide ((rd t218 x16_1) < (rd t224 x16_1)) = true := decide_eq_true c18
     clear c18
     obtain rfl := Option.some.inj H
     have p227 : 0 ≤ (x16_1 : Int) := dA
     have q227 : x16_1 < (t218.length : Int) := dA
     obtain ⟨ad227, e227, hx227_0⟩ := Kd.at_int (Kd.R_reads' HO_5.out).2.2 x16_1 p227 q227
     cases e227
     replace p227 := eq_true p227
     replace q227 := eq_true q227
     obtain ⟨Ao19, co19, eo19⟩ := Kd.R_slice HO_6.out
     subst eo19
     have p228 : 0 ≤ (x16_1 : Int) := dA
     have q228 : x16_1 < (t224.length : Int) := dA
     obtain ⟨ad228, e228, hx228_0⟩ := Kd.at_int (Kd.R_reads' HO_6.out).2.2 x16_1 p228 q228
     cases e228
     replace p228 := eq_true p228
     replace q228 := eq_true q228
     go_wp2
     repeat (go_quiet (fail); try go_wp2)
     go_ret
     exact ⟨by first | rfl | (simp [errW_none, errW_some] <;> rfl) | (simp [*, errW_none, errW_some] <;> rfl), hbC _⟩
    rw [if_neg c18] at H
    have c18b0 : decide ((rd t218 x16_1) < (rd t224 x16_1)) = false := decide_eq_false c18
    clear c18
    have H' := Aside0.mk H
    clear H
    have p227 : 0 ≤ (x16_1 : Int) := dA
    have q227 : x16_1 < (t218.length : Int) := dA
    obtain ⟨ad227, e227, hx227_0⟩ := Kd.at_int (Kd.R_reads' HO_5.out).2.2 x16_1 p227 q227
    cases e227
    replace p227 := eq_true p227
    replace q227 := eq_true q227
    obtain ⟨Ao20, co20, eo20⟩ := Kd.R_slice HO_6.out
    subst eo20
    have p228 : 0 ≤ (x16_1 : Int) := dA
    have q228 : x16_1 < (t224.length : Int) := dA
    obtain ⟨ad228, e228, hx228_0⟩ := Kd.at_int (Kd.R_reads' HO_6.out).2.2 x16_1 p228 q228
    cases e228
    replace p228 := eq_true p228
    replace q228 := eq_true q228
    go_wp2
    repeat (go_quiet (fail); try go_wp2)
    go_roundg k1
    case measure => have := HK1.out; omega
    case rel => exact ⟨(wrap64 (x16_1 + 1)), (by first | rfl | (simp; done) | (simp [*]; done)), H', ⟨by have := HK1.out; omega⟩, ⟨rC HO_5⟩, ⟨rC HO_6⟩, ⟨hbC _⟩⟩
   rw [if_neg c14] at H
   have c14b0 : decide (x16_1 < (t218.length : Int)) = false := decide_eq_false c14
   clear c14
   obtain ⟨ji21, hji21⟩ : ∃ j_ : Int, (wrap64 ((t218.length : Int) - 1)) = j_ := ⟨_, rfl⟩
   replace H : (if 0 ≤ (ji21) then (if (ji21) < (t218.length : Int) then (if 0 ≤ (wrap64 ((t224.length : Int) - 1)) then (if (wrap64 ((t224.length : Int) - 1)) < (t224.length : Int) then (some ((rd t218 (ji21)) == (rd t224 (wrap64 ((t224.length : Int) - 1))))) else (none)) else (none)) else (none)) else (none)) = some r := by first | (rw [hji21] at H; exact H) | (simp only [hji21] at H ⊢; exact H)
   have hji21w : (IntKind.i64.wrap ((t218.length : Int) - 1)) = ji21 := (i64_w _).trans hji21
   by_cases c22 : 0 ≤ (ji21)
   rotate_left
   ·rw [if_neg c22] at H
    exact absurd H (by simp)
   rw [if_pos c22] at H
   have c22b0 : decide (0 ≤ (ji21)) = true := decide_eq_true c22
   clear c22
   by_cases c23 : (ji21) < (t218.length : Int)
   rotate_left
   ·rw [if_neg c23] at H
    exact absurd H (by simp)
   rw [if_pos c23] at H
   have c23b0 : decide ((ji21) < (t218.length : Int)) = true := decide_eq_true c23
   clear c23
   obtain ⟨ji24, hji24⟩ : ∃ j_ : Int, (wrap64 ((t224.length : Int) - 1)) = j_ := ⟨_, rfl⟩
   replace H : (if 0 ≤ (ji24) then (if (ji24) < (t224.length : Int) then (some ((rd t218 (ji21)) == (rd t224 (ji24)))) else (none)) else (none)) = some r := by first | (rw [hji24] at H; exact H) | (simp only [hji24] at H ⊢; exact H)
   have hji24w : (IntKind.i64.wrap ((t224.length : Int) - 1)) = ji24 := (i64_w _).trans hji24
   by_cases c25 : 0 ≤ (ji24)
   rotate_left
   ·rw [if_neg c25] at H
    exact absurd H (by simp)
   rw [if_pos c25] at H
   have c25b0 : decide (0 ≤ (ji24)) = true := decide_eq_true c25
   clear c25
   by_cases c26 : (ji24) < (t224.length : Int)
   rotate_left
   ·rw [if_neg c26] at H
    exact absurd H (by simp)
   rw [if_pos c26] at H
   have c26b0 : decide ((ji24) < (t224.length : Int)) = true := decide_eq_true c26
   clear c26
   obtain rfl := Option.some.inj H
   have p229 : 0 ≤ ((ji21) : Int) := dA
   have q229 : (ji21) < (t218.length : Int) := dA
   obtain ⟨ad229, e229, hx229_0⟩ := Kd.at_int (Kd.R_reads' HO_5.out).2.2 (ji21) p229 q229
   cases e229
   replace p229 := eq_true p229
   replace q229 := eq_true q229
   obtain ⟨Ao27, co27, eo27⟩ := Kd.R_slice HO_6.out
   subst eo27
   have p230 : 0 ≤ ((ji24) : Int) := dA
   have q230 : (ji24) < (t224.length : Int) := dA
   obtain ⟨ad230, e230, hx230_0⟩ := Kd.at_int (Kd.R_reads' HO_6.out).2.2 (ji24) p230 q230
   cases e230
   replace p230 := eq_true p230
   replace q230 := eq_true q230
   go_wp2
   repeat (go_quiet (fail); try go_wp2)
   go_ret
   exact ⟨by first | rfl | (simp [errW_none, errW_some] <;> rfl) | (simp only [← hji21, ← hji24]; first | rfl | (simp [errW_none, errW_some] <;> rfl)) | (simp [*, errW_none, errW_some] <;> rfl), hbC _⟩

end Go.Proofs.YtkieehjpnjplmaaDoor.X
