-- Written by a program of this work (wip/xprint.py, over the kit's printer) out of the translation.
import Derived.Test.YtefmafbbnkkpjaaX0
import Derived.Test.YtefmafbbnkkpjaaXG1a
import Derived.Test.YtefmafbbnkkpjaaE95b
namespace Go.Proofs.Ytefmafbbnkkpjaa.X
open Go.RowKit Go.Proofs.YtefmafbbnkkpjaaW.PrintWords Go.Proofs.YtefmafbbnkkpjaaW.PrintLast Go.Proofs.YtefmafbbnkkpjaaW.PrintMore
attribute [local go_sem] max2_int min2_int max_two min_two max_three min_three max_four min_four   -- for this text's walks alone
set_option linter.unusedVariables false
set_option linter.unusedSimpArgs false

/-! ### shares_uneven: function 60 -/
def shares_uneven.l0 : Nat → List Int → List Int → Int → Int → Option (Bool)
 | 0, _, _, _, _ => none
 | k + 1, x5, x6, x15, x16 => if x16 < x15 then (if 0 ≤ x16 then (if x16 < (x5.length : Int) then (if x16 < (x6.length : Int) then (if (rd x5 x16) < (rd x6 x16) then (some false) else (shares_uneven.l0 k x5 x6 x15 (wrap64 (x16 + 1)))) else (none)) else (none)) else (none)) else (if 0 ≤ (wrap64 ((x5.length : Int) - 1)) then (if (wrap64 ((x5.length : Int) - 1)) < (x5.length : Int) then (if 0 ≤ (wrap64 ((x6.length : Int) - 1)) then (if (wrap64 ((x6.length : Int) - 1)) < (x6.length : Int) then (some ((rd x5 (wrap64 ((x5.length : Int) - 1))) == (rd x6 (wrap64 ((x6.length : Int) - 1))))) else (none)) else (none)) else (none)) else (none))
def shares_uneven.f (k : Nat) (l0 : List Int) (l1 : List Int) : Option (Bool) := (xFalling.f l0).bind fun t123 => ((shares_sums.f k t123).bind fun t126 => ((xFalling.f l1).bind fun t129 => ((shares_sums.f k t129).bind fun t132 => (shares_uneven.l0 k t126 t132 (t126.length : Int) 0))))
theorem shares_uneven.mono_l : ∀ k, (∀ y0 y1 y2 y3, LeO (shares_uneven.l0 k y0 y1 y2 y3) (shares_uneven.l0 (k + 1) y0 y1 y2 y3))
 | 0 => fun _ _ _ _ r h => by simp [shares_uneven.l0] at h
 | k + 1 => by
  have ih0 := shares_uneven.mono_l k
  ·intro y0 y1 y2 y3
   unfold shares_uneven.l0
   repeat' first
   | (with_reducible exact ih0 _ _ _ _)
   | (with_reducible exact shares_sums.mono _ _)
   | (with_reducible exact LeO.refl _)
   | (with_reducible exact LeO.none _)
   | (with_reducible refine LeO.ite ?_ ?_)
   | (with_reducible refine LeO.bind ?_ (fun _ => ?_))
   | exact ih0 _ _ _ _
   | exact shares_sums.mono _ _
   | exact LeO.none _
   | refine LeO.ite ?_ ?_
   | refine LeO.bind ?_ (fun _ => ?_)
theorem shares_uneven.mono : ∀ a0 a1 k, LeO (shares_uneven.f k a0 a1) (shares_uneven.f (k + 1) a0 a1) := by
 intro a0 a1 k
 have ih0 := shares_uneven.mono_l k
 unfold shares_uneven.f
 repeat' first
   | (with_reducible exact ih0 _ _ _ _)
   | (with_reducible exact shares_sums.mono _ _)
   | (with_reducible exact LeO.refl _)
   | (with_reducible exact LeO.none _)
   | (with_reducible refine LeO.ite ?_ ?_)
   | (with_reducible refine LeO.bind ?_ (fun _ => ?_))
   | exact ih0 _ _ _ _
   | exact shares_sums.mono _ _
   | exact LeO.none _
   | refine LeO.ite ?_ ?_
   | refine LeO.bind ?_ (fun _ => ?_)
set_option maxHeartbeats 8000000 in
set_option maxRecDepth 100000 in
theorem shares_uneven.calls (k : Nat) (A0 : Option Addr) (c0 : Nat) (l0 : List Int) (A1 : Option Addr) (c1 : Nat) (l1 : List Int) (r : Bool) (w : World) (hr0 : Kd.C (Kd.int .i64) w A0 l0.length l0) (hc0 : l0.length ≤ c0) (hr1 : Kd.C (Kd.int .i64) w A1 l1.length l1) (hc1 : l1.length ≤ c1) (h : shares_uneven.f k l0 l1 = some r) :
  Calls Try.prog 60 #[.slice A0 l0.length c0, .slice A1 l1.length c1] w fun e w' => e = .returned (.bool r) ∧ Below w.heap.size w w' := by
 have HR0 := Aside0.mk hr0
 have HC0 := Aside0.mk hc0
 clear hr0 hc0
 have HR1 := Aside0.mk hr1
 have HC1 := Aside0.mk hc1
 clear hr1 hc1
 have HB := ak (Below.refl w.heap.size w)
 have H : ((xFalling.f l0).bind fun t123 => ((shares_sums.f k t123).bind fun t126 => ((xFalling.f l1).bind fun t129 => ((shares_sums.f k t129).bind fun t132 => (shares_uneven.l0 k t126 t132 (t126.length : Int) 0))))) = some r := h
 clear h
 replace H := Option.bind_eq_some_iff.mp H
 obtain ⟨t123, A30, H⟩ := H
 replace H : ((shares_sums.f k t123).bind fun t126 => ((xFalling.f l1).bind fun t129 => ((shares_sums.f k t129).bind fun t132 => (shares_uneven.l0 k t126 t132 (t126.length : Int) 0)))) = some r := H
 have A3 := Aside0.mk A30
 clear A30
 replace H := Option.bind_eq_some_iff.mp H
 obtain ⟨t126, A40, H⟩ := H
 replace H : ((xFalling.f l1).bind fun t129 => ((shares_sums.f k t129).bind fun t132 => (shares_uneven.l0 k t126 t132 (t126.length : Int) 0))) = some r := H
 have A4 := Aside0.mk A40
 clear A40
 replace H := Option.bind_eq_some_iff.mp H
 obtain ⟨t129, A50, H⟩ := H
 replace H : ((shares_sums.f k t129).bind fun t132 => (shares_uneven.l0 k t126 t132 (t126.length : Int) 0)) = some r := H
 have A5 := Aside0.mk A50
 clear A50
 replace H := Option.bind_eq_some_iff.mp H
 obtain ⟨t132, A60, H⟩ := H
 replace H : (shares_uneven.l0 k t126 t132 (t126.length : Int) 0) = some r := H
 have A6 := Aside0.mk A60
 clear A60
 have H' := Aside0.mk H
 clear H
 go_enter Try.func60, Try.ntmps60
 go_wp2_with (first | (go_at_call 95; (with_reducible refine (xFalling.calls _ _ l0 t123 _ ?side1 ?side2 A3.out).mono ?_); (case side1 => repeat (first | exact HR0.out | (with_reducible refine Kd.C_alloc ?_ _) | (with_reducible refine Kd.C_drewN ?_ _) | (with_reducible refine Kd.C_drew ?_))); (case side2 => exact HC0.out); rintro e w7 ⟨v124, rfl, ho0, hb⟩; have HO125 := ak (Kd.R_lower ho0 (below_size (hbC _))); replace HB := kH _ hb; (try clear hb); (try clear hb2); (try clear hk); (try clear hi); (try clear ho0); obtain ⟨Ao8, co8, eo8⟩ := Kd.R_slice HO125.out; subst eo8) | (go_at_call 99; (with_reducible refine (shares_sums.calls k _ _ t123 t126 _ ?side1 ?side2 A4.out).mono ?_); (case side1 => exact kD (Kd.R_reads' HO125.out).2.2); (case side2 => exact (Kd.R_reads' HO125.out).2.1); rintro e w9 ⟨v127, rfl, ho0, hb⟩; have HO128 := ak (Kd.R_lower (Kd.R_new' ho0 (Kd.R_lt (rC HO125))) (below_size (hbC _))); replace HO125 := ak (Kd.R_elder' (rC HO125) (Kd.R_base ho0) hb); replace HB := kH _ hb; (try clear hb); (try clear hb2); (try clear hk); (try clear hi); (try clear ho0)) | (go_at_call 95; (with_reducible refine (xFalling.calls _ _ l1 t129 _ ?side1 ?side2 A5.out).mono ?_); (case side1 => exact kC HR1); (case side2 => exact HC1.out); rintro e w10 ⟨v130, rfl, ho0, hb⟩; have HO131 := ak (Kd.R_lower (Kd.R_new' (Kd.R_new' ho0 (Kd.R_lt (rC HO125))) (Kd.R_lt (rC HO128))) (below_size (hbC _))); replace HO125 := ak (Kd.R_elder' (rC HO125) (Kd.R_base ho0) hb); replace HO128 := ak (Kd.R_elder' (rC HO128) (Kd.R_base ho0) hb); replace HB := kH _ hb; (try clear hb); (try clear hb2); (try clear hk); (try clear hi); (try clear ho0); obtain ⟨Ao11, co11, eo11⟩ := Kd.R_slice HO131.out; subst eo11) | (go_at_call 99; (with_reducible refine (shares_sums.calls k _ _ t129 t132 _ ?side1 ?side2 A6.out).mono ?_); (case side1 => exact kD (Kd.R_reads' HO131.out).2.2); (case side2 => exact (Kd.R_reads' HO131.out).2.1); rintro e w12 ⟨v133, rfl, ho0, hb⟩; have HO134 := ak (Kd.R_lower (Kd.R_new' (Kd.R_new' (Kd.R_new' ho0 (Kd.R_lt (rC HO125))) (Kd.R_lt (rC HO128))) (Kd.R_lt (rC HO131))) (below_size (hbC _))); replace HO125 := ak (Kd.R_elder' (rC HO125) (Kd.R_base ho0) hb); replace HO128 := ak (Kd.R_elder' (rC HO128) (Kd.R_base ho0) hb); replace HO131 := ak (Kd.R_elder' (rC HO131) (Kd.R_base ho0) hb); replace HB := kH _ hb; (try clear hb); (try clear hb2); (try clear hk); (try clear hi); (try clear ho0); obtain ⟨Ao13, co13, eo13⟩ := Kd.R_slice HO128.out; subst eo13))
 repeat (go_quiet (first | (go_at_call 95; (with_reducible refine (xFalling.calls _ _ l0 t123 _ ?side1 ?side2 A3.out).mono ?_); (case side1 => repeat (first | exact HR0.out | (with_reducible refine Kd.C_alloc ?_ _) | (with_reducible refine Kd.C_drewN ?_ _) | (with_reducible refine Kd.C_drew ?_))); (case side2 => exact HC0.out); rintro e w7 ⟨v124, rfl, ho0, hb⟩; have HO125 := ak (Kd.R_lower ho0 (below_size (hbC _))); replace HB := kH _ hb; (try clear hb); (try clear hb2); (try clear hk); (try clear hi); (try clear ho0); obtain ⟨Ao8, co8, eo8⟩ := Kd.R_slice HO125.out; subst eo8) | (go_at_call 99; (with_reducible refine (shares_sums.calls k _ _ t123 t126 _ ?side1 ?side2 A4.out).mono ?_); (case side1 => exact kD (Kd.R_reads' HO125.out).2.2); (case side2 => exact (Kd.R_reads' HO125.out).2.1); rintro e w9 ⟨v127, rfl, ho0, hb⟩; have HO128 := ak (Kd.R_lower (Kd.R_new' ho0 (Kd.R_lt (rC HO125))) (below_size (hbC _))); replace HO125 := ak (Kd.R_elder' (rC HO125) (Kd.R_base ho0) hb); replace HB := kH _ hb; (try clear hb); (try clear hb2); (try clear hk); (try clear hi); (try clear ho0)) | (go_at_call 95; (with_reducible refine (xFalling.calls _ _ l1 t129 _ ?side1 ?side2 A5.out).mono ?_); (case side1 => exact kC HR1); (case side2 => exact HC1.out); rintro e w10 ⟨v130, rfl, ho0, hb⟩; have HO131 := ak (Kd.R_lower (Kd.R_new' (Kd.R_new' ho0 (Kd.R_lt (rC HO125))) (Kd.R_lt (rC HO128))) (below_size (hbC _))); replace HO125 := ak (Kd.R_elder' (rC HO125) (Kd.R_base ho0) hb); replace HO128 := ak (Kd.R_elder' (rC HO128) (Kd.R_base ho0) hb); replace HB := kH _ hb; (try clear hb); (try clear hb2); (try clear hk); (try clear hi); (try clear ho0); obtain ⟨Ao11, co11, eo11⟩ := Kd.R_slice HO131.out; subst eo11) | (go_at_call 99; (with_reducible refine (shares_sums.calls k _ _ t129 t132 _ ?side1 ?side2 A6.out).mono ?_); (case side1 => exact kD (Kd.R_reads' HO131.out).2.2); (case side2 => exact (Kd.R_reads' HO131.out).2.1); rintro e w12 ⟨v133, rfl, ho0, hb⟩; have HO134 := ak (Kd.R_lower (Kd.R_new' (Kd.R_new' (Kd.R_new' ho0 (Kd.R_lt (rC HO125))) (Kd.R_lt (rC HO128))) (Kd.R_lt (rC HO131))) (below_size (hbC _))); replace HO125 := ak (Kd.R_elder' (rC HO125) (Kd.R_base ho0) hb); replace HO128 := ak (Kd.R_elder' (rC HO128) (Kd.R_base ho0) hb); replace HO131 := ak (Kd.R_elder' (rC HO131) (Kd.R_base ho0) hb); replace HB := kH _ hb; (try clear hb); (try clear hb2); (try clear hk); (try clear hi); (try clear ho0); obtain ⟨Ao13, co13, eo13⟩ := Kd.R_slice HO128.out; subst eo13)); try go_wp2_with (first | (go_at_call 95; (with_reducible refine (xFalling.calls _ _ l0 t123 _ ?side1 ?side2 A3.out).mono ?_); (case side1 => repeat (first | exact HR0.out | (with_reducible refine Kd.C_alloc ?_ _) | (with_reducible refine Kd.C_drewN ?_ _) | (with_reducible refine Kd.C_drew ?_))); (case side2 => exact HC0.out); rintro e w7 ⟨v124, rfl, ho0, hb⟩; have HO125 := ak (Kd.R_lower ho0 (below_size (hbC _))); replace HB := kH _ hb; (try clear hb); (try clear hb2); (try clear hk); (try clear hi); (try clear ho0); obtain ⟨Ao8, co8, eo8⟩ := Kd.R_slice HO125.out; subst eo8) | (go_at_call 99; (with_reducible refine (shares_sums.calls k _ _ t123 t126 _ ?side1 ?side2 A4.out).mono ?_); (case side1 => exact kD (Kd.R_reads' HO125.out).2.2); (case side2 => exact (Kd.R_reads' HO125.out).2.1); rintro e w9 ⟨v127, rfl, ho0, hb⟩; have HO128 := ak (Kd.R_lower (Kd.R_new' ho0 (Kd.R_lt (rC HO125))) (below_size (hbC _))); replace HO125 := ak (Kd.R_elder' (rC HO125) (Kd.R_base ho0) hb); replace HB := kH _ hb; (try clear hb); (try clear hb2); (try clear hk); (try clear hi); (try clear ho0)) | (go_at_call 95; (with_reducible refine (xFalling.calls _ _ l1 t129 _ ?side1 ?side2 A5.out).mono ?_); (case side1 => exact kC HR1); (case side2 => exact HC1.out); rintro e w10 ⟨v130, rfl, ho0, hb⟩; have HO131 := ak (Kd.R_lower (Kd.R_new' (Kd.R_new' ho0 (Kd.R_lt (rC HO125))) (Kd.R_lt (rC HO128))) (below_size (hbC _))); replace HO125 := ak (Kd.R_elder' (rC HO125) (Kd.R_base ho0) hb); replace HO128 := ak (Kd.R_elder' (rC HO128) (Kd.R_base ho0) hb); replace HB := kH _ hb; (try clear hb); (try clear hb2); (try clear hk); (try clear hi); (try clear ho0); obtain ⟨Ao11, co11, eo11⟩ := Kd.R_slice HO131.out; subst eo11) | (go_at_call 99; (with_reducible refine (shares_sums.calls k _ _ t129 t132 _ ?side1 ?side2 A6.out).mono ?_); (case side1 => exact kD (Kd.R_reads' HO131.out).2.2); (case side2 => exact (Kd.R_reads' HO131.out).2.1); rintro e w12 ⟨v133, rfl, ho0, hb⟩; have HO134 := ak (Kd.R_lower (Kd.R_new' (Kd.R_new' (Kd.R_new' ho0 (Kd.R_lt (rC HO125))) (Kd.R_lt (rC HO128))) (Kd.R_lt (rC HO131))) (below_size (hbC _))); replace HO125 := ak (Kd.R_elder' (rC HO125) (Kd.R_base ho0) hb); replace HO128 := ak (Kd.R_elder' (rC HO128) (Kd.R_base ho0) hb); replace HO131 := ak (Kd.R_elder' (rC HO131) (Kd.R_base ho0) hb); replace HB := kH _ hb; (try clear hb); (try clear hb2); (try clear hk); (try clear hi); (try clear ho0); obtain ⟨Ao13, co13, eo13⟩ := Kd.R_slice HO128.out; subst eo13)))
 go_loopg [16] k (fun kq v16 w' => ∃ (x16_1 : Int), v16 = .int .i64 x16_1 ∧ Aside0 (shares_uneven.l0 kq t126 t132 (t126.length : Int) x16_1 = some r) ∧ Aside0 (kq ≤ k) ∧ Aside0 (Kd.R (Kd.int .i64) 3 w' w.heap.size (fun k_ => nb k_ v133) (.slice Ao13 t126.length co13) t126) ∧ Aside0 (Kd.R (Kd.int .i64) 3 w' w.heap.size (fun k_ => some k_ ≠ ((.slice Ao13 t126.length co13) : Value).ownBlock) v133 t132) ∧ Aside0 (Below w.heap.size w w'))
 case atStart => exact ⟨(0), (by first | rfl | (simp; done) | (simp [*]; done)), H', ⟨Nat.le_refl _⟩, ⟨rD (Kd.R_mono HO128.out (fun _ hk => hk.2))⟩, ⟨rD (Kd.R_mono HO134.out (fun _ hk => hk.1.2))⟩, ⟨hbC _⟩⟩
 case round =>
  clear H'
  try clear c1
  try clear p2
  try clear c6
  obtain ⟨x16_1, rfl, HA, HK1, HO_5, HO_6, HB⟩ := hrel
  cases gk with
  | zero => exact absurd HA.out (by simp [shares_uneven.l0])
  | succ k1 =>
   have H := HA.out
   clear HA
   simp only [shares_uneven.l0] at H
   by_cases c14 : x16_1 < (t126.length : Int)
   ·rw [if_pos c14] at H
    have c14b0 : decide (x16_1 < (t126.length : Int)) = true := decide_eq_true c14
    clear c14
    by_cases c15 : 0 ≤ x16_1
    rotate_left
    ·rw [if_neg c15] at H
     exact absurd H (by simp)
    rw [if_pos c15] at H
    have c15b0 : decide (0 ≤ x16_1) = true := decide_eq_true c15
    clear c15
    by_cases c16 : x16_1 < (t126.length : Int)
    rotate_left
    ·rw [if_neg c16] at H
     exact absurd H (by simp)
    rw [if_pos c16] at H
    have c16b0 : decide (x16_1 < (t126.length : Int)) = true := decide_eq_true c16
    clear c16
    by_cases c17 : x16_1 < (t132.length : Int)
    rotate_left
    ·rw [if_neg c17] at H
     exact absurd H (by simp)
    rw [if_pos c17] at H
    have c17b0 : decide (x16_1 < (t132.length : Int)) = true := decide_eq_true c17
    clear c17
    by_cases c18 : (rd t126 x16_1) < (rd t132 x16_1)
    ·rw [if_pos c18] at H
     have c18b0 : decide ((rd t126 x16_1) < (rd t132 x16_1)) = true := decide_eq_true c18
     clear c18
     obtain rfl := Option.some.inj H
     have p135 : 0 ≤ (x16_1 : Int) := dA
     have q135 : x16_1 < (t126.length : Int) := dA
     obtain ⟨ad135, e135, hx135_0⟩ := Kd.at_int (Kd.R_reads' HO_5.out).2.2 x16_1 p135 q135
     cases e135
     replace p135 := eq_true p135
     replace q135 := eq_true q135
     obtain ⟨Ao19, co19, eo19⟩ := Kd.R_slice HO_6.out
     subst eo19
     have p136 : 0 ≤ (x16_1 : Int) := dA
     have q136 : x16_1 < (t132.length : Int) := dA
     obtain ⟨ad136, e136, hx136_0⟩ := Kd.at_int (Kd.R_reads' HO_6.out).2.2 x16_1 p136 q136
     cases e136
     replace p136 := eq_true p136
     replace q136 := eq_true q136
     go_wp2
     repeat (go_quiet (fail); try go_wp2)
     go_ret
     exact ⟨by first | rfl | (simp [errW_none, errW_some] <;> rfl) | (simp [*, errW_none, errW_some] <;> rfl), hbC _⟩
    rw [if_neg c18] at H
    have c18b0 : decide ((rd t126 x16_1) < (rd t132 x16_1)) = false := decide_eq_false c18
    clear c18
    have H' := Aside0.mk H
    clear H
    have p135 : 0 ≤ (x16_1 : Int) := dA
    have q135 : x16_1 < (t126.length : Int) := dA
    obtain ⟨ad135, e135, hx135_0⟩ := Kd.at_int (Kd.R_reads' HO_5.out).2.2 x16_1 p135 q135
    cases e135
    replace p135 := eq_true p135
    replace q135 := eq_true q135
    obtain ⟨Ao20, co20, eo20⟩ := Kd.R_slice HO_6.out
    subst eo20
    have p136 : 0 ≤ (x16_1 : Int) := dA
    have q136 : x16_1 < (t132.length : Int) := dA
    obtain ⟨ad136, e136, hx136_0⟩ := Kd.at_int (Kd.R_reads' HO_6.out).2.2 x16_1 p136 q136
    cases e136
    replace p136 := eq_true p136
    replace q136 := eq_true q136
    go_wp2
    repeat (go_quiet (fail); try go_wp2)
    go_roundg k1
    case measure => have := HK1.out; omega
    case rel => exact ⟨(wrap64 (x16_1 + 1)), (by first | rfl | (simp; done) | (simp [*]; done)), H', ⟨by have := HK1.out; omega⟩, ⟨rC HO_5⟩, ⟨rC HO_6⟩, ⟨hbC _⟩⟩
   rw [if_neg c14] at H
   have c14b0 : decide (x16_1 < (t126.length : Int)) = false := decide_eq_false c14
   clear c14
   obtain ⟨ji21, hji21⟩ : ∃ j_ : Int, (wrap64 ((t126.length : Int) - 1)) = j_ := ⟨_, rfl⟩
   replace H : (if 0 ≤ (ji21) then (if (ji21) < (t126.length : Int) then (if 0 ≤ (wrap64 ((t132.length : Int) - 1)) then (if (wrap64 ((t132.length : Int) - 1)) < (t132.length : Int) then (some ((rd t126 (ji21)) == (rd t132 (wrap64 ((t132.length : Int) - 1))))) else (none)) else (none)) else (none)) else (none)) = some r := by first | (rw [hji21] at H; exact H) | (simp only [hji21] at H ⊢; exact H)
   have hji21w : (IntKind.i64.wrap ((t126.length : Int) - 1)) = ji21 := (i64_w _).trans hji21
   by_cases c22 : 0 ≤ (ji21)
   rotate_left
   ·rw [if_neg c22] at H
    exact absurd H (by simp)
   rw [if_pos c22] at H
   have c22b0 : decide (0 ≤ (ji21)) = true := decide_eq_true c22
   clear c22
   by_cases c23 : (ji21) < (t126.length : Int)
   rotate_left
   ·rw [if_neg c23] at H
    exact absurd H (by simp)
   rw [if_pos c23] at H
   have c23b0 : decide ((ji21) < (t126.length : Int)) = true := decide_eq_true c23
   clear c23
   obtain ⟨ji24, hji24⟩ : ∃ j_ : Int, (wrap64 ((t132.length : Int) - 1)) = j_ := ⟨_, rfl⟩
   replace H : (if 0 ≤ (ji24) then (if (ji24) < (t132.length : Int) then (some ((rd t126 (ji21)) == (rd t132 (ji24)))) else (none)) else (none)) = some r := by first | (rw [hji24] at H; exact H) | (simp only [hji24] at H ⊢; exact H)
   have hji24w : (IntKind.i64.wrap ((t132.length : Int) - 1)) = ji24 := (i64_w _).trans hji24
   by_cases c25 : 0 ≤ (ji24)
   rotate_left
   ·rw [if_neg c25] at H
    exact absurd H (by simp)
   rw [if_pos c25] at H
   have c25b0 : decide (0 ≤ (ji24)) = true := decide_eq_true c25
   clear c25
   by_cases c26 : (ji24) < (t132.length : Int)
   rotate_left
   ·rw [if_neg c26] at H
    exact absurd H (by simp)
   rw [if_pos c26] at H
   have c26b0 : decide ((ji24) < (t132.length : Int)) = true := decide_eq_true c26
   clear c26
   obtain rfl := Option.some.inj H
   have p137 : 0 ≤ ((ji21) : Int) := dA
   have q137 : (ji21) < (t126.length : Int) := dA
   obtain ⟨ad137, e137, hx137_0⟩ := Kd.at_int (Kd.R_reads' HO_5.out).2.2 (ji21) p137 q137
   cases e137
   replace p137 := eq_true p137
   replace q137 := eq_true q137
   obtain ⟨Ao27, co27, eo27⟩ := Kd.R_slice HO_6.out
   subst eo27
   have p138 : 0 ≤ ((ji24) : Int) := dA
   have q138 : (ji24) < (t132.length : Int) := dA
   obtain ⟨ad138, e138, hx138_0⟩ := Kd.at_int (Kd.R_reads' HO_6.out).2.2 (ji24) p138 q138
   cases e138
   replace p138 := eq_true p138
   replace q138 := eq_true q138
   go_wp2
   repeat (go_quiet (fail); try go_wp2)
   go_ret
   exact ⟨by first | rfl | (simp [errW_none, errW_some] <;> rfl) | (simp only [← hji21, ← hji24]; first | rfl | (simp [errW_none, errW_some] <;> rfl)) | (simp [*, errW_none, errW_some] <;> rfl), hbC _⟩

end Go.Proofs.Ytefmafbbnkkpjaa.X
