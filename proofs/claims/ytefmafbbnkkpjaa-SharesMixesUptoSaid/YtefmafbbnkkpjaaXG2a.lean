-- Written by a program of this work (wip/xprint.py, over the kit's printer) out of the translation.
import Derived.Test.YtefmafbbnkkpjaaX0
import Derived.Test.YtefmafbbnkkpjaaXG1a
namespace Go.Proofs.Ytefmafbbnkkpjaa.X
open Go.RowKit Go.Proofs.YtefmafbbnkkpjaaW.PrintWords Go.Proofs.YtefmafbbnkkpjaaW.PrintLast Go.Proofs.YtefmafbbnkkpjaaW.PrintMore
attribute [local go_sem] max2_int min2_int max_two min_two max_three min_three max_four min_four   -- for this text's walks alone
set_option linter.unusedVariables false
set_option linter.unusedSimpArgs false

/-! ### congoulaw01_list: function 18 -/
def congoulaw01_list.f (l0 : List Int) : Option (List Int) := if 0 ≤ (mn (l0.length : Int) 15) then (if (mn (l0.length : Int) 15) ≤ (l0.length : Int) then ((slices_Clone_int_int.f (l0.take ((mn (l0.length : Int) 15) : Int).toNat)).bind fun t108 => (some t108)) else (none)) else (none)
set_option maxHeartbeats 8000000 in
set_option maxRecDepth 100000 in
theorem congoulaw01_list.calls (A0 : Option Addr) (c0 : Nat) (l0 : List Int) (r : List Int) (w : World) (hr0 : Kd.C (Kd.int .i64) w A0 l0.length l0) (hc0 : l0.length ≤ c0) (h : congoulaw01_list.f l0 = some r) :
  Calls Try.prog 18 #[.slice A0 l0.length c0] w fun e w' => ∃ v0_ : Value, e = .returned (v0_) ∧ Kd.R (Kd.int .i64) 3 w' w.heap.size (fun _ => True) v0_ r ∧ Below w.heap.size w w' := by
 have HR0 := Aside0.mk hr0
 have HC0 := Aside0.mk hc0
 clear hr0 hc0
 have HB := ak (Below.refl w.heap.size w)
 have H : (if 0 ≤ (mn (l0.length : Int) 15) then (if (mn (l0.length : Int) 15) ≤ (l0.length : Int) then ((slices_Clone_int_int.f (l0.take ((mn (l0.length : Int) 15) : Int).toNat)).bind fun t108 => (some t108)) else (none)) else (none)) = some r := h
 clear h
 obtain ⟨ji2, hji2⟩ : ∃ j_ : Int, (mn (l0.length : Int) 15) = j_ := ⟨_, rfl⟩
 replace H : (if 0 ≤ (ji2) then (if (ji2) ≤ (l0.length : Int) then ((slices_Clone_int_int.f (l0.take ((ji2) : Int).toNat)).bind fun t108 => (some t108)) else (none)) else (none)) = some r := by first | (rw [hji2] at H; exact H) | (simp only [hji2] at H ⊢; exact H)
 (try (have hji2h : ji2 ≤ 15 := by (rw [← hji2]; unfold mn; (repeat' split) <;> omega)))
 (try (have hji2g : ji2 ≤ 64 := by omega))
 (try (have hji2l : 0 ≤ ji2 := by (rw [← hji2]; unfold mn; (repeat' split) <;> omega)))
 (try (have hji2m : 0 ≤ ji2 := by omega))
 have hji2_ : (if 15 < (l0.length : Int) then 15 else (l0.length : Int)) = ji2 := hji2
 by_cases c3 : 0 ≤ (ji2)
 rotate_left
 ·rw [if_neg c3] at H
  exact absurd H (by simp)
 rw [if_pos c3] at H
 have c3b0 := eq_true c3
 have c3b1 : decide (0 ≤ (ji2)) = true := decide_eq_true c3
 clear c3
 by_cases c4 : (ji2) ≤ (l0.length : Int)
 rotate_left
 ·rw [if_neg c4] at H
  exact absurd H (by simp)
 rw [if_pos c4] at H
 have c4b0 := eq_true c4
 have c4b1 : decide ((ji2) ≤ (l0.length : Int)) = true := decide_eq_true c4
 clear c4
 replace H := Option.bind_eq_some_iff.mp H
 obtain ⟨t108, A50, H⟩ := H
 replace H : (some t108) = some r := H
 have A5 := Aside0.mk A50
 clear A50
 obtain rfl := Option.some.inj H
 obtain ⟨i06, hi06, _, hsz6, _⟩ := info_parts info3
 obtain ⟨hcut6, hA6, hC6⟩ := print_take_of (P := Try.prog) (Value.int .i64) 0 22 3 .i64 Try.underlying22 hi06 hsz6 A0 c0 l0 (ji2) (dA) (dA) HC0.out
 have HR107 := ak (Kd.C_of_reads (h1 := fun _ => rfl) (hA6 _ (Kd.reads_of_C HR0.out)))
 have HC107 := Aside0.mk hC6
 clear hA6 hC6 hi06 hsz6
 go_enter Try.func18, Try.ntmps18
 go_wp2_with (first | ((with_reducible refine gate_callee (f := 42) rfl ?_); refine goesL_ (some 8) rfl rfl Try.func42 (by kernel_rfl) rfl #[.slice A0 (l0.take ((ji2) : Int).toNat).length c0] rfl (by (try simp only [List.map_toArray, List.map_cons, List.map_nil]); first | done | (rw [show (l0.take ((ji2) : Int).toNat).length = (ji2).toNat from (by rw [List.length_take]; have h_ : ((ji2) : Int) ≤ (l0.length : Int) := dA; omega)] <;> rfl) | (simp only [hji2]; rfl) | rfl | (simp only [List.length_drop, List.length_take]; rfl)) ?_; (with_reducible refine (slices_Clone_int_int.calls _ _ (l0.take ((ji2) : Int).toNat) t108 _ ?side1 ?side2 A5.out).mono ?_); (case side1 => repeat (first | exact HR107.out | (with_reducible refine Kd.C_alloc ?_ _) | (with_reducible refine Kd.C_drewN ?_ _) | (with_reducible refine Kd.C_drew ?_))); (case side2 => exact HC107.out); rintro e w7 ⟨v109, rfl, ho0, hb⟩; refine ⟨_, rfl, ?_⟩; have HO110 := ak (Kd.R_lower ho0 (below_size (hbC _))); replace HB := kH _ hb; (try clear hb); (try clear hb2); (try clear hk); (try clear hi); (try clear ho0)))
 go_ret
 exact ⟨_, by first | rfl | (simp [errW_none, errW_some] <;> rfl) | (simp only [← hji2]; first | rfl | (simp [errW_none, errW_some] <;> rfl)) | (simp [*, errW_none, errW_some] <;> rfl), rC HO110, hbC _⟩

/-! ### shares_are: function 59 -/
def shares_are.l0 : Nat → List (List Int) → List (List Int) → Int → Int → Option (Bool)
 | 0, _, _, _, _ => none
 | k + 1, x0, x5, x6, x7 => if x7 < x6 then (if 0 ≤ x7 then (if x7 < (x5.length : Int) then (if ((rd_L1 x5 x7).length : Int) < 1 then (some false) else (if ((rd_L1 x5 x7).length : Int) > 6 then (some false) else (if 0 < (x0.length : Int) then (if ((rd_L1 x5 x7).length : Int) = ((rd_L1 x0 0).length : Int) then ((slices_Min_int_int.f k (rd_L1 x5 x7)).bind fun t117 => (if t117 < 0 then (some false) else ((slices_Max_int_int.f k (rd_L1 x5 x7)).bind fun t118 => (if t118 > 20 then (some false) else (shares_are.l0 k x0 x5 x6 (wrap64 (x7 + 1))))))) else (some false)) else (none)))) else (none)) else (none)) else (some true)
def shares_are.f (k : Nat) (l0 : List (List Int)) : Option (Bool) := shares_are.l0 k l0 l0 (l0.length : Int) 0
theorem shares_are.mono_l : ∀ k, (∀ y0 y1 y2 y3, LeO (shares_are.l0 k y0 y1 y2 y3) (shares_are.l0 (k + 1) y0 y1 y2 y3))
 | 0 => fun _ _ _ _ r h => by simp [shares_are.l0] at h
 | k + 1 => by
  have ih0 := shares_are.mono_l k
  ·intro y0 y1 y2 y3
   unfold shares_are.l0
   repeat' first
   | (with_reducible exact ih0 _ _ _ _)
   | (with_reducible exact slices_Max_int_int.mono _ _)
   | (with_reducible exact slices_Min_int_int.mono _ _)
   | (with_reducible exact LeO.refl _)
   | (with_reducible exact LeO.none _)
   | (with_reducible refine LeO.ite ?_ ?_)
   | (with_reducible refine LeO.bind ?_ (fun _ => ?_))
   | exact ih0 _ _ _ _
   | exact slices_Max_int_int.mono _ _
   | exact slices_Min_int_int.mono _ _
   | exact LeO.none _
   | refine LeO.ite ?_ ?_
   | refine LeO.bind ?_ (fun _ => ?_)
theorem shares_are.mono : ∀ a0 k, LeO (shares_are.f k a0) (shares_are.f (k + 1) a0) := by
 intro a0 k
 have ih0 := shares_are.mono_l k
 unfold shares_are.f
 repeat' first
   | (with_reducible exact ih0 _ _ _ _)
   | (with_reducible exact slices_Max_int_int.mono _ _)
   | (with_reducible exact slices_Min_int_int.mono _ _)
   | (with_reducible exact LeO.refl _)
   | (with_reducible exact LeO.none _)
   | (with_reducible refine LeO.ite ?_ ?_)
   | (with_reducible refine LeO.bind ?_ (fun _ => ?_))
   | exact ih0 _ _ _ _
   | exact slices_Max_int_int.mono _ _
   | exact slices_Min_int_int.mono _ _
   | exact LeO.none _
   | refine LeO.ite ?_ ?_
   | refine LeO.bind ?_ (fun _ => ?_)
set_option maxHeartbeats 8000000 in
set_option maxRecDepth 100000 in
theorem shares_are.calls (k : Nat) (A0 : Option Addr) (c0 : Nat) (l0 : List (List Int)) (r : Bool) (w : World) (hr0 : Kd.C (Kd.slice 3 (Kd.int .i64)) w A0 l0.length l0) (hc0 : l0.length ≤ c0) (h : shares_are.f k l0 = some r) :
  Calls Try.prog 59 #[.slice A0 l0.length c0] w fun e w' => e = .returned (.bool r) ∧ Below w.heap.size w w' := by
 have HR0 := Aside0.mk hr0
 have HC0 := Aside0.mk hc0
 clear hr0 hc0
 have HB := ak (Below.refl w.heap.size w)
 have H : (shares_are.l0 k l0 l0 (l0.length : Int) 0) = some r := h
 clear h
 have H' := Aside0.mk H
 clear H
 go_enter Try.func59, Try.ntmps59
 go_wp2
 go_loopg [7] k (fun kq v7 w' => ∃ (x7_1 : Int), v7 = .int .i64 x7_1 ∧ Aside0 (shares_are.l0 kq l0 l0 (l0.length : Int) x7_1 = some r) ∧ Aside0 (kq ≤ k) ∧ Aside0 (Below w.heap.size w w'))
 case atStart => exact ⟨(0), (by first | rfl | (simp; done) | (simp [*]; done)), H', ⟨Nat.le_refl _⟩, ⟨hbC _⟩⟩
 case round =>
  clear H'
  obtain ⟨x7_1, rfl, HA, HK1, HB⟩ := hrel
  cases gk with
  | zero => exact absurd HA.out (by simp [shares_are.l0])
  | succ k1 =>
   have H := HA.out
   clear HA
   simp only [shares_are.l0] at H
   by_cases c2 : x7_1 < (l0.length : Int)
   rotate_left
   ·rw [if_neg c2] at H
    have c2b0 : decide (x7_1 < (l0.length : Int)) = false := decide_eq_false c2
    clear c2
    obtain rfl := Option.some.inj H
    go_wp2
    go_ret
    exact ⟨by first | rfl | (simp [errW_none, errW_some] <;> rfl) | (simp [*, errW_none, errW_some] <;> rfl), hbC _⟩
   rw [if_pos c2] at H
   have c2b0 : decide (x7_1 < (l0.length : Int)) = true := decide_eq_true c2
   clear c2
   by_cases c3 : 0 ≤ x7_1
   rotate_left
   ·rw [if_neg c3] at H
    exact absurd H (by simp)
   rw [if_pos c3] at H
   have c3b0 : decide (0 ≤ x7_1) = true := decide_eq_true c3
   clear c3
   by_cases c4 : x7_1 < (l0.length : Int)
   rotate_left
   ·rw [if_neg c4] at H
    exact absurd H (by simp)
   rw [if_pos c4] at H
   have c4b0 : decide (x7_1 < (l0.length : Int)) = true := decide_eq_true c4
   clear c4
   by_cases c5 : ((rd_L1 l0 x7_1).length : Int) < 1
   ·rw [if_pos c5] at H
    have c5b0 : decide (((rd_L1 l0 x7_1).length : Int) < 1) = true := decide_eq_true c5
    have c5b1 : decide ((rd_L1 l0 x7_1).length < 1) = true := decide_eq_true (by omega)
    clear c5
    obtain rfl := Option.some.inj H
    have p115 : 0 ≤ (x7_1 : Int) := dA
    have q115 : x7_1 < (l0.length : Int) := dA
    obtain ⟨ad115, A115_0, c115_0, e115, hx115_0, hl115_0, hi115_0⟩ := at_L1 HR0.out x7_1 p115 q115
    cases e115
    try replace hx115_0 := (HB.out.cell (World.block_lt_of_cell? w _ hx115_0)).trans hx115_0
    have HR115_0 := Aside0.mk hi115_0
    have HC115_0 := Aside0.mk hl115_0
    clear hi115_0 hl115_0
    replace p115 := eq_true p115
    replace q115 := eq_true q115
    go_wp2
    go_ret
    exact ⟨by first | rfl | (simp [errW_none, errW_some] <;> rfl) | (simp [*, errW_none, errW_some] <;> rfl), hbC _⟩
   rw [if_neg c5] at H
   have c5b0 : decide (((rd_L1 l0 x7_1).length : Int) < 1) = false := decide_eq_false c5
   have c5b1 : decide ((rd_L1 l0 x7_1).length < 1) = false := decide_eq_false (by omega)
   clear c5
   by_cases c6 : ((rd_L1 l0 x7_1).length : Int) > 6
   ·rw [if_pos c6] at H
    have c6b0 : decide (6 < ((rd_L1 l0 x7_1).length : Int)) = true := decide_eq_true c6
    have c6b1 : decide (6 < (rd_L1 l0 x7_1).length) = true := decide_eq_true (by omega)
    clear c6
    obtain rfl := Option.some.inj H
    have p115 : 0 ≤ (x7_1 : Int) := dA
    have q115 : x7_1 < (l0.length : Int) := dA
    obtain ⟨ad115, A115_0, c115_0, e115, hx115_0, hl115_0, hi115_0⟩ := at_L1 HR0.out x7_1 p115 q115
    cases e115
    try replace hx115_0 := (HB.out.cell (World.block_lt_of_cell? w _ hx115_0)).trans hx115_0
    have HR115_0 := Aside0.mk hi115_0
    have HC115_0 := Aside0.mk hl115_0
    clear hi115_0 hl115_0
    replace p115 := eq_true p115
    replace q115 := eq_true q115
    go_wp2
    go_ret
    exact ⟨by first | rfl | (simp [errW_none, errW_some] <;> rfl) | (simp [*, errW_none, errW_some] <;> rfl), hbC _⟩
   rw [if_neg c6] at H
   have c6b0 : decide (6 < ((rd_L1 l0 x7_1).length : Int)) = false := decide_eq_false c6
   have c6b1 : decide (6 < (rd_L1 l0 x7_1).length) = false := decide_eq_false (by omega)
   clear c6
   by_cases c7 : 0 < (l0.length : Int)
   rotate_left
   ·rw [if_neg c7] at H
    exact absurd H (by simp)
   rw [if_pos c7] at H
   have c7b0 : decide (0 < (l0.length : Int)) = true := decide_eq_true c7
   have c7b1 : decide (0 < l0.length) = true := decide_eq_true (by omega)
   clear c7
   by_cases c8 : ((rd_L1 l0 x7_1).length : Int) = ((rd_L1 l0 0).length : Int)
   rotate_left
   ·rw [if_neg c8] at H
    have c8b0 : (((rd_L1 l0 x7_1).length : Int) == ((rd_L1 l0 0).length : Int)) = false := beq_eq_false_iff_ne.mpr c8
    have c8b1 : (((rd_L1 l0 x7_1).length : Int) != ((rd_L1 l0 0).length : Int)) = true := bne_iff_ne.mpr c8
    have c8b2 : ((rd_L1 l0 x7_1).length == (rd_L1 l0 0).length) = false := by first | simpa using c8 | (simp at c8 ⊢; omega)
    obtain rfl := Option.some.inj H
    have p115 : 0 ≤ (x7_1 : Int) := dA
    have q115 : x7_1 < (l0.length : Int) := dA
    obtain ⟨ad115, A115_0, c115_0, e115, hx115_0, hl115_0, hi115_0⟩ := at_L1 HR0.out x7_1 p115 q115
    cases e115
    try replace hx115_0 := (HB.out.cell (World.block_lt_of_cell? w _ hx115_0)).trans hx115_0
    have HR115_0 := Aside0.mk hi115_0
    have HC115_0 := Aside0.mk hl115_0
    clear hi115_0 hl115_0
    replace p115 := eq_true p115
    replace q115 := eq_true q115
    have p116 : 0 ≤ (0 : Int) := (by omega)
    have q116 : 0 < (l0.length : Int) := dA
    obtain ⟨ad116, A116_0, c116_0, e116, hx116_0, hl116_0, hi116_0⟩ := at_L1 HR0.out 0 p116 q116
    obtain rfl : ad115 = ad116 := (by injection e116)
    have qi116 : (0 < l0.length) = True := eq_true (by omega)
    (try rw [show ((0 : Int)).toNat = 0 from rfl] at hx116_0)
    (try rw [Addr.add_zero'] at hx116_0)
    try replace hx116_0 := (HB.out.cell (World.block_lt_of_cell? w _ hx116_0)).trans hx116_0
    have HR116_0 := Aside0.mk hi116_0
    have HC116_0 := Aside0.mk hl116_0
    clear hi116_0 hl116_0
    replace p116 := eq_true p116
    replace q116 := eq_true q116
    go_wp2
    go_ret
    exact ⟨by first | rfl | (simp [errW_none, errW_some] <;> rfl) | (simp [*, errW_none, errW_some] <;> rfl), hbC _⟩
   rw [if_pos c8] at H
   have c8b0 : (((rd_L1 l0 x7_1).length : Int) == ((rd_L1 l0 0).length : Int)) = true := beq_iff_eq.mpr c8
   have c8b1 : (((rd_L1 l0 x7_1).length : Int) != ((rd_L1 l0 0).length : Int)) = false := bne_eq_false_iff_eq.mpr c8
   have c8b2 : ((rd_L1 l0 x7_1).length == (rd_L1 l0 0).length) = true := by first | simpa using c8 | (simp at c8 ⊢; omega)
   clear c8
   replace H := Option.bind_eq_some_iff.mp H
   obtain ⟨t117, A90, H⟩ := H
   replace H : (if t117 < 0 then (some false) else ((slices_Max_int_int.f k1 (rd_L1 l0 x7_1)).bind fun t118 => (if t118 > 20 then (some false) else (shares_are.l0 k1 l0 l0 (l0.length : Int) (wrap64 (x7_1 + 1)))))) = some r := H
   have A9 := Aside0.mk A90
   clear A90
   by_cases c10 : t117 < 0
   ·rw [if_pos c10] at H
    have c10b0 : decide (t117 < 0) = true := decide_eq_true c10
    clear c10
    obtain rfl := Option.some.inj H
    have p115 : 0 ≤ (x7_1 : Int) := dA
    have q115 : x7_1 < (l0.length : Int) := dA
    obtain ⟨ad115, A115_0, c115_0, e115, hx115_0, hl115_0, hi115_0⟩ := at_L1 HR0.out x7_1 p115 q115
    cases e115
    try replace hx115_0 := (HB.out.cell (World.block_lt_of_cell? w _ hx115_0)).trans hx115_0
    have HR115_0 := Aside0.mk hi115_0
    have HC115_0 := Aside0.mk hl115_0
    clear hi115_0 hl115_0
    replace p115 := eq_true p115
    replace q115 := eq_true q115
    have p116 : 0 ≤ (0 : Int) := (by omega)
    have q116 : 0 < (l0.length : Int) := dA
    obtain ⟨ad116, A116_0, c116_0, e116, hx116_0, hl116_0, hi116_0⟩ := at_L1 HR0.out 0 p116 q116
    obtain rfl : ad115 = ad116 := (by injection e116)
    have qi116 : (0 < l0.length) = True := eq_true (by omega)
    (try rw [show ((0 : Int)).toNat = 0 from rfl] at hx116_0)
    (try rw [Addr.add_zero'] at hx116_0)
    try replace hx116_0 := (HB.out.cell (World.block_lt_of_cell? w _ hx116_0)).trans hx116_0
    have HR116_0 := Aside0.mk hi116_0
    have HC116_0 := Aside0.mk hl116_0
    clear hi116_0 hl116_0
    replace p116 := eq_true p116
    replace q116 := eq_true q116
    go_wp2_with (first | (go_at_call 64; (with_reducible refine (slices_Min_int_int.calls k1 _ _ (rd_L1 l0 x7_1) t117 _ ?side1 ?side2 A9.out).mono ?_); (case side1 => exact kC HR115_0); (case side2 => exact HC115_0.out); rintro e w11 ⟨rfl, hb⟩; replace HB := kH _ hb; (try clear hb); (try clear hb2); (try clear hk); (try clear hi)))
    go_ret
    exact ⟨by first | rfl | (simp [errW_none, errW_some] <;> rfl) | (simp [*, errW_none, errW_some] <;> rfl), hbC _⟩
   rw [if_neg c10] at H
   have c10b0 : decide (t117 < 0) = false := decide_eq_false c10
   clear c10
   replace H := Option.bind_eq_some_iff.mp H
   obtain ⟨t118, A120, H⟩ := H
   replace H : (if t118 > 20 then (some false) else (shares_are.l0 k1 l0 l0 (l0.length : Int) (wrap64 (x7_1 + 1)))) = some r := H
   have A12 := Aside0.mk A120
   clear A120
   by_cases c13 : t118 > 20
   ·rw [if_pos c13] at H
    have c13b0 : decide (20 < t118) = true := decide_eq_true c13
    clear c13
    obtain rfl := Option.some.inj H
    have p115 : 0 ≤ (x7_1 : Int) := dA
    have q115 : x7_1 < (l0.length : Int) := dA
    obtain ⟨ad115, A115_0, c115_0, e115, hx115_0, hl115_0, hi115_0⟩ := at_L1 HR0.out x7_1 p115 q115
    cases e115
    try replace hx115_0 := (HB.out.cell (World.block_lt_of_cell? w _ hx115_0)).trans hx115_0
    have HR115_0 := Aside0.mk hi115_0
    have HC115_0 := Aside0.mk hl115_0
    clear hi115_0 hl115_0
    replace p115 := eq_true p115
    replace q115 := eq_true q115
    have p116 : 0 ≤ (0 : Int) := (by omega)
    have q116 : 0 < (l0.length : Int) := dA
    obtain ⟨ad116, A116_0, c116_0, e116, hx116_0, hl116_0, hi116_0⟩ := at_L1 HR0.out 0 p116 q116
    obtain rfl : ad115 = ad116 := (by injection e116)
    have qi116 : (0 < l0.length) = True := eq_true (by omega)
    (try rw [show ((0 : Int)).toNat = 0 from rfl] at hx116_0)
    (try rw [Addr.add_zero'] at hx116_0)
    try replace hx116_0 := (HB.out.cell (World.block_lt_of_cell? w _ hx116_0)).trans hx116_0
    have HR116_0 := Aside0.mk hi116_0
    have HC116_0 := Aside0.mk hl116_0
    clear hi116_0 hl116_0
    replace p116 := eq_true p116
    replace q116 := eq_true q116
    go_wp2_with (first | (go_at_call 64; (with_reducible refine (slices_Min_int_int.calls k1 _ _ (rd_L1 l0 x7_1) t117 _ ?side1 ?side2 A9.out).mono ?_); (case side1 => exact kC HR115_0); (case side2 => exact HC115_0.out); rintro e w14 ⟨rfl, hb⟩; replace HB := kH _ hb; (try clear hb); (try clear hb2); (try clear hk); (try clear hi)) | (go_at_call 63; (with_reducible refine (slices_Max_int_int.calls k1 _ _ (rd_L1 l0 x7_1) t118 _ ?side1 ?side2 A12.out).mono ?_); (case side1 => exact kC HR115_0); (case side2 => exact HC115_0.out); rintro e w15 ⟨rfl, hb⟩; replace HB := kH _ hb; (try clear hb); (try clear hb2); (try clear hk); (try clear hi)))
    go_ret
    exact ⟨by first | rfl | (simp [errW_none, errW_some] <;> rfl) | (simp [*, errW_none, errW_some] <;> rfl), hbC _⟩
   rw [if_neg c13] at H
   have c13b0 : decide (20 < t118) = false := decide_eq_false c13
   clear c13
   have H' := Aside0.mk H
   clear H
   have p115 : 0 ≤ (x7_1 : Int) := dA
   have q115 : x7_1 < (l0.length : Int) := dA
   obtain ⟨ad115, A115_0, c115_0, e115, hx115_0, hl115_0, hi115_0⟩ := at_L1 HR0.out x7_1 p115 q115
   cases e115
   try replace hx115_0 := (HB.out.cell (World.block_lt_of_cell? w _ hx115_0)).trans hx115_0
   have HR115_0 := Aside0.mk hi115_0
   have HC115_0 := Aside0.mk hl115_0
   clear hi115_0 hl115_0
   replace p115 := eq_true p115
   replace q115 := eq_true q115
   have p116 : 0 ≤ (0 : Int) := (by omega)
   have q116 : 0 < (l0.length : Int) := dA
   obtain ⟨ad116, A116_0, c116_0, e116, hx116_0, hl116_0, hi116_0⟩ := at_L1 HR0.out 0 p116 q116
   obtain rfl : ad115 = ad116 := (by injection e116)
   have qi116 : (0 < l0.length) = True := eq_true (by omega)
   (try rw [show ((0 : Int)).toNat = 0 from rfl] at hx116_0)
   (try rw [Addr.add_zero'] at hx116_0)
   try replace hx116_0 := (HB.out.cell (World.block_lt_of_cell? w _ hx116_0)).trans hx116_0
   have HR116_0 := Aside0.mk hi116_0
   have HC116_0 := Aside0.mk hl116_0
   clear hi116_0 hl116_0
   replace p116 := eq_true p116
   replace q116 := eq_true q116
   go_wp2_with (first | (go_at_call 64; (with_reducible refine (slices_Min_int_int.calls k1 _ _ (rd_L1 l0 x7_1) t117 _ ?side1 ?side2 A9.out).mono ?_); (case side1 => exact kC HR115_0); (case side2 => exact HC115_0.out); rintro e w16 ⟨rfl, hb⟩; replace HB := kH _ hb; (try clear hb); (try clear hb2); (try clear hk); (try clear hi)) | (go_at_call 63; (with_reducible refine (slices_Max_int_int.calls k1 _ _ (rd_L1 l0 x7_1) t118 _ ?side1 ?side2 A12.out).mono ?_); (case side1 => exact kC HR115_0); (case side2 => exact HC115_0.out); rintro e w17 ⟨rfl, hb⟩; replace HB := kH _ hb; (try clear hb); (try clear hb2); (try clear hk); (try clear hi)))
   go_roundg k1
   case measure => have := HK1.out; omega
   case rel => exact ⟨(wrap64 (x7_1 + 1)), (by first | rfl | (simp; done) | (simp [*]; done)), H', ⟨by have := HK1.out; omega⟩, ⟨hbC _⟩⟩

/-! ### congouref01_Two: function 23 -/
def congouref01_Two.f (k : Nat) (l0 : List Int) (l1 : List Int) : Option (Bool) := (congouref01_Shares.f k l0).bind fun t167 => (if t167 = true then ((congouref01_Shares.f k l1).bind fun t168 => (if t168 = true then (some ((l0.length : Int) == (l1.length : Int))) else (some false))) else (some false))
theorem congouref01_Two.mono : ∀ a0 a1 k, LeO (congouref01_Two.f k a0 a1) (congouref01_Two.f (k + 1) a0 a1) := by
 intro a0 a1 k
 unfold congouref01_Two.f
 repeat' first
   | (with_reducible exact congouref01_Shares.mono _ _)
   | (with_reducible exact LeO.refl _)
   | (with_reducible exact LeO.none _)
   | (with_reducible refine LeO.ite ?_ ?_)
   | (with_reducible refine LeO.bind ?_ (fun _ => ?_))
   | exact congouref01_Shares.mono _ _
   | exact LeO.none _
   | refine LeO.ite ?_ ?_
   | refine LeO.bind ?_ (fun _ => ?_)
set_option maxHeartbeats 8000000 in
set_option maxRecDepth 100000 in
theorem congouref01_Two.calls (k : Nat) (A0 : Option Addr) (c0 : Nat) (l0 : List Int) (A1 : Option Addr) (c1 : Nat) (l1 : List Int) (r : Bool) (w : World) (hr0 : Kd.C (Kd.int .i64) w A0 l0.length l0) (hc0 : l0.length ≤ c0) (hr1 : Kd.C (Kd.int .i64) w A1 l1.length l1) (hc1 : l1.length ≤ c1) (h : congouref01_Two.f k l0 l1 = some r) :
  Calls Try.prog 23 #[.slice A0 l0.length c0, .slice A1 l1.length c1] w fun e w' => e = .returned (.bool r) ∧ Drawn0 w w' := by
 have HR0 := Aside0.mk hr0
 have HC0 := Aside0.mk hc0
 clear hr0 hc0
 have HR1 := Aside0.mk hr1
 have HC1 := Aside0.mk hc1
 clear hr1 hc1
 have H : ((congouref01_Shares.f k l0).bind fun t167 => (if t167 = true then ((congouref01_Shares.f k l1).bind fun t168 => (if t168 = true then (some ((l0.length : Int) == (l1.length : Int))) else (some false))) else (some false))) = some r := h
 clear h
 replace H := Option.bind_eq_some_iff.mp H
 obtain ⟨t167, A30, H⟩ := H
 replace H : (if t167 = true then ((congouref01_Shares.f k l1).bind fun t168 => (if t168 = true then (some ((l0.length : Int) == (l1.length : Int))) else (some false))) else (some false)) = some r := H
 have A3 := Aside0.mk A30
 clear A30
 by_cases c4 : t167 = true
 rotate_left
 ·replace c4 := Bool.eq_false_iff.mpr c4
  subst c4
  have H1 : (some false) = some r := by rw [if_neg (show ¬ (false = true) by decide)] at H; exact H
  clear H
  have H := H1
  clear H1
  obtain rfl := Option.some.inj H
  go_enter Try.func23, Try.ntmps23
  go_wp2_with (first | ((with_reducible refine gate_callee (f := 20) rfl ?_); refine gL 6 Try.func20 #[.slice A0 l0.length c0] ?_; (with_reducible refine (congouref01_Shares.calls k _ _ l0 false _ ?side1 ?side2 A3.out).mono ?_); (case side1 => repeat (first | exact HR0.out | (with_reducible refine Kd.C_alloc ?_ _) | (with_reducible refine Kd.C_drewN ?_ _) | (with_reducible refine Kd.C_drew ?_))); (case side2 => exact HC0.out); rintro e w' ⟨rfl, ⟨nd, rfl⟩⟩; refine ⟨_, rfl, ?_⟩))
  go_ret
  exact ⟨by first | rfl | (simp; done) | (simp [*]; done), by repeat (first | exact Drawn0.refl _ | apply Drawn0.step)⟩
 subst c4
 have H1 : ((congouref01_Shares.f k l1).bind fun t168 => (if t168 = true then (some ((l0.length : Int) == (l1.length : Int))) else (some false))) = some r := by rw [if_pos rfl] at H; exact H
 clear H
 have H := H1
 clear H1
 replace H := Option.bind_eq_some_iff.mp H
 obtain ⟨t168, A50, H⟩ := H
 replace H : (if t168 = true then (some ((l0.length : Int) == (l1.length : Int))) else (some false)) = some r := H
 have A5 := Aside0.mk A50
 clear A50
 by_cases c6 : t168 = true
 ·subst c6
  have H1 : (some ((l0.length : Int) == (l1.length : Int))) = some r := by rw [if_pos rfl] at H; exact H
  clear H
  have H := H1
  clear H1
  obtain rfl := Option.some.inj H
  go_enter Try.func23, Try.ntmps23
  go_wp2_with (first | ((with_reducible refine gate_callee (f := 20) rfl ?_); refine gL 6 Try.func20 #[.slice A0 l0.length c0] ?_; (with_reducible refine (congouref01_Shares.calls k _ _ l0 true _ ?side1 ?side2 A3.out).mono ?_); (case side1 => repeat (first | exact HR0.out | (with_reducible refine Kd.C_alloc ?_ _) | (with_reducible refine Kd.C_drewN ?_ _) | (with_reducible refine Kd.C_drew ?_))); (case side2 => exact HC0.out); rintro e w' ⟨rfl, ⟨nd, rfl⟩⟩; refine ⟨_, rfl, ?_⟩) | (go_at_call 20; (with_reducible refine (congouref01_Shares.calls k _ _ l1 true _ ?side1 ?side2 A5.out).mono ?_); (case side1 => repeat (first | exact HR1.out | (with_reducible refine Kd.C_alloc ?_ _) | (with_reducible refine Kd.C_drewN ?_ _) | (with_reducible refine Kd.C_drew ?_))); (case side2 => exact HC1.out); rintro e w' ⟨rfl, ⟨nd, rfl⟩⟩))
  go_ret
  exact ⟨by first | rfl | (simp; done) | (simp [*]; done), by repeat (first | exact Drawn0.refl _ | apply Drawn0.step)⟩
 replace c6 := Bool.eq_false_iff.mpr c6
 subst c6
 have H1 : (some false) = some r := by rw [if_neg (show ¬ (false = true) by decide)] at H; exact H
 clear H
 have H := H1
 clear H1
 obtain rfl := Option.some.inj H
 go_enter Try.func23, Try.ntmps23
 go_wp2_with (first | ((with_reducible refine gate_callee (f := 20) rfl ?_); refine gL 6 Try.func20 #[.slice A0 l0.length c0] ?_; (with_reducible refine (congouref01_Shares.calls k _ _ l0 true _ ?side1 ?side2 A3.out).mono ?_); (case side1 => repeat (first | exact HR0.out | (with_reducible refine Kd.C_alloc ?_ _) | (with_reducible refine Kd.C_drewN ?_ _) | (with_reducible refine Kd.C_drew ?_))); (case side2 => exact HC0.out); rintro e w' ⟨rfl, ⟨nd, rfl⟩⟩; refine ⟨_, rfl, ?_⟩) | (go_at_call 20; (with_reducible refine (congouref01_Shares.calls k _ _ l1 false _ ?side1 ?side2 A5.out).mono ?_); (case side1 => repeat (first | exact HR1.out | (with_reducible refine Kd.C_alloc ?_ _) | (with_reducible refine Kd.C_drewN ?_ _) | (with_reducible refine Kd.C_drew ?_))); (case side2 => exact HC1.out); rintro e w' ⟨rfl, ⟨nd, rfl⟩⟩))
 go_ret
 exact ⟨by first | rfl | (simp; done) | (simp [*]; done), by repeat (first | exact Drawn0.refl _ | apply Drawn0.step)⟩

/-! ### slices_IsSortedFunc_int_int_with72: function 71 -/
/-! ### shares_padded: function 78 -/
/-! ### congouref01_Parts: function 41 -/
/-! ### congouref01_Few: function 26 -/
/-! ### congoulaw01_matrix: function 46 -/
def congoulaw01_matrix.l0 : Nat → List (List (S62)) → List (List (S62)) → Int → Int → Option ((List (List (S62))))
 | 0, _, _, _, _ => none
 | k + 1, x3, x6, x7, x8 => if x8 < x7 then (if 0 ≤ x8 then (if x8 < (x6.length : Int) then (if x8 < 9 then (if 0 ≤ (mn ((rd_L5 x6 x8).length : Int) 9) then (if (mn ((rd_L5 x6 x8).length : Int) 9) ≤ ((rd_L5 x6 x8).length : Int) then ((api_Frac_52.f ((rd_L5 x6 x8).take ((mn ((rd_L5 x6 x8).length : Int) 9) : Int).toNat)).bind fun t734 => (if x3.length < 5864062014805 then (congoulaw01_matrix.l0 k (x3 ++ [t734]) x6 x7 (wrap64 (x8 + 1))) else (none))) else (none)) else (none)) else (congoulaw01_matrix.l0 k x3 x6 x7 (wrap64 (x8 + 1)))) else (none)) else (none)) else (some x3)
def congoulaw01_matrix.f (k : Nat) (l0 : List (List (S62))) : Option ((List (List (S62)))) := congoulaw01_matrix.l0 k ([] : List (List (S62))) l0 (l0.length : Int) 0
theorem congoulaw01_matrix.mono_l : ∀ k, (∀ y0 y1 y2 y3, LeO (congoulaw01_matrix.l0 k y0 y1 y2 y3) (congoulaw01_matrix.l0 (k + 1) y0 y1 y2 y3))
 | 0 => fun _ _ _ _ r h => by simp [congoulaw01_matrix.l0] at h
 | k + 1 => by
  have ih0 := congoulaw01_matrix.mono_l k
  ·intro y0 y1 y2 y3
   unfold congoulaw01_matrix.l0
   repeat' first
   | (with_reducible exact ih0 _ _ _ _)
   | (with_reducible exact LeO.refl _)
   | (with_reducible exact LeO.none _)
   | (with_reducible refine LeO.ite ?_ ?_)
   | (with_reducible refine LeO.bind ?_ (fun _ => ?_))
   | exact ih0 _ _ _ _
   | exact LeO.none _
   | refine LeO.ite ?_ ?_
   | refine LeO.bind ?_ (fun _ => ?_)
theorem congoulaw01_matrix.mono : ∀ a0 k, LeO (congoulaw01_matrix.f k a0) (congoulaw01_matrix.f (k + 1) a0) := by
 intro a0 k
 have ih0 := congoulaw01_matrix.mono_l k
 unfold congoulaw01_matrix.f
 repeat' first
   | (with_reducible exact ih0 _ _ _ _)
   | (with_reducible exact LeO.refl _)
   | (with_reducible exact LeO.none _)
   | (with_reducible refine LeO.ite ?_ ?_)
   | (with_reducible refine LeO.bind ?_ (fun _ => ?_))
   | exact ih0 _ _ _ _
   | exact LeO.none _
   | refine LeO.ite ?_ ?_
   | refine LeO.bind ?_ (fun _ => ?_)
set_option maxHeartbeats 8000000 in
set_option maxRecDepth 100000 in
theorem congoulaw01_matrix.calls (k : Nat) (A0 : Option Addr) (c0 : Nat) (l0 : List (List (S62))) (r : List (List (S62))) (w : World) (hr0 : Kd.C (Kd.slice 62 k62) w A0 l0.length l0) (hc0 : l0.length ≤ c0) (h : congoulaw01_matrix.f k l0 = some r) :
  Calls Try.prog 46 #[.slice A0 l0.length c0] w fun e w' => ∃ v0_ : Value, e = .returned (v0_) ∧ Kd.S (Kd.slice 62 k62) 52 w' w.heap.size (fun _ => True) v0_ r ∧ Below w.heap.size w w' := by
 have HR0 := Aside0.mk hr0
 have HC0 := Aside0.mk hc0
 clear hr0 hc0
 have HB := ak (Below.refl w.heap.size w)
 have H : (congoulaw01_matrix.l0 k ([] : List (List (S62))) l0 (l0.length : Int) 0) = some r := h
 clear h
 have H' := Aside0.mk H
 clear H
 go_enter Try.func46, Try.ntmps46
 go_wp2
 go_loopg [3, 8] k (fun kq v3 v8 w' => ∃ (x3_1 : List (List (S62))) (x8_1 : Int), v8 = .int .i64 x8_1 ∧ Aside0 (congoulaw01_matrix.l0 kq x3_1 l0 (l0.length : Int) x8_1 = some r) ∧ Aside0 (kq ≤ k) ∧ Aside0 (Kd.S (Kd.slice 62 k62) 52 w' w.heap.size (fun _ => True) v3 x3_1) ∧ Aside0 (Below w.heap.size w w'))
 case atStart => exact ⟨(([] : List (List (S62)))), (0), (by first | rfl | (simp; done) | (simp [*]; done)), H', ⟨Nat.le_refl _⟩, ⟨by first | exact Kd.S_nil _ _ _ _ _ | exact Kd.N_nil _ _ _ _ _ | exact Kd.V_nil _ _ _ _ _ | exact Kd.Q_nil _ _ _ _ _ | exact Kd.R_nil _ _ _ _ _⟩, ⟨hbC _⟩⟩
 case round =>
  clear H'
  obtain ⟨x3_1, x8_1, rfl, HA, HK1, HO_3, HB⟩ := hrel
  cases gk with
  | zero => exact absurd HA.out (by simp [congoulaw01_matrix.l0])
  | succ k1 =>
   have H := HA.out
   clear HA
   simp only [congoulaw01_matrix.l0] at H
   by_cases c2 : x8_1 < (l0.length : Int)
   rotate_left
   ·rw [if_neg c2] at H
    have c2b0 : decide (x8_1 < (l0.length : Int)) = false := decide_eq_false c2
    clear c2
    obtain rfl := Option.some.inj H
    go_wp2
    go_ret
    exact ⟨_, by first | rfl | (simp [errW_none, errW_some] <;> rfl) | (simp [*, errW_none, errW_some] <;> rfl), by (with_reducible repeat (first | apply Kd.S_alloc | apply Kd.S_drewN | apply Kd.S_drew)); exact HO_3.out, hbC _⟩
   rw [if_pos c2] at H
   have c2b0 : decide (x8_1 < (l0.length : Int)) = true := decide_eq_true c2
   clear c2
   by_cases c3 : 0 ≤ x8_1
   rotate_left
   ·rw [if_neg c3] at H
    exact absurd H (by simp)
   rw [if_pos c3] at H
   have c3b0 : decide (0 ≤ x8_1) = true := decide_eq_true c3
   clear c3
   by_cases c4 : x8_1 < (l0.length : Int)
   rotate_left
   ·rw [if_neg c4] at H
    exact absurd H (by simp)
   rw [if_pos c4] at H
   have c4b0 : decide (x8_1 < (l0.length : Int)) = true := decide_eq_true c4
   clear c4
   by_cases c5 : x8_1 < 9
   rotate_left
   ·rw [if_neg c5] at H
    have c5b0 : decide (x8_1 < 9) = false := decide_eq_false c5
    clear c5
    have H' := Aside0.mk H
    clear H
    have p729 : 0 ≤ (x8_1 : Int) := dA
    have q729 : x8_1 < (l0.length : Int) := dA
    obtain ⟨ad729, A729_0, c729_0, e729, hx729_0, hl729_0, hi729_0⟩ := at_L5 HR0.out x8_1 p729 q729
    cases e729
    try replace hx729_0 := (HB.out.cell (World.block_lt_of_cell? w _ hx729_0)).trans hx729_0
    have HR729_0 := Aside0.mk hi729_0
    have HC729_0 := Aside0.mk hl729_0
    clear hi729_0 hl729_0
    replace p729 := eq_true p729
    replace q729 := eq_true q729
    go_wp2
    go_roundg k1
    case measure => have := HK1.out; omega
    case rel => exact ⟨(x3_1), (wrap64 (x8_1 + 1)), (by first | rfl | (simp; done) | (simp [*]; done)), H', ⟨by have := HK1.out; omega⟩, ⟨by (with_reducible repeat (first | apply Kd.S_alloc | apply Kd.S_drewN | apply Kd.S_drew)); exact HO_3.out⟩, ⟨hbC _⟩⟩
   rw [if_pos c5] at H
   have c5b0 : decide (x8_1 < 9) = true := decide_eq_true c5
   clear c5
   obtain ⟨ji6, hji6⟩ : ∃ j_ : Int, (mn ((rd_L5 l0 x8_1).length : Int) 9) = j_ := ⟨_, rfl⟩
   replace H : (if 0 ≤ (ji6) then (if (ji6) ≤ ((rd_L5 l0 x8_1).length : Int) then ((api_Frac_52.f ((rd_L5 l0 x8_1).take ((ji6) : Int).toNat)).bind fun t734 => (if x3_1.length < 5864062014805 then (congoulaw01_matrix.l0 k1 (x3_1 ++ [t734]) l0 (l0.length : Int) (wrap64 (x8_1 + 1))) else (none))) else (none)) else (none)) = some r := by first | (rw [hji6] at H; exact H) | (simp only [hji6] at H ⊢; exact H)
   have hji6_ : (if 9 < ((rd_L5 l0 x8_1).length : Int) then 9 else ((rd_L5 l0 x8_1).length : Int)) = ji6 := hji6
   by_cases c7 : 0 ≤ (ji6)
   rotate_left
   ·rw [if_neg c7] at H
    exact absurd H (by simp)
   rw [if_pos c7] at H
   have c7b0 := eq_true c7
   have c7b1 : decide (0 ≤ (ji6)) = true := decide_eq_true c7
   clear c7
   by_cases c8 : (ji6) ≤ ((rd_L5 l0 x8_1).length : Int)
   rotate_left
   ·rw [if_neg c8] at H
    exact absurd H (by simp)
   rw [if_pos c8] at H
   have c8b0 := eq_true c8
   have c8b1 : decide ((ji6) ≤ ((rd_L5 l0 x8_1).length : Int)) = true := decide_eq_true c8
   clear c8
   obtain ⟨y730, hy730⟩ : ∃ y_ : List (S62), y_ = ((rd_L5 l0 x8_1).take ((ji6) : Int).toNat) := ⟨_, rfl⟩
   replace H : ((api_Frac_52.f y730).bind fun t734 => (if x3_1.length < 5864062014805 then (congoulaw01_matrix.l0 k1 (x3_1 ++ [t734]) l0 (l0.length : Int) (wrap64 (x8_1 + 1))) else (none))) = some r := by first | (rw [hy730]; with_reducible exact H) | (have H2_ := (Option.bind_some _ _).symm.trans H; rw [hy730]; with_reducible exact H2_) | (have H2_ := (Option.bind_some _ _).symm.trans H; with_reducible exact H2_) | with_reducible exact H | (rw [hy730]; exact H) | exact H
   have Ny730 := Aside0.mk hy730
   clear hy730
   replace H := Option.bind_eq_some_iff.mp H
   obtain ⟨t734, A90, H⟩ := H
   replace H : (if x3_1.length < 5864062014805 then (congoulaw01_matrix.l0 k1 (x3_1 ++ [t734]) l0 (l0.length : Int) (wrap64 (x8_1 + 1))) else (none)) = some r := H
   have A9 := Aside0.mk A90
   clear A90
   by_cases c10 : x3_1.length < 5864062014805
   rotate_left
   ·rw [if_neg c10] at H
    exact absurd H (by simp)
   rw [if_pos c10] at H
   have LMc10 := Aside0.mk c10
   clear c10
   obtain ⟨y737, hy737⟩ : ∃ y_ : List (List (S62)), y_ = (x3_1 ++ [t734]) := ⟨_, rfl⟩
   replace H : (congoulaw01_matrix.l0 k1 y737 l0 (l0.length : Int) (wrap64 (x8_1 + 1))) = some r := by first | (rw [hy737]; with_reducible exact H) | (have H2_ := (Option.bind_some _ _).symm.trans H; rw [hy737]; with_reducible exact H2_) | (have H2_ := (Option.bind_some _ _).symm.trans H; with_reducible exact H2_) | with_reducible exact H | (rw [hy737]; exact H) | exact H
   have Ny737 := Aside0.mk hy737
   clear hy737
   have H' := Aside0.mk H
   clear H
   have p729 : 0 ≤ (x8_1 : Int) := dA
   have q729 : x8_1 < (l0.length : Int) := dA
   obtain ⟨ad729, A729_0, c729_0, e729, hx729_0, hl729_0, hi729_0⟩ := at_L5 HR0.out x8_1 p729 q729
   cases e729
   try replace hx729_0 := (HB.out.cell (World.block_lt_of_cell? w _ hx729_0)).trans hx729_0
   have HR729_0 := Aside0.mk hi729_0
   have HC729_0 := Aside0.mk hl729_0
   clear hi729_0 hl729_0
   replace p729 := eq_true p729
   replace q729 := eq_true q729
   have q11 : ((ji6) : Int) ≤ (((rd_L5 l0 x8_1).length : Int) : Int) := dA
   obtain ⟨i011, hi011, _, hsz11, _⟩ := info_parts info62
   have hroom11 : (rd_L5 l0 x8_1).length ≤ c729_0 := HC729_0.out
   have hC11 : Kd.C k62 _ A729_0 (rd_L5 l0 x8_1).length (rd_L5 l0 x8_1) := HR729_0.out
   have hcut11 := cut_to (P := Try.prog) 52 62 .i64 Try.underlying52 hi011 A729_0 (rd_L5 l0 x8_1).length c729_0 (ji6) (dA) q11 hroom11
   have hr11 := Kd.C_take (m := ((ji6) : Int).toNat) hC11 (by omega)
   have hy11 : y730.length = ((ji6) : Int).toNat := (by rw [Ny730.out, List.length_take]; omega)
   rw [← Ny730.out] at hr11
   rw [← hy11] at hcut11
   have HR733 := Aside0.mk hr11
   have HC733 := ak (show y730.length ≤ c729_0 from by omega)
   clear hr11 hC11 hroom11 hi011 hsz11
   have KY11 := Aside0.mk hy11
   clear hy11
   replace q11 := eq_true q11
   go_wp2_with (first | ((with_reducible refine gate_callee (f := 52) rfl ?_); refine gL 21 Try.func52 #[.slice A729_0 y730.length c729_0] ?_; (with_reducible refine (api_Frac_52.calls _ _ y730 t734 _ ?side1 ?side2 A9.out).mono ?_); (case side1 => exact kC HR733); (case side2 => exact HC733.out); rintro e w12 ⟨v735, rfl, ho0, hb⟩; refine ⟨_, rfl, ?_⟩; replace HO_3 := ak (Kd.S_elder' (by (with_reducible repeat (first | apply Kd.S_alloc | apply Kd.S_drewN | apply Kd.S_drew)); exact HO_3.out) (Kd.R_base ho0) hb); have HO736 := ak (Kd.R_lower ho0 (below_size (hbC _))); replace HB := kH _ hb; (try clear hb); (try clear hb2); (try clear hk); (try clear hi); (try clear ho0); obtain ⟨Ao14, co14, eo14⟩ := Kd.R_slice HO736.out; subst eo14) | ((with_reducible refine gate_builtin (b := .append) (xs := #[.tmp 15, .tmp 22]) rfl ?_); at_builtin; refine Kd.S_append (Kd.slice 62 k62) (w0 := w) w.heap.size rfl (.tmp 15) (.tmp 22) 51 52 (.slice none 0 0) 24 rfl Try.underlying51 info52 rfl (by decide) (by omega) u3 x3_1 t734 [.slice Ao14 t734.length co14] (fun _ => True) (fun k_ => some k_ = (.slice Ao14 t734.length co14 : Value).ownBlock) rfl rfl ?aP (fun k_ hk_ => ((Kd.R_mono (ok' := fun k_ => ((fun _ => True)) k_ ∧ nb k_ u3) (Kd.R_apart' (HO736.out) (Kd.S_typed HO_3.out) (by decide)) (fun k_ hk => ⟨trivial, hk.2⟩))).1 k_ hk_.symm) ?aF ?aO ?aB ?aS ?aL ?_; (case aP => exact Kd.M_row (Kd.R_mono (Kd.R_tight rfl (Kd.R_mono (ok' := fun k_ => ((fun _ => True)) k_ ∧ nb k_ u3) (Kd.R_apart' (HO736.out) (Kd.S_typed HO_3.out) (by decide)) (fun k_ hk => ⟨trivial, hk.2⟩))) (fun _ h_ => h_))); (case aB => exact (hbC _)); (case aF => exact (fun _ _ => trivial)); (case aO => exact (by (with_reducible repeat (first | apply Kd.S_alloc | apply Kd.S_drewN | apply Kd.S_drew)); exact Kd.S_mono HO_3.out (fun k_ hk => ⟨trivial, fun e_ => hk.2 e_⟩))); (case aS => exact (below_size (hbC _))); (case aL => have := LMc10.out; omega); intro v738 w13 ho hb hg hat; rw [← Ny737.out] at ho; have n0_ := ak (hb); have n1_ := ak (ho); clear HB; clear HO_3; clear HO736; have HB := n0_; have HO739 := n1_; clear n0_ n1_; clear ho hb hg hat))
   go_roundg k1
   case measure => have := HK1.out; omega
   case rel => exact ⟨(y737), (wrap64 (x8_1 + 1)), (by first | rfl | (simp; done) | (simp [*]; done)), H', ⟨by have := HK1.out; omega⟩, ⟨by (with_reducible repeat (first | apply Kd.S_alloc | apply Kd.S_drewN | apply Kd.S_drew)); exact HO739.out⟩, ⟨hbC _⟩⟩

/-! ### congoulaw01_fracs: function 49 -/
/-! ### cmp_Compare_int: function 82 -/
/-! ### slices_IndexFunc_int_int_with102: function 123 -/
/-! ### shares_isFrac: function 109 -/
def shares_isFrac.f (k : Nat) (a0_0 : Int) (a0_1 : Int) : Option (Bool) := if a0_1 ≥ 1 then (if a0_0 ≥ 0 then (if a0_0 ≤ a0_1 then ((shares_gcd.f k a0_0 a0_1).bind fun t993 => (some (t993 == 1))) else (some false)) else (some false)) else (some false)
theorem shares_isFrac.mono : ∀ a0 a1 k, LeO (shares_isFrac.f k a0 a1) (shares_isFrac.f (k + 1) a0 a1) := by
 intro a0 a1 k
 unfold shares_isFrac.f
 repeat' first
   | (with_reducible exact shares_gcd.mono _ _ _)
   | (with_reducible exact LeO.refl _)
   | (with_reducible exact LeO.none _)
   | (with_reducible refine LeO.ite ?_ ?_)
   | (with_reducible refine LeO.bind ?_ (fun _ => ?_))
   | exact shares_gcd.mono _ _ _
   | exact LeO.none _
   | refine LeO.ite ?_ ?_
   | refine LeO.bind ?_ (fun _ => ?_)
set_option maxHeartbeats 8000000 in
set_option maxRecDepth 100000 in
theorem shares_isFrac.calls (k : Nat) (a0_0 : Int) (a0_1 : Int) (r : Bool) (w : World) (h : shares_isFrac.f k a0_0 a0_1 = some r) :
  Calls Try.prog 109 #[.agg #[.int .i64 a0_0, .int .i64 a0_1]] w fun e w' => e = .returned (.bool r) ∧ Below w.heap.size w w' := by
 have hu62 := Try.underlying62
 have HB := ak (Below.refl w.heap.size w)
 have H : (if a0_1 ≥ 1 then (if a0_0 ≥ 0 then (if a0_0 ≤ a0_1 then ((shares_gcd.f k a0_0 a0_1).bind fun t993 => (some (t993 == 1))) else (some false)) else (some false)) else (some false)) = some r := h
 clear h
 by_cases c2 : a0_1 ≥ 1
 rotate_left
 ·rw [if_neg c2] at H
  have c2b0 : decide (1 ≤ a0_1) = false := decide_eq_false c2
  clear c2
  obtain rfl := Option.some.inj H
  go_enter Try.func109, Try.ntmps109
  go_wp2_with (first | ((with_reducible refine gate_dst (N := 1) rfl ?_); refine bE 1 #[.int .i64 a0_0, .int .i64 a0_1] 62 ?_; intro gb992 hg w13 hbox hb; have BK992 := ak (hbox); have GW992 := kG w hg; have GE992 := kG w hg; replace HB := kH _ hb; clear hb hbox hg; have hcz14_0 : w13.cell? ⟨gb992, 0, none⟩ = some (.int .i64 a0_0) := bc BK992 0; have hcz14_1 : w13.cell? ⟨gb992, 1, none⟩ = some (.int .i64 a0_1) := bc BK992 1; have hfz14_0 := fz BK992 0; have hfz14_1 := fz BK992 1))
  go_ret
  exact ⟨by first | rfl | (simp [errW_none, errW_some] <;> rfl) | (simp [*, errW_none, errW_some] <;> rfl), hbC _⟩
 rw [if_pos c2] at H
 have c2b0 : decide (1 ≤ a0_1) = true := decide_eq_true c2
 clear c2
 by_cases c3 : a0_0 ≥ 0
 rotate_left
 ·rw [if_neg c3] at H
  have c3b0 : decide (0 ≤ a0_0) = false := decide_eq_false c3
  clear c3
  obtain rfl := Option.some.inj H
  go_enter Try.func109, Try.ntmps109
  go_wp2_with (first | ((with_reducible refine gate_dst (N := 1) rfl ?_); refine bE 1 #[.int .i64 a0_0, .int .i64 a0_1] 62 ?_; intro gb992 hg w11 hbox hb; have BK992 := ak (hbox); have GW992 := kG w hg; have GE992 := kG w hg; replace HB := kH _ hb; clear hb hbox hg; have hcz12_0 : w11.cell? ⟨gb992, 0, none⟩ = some (.int .i64 a0_0) := bc BK992 0; have hcz12_1 : w11.cell? ⟨gb992, 1, none⟩ = some (.int .i64 a0_1) := bc BK992 1; have hfz12_0 := fz BK992 0; have hfz12_1 := fz BK992 1))
  go_ret
  exact ⟨by first | rfl | (simp [errW_none, errW_some] <;> rfl) | (simp [*, errW_none, errW_some] <;> rfl), hbC _⟩
 rw [if_pos c3] at H
 have c3b0 : decide (0 ≤ a0_0) = true := decide_eq_true c3
 clear c3
 by_cases c4 : a0_0 ≤ a0_1
 rotate_left
 ·rw [if_neg c4] at H
  have c4b0 : decide (a0_0 ≤ a0_1) = false := decide_eq_false c4
  clear c4
  obtain rfl := Option.some.inj H
  go_enter Try.func109, Try.ntmps109
  go_wp2_with (first | ((with_reducible refine gate_dst (N := 1) rfl ?_); refine bE 1 #[.int .i64 a0_0, .int .i64 a0_1] 62 ?_; intro gb992 hg w9 hbox hb; have BK992 := ak (hbox); have GW992 := kG w hg; have GE992 := kG w hg; replace HB := kH _ hb; clear hb hbox hg; have hcz10_0 : w9.cell? ⟨gb992, 0, none⟩ = some (.int .i64 a0_0) := bc BK992 0; have hcz10_1 : w9.cell? ⟨gb992, 1, none⟩ = some (.int .i64 a0_1) := bc BK992 1; have hfz10_0 := fz BK992 0; have hfz10_1 := fz BK992 1))
  go_ret
  exact ⟨by first | rfl | (simp [errW_none, errW_some] <;> rfl) | (simp [*, errW_none, errW_some] <;> rfl), hbC _⟩
 rw [if_pos c4] at H
 have c4b0 : decide (a0_0 ≤ a0_1) = true := decide_eq_true c4
 clear c4
 replace H := Option.bind_eq_some_iff.mp H
 obtain ⟨t993, A50, H⟩ := H
 replace H : (some (t993 == 1)) = some r := H
 have A5 := Aside0.mk A50
 clear A50
 obtain rfl := Option.some.inj H
 go_enter Try.func109, Try.ntmps109
 go_wp2_with (first | ((with_reducible refine gate_dst (N := 1) rfl ?_); refine bE 1 #[.int .i64 a0_0, .int .i64 a0_1] 62 ?_; intro gb992 hg w6 hbox hb; have BK992 := ak (hbox); have GW992 := kG w hg; have GE992 := kG w hg; replace HB := kH _ hb; clear hb hbox hg; have hcz7_0 : w6.cell? ⟨gb992, 0, none⟩ = some (.int .i64 a0_0) := bc BK992 0; have hcz7_1 : w6.cell? ⟨gb992, 1, none⟩ = some (.int .i64 a0_1) := bc BK992 1; have hfz7_0 := fz BK992 0; have hfz7_1 := fz BK992 1) | (go_at_call 108; (with_reducible refine (shares_gcd.calls k a0_0 a0_1 t993 _ A5.out).mono ?_); rintro e w8 ⟨rfl, hb⟩; replace BK992 := kB BK992 hb; replace HB := kH _ hb; (try clear hb); (try clear hb2); (try clear hk); (try clear hi)))
 go_ret
 exact ⟨by first | rfl | (simp [errW_none, errW_some] <;> rfl) | (simp [*, errW_none, errW_some] <;> rfl), hbC _⟩

/-! ### shares_frac: function 85 -/
def shares_frac.f (k : Nat) (a0 : Int) (a1 : Int) : Option (Int × Int) := (shares_gcd.f k a0 a1).bind fun t1001 => (if t1001 = 0 then (none) else (some (wrap64 (Int.tdiv a0 t1001), wrap64 (Int.tdiv a1 t1001))))
theorem shares_frac.mono : ∀ a0 a1 k, LeO (shares_frac.f k a0 a1) (shares_frac.f (k + 1) a0 a1) := by
 intro a0 a1 k
 unfold shares_frac.f
 repeat' first
   | (with_reducible exact shares_gcd.mono _ _ _)
   | (with_reducible exact LeO.refl _)
   | (with_reducible exact LeO.none _)
   | (with_reducible refine LeO.ite ?_ ?_)
   | (with_reducible refine LeO.bind ?_ (fun _ => ?_))
   | exact shares_gcd.mono _ _ _
   | exact LeO.none _
   | refine LeO.ite ?_ ?_
   | refine LeO.bind ?_ (fun _ => ?_)
def shares_frac.T2 : Bool × List (List Nat × List Nat) := (true, [([], []), ([], []), ([0, 1], [0, 1]), ([], []), ([], []), ([3, 4], [3, 4]), ([2, 5], [2, 5]), ([6, 0, 1, 2, 3, 4, 5, 6], [6])])
def shares_frac.B2 : List Nat := [0, 0, 3, 0, 0, 24, 63, 127]
theorem shares_frac.tab2 : rtab .any (opsOf Try.f85 2) = shares_frac.T2 := by kernel_rfl
theorem shares_frac.bits2 : waitsOk shares_frac.T2.2 shares_frac.B2 = true := by kernel_rfl
set_option maxHeartbeats 8000000 in
set_option maxRecDepth 100000 in
theorem shares_frac.calls (k : Nat) (a0 : Int) (a1 : Int) (r1 : Int) (r2 : Int) (w : World) (h : shares_frac.f k a0 a1 = some (r1, r2)) :
  Calls Try.prog 85 #[.int .i64 a0, .int .i64 a1] w fun e w' => e = .returned (.agg #[.int .i64 r1, .int .i64 r2]) ∧ Below w.heap.size w w' := by
 have hu62 := Try.underlying62
 have HB := ak (Below.refl w.heap.size w)
 have H : ((shares_gcd.f k a0 a1).bind fun t1001 => (if t1001 = 0 then (none) else (some (wrap64 (Int.tdiv a0 t1001), wrap64 (Int.tdiv a1 t1001))))) = some (r1, r2) := h
 clear h
 replace H := Option.bind_eq_some_iff.mp H
 obtain ⟨t1001, A30, H⟩ := H
 replace H : (if t1001 = 0 then (none) else (some (wrap64 (Int.tdiv a0 t1001), wrap64 (Int.tdiv a1 t1001)))) = some (r1, r2) := H
 have A3 := Aside0.mk A30
 clear A30
 by_cases c4 : t1001 = 0
 ·rw [if_pos c4] at H
  exact absurd H (by simp)
 rw [if_neg c4] at H
 have c4b0 : (t1001 == 0) = false := beq_eq_false_iff_ne.mpr c4
 have c4b1 : (t1001 != 0) = true := bne_iff_ne.mpr c4
 simp only [Option.some.injEq, Prod.mk.injEq] at H
 obtain ⟨rfl, rfl⟩ := H
 go_enter Try.func85, Try.ntmps85
 try go_wp2_with (first | ((with_reducible refine gate_dst (N := 4) rfl ?_); refine bE 4 #[.int .i64 0, .int .i64 0] 62 ?_; intro gb1000 hg w5 hbox hb; have BK1000 := ak (hbox); have GW1000 := kG w hg; have GE1000 := kG w hg; replace HB := kH _ hb; clear hb hbox hg) | ((with_reducible refine gate_callee (f := 108) rfl ?_); refine gL 8 Try.func108 #[.int .i64 a0, .int .i64 a1] ?_; (with_reducible refine (shares_gcd.calls k a0 a1 t1001 _ A3.out).mono ?_); rintro e w6 ⟨rfl, hb⟩; refine ⟨_, rfl, ?_⟩; replace BK1000 := kB BK1000 hb; replace HB := kH _ hb; (try clear hb); (try clear hb2); (try clear hk); (try clear hi)))
 replace BK1000 := kd BK1000
 replace HB := ak (below_drew1 HB.out)
 refine sS (n := 8) (S := fun w' => True) (ds := []) trivial (fun hHeld => ?_); refine with_tabW shares_frac.tab2 shares_frac.bits2 (fun HT_ HW_ => ?_)
 generalize w6.drew = w7 at BK1000 HB hHeld ⊢
 refine pS 0 9 8 1 ?_
 refine pS 1 10 8 3 ?_
 refine pS 2 11 8 7 ?_
 refine pS 3 12 8 15 ?_
 refine pS 4 13 8 31 ?_
 refine pS 5 14 8 63 ?_
 refine pS 6 15 8 127 ?_
 refine one_ (i := 7) (N := none) (ba 8 255) rfl rfl (one_of HT_.out (by kernel_rfl)) (by decide) (fun K hK => ?_)
 have hs8 : w7.cell? ⟨gb1000, 0, none⟩ = some (.int .i64 0) := bc BK1000 0
 have hfs8 := fz BK1000 0
 have hs9 : w7.cell? ⟨gb1000, 1, none⟩ = some (.int .i64 0) := bc BK1000 1
 have hfs9 := fz BK1000 1
 refine skip_ (w1 := ?_) (by rfl) rfl ?_ ?_
 rotate_left
 ·go_simp
  rfl
 refine hK.out _ _ trivial (fun hHeld => ?_)
 clear hK K
 refine done_ (done_of HT_.out (by kernel_rfl)) ?_
 try go_wp2
 refine bodyPost_ret (results_cell_row rfl _ _ gb1000 62 #[.int .i64 (wrap64 (Int.tdiv a0 t1001)), .int .i64 (wrap64 (Int.tdiv a1 t1001))] (0, 0) _ rfl (by (with_reducible repeat (first | refine blk_drewN ?_ _ | refine blk_drew ?_ | refine blk_alloc ?_ _)); refine blk_put (cs := #[.int .i64 (wrap64 (Int.tdiv a0 t1001)), .int .i64 0]) ?_ 1 _ rfl; (with_reducible repeat (first | refine blk_drewN ?_ _ | refine blk_drew ?_ | refine blk_alloc ?_ _)); refine blk_put (cs := #[.int .i64 0, .int .i64 0]) ?_ 0 _ rfl; (with_reducible repeat (first | refine blk_drewN ?_ _ | refine blk_drew ?_ | refine blk_alloc ?_ _)); exact BK1000.out) Try.underlying62 rfl (by kernel_rfl)) rfl ?_
 exact ⟨by first | rfl | (simp [errW_none, errW_some] <;> rfl) | (simp [*, errW_none, errW_some] <;> rfl), hbC _⟩

end Go.Proofs.Ytefmafbbnkkpjaa.X
