-- Written by a program of this work (wip/xprint.py, over the kit's printer) out of the translation.
import Derived.Test.YtkieehjpnjplmaaDoorX0
import Derived.Test.YtkieehjpnjplmaaDoorXG1a
import Derived.Test.YtkieehjpnjplmaaDoorXG2a
namespace Go.Proofs.YtkieehjpnjplmaaDoor.X
open Go.RowKit Go.Proofs.YtkieehjpnjplmaaDoorW.PrintWords Go.Proofs.YtkieehjpnjplmaaDoorW.PrintLast Go.Proofs.YtkieehjpnjplmaaDoorW.PrintMore
attribute [local go_sem] max2_int min2_int max_two min_two max_three min_three max_four min_four   -- for this text's walks alone
set_option linter.unusedVariables false
set_option linter.unusedSimpArgs false

/-! ### shares_isParts: function 23 -/
mutual
def shares_isParts.l0 : Nat → Int → List (List Int) → Int → Int → Option (Bool)
 | 0, _, _, _, _ => none
 | k + 1, x3, x7, x8, x9 => if x9 < x8 then (if 0 ≤ x9 then (if x9 < (x7.length : Int) then (if ((rd_L1 x7 x9).length : Int) < 1 then (shares_isParts.j1 k x3 (rd_L1 x7 x9) x7 x8 x9 true) else (if ((rd_L1 x7 x9).length : Int) > 12 then (shares_isParts.j1 k x3 (rd_L1 x7 x9) x7 x8 x9 true) else ((slices_Min_int_int.f k (rd_L1 x7 x9)).bind fun t192 => (if t192 < 1 then (shares_isParts.j1 k x3 (rd_L1 x7 x9) x7 x8 x9 true) else ((slices_Max_int_int.f k (rd_L1 x7 x9)).bind fun t193 => (if t193 > 12 then (shares_isParts.j1 k x3 (rd_L1 x7 x9) x7 x8 x9 true) else ((slices_IsSortedFunc_int_int_with43.f k (rd_L1 x7 x9)).bind fun t194 => (shares_isParts.j1 k x3 (rd_L1 x7 x9) x7 x8 x9 (!t194))))))))) else (none)) else (none)) else (some true)
def shares_isParts.j1 : Nat → Int → List Int → List (List Int) → Int → Int → Bool → Option (Bool)
 | 0, _, _, _, _, _, _ => none
 | k + 1, x3, x5, x7, x8, x9, x35 => if x35 = true then (some false) else ((shares_sums.f k x5).bind fun t195 => (if 0 ≤ (wrap64 ((x5.length : Int) - 1)) then (if (wrap64 ((x5.length : Int) - 1)) < (t195.length : Int) then (if (rd t195 (wrap64 ((x5.length : Int) - 1))) > 12 then (some false) else (if x3 ≥ 0 then (if (rd t195 (wrap64 ((x5.length : Int) - 1))) = x3 then (shares_isParts.l0 k (rd t195 (wrap64 ((x5.length : Int) - 1))) x7 x8 (wrap64 (x9 + 1))) else (some false)) else (shares_isParts.l0 k (rd t195 (wrap64 ((x5.length : Int) - 1))) x7 x8 (wrap64 (x9 + 1))))) else (none)) else (none)))
end
def shares_isParts.f (k : Nat) (l0 : List (List Int)) : Option (Bool) := shares_isParts.l0 k (-1) l0 (l0.length : Int) 0
theorem shares_isParts.mono_l : ∀ k, (∀ y0 y1 y2 y3, LeO (shares_isParts.l0 k y0 y1 y2 y3) (shares_isParts.l0 (k + 1) y0 y1 y2 y3)) ∧ (∀ y0 y1 y2 y3 y4 y5, LeO (shares_isParts.j1 k y0 y1 y2 y3 y4 y5) (shares_isParts.j1 (k + 1) y0 y1 y2 y3 y4 y5))
 | 0 => ⟨fun _ _ _ _ r h => by simp [shares_isParts.l0] at h, fun _ _ _ _ _ _ r h => by simp [shares_isParts.j1] at h⟩
 | k + 1 => by
  obtain ⟨ih0, ih1⟩ := shares_isParts.mono_l k
  refine ⟨?_, ?_⟩
  ·intro y0 y1 y2 y3
   unfold shares_isParts.l0
   repeat' first
   | (with_reducible exact ih0 _ _ _ _)
   | (with_reducible exact ih1 _ _ _ _ _ _)
   | (with_reducible exact shares_sums.mono _ _)
   | (with_reducible exact slices_IsSortedFunc_int_int_with43.mono _ _)
   | (with_reducible exact slices_Max_int_int.mono _ _)
   | (with_reducible exact slices_Min_int_int.mono _ _)
   | (with_reducible exact LeO.refl _)
   | (with_reducible exact LeO.none _)
   | (with_reducible refine LeO.ite ?_ ?_)
   | (with_reducible refine LeO.bind ?_ (fun _ => ?_))
   | exact ih0 _ _ _ _
   | exact ih1 _ _ _ _ _ _
   | exact shares_sums.mono _ _
   | exact slices_IsSortedFunc_int_int_with43.mono _ _
   | exact slices_Max_int_int.mono _ _
   | exact slices_Min_int_int.mono _ _
   | exact LeO.none _
   | refine LeO.ite ?_ ?_
   | refine LeO.bind ?_ (fun _ => ?_)
  ·intro y0 y1 y2 y3 y4 y5
   unfold shares_isParts.j1
   repeat' first
   | (with_reducible exact ih0 _ _ _ _)
   | (with_reducible exact ih1 _ _ _ _ _ _)
   | (with_reducible exact shares_sums.mono _ _)
   | (with_reducible exact slices_IsSortedFunc_int_int_with43.mono _ _)
   | (with_reducible exact slices_Max_int_int.mono _ _)
   | (with_reducible exact slices_Min_int_int.mono _ _)
   | (with_reducible exact LeO.refl _)
   | (with_reducible exact LeO.none _)
   | (with_reducible refine LeO.ite ?_ ?_)
   | (with_reducible refine LeO.bind ?_ (fun _ => ?_))
   | exact ih0 _ _ _ _
   | exact ih1 _ _ _ _ _ _
   | exact shares_sums.mono _ _
   | exact slices_IsSortedFunc_int_int_with43.mono _ _
   | exact slices_Max_int_int.mono _ _
   | exact slices_Min_int_int.mono _ _
   | exact LeO.none _
   | refine LeO.ite ?_ ?_
   | refine LeO.bind ?_ (fun _ => ?_)
theorem shares_isParts.mono : ∀ a0 k, LeO (shares_isParts.f k a0) (shares_isParts.f (k + 1) a0) := by
 intro a0 k
 obtain ⟨ih0, ih1⟩ := shares_isParts.mono_l k
 unfold shares_isParts.f
 repeat' first
   | (with_reducible exact ih0 _ _ _ _)
   | (with_reducible exact ih1 _ _ _ _ _ _)
   | (with_reducible exact shares_sums.mono _ _)
   | (with_reducible exact slices_IsSortedFunc_int_int_with43.mono _ _)
   | (with_reducible exact slices_Max_int_int.mono _ _)
   | (with_reducible exact slices_Min_int_int.mono _ _)
   | (with_reducible exact LeO.refl _)
   | (with_reducible exact LeO.none _)
   | (with_reducible refine LeO.ite ?_ ?_)
   | (with_reducible refine LeO.bind ?_ (fun _ => ?_))
   | exact ih0 _ _ _ _
   | exact ih1 _ _ _ _ _ _
   | exact shares_sums.mono _ _
   | exact slices_IsSortedFunc_int_int_with43.mono _ _
   | exact slices_Max_int_int.mono _ _
   | exact slices_Min_int_int.mono _ _
   | exact LeO.none _
   | refine LeO.ite ?_ ?_
   | refine LeO.bind ?_ (fun _ => ?_)
set_option maxHeartbeats 8000000 in
set_option maxRecDepth 100000 in
theorem shares_isParts.calls (k : Nat) (A0 : Option Addr) (c0 : Nat) (l0 : List (List Int)) (r : Bool) (w : World) (hr0 : Kd.C (Kd.slice 3 (Kd.int .i64)) w A0 l0.length l0) (hc0 : l0.length ≤ c0) (h : shares_isParts.f k l0 = some r) :
  Calls Tryd.prog 23 #[.slice A0 l0.length c0] w fun e w' => e = .returned (.bool r) ∧ Below w.heap.size w w' := by
 have HR0 := Aside0.mk hr0
 have HC0 := Aside0.mk hc0
 clear hr0 hc0
 have HB := ak (Below.refl w.heap.size w)
 have H : (shares_isParts.l0 k (-1) l0 (l0.length : Int) 0) = some r := h
 clear h
 have H' := Aside0.mk H
 clear H
 go_enter Tryd.func23, Tryd.ntmps23
 go_wp2
 go_loopg [3, 9] k (fun kq v3 v9 w' => ∃ (x3_1 : Int) (x9_1 : Int), v3 = .int .i64 x3_1 ∧ v9 = .int .i64 x9_1 ∧ Aside0 (shares_isParts.l0 kq x3_1 l0 (l0.length : Int) x9_1 = some r) ∧ Aside0 (kq ≤ k) ∧ Aside0 (Below w.heap.size w w'))
 case atStart => exact ⟨((-1)), (0), (by first | rfl | (simp; done) | (simp [*]; done)), (by first | rfl | (simp; done) | (simp [*]; done)), H', ⟨Nat.le_refl _⟩, ⟨hbC _⟩⟩
 case round =>
  clear H'
  obtain ⟨x3_1, x9_1, rfl, rfl, HA, HK1, HB⟩ := hrel
  cases gk with
  | zero => exact absurd HA.out (by simp [shares_isParts.l0])
  | succ k1 =>
   have H := HA.out
   clear HA
   simp only [shares_isParts.l0] at H
   by_cases c2 : x9_1 < (l0.length : Int)
   rotate_left
   ·rw [if_neg c2] at H
    have c2b0 : decide (x9_1 < (l0.length : Int)) = false := decide_eq_false c2
    clear c2
    obtain rfl := Option.some.inj H
    go_wp2
    go_ret
    exact ⟨by first | rfl | (simp [errW_none, errW_some] <;> rfl) | (simp [*, errW_none, errW_some] <;> rfl), hbC _⟩
   rw [if_pos c2] at H
   have c2b0 : decide (x9_1 < (l0.length : Int)) = true := decide_eq_true c2
   clear c2
   by_cases c3 : 0 ≤ x9_1
   rotate_left
   ·rw [if_neg c3] at H
    exact absurd H (by simp)
   rw [if_pos c3] at H
   have c3b0 : decide (0 ≤ x9_1) = true := decide_eq_true c3
   clear c3
   by_cases c4 : x9_1 < (l0.length : Int)
   rotate_left
   ·rw [if_neg c4] at H
    exact absurd H (by simp)
   rw [if_pos c4] at H
   have c4b0 : decide (x9_1 < (l0.length : Int)) = true := decide_eq_true c4
   clear c4
   have HC5 := Aside0.mk H
   clear H
   have p191 : 0 ≤ (x9_1 : Int) := dA
   have q191 : x9_1 < (l0.length : Int) := dA
   obtain ⟨ad191, A191_0, c191_0, e191, hx191_0, hl191_0, hi191_0⟩ := at_L1 HR0.out x9_1 p191 q191
   cases e191
   try replace hx191_0 := (HB.out.cell (World.block_lt_of_cell? w _ hx191_0)).trans hx191_0
   have HR191_0 := Aside0.mk hi191_0
   have HC191_0 := Aside0.mk hl191_0
   clear hi191_0 hl191_0
   replace p191 := eq_true p191
   replace q191 := eq_true q191
   go_upto_region 5 with (fail)
   go_cut [35] (fun v35 wc => ∃ (kq : Nat) (x35_4 : Bool), v35 = .bool x35_4 ∧ Aside0 (shares_isParts.j1 kq x3_1 (rd_L1 l0 x9_1) l0 (l0.length : Int) x9_1 x35_4 = some r) ∧ Aside0 (kq ≤ k1) ∧ Aside0 (Below w.heap.size w wc))
   case first =>
    have H := HC5.out
    clear HC5
    by_cases c6 : ((rd_L1 l0 x9_1).length : Int) < 1
    ·rw [if_pos c6] at H
     have c6b0 : decide (((rd_L1 l0 x9_1).length : Int) < 1) = true := decide_eq_true c6
     have c6b1 : decide ((rd_L1 l0 x9_1).length < 1) = true := decide_eq_true (by omega)
     clear c6
     (first | rw [c6b0] | (simp only [i64_w, i32_w]; rw [c6b0]) | skip)
     have H' := Aside0.mk H
     clear H
     go_wp2
     go_meet
     case rel => exact ⟨_, (true), (by first | rfl | (simp; done) | (simp [*]; done)), H', ⟨by have := HK1.out; first | omega | exact Nat.le_refl _⟩, ⟨hbC _⟩⟩
    rw [if_neg c6] at H
    have c6b0 : decide (((rd_L1 l0 x9_1).length : Int) < 1) = false := decide_eq_false c6
    have c6b1 : decide ((rd_L1 l0 x9_1).length < 1) = false := decide_eq_false (by omega)
    clear c6
    (first | rw [c6b0] | (simp only [i64_w, i32_w]; rw [c6b0]) | skip)
    by_cases c7 : ((rd_L1 l0 x9_1).length : Int) > 12
    ·rw [if_pos c7] at H
     have c7b0 : decide (12 < ((rd_L1 l0 x9_1).length : Int)) = true := decide_eq_true c7
     have c7b1 : decide (12 < (rd_L1 l0 x9_1).length) = true := decide_eq_true (by omega)
     clear c7
     have H' := Aside0.mk H
     clear H
     go_wp2
     go_meet
     case rel => exact ⟨_, (true), (by first | rfl | (simp; done) | (simp [*]; done)), H', ⟨by have := HK1.out; first | omega | exact Nat.le_refl _⟩, ⟨hbC _⟩⟩
    rw [if_neg c7] at H
    have c7b0 : decide (12 < ((rd_L1 l0 x9_1).length : Int)) = false := decide_eq_false c7
    have c7b1 : decide (12 < (rd_L1 l0 x9_1).length) = false := decide_eq_false (by omega)
    clear c7
    replace H := Option.bind_eq_some_iff.mp H
    obtain ⟨t192, A80, H⟩ := H
    replace H : (if t192 < 1 then (shares_isParts.j1 k1 x3_1 (rd_L1 l0 x9_1) l0 (l0.length : Int) x9_1 true) else ((slices_Max_int_int.f k1 (rd_L1 l0 x9_1)).bind fun t193 => (if t193 > 12 then (shares_isParts.j1 k1 x3_1 (rd_L1 l0 x9_1) l0 (l0.length : Int) x9_1 true) else ((slices_IsSortedFunc_int_int_with43.f k1 (rd_L1 l0 x9_1)).bind fun t194 => (shares_isParts.j1 k1 x3_1 (rd_L1 l0 x9_1) l0 (l0.length : Int) x9_1 (!t194)))))) = some r := H
    have A8 := Aside0.mk A80
    clear A80
    by_cases c9 : t192 < 1
    ·rw [if_pos c9] at H
     have c9b0 : decide (t192 < 1) = true := decide_eq_true c9
     clear c9
     have H' := Aside0.mk H
     clear H
     go_wp2_with (first | (go_at_call 40; (with_reducible refine (slices_Min_int_int.calls k1 _ _ (rd_L1 l0 x9_1) t192 _ ?side1 ?side2 A8.out).mono ?_); (case side1 => exact kC HR191_0); (case side2 => exact HC191_0.out); rintro e w10 ⟨rfl, hb⟩; replace HB := kH _ hb; (try clear hb); (try clear hb2); (try clear hk); (try clear hi)))
     go_meet
     case rel => exact ⟨_, (true), (by first | rfl | (simp; done) | (simp [*]; done)), H', ⟨by have := HK1.out; first | omega | exact Nat.le_refl _⟩, ⟨hbC _⟩⟩
    rw [if_neg c9] at H
    have c9b0 : decide (t192 < 1) = false := decide_eq_false c9
    clear c9
    replace H := Option.bind_eq_some_iff.mp H
    obtain ⟨t193, A110, H⟩ := H
    replace H : (if t193 > 12 then (shares_isParts.j1 k1 x3_1 (rd_L1 l0 x9_1) l0 (l0.length : Int) x9_1 true) else ((slices_IsSortedFunc_int_int_with43.f k1 (rd_L1 l0 x9_1)).bind fun t194 => (shares_isParts.j1 k1 x3_1 (rd_L1 l0 x9_1) l0 (l0.length : Int) x9_1 (!t194)))) = some r := H
    have A11 := Aside0.mk A110
    clear A110
    by_cases c12 : t193 > 12
    ·rw [if_pos c12] at H
     have c12b0 : decide (12 < t193) = true := decide_eq_true c12
     clear c12
     have H' := Aside0.mk H
     clear H
     go_wp2_with (first | (go_at_call 40; (with_reducible refine (slices_Min_int_int.calls k1 _ _ (rd_L1 l0 x9_1) t192 _ ?side1 ?side2 A8.out).mono ?_); (case side1 => exact kC HR191_0); (case side2 => exact HC191_0.out); rintro e w13 ⟨rfl, hb⟩; replace HB := kH _ hb; (try clear hb); (try clear hb2); (try clear hk); (try clear hi)) | (go_at_call 41; (with_reducible refine (slices_Max_int_int.calls k1 _ _ (rd_L1 l0 x9_1) t193 _ ?side1 ?side2 A11.out).mono ?_); (case side1 => exact kC HR191_0); (case side2 => exact HC191_0.out); rintro e w14 ⟨rfl, hb⟩; replace HB := kH _ hb; (try clear hb); (try clear hb2); (try clear hk); (try clear hi)))
     go_meet
     case rel => exact ⟨_, (true), (by first | rfl | (simp; done) | (simp [*]; done)), H', ⟨by have := HK1.out; first | omega | exact Nat.le_refl _⟩, ⟨hbC _⟩⟩
    rw [if_neg c12] at H
    have c12b0 : decide (12 < t193) = false := decide_eq_false c12
    clear c12
    replace H := Option.bind_eq_some_iff.mp H
    obtain ⟨t194, A150, H⟩ := H
    replace H : (shares_isParts.j1 k1 x3_1 (rd_L1 l0 x9_1) l0 (l0.length : Int) x9_1 (!t194)) = some r := H
    have A15 := Aside0.mk A150
    clear A150
    have H' := Aside0.mk H
    clear H
    go_wp2_with (first | (go_at_call 40; (with_reducible refine (slices_Min_int_int.calls k1 _ _ (rd_L1 l0 x9_1) t192 _ ?side1 ?side2 A8.out).mono ?_); (case side1 => exact kC HR191_0); (case side2 => exact HC191_0.out); rintro e w16 ⟨rfl, hb⟩; replace HB := kH _ hb; (try clear hb); (try clear hb2); (try clear hk); (try clear hi)) | (go_at_call 41; (with_reducible refine (slices_Max_int_int.calls k1 _ _ (rd_L1 l0 x9_1) t193 _ ?side1 ?side2 A11.out).mono ?_); (case side1 => exact kC HR191_0); (case side2 => exact HC191_0.out); rintro e w17 ⟨rfl, hb⟩; replace HB := kH _ hb; (try clear hb); (try clear hb2); (try clear hk); (try clear hi)) | (go_at_call 42; (with_reducible refine (slices_IsSortedFunc_int_int_with43.calls k1 _ _ (rd_L1 l0 x9_1) t194 _ ?side1 ?side2 A15.out).mono ?_); (case side1 => exact kC HR191_0); (case side2 => exact HC191_0.out); rintro e w' ⟨rfl, ⟨nd, rfl⟩⟩))
    go_meet
    case rel => exact ⟨_, (!t194), (by first | rfl | (simp; done) | (simp [*]; done)), H', ⟨by have := HK1.out; first | omega | exact Nat.le_refl _⟩, ⟨hbC _⟩⟩
   case rest =>
    clear HC5
    try clear c1
    try clear p1
    try clear q1
    try clear hx1
    try clear c2
    try clear c2b0
    try clear p2
    try clear c3
    try clear c3b0
    try clear c4
    try clear c4b0
    try clear c6
    try clear c6b0
    try clear c6b1
    try clear c7
    try clear c7b0
    try clear c7b1
    try clear c9
    try clear c9b0
    try clear c12
    try clear c12b0
    try clear hx191_0
    try clear p191
    try clear q191
    obtain ⟨kq, x35_4, rfl, HA, HJ4, HB⟩ := hcut
    cases kq with
    | zero => exact absurd HA.out (by simp [shares_isParts.j1])
    | succ kj4 =>
     have H := HA.out
     clear HA
     simp only [shares_isParts.j1] at H
     by_cases c18 : x35_4 = true
     ·subst c18
      have H1 : (some false) = some r := by rw [if_pos rfl] at H; exact H
      clear H
      have H := H1
      clear H1
      obtain rfl := Option.some.inj H
      go_wp2
      go_ret
      exact ⟨by first | rfl | (simp [errW_none, errW_some] <;> rfl) | (simp [*, errW_none, errW_some] <;> rfl), hbC _⟩
     replace c18 := Bool.eq_false_iff.mpr c18
     subst c18
     have H1 : ((shares_sums.f kj4 (rd_L1 l0 x9_1)).bind fun t195 => (if 0 ≤ (wrap64 (((rd_L1 l0 x9_1).length : Int) - 1)) then (if (wrap64 (((rd_L1 l0 x9_1).length : Int) - 1)) < (t195.length : Int) then (if (rd t195 (wrap64 (((rd_L1 l0 x9_1).length : Int) - 1))) > 12 then (some false) else (if x3_1 ≥ 0 then (if (rd t195 (wrap64 (((rd_L1 l0 x9_1).length : Int) - 1))) = x3_1 then (shares_isParts.l0 kj4 (rd t195 (wrap64 (((rd_L1 l0 x9_1).length : Int) - 1))) l0 (l0.length : Int) (wrap64 (x9_1 + 1))) else (some false)) else (shares_isParts.l0 kj4 (rd t195 (wrap64 (((rd_L1 l0 x9_1).length : Int) - 1))) l0 (l0.length : Int) (wrap64 (x9_1 + 1))))) else (none)) else (none))) = some r := by rw [if_neg (show ¬ (false = true) by decide)] at H; exact H
     clear H
     have H := H1
     clear H1
     replace H := Option.bind_eq_some_iff.mp H
     obtain ⟨t195, A190, H⟩ := H
     replace H : (if 0 ≤ (wrap64 (((rd_L1 l0 x9_1).length : Int) - 1)) then (if (wrap64 (((rd_L1 l0 x9_1).length : Int) - 1)) < (t195.length : Int) then (if (rd t195 (wrap64 (((rd_L1 l0 x9_1).length : Int) - 1))) > 12 then (some false) else (if x3_1 ≥ 0 then (if (rd t195 (wrap64 (((rd_L1 l0 x9_1).length : Int) - 1))) = x3_1 then (shares_isParts.l0 kj4 (rd t195 (wrap64 (((rd_L1 l0 x9_1).length : Int) - 1))) l0 (l0.length : Int) (wrap64 (x9_1 + 1))) else (some false)) else (shares_isParts.l0 kj4 (rd t195 (wrap64 (((rd_L1 l0 x9_1).length : Int) - 1))) l0 (l0.length : Int) (wrap64 (x9_1 + 1))))) else (none)) else (none)) = some r := H
     have A19 := Aside0.mk A190
     clear A190
     obtain ⟨ji20, hji20⟩ : ∃ j_ : Int, (wrap64 (((rd_L1 l0 x9_1).length : Int) - 1)) = j_ := ⟨_, rfl⟩
     replace H : (if 0 ≤ (ji20) then (if (ji20) < (t195.length : Int) then (if (rd t195 (ji20)) > 12 then (some false) else (if x3_1 ≥ 0 then (if (rd t195 (ji20)) = x3_1 then (shares_isParts.l0 kj4 (rd t195 (ji20)) l0 (l0.length : Int) (wrap64 (x9_1 + 1))) else (some false)) else (shares_isParts.l0 kj4 (rd t195 (ji20)) l0 (l0.length : Int) (wrap64 (x9_1 + 1))))) else (none)) else (none)) = some r := by first | (rw [hji20] at H; exact H) | (simp only [hji20] at H ⊢; exact H)
     (try rw [hji20] at A19)
     have hji20w : (IntKind.i64.wrap (((rd_L1 l0 x9_1).length : Int) - 1)) = ji20 := (i64_w _).trans hji20
     by_cases c21 : 0 ≤ (ji20)
     rotate_left
     ·rw [if_neg c21] at H
      exact absurd H (by simp)
     rw [if_pos c21] at H
     have c21b0 : decide (0 ≤ (ji20)) = true := decide_eq_true c21
     clear c21
     by_cases c22 : (ji20) < (t195.length : Int)
     rotate_left
     ·rw [if_neg c22] at H
      exact absurd H (by simp)
     rw [if_pos c22] at H
     have c22b0 : decide ((ji20) < (t195.length : Int)) = true := decide_eq_true c22
     clear c22
     by_cases c23 : (rd t195 (ji20)) > 12
     ·rw [if_pos c23] at H
      have c23b0 : decide (12 < (rd t195 (ji20))) = true := decide_eq_true c23
      clear c23
      obtain rfl := Option.some.inj H
      go_wp2_with (first | ((with_reducible refine gate_callee (f := 44) rfl ?_); refine gL 37 Tryd.func44 #[.slice A191_0 (rd_L1 l0 x9_1).length c191_0] ?_; (with_reducible refine (shares_sums.calls kj4 _ _ (rd_L1 l0 x9_1) t195 _ ?side1 ?side2 A19.out).mono ?_); (case side1 => exact kC HR191_0); (case side2 => exact HC191_0.out); rintro e w24 ⟨v196, rfl, ho0, hb⟩; refine ⟨_, rfl, ?_⟩; have HO197 := ak (Kd.R_lower ho0 (below_size (hbC _))); replace HB := kH _ hb; (try clear hb); (try clear hb2); (try clear hk); (try clear hi); (try clear ho0); obtain ⟨Ao25, co25, eo25⟩ := Kd.R_slice HO197.out; subst eo25; have p198 : 0 ≤ ((ji20) : Int) := dA; have q198 : (ji20) < (t195.length : Int) := dA; obtain ⟨ad198, e198, hx198_0⟩ := Kd.at_int (Kd.R_reads' HO197.out).2.2 (ji20) p198 q198; cases e198; replace p198 := eq_true p198; replace q198 := eq_true q198))
      go_ret
      exact ⟨by first | rfl | (simp [errW_none, errW_some] <;> rfl) | (simp only [← hji20]; first | rfl | (simp [errW_none, errW_some] <;> rfl)) | (simp [*, errW_none, errW_some] <;> rfl), hbC _⟩
     rw [if_neg c23] at H
     have c23b0 : decide (12 < (rd t195 (ji20))) = false := decide_eq_false c23
     clear c23
     by_cases c26 : x3_1 ≥ 0
     rotate_left
     ·rw [if_neg c26] at H
      have c26b0 : decide (0 ≤ x3_1) = false := decide_eq_false c26
      clear c26
      have H' := Aside0.mk H
      clear H
      go_wp2_with (first | ((with_reducible refine gate_callee (f := 44) rfl ?_); refine gL 37 Tryd.func44 #[.slice A191_0 (rd_L1 l0 x9_1).length c191_0] ?_; (with_reducible refine (shares_sums.calls kj4 _ _ (rd_L1 l0 x9_1) t195 _ ?side1 ?side2 A19.out).mono ?_); (case side1 => exact kC HR191_0); (case side2 => exact HC191_0.out); rintro e w32 ⟨v196, rfl, ho0, hb⟩; refine ⟨_, rfl, ?_⟩; have HO197 := ak (Kd.R_lower ho0 (below_size (hbC _))); replace HB := kH _ hb; (try clear hb); (try clear hb2); (try clear hk); (try clear hi); (try clear ho0); obtain ⟨Ao33, co33, eo33⟩ := Kd.R_slice HO197.out; subst eo33; have p198 : 0 ≤ ((ji20) : Int) := dA; have q198 : (ji20) < (t195.length : Int) := dA; obtain ⟨ad198, e198, hx198_0⟩ := Kd.at_int (Kd.R_reads' HO197.out).2.2 (ji20) p198 q198; cases e198; replace p198 := eq_true p198; replace q198 := eq_true q198))
      go_roundg kj4
      case measure => have := HK1.out; have := HJ4.out; omega
      case rel => exact ⟨(rd t195 (ji20)), (wrap64 (x9_1 + 1)), (by first | rfl | (simp; done) | (simp only [← hji20] <;> (first | rfl | simp)) | (simp [*]; done)), (by first | rfl | (simp; done) | (simp [*]; done)), H', ⟨by have := HK1.out; have := HJ4.out; omega⟩, ⟨hbC _⟩⟩
     rw [if_pos c26] at H
     have c26b0 : decide (0 ≤ x3_1) = true := decide_eq_true c26
     clear c26
     by_cases c27 : (rd t195 (ji20)) = x3_1
     rotate_left
     ·rw [if_neg c27] at H
      have c27b0 : ((rd t195 (ji20)) == x3_1) = false := beq_eq_false_iff_ne.mpr c27
      have c27b1 : ((rd t195 (ji20)) != x3_1) = true := bne_iff_ne.mpr c27
      obtain rfl := Option.some.inj H
      go_wp2_with (first | ((with_reducible refine gate_callee (f := 44) rfl ?_); refine gL 37 Tryd.func44 #[.slice A191_0 (rd_L1 l0 x9_1).length c191_0] ?_; (with_reducible refine (shares_sums.calls kj4 _ _ (rd_L1 l0 x9_1) t195 _ ?side1 ?side2 A19.out).mono ?_); (case side1 => exact kC HR191_0); (case side2 => exact HC191_0.out); rintro e w30 ⟨v196, rfl, ho0, hb⟩; refine ⟨_, rfl, ?_⟩; have HO197 := ak (Kd.R_lower ho0 (below_size (hbC _))); replace HB := kH _ hb; (try clear hb); (try clear hb2); (try clear hk); (try clear hi); (try clear ho0); obtain ⟨Ao31, co31, eo31⟩ := Kd.R_slice HO197.out; subst eo31; have p198 : 0 ≤ ((ji20) : Int) := dA; have q198 : (ji20) < (t195.length : Int) := dA; obtain ⟨ad198, e198, hx198_0⟩ := Kd.at_int (Kd.R_reads' HO197.out).2.2 (ji20) p198 q198; cases e198; replace p198 := eq_true p198; replace q198 := eq_true q198))
      go_ret
      exact ⟨by first | rfl | (simp [errW_none, errW_some] <;> rfl) | (simp only [← hji20]; first | rfl | (simp [errW_none, errW_some] <;> rfl)) | (simp [*, errW_none, errW_some] <;> rfl), hbC _⟩
     rw [if_pos c27] at H
     have c27b0 : ((rd t195 (ji20)) == x3_1) = true := beq_iff_eq.mpr c27
     have c27b1 : ((rd t195 (ji20)) != x3_1) = false := bne_eq_false_iff_eq.mpr c27
     clear c27
     have H' := Aside0.mk H
     clear H
     go_wp2_with (first | ((with_reducible refine gate_callee (f := 44) rfl ?_); refine gL 37 Tryd.func44 #[.slice A191_0 (rd_L1 l0 x9_1).length c191_0] ?_; (with_reducible refine (shares_sums.calls kj4 _ _ (rd_L1 l0 x9_1) t195 _ ?side1 ?side2 A19.out).mono ?_); (case side1 => exact kC HR191_0); (case side2 => exact HC191_0.out); rintro e w28 ⟨v196, rfl, ho0, hb⟩; refine ⟨_, rfl, ?_⟩; have HO197 := ak (Kd.R_lower ho0 (below_size (hbC _))); replace HB := kH _ hb; (try clear hb); (try clear hb2); (try clear hk); (try clear hi); (try clear ho0); obtain ⟨Ao29, co29, eo29⟩ := Kd.R_slice HO197.out; subst eo29; have p198 : 0 ≤ ((ji20) : Int) := dA; have q198 : (ji20) < (t195.length : Int) := dA; obtain ⟨ad198, e198, hx198_0⟩ := Kd.at_int (Kd.R_reads' HO197.out).2.2 (ji20) p198 q198; cases e198; replace p198 := eq_true p198; replace q198 := eq_true q198))
     go_roundg kj4
     case measure => have := HK1.out; have := HJ4.out; omega
     case rel => exact ⟨(rd t195 (ji20)), (wrap64 (x9_1 + 1)), (by first | rfl | (simp; done) | (simp only [← hji20] <;> (first | rfl | simp)) | (simp [*]; done)), (by first | rfl | (simp; done) | (simp [*]; done)), H', ⟨by have := HK1.out; have := HJ4.out; omega⟩, ⟨hbC _⟩⟩

end Go.Proofs.YtkieehjpnjplmaaDoor.X
