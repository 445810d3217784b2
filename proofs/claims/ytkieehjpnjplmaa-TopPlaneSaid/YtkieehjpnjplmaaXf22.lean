-- Written by a program of this work (wip/xprint.py, over the kit's printer) out of the translation.
import Derived.Test.YtkieehjpnjplmaaX0
import Derived.Test.YtkieehjpnjplmaaXG1a
namespace Go.Proofs.Ytkieehjpnjplmaa.X
open Go.RowKit Go.Proofs.YtkieehjpnjplmaaW.PrintWords Go.Proofs.YtkieehjpnjplmaaW.PrintLast Go.Proofs.YtkieehjpnjplmaaW.PrintMore
attribute [local go_sem] max2_int min2_int max_two min_two max_three min_three max_four min_four   -- for this text's walks alone
set_option linter.unusedVariables false
set_option linter.unusedSimpArgs false

/-! ### arrays_Array_valid: function 22 -/
mutual
def arrays_Array_valid.j0 : Nat → Bool → Int → List (List Int) → Option (Bool)
 | 0, _, _, _ => none
 | k + 1, x24, x134000, x134001 => if x24 = true then (some false) else (arrays_Array_valid.l0 k x134001 (x134001.length : Int) 0 x134000 x134001)
def arrays_Array_valid.l0 : Nat → List (List Int) → Int → Int → Int → List (List Int) → Option (Bool)
 | 0, _, _, _, _, _ => none
 | k + 1, x26, x27, x28, x134000, x134001 => if x28 < x27 then (if 0 ≤ x28 then (if x28 < (x26.length : Int) then (if ((rd_L1 x26 x28).length : Int) < 1 then (some false) else (if ((rd_L1 x26 x28).length : Int) > 8 then (some false) else (if 0 < (x134001.length : Int) then (if ((rd_L1 x26 x28).length : Int) = ((rd_L1 x134001 0).length : Int) then ((slices_Min_int_int.f k (rd_L1 x26 x28)).bind fun t136 => (if t136 < 0 then (some false) else ((slices_Max_int_int.f k (rd_L1 x26 x28)).bind fun t137 => (if t137 ≥ x134000 then (some false) else (arrays_Array_valid.l0 k x26 x27 (wrap64 (x28 + 1)) x134000 x134001))))) else (some false)) else (none)))) else (none)) else (none)) else (some true)
end
def arrays_Array_valid.f (k : Nat) (a0_0 : Int) (l0_1 : List (List Int)) : Option (Bool) := if a0_0 < 2 then (arrays_Array_valid.j0 k true a0_0 l0_1) else (if a0_0 > 4 then (arrays_Array_valid.j0 k true a0_0 l0_1) else (if (l0_1.length : Int) < 1 then (arrays_Array_valid.j0 k true a0_0 l0_1) else (arrays_Array_valid.j0 k (decide ((l0_1.length : Int) > 16)) a0_0 l0_1)))
theorem arrays_Array_valid.mono_l : ∀ k, (∀ y0 y1 y2, LeO (arrays_Array_valid.j0 k y0 y1 y2) (arrays_Array_valid.j0 (k + 1) y0 y1 y2)) ∧ (∀ y0 y1 y2 y3 y4, LeO (arrays_Array_valid.l0 k y0 y1 y2 y3 y4) (arrays_Array_valid.l0 (k + 1) y0 y1 y2 y3 y4))
 | 0 => ⟨fun _ _ _ r h => by simp [arrays_Array_valid.j0] at h, fun _ _ _ _ _ r h => by simp [arrays_Array_valid.l0] at h⟩
 | k + 1 => by
  obtain ⟨ih0, ih1⟩ := arrays_Array_valid.mono_l k
  refine ⟨?_, ?_⟩
  ·intro y0 y1 y2
   unfold arrays_Array_valid.j0
   repeat' first
   | (with_reducible exact ih0 _ _ _)
   | (with_reducible exact ih1 _ _ _ _ _)
   | (with_reducible exact slices_Max_int_int.mono _ _)
   | (with_reducible exact slices_Min_int_int.mono _ _)
   | (with_reducible exact LeO.refl _)
   | (with_reducible exact LeO.none _)
   | (with_reducible refine LeO.ite ?_ ?_)
   | (with_reducible refine LeO.bind ?_ (fun _ => ?_))
   | exact ih0 _ _ _
   | exact ih1 _ _ _ _ _
   | exact slices_Max_int_int.mono _ _
   | exact slices_Min_int_int.mono _ _
   | exact LeO.none _
   | refine LeO.ite ?_ ?_
   | refine LeO.bind ?_ (fun _ => ?_)
  ·intro y0 y1 y2 y3 y4
   unfold arrays_Array_valid.l0
   repeat' first
   | (with_reducible exact ih0 _ _ _)
   | (with_reducible exact ih1 _ _ _ _ _)
   | (with_reducible exact slices_Max_int_int.mono _ _)
   | (with_reducible exact slices_Min_int_int.mono _ _)
   | (with_reducible exact LeO.refl _)
   | (with_reducible exact LeO.none _)
   | (with_reducible refine LeO.ite ?_ ?_)
   | (with_reducible refine LeO.bind ?_ (fun _ => ?_))
   | exact ih0 _ _ _
   | exact ih1 _ _ _ _ _
   | exact slices_Max_int_int.mono _ _
   | exact slices_Min_int_int.mono _ _
   | exact LeO.none _
   | refine LeO.ite ?_ ?_
   | refine LeO.bind ?_ (fun _ => ?_)
theorem arrays_Array_valid.mono : ∀ a0 a1 k, LeO (arrays_Array_valid.f k a0 a1) (arrays_Array_valid.f (k + 1) a0 a1) := by
 intro a0 a1 k
 obtain ⟨ih0, ih1⟩ := arrays_Array_valid.mono_l k
 unfold arrays_Array_valid.f
 repeat' first
   | (with_reducible exact ih0 _ _ _)
   | (with_reducible exact ih1 _ _ _ _ _)
   | (with_reducible exact slices_Max_int_int.mono _ _)
   | (with_reducible exact slices_Min_int_int.mono _ _)
   | (with_reducible exact LeO.refl _)
   | (with_reducible exact LeO.none _)
   | (with_reducible refine LeO.ite ?_ ?_)
   | (with_reducible refine LeO.bind ?_ (fun _ => ?_))
   | exact ih0 _ _ _
   | exact ih1 _ _ _ _ _
   | exact slices_Max_int_int.mono _ _
   | exact slices_Min_int_int.mono _ _
   | exact LeO.none _
   | refine LeO.ite ?_ ?_
   | refine LeO.bind ?_ (fun _ => ?_)
def arrays_Array_valid.T6 : Bool × List (List Nat × List Nat) := (true, [([], []), ([0], [0]), ([1], [1]), ([2], [2]), ([3], [3]), ([4, 3], [3, 4]), ([5, 3], [3, 5]), ([3, 6], [3, 6]), ([7, 3], [7]), ([8], [8]), ([9, 8], [8, 9]), ([8], [8]), ([11, 8], [8, 11]), ([12, 8], [8, 12]), ([13, 8], [8, 13]), ([14, 8], [8, 14]), ([10, 15, 8], [8, 10, 15]), ([8, 16], [8, 16]), ([17, 8], [17]), ([18], [18]), ([19, 18, 18], [18, 19]), ([20, 18], [18, 20]), ([18, 21], [18, 21]), ([22, 20], [22]), ([23], [23]), ([24, 23, 23], [23, 24]), ([23], [23]), ([26, 23], [23, 26]), ([25, 27, 23], [23, 25, 27]), ([23, 28], [23, 28])])
def arrays_Array_valid.B6 : List Nat := [0, 1, 3, 7, 15, 31, 63, 127, 255, 511, 1023, 511, 2559, 6655, 14847, 31231, 65535, 131071, 262143, 524287, 1048575, 2097151, 4194303, 8388607, 16777215, 33554431, 16777215, 83886079, 268435455, 536870911]
theorem arrays_Array_valid.tab6 : rtab .any (opsOf Try.f22 6) = arrays_Array_valid.T6 := by kernel_rfl
theorem arrays_Array_valid.bits6 : waitsOk arrays_Array_valid.T6.2 arrays_Array_valid.B6 = true := by kernel_rfl
set_option maxHeartbeats 8000000 in
set_option maxRecDepth 100000 in
theorem arrays_Array_valid.calls (k : Nat) (a0_0 : Int) (A0_1 : Option Addr) (c0_1 : Nat) (l0_1 : List (List Int)) (r : Bool) (w : World) (hr0_1 : Kd.C (Kd.slice 3 (Kd.int .i64)) w A0_1 l0_1.length l0_1) (hc0_1 : l0_1.length ≤ c0_1) (h : arrays_Array_valid.f k a0_0 l0_1 = some r) :
  Calls Try.prog 22 #[.agg #[.int .i64 a0_0, .slice A0_1 l0_1.length c0_1]] w fun e w' => e = .returned (.bool r) ∧ Below w.heap.size w w' := by
 have hu25 := Try.underlying25
 have HR0_1 := Aside0.mk hr0_1
 have HC0_1 := Aside0.mk hc0_1
 clear hr0_1 hc0_1
 have HB := ak (Below.refl w.heap.size w)
 have H : (if a0_0 < 2 then (arrays_Array_valid.j0 k true a0_0 l0_1) else (if a0_0 > 4 then (arrays_Array_valid.j0 k true a0_0 l0_1) else (if (l0_1.length : Int) < 1 then (arrays_Array_valid.j0 k true a0_0 l0_1) else (arrays_Array_valid.j0 k (decide ((l0_1.length : Int) > 16)) a0_0 l0_1)))) = some r := h
 clear h
 have HC2 := Aside0.mk H
 clear H
 go_enter Try.func22, Try.ntmps22
 go_upto_region 1 with (first | ((with_reducible refine gate_dst (N := 1) rfl ?_); (try (refine gate_guard (by rfl) ?_; dsimp only)); refine bE 1 #[.int .i64 a0_0, .slice A0_1 l0_1.length c0_1] 25 ?_; intro gb133 hg w3 hbox hb; have BK133 := ak (hbox); have GW133 := kG w hg; have GE133 := kG w hg; replace HB := kH _ hb; clear hb hbox hg))
 (try simp only [Act.put, List.setIfInBounds_toArray, List.set_cons_zero, List.set_cons_succ])
 go_cut [24] (fun v24 wc => ∃ (kq : Nat) (x24_1 : Bool), v24 = .bool x24_1 ∧ Aside0 (arrays_Array_valid.j0 kq x24_1 a0_0 l0_1 = some r) ∧ Aside0 (kq ≤ k) ∧ Aside0 (wc.heap[gb133]? = some (.cells #[.int .i64 a0_0, (.slice A0_1 l0_1.length c0_1)] 25 (0, 0))) ∧ Aside0 (Below w.heap.size w wc))
 case first =>
  have H := HC2.out
  clear HC2
  by_cases c4 : a0_0 < 2
  ·rw [if_pos c4] at H
   have c4b0 : decide (a0_0 < 2) = true := decide_eq_true c4
   clear c4
   (first | rw [c4b0] | (simp only [i64_w, i32_w]; rw [c4b0]) | skip)
   have H' := Aside0.mk H
   clear H
   have hcz5_0 : w3.cell? ⟨gb133, 0, none⟩ = some (.int .i64 a0_0) := bc BK133 0
   have hcz5_1 : w3.cell? ⟨gb133, 1, none⟩ = some (.slice A0_1 l0_1.length c0_1) := bc BK133 1
   have hfz5_0 := fz BK133 0
   have hfz5_1 := fz BK133 1
   go_wp2
   go_meet
   case rel => exact ⟨_, (true), (by first | rfl | (simp; done) | (simp [*]; done)), H', ⟨by first | omega | exact Nat.le_refl _⟩, ⟨bkC BK133⟩, ⟨hbC _⟩⟩
  rw [if_neg c4] at H
  have c4b0 : decide (a0_0 < 2) = false := decide_eq_false c4
  clear c4
  (first | rw [c4b0] | (simp only [i64_w, i32_w]; rw [c4b0]) | skip)
  by_cases c6 : a0_0 > 4
  ·rw [if_pos c6] at H
   have c6b0 : decide (4 < a0_0) = true := decide_eq_true c6
   clear c6
   have H' := Aside0.mk H
   clear H
   have hcz7_0 : w3.cell? ⟨gb133, 0, none⟩ = some (.int .i64 a0_0) := bc BK133 0
   have hcz7_1 : w3.cell? ⟨gb133, 1, none⟩ = some (.slice A0_1 l0_1.length c0_1) := bc BK133 1
   have hfz7_0 := fz BK133 0
   have hfz7_1 := fz BK133 1
   go_wp2
   go_meet
   case rel => exact ⟨_, (true), (by first | rfl | (simp; done) | (simp [*]; done)), H', ⟨by first | omega | exact Nat.le_refl _⟩, ⟨bkC BK133⟩, ⟨hbC _⟩⟩
  rw [if_neg c6] at H
  have c6b0 : decide (4 < a0_0) = false := decide_eq_false c6
  clear c6
  by_cases c8 : (l0_1.length : Int) < 1
  ·rw [if_pos c8] at H
   have c8b0 : decide ((l0_1.length : Int) < 1) = true := decide_eq_true c8
   have c8b1 : decide (l0_1.length < 1) = true := decide_eq_true (by omega)
   clear c8
   have H' := Aside0.mk H
   clear H
   have hcz9_0 : w3.cell? ⟨gb133, 0, none⟩ = some (.int .i64 a0_0) := bc BK133 0
   have hcz9_1 : w3.cell? ⟨gb133, 1, none⟩ = some (.slice A0_1 l0_1.length c0_1) := bc BK133 1
   have hfz9_0 := fz BK133 0
   have hfz9_1 := fz BK133 1
   go_wp2
   go_meet
   case rel => exact ⟨_, (true), (by first | rfl | (simp; done) | (simp [*]; done)), H', ⟨by first | omega | exact Nat.le_refl _⟩, ⟨bkC BK133⟩, ⟨hbC _⟩⟩
  rw [if_neg c8] at H
  have c8b0 : decide ((l0_1.length : Int) < 1) = false := decide_eq_false c8
  have c8b1 : decide (l0_1.length < 1) = false := decide_eq_false (by omega)
  clear c8
  have H' := Aside0.mk H
  clear H
  have hcz10_0 : w3.cell? ⟨gb133, 0, none⟩ = some (.int .i64 a0_0) := bc BK133 0
  have hcz10_1 : w3.cell? ⟨gb133, 1, none⟩ = some (.slice A0_1 l0_1.length c0_1) := bc BK133 1
  have hfz10_0 := fz BK133 0
  have hfz10_1 := fz BK133 1
  go_wp2
  go_meet
  case rel => exact ⟨_, (decide ((l0_1.length : Int) > 16)), (by first | rfl | (simp; done) | (simp [*]; done)), H', ⟨by first | omega | exact Nat.le_refl _⟩, ⟨bkC BK133⟩, ⟨hbC _⟩⟩
 case rest =>
  clear HC2
  try clear c2
  try clear p2
  try clear c4
  try clear c4b0
  try clear c6
  try clear c6b0
  try clear c8
  try clear c8b0
  try clear c8b1
  try clear hcz10_0
  try clear hcz10_1
  try clear hcz5_0
  try clear hcz5_1
  try clear hcz7_0
  try clear hcz7_1
  try clear hcz9_0
  try clear hcz9_1
  try clear hfz10_0
  try clear hfz10_1
  try clear hfz5_0
  try clear hfz5_1
  try clear hfz7_0
  try clear hfz7_1
  try clear hfz9_0
  try clear hfz9_1
  obtain ⟨kq, x24_1, rfl, HA, HJ1, BK133, HB⟩ := hcut
  cases kq with
  | zero => exact absurd HA.out (by simp [arrays_Array_valid.j0])
  | succ kj1 =>
   have H := HA.out
   clear HA
   simp only [arrays_Array_valid.j0] at H
   by_cases c11 : x24_1 = true
   ·subst c11
    have H1 : (some false) = some r := by rw [if_pos rfl] at H; exact H
    clear H
    have H := H1
    clear H1
    obtain rfl := Option.some.inj H
    go_wp2
    go_ret
    exact ⟨by first | rfl | (simp [errW_none, errW_some] <;> rfl) | (simp [*, errW_none, errW_some] <;> rfl), hbC _⟩
   replace c11 := Bool.eq_false_iff.mpr c11
   subst c11
   have H1 : (arrays_Array_valid.l0 kj1 l0_1 (l0_1.length : Int) 0 a0_0 l0_1) = some r := by rw [if_neg (show ¬ (false = true) by decide)] at H; exact H
   clear H
   have H := H1
   clear H1
   have H' := Aside0.mk H
   clear H
   have hcz12_0 : wc.cell? ⟨gb133, 0, none⟩ = some (.int .i64 a0_0) := bc BK133 0
   have hcz12_1 : wc.cell? ⟨gb133, 1, none⟩ = some (.slice A0_1 l0_1.length c0_1) := bc BK133 1
   have hfz12_0 := fz BK133 0
   have hfz12_1 := fz BK133 1
   go_wp2
   go_loopg [28] kj1 (fun kq v28 w' => ∃ (x28_2 : Int), v28 = .int .i64 x28_2 ∧ Aside0 (arrays_Array_valid.l0 kq l0_1 (l0_1.length : Int) x28_2 a0_0 l0_1 = some r) ∧ Aside0 (kq ≤ kj1) ∧ Aside0 (w'.heap[gb133]? = some (.cells #[.int .i64 a0_0, (.slice A0_1 l0_1.length c0_1)] 25 (0, 0))) ∧ Aside0 (Below w.heap.size w w'))
   case atStart => exact ⟨(0), (by first | rfl | (simp; done) | (simp [*]; done)), H', ⟨Nat.le_refl _⟩, ⟨bkC BK133⟩, ⟨hbC _⟩⟩
   case round =>
    clear H'
    try clear c1
    try clear c2
    try clear p2
    try clear c4
    try clear c4b0
    try clear c6
    try clear c6b0
    try clear c8
    try clear c8b0
    try clear c8b1
    try clear c11
    try clear hcz10_0
    try clear hcz10_1
    try clear hcz12_0
    try clear hcz12_1
    try clear hcz5_0
    try clear hcz5_1
    try clear hcz7_0
    try clear hcz7_1
    try clear hcz9_0
    try clear hcz9_1
    try clear hfz10_0
    try clear hfz10_1
    try clear hfz12_0
    try clear hfz12_1
    try clear hfz5_0
    try clear hfz5_1
    try clear hfz7_0
    try clear hfz7_1
    try clear hfz9_0
    try clear hfz9_1
    try clear p2
    obtain ⟨x28_2, rfl, HA, HK2, BK133, HB⟩ := hrel
    cases gk with
    | zero => exact absurd HA.out (by simp [arrays_Array_valid.l0])
    | succ k2 =>
     have H := HA.out
     clear HA
     simp only [arrays_Array_valid.l0] at H
     by_cases c13 : x28_2 < (l0_1.length : Int)
     rotate_left
     ·rw [if_neg c13] at H
      have c13b0 : decide (x28_2 < (l0_1.length : Int)) = false := decide_eq_false c13
      clear c13
      obtain rfl := Option.some.inj H
      go_wp2
      go_ret
      exact ⟨by first | rfl | (simp [errW_none, errW_some] <;> rfl) | (simp [*, errW_none, errW_some] <;> rfl), hbC _⟩
     rw [if_pos c13] at H
     have c13b0 : decide (x28_2 < (l0_1.length : Int)) = true := decide_eq_true c13
     clear c13
     by_cases c14 : 0 ≤ x28_2
     rotate_left
     ·rw [if_neg c14] at H
      exact absurd H (by simp)
     rw [if_pos c14] at H
     have c14b0 : decide (0 ≤ x28_2) = true := decide_eq_true c14
     clear c14
     by_cases c15 : x28_2 < (l0_1.length : Int)
     rotate_left
     ·rw [if_neg c15] at H
      exact absurd H (by simp)
     rw [if_pos c15] at H
     have c15b0 : decide (x28_2 < (l0_1.length : Int)) = true := decide_eq_true c15
     clear c15
     by_cases c16 : ((rd_L1 l0_1 x28_2).length : Int) < 1
     ·rw [if_pos c16] at H
      have c16b0 : decide (((rd_L1 l0_1 x28_2).length : Int) < 1) = true := decide_eq_true c16
      have c16b1 : decide ((rd_L1 l0_1 x28_2).length < 1) = true := decide_eq_true (by omega)
      clear c16
      obtain rfl := Option.some.inj H
      have p134 : 0 ≤ (x28_2 : Int) := dA
      have q134 : x28_2 < (l0_1.length : Int) := dA
      obtain ⟨ad134, A134_0, c134_0, e134, hx134_0, hl134_0, hi134_0⟩ := at_L1 HR0_1.out x28_2 p134 q134
      cases e134
      try replace hx134_0 := (HB.out.cell (World.block_lt_of_cell? w _ hx134_0)).trans hx134_0
      have HR134_0 := Aside0.mk hi134_0
      have HC134_0 := Aside0.mk hl134_0
      clear hi134_0 hl134_0
      replace p134 := eq_true p134
      replace q134 := eq_true q134
      try go_wp2
      replace BK133 := kd BK133
      replace HB := ak (below_drew1 HB.out)
      refine sS (n := 30) (S := fun w' => True) (ds := []) trivial (fun hHeld => ?_); refine with_tabW arrays_Array_valid.tab6 arrays_Array_valid.bits6 (fun HT_ HW_ => ?_)
      generalize wr.drew = w17 at BK133 HB hHeld ⊢
      refine pS 0 32 30 1 ?_
      refine pS 1 33 30 3 ?_
      refine pS 2 34 30 7 ?_
      refine pS 3 35 30 15 ?_
      refine uS 4 36 30 31 ?_
      refine uS 5 37 30 63 ?_
      refine uS 6 38 30 127 ?_
      refine pS 7 39 30 255 ?_
      refine pS 8 40 30 511 ?_
      refine uS 9 41 30 1023 ?_
      refine uS 10 42 30 2047 ?_
      refine uS 11 43 30 4095 ?_
      refine uS 12 44 30 8191 ?_
      refine uS 13 45 30 16383 ?_
      refine uS 14 46 30 32767 ?_
      refine uS 15 47 30 65535 ?_
      refine uS 16 48 30 131071 ?_
      refine pS 17 49 30 262143 ?_
      refine pS 18 50 30 524287 ?_
      refine uS 19 51 30 1048575 ?_
      refine uS 20 52 30 2097151 ?_
      refine uS 21 53 30 4194303 ?_
      refine pS 22 54 30 8388607 ?_
      refine pS 23 55 30 16777215 ?_
      refine uS 24 56 30 33554431 ?_
      refine uS 25 57 30 67108863 ?_
      refine uS 26 58 30 134217727 ?_
      refine uS 27 59 30 268435455 ?_
      refine uS 28 60 30 536870911 ?_
      refine pS 29 61 30 1073741823 ?_
      refine done_ (done_of HT_.out (by kernel_rfl)) ?_
      try go_wp2
      go_ret
      exact ⟨by first | rfl | (simp [errW_none, errW_some] <;> rfl) | (simp [*, errW_none, errW_some] <;> rfl), hbC _⟩
     rw [if_neg c16] at H
     have c16b0 : decide (((rd_L1 l0_1 x28_2).length : Int) < 1) = false := decide_eq_false c16
     have c16b1 : decide ((rd_L1 l0_1 x28_2).length < 1) = false := decide_eq_false (by omega)
     clear c16
     by_cases c18 : ((rd_L1 l0_1 x28_2).length : Int) > 8
     ·rw [if_pos c18] at H
      have c18b0 : decide (8 < ((rd_L1 l0_1 x28_2).length : Int)) = true := decide_eq_true c18
      have c18b1 : decide (8 < (rd_L1 l0_1 x28_2).length) = true := decide_eq_true (by omega)
      clear c18
      obtain rfl := Option.some.inj H
      have p134 : 0 ≤ (x28_2 : Int) := dA
      have q134 : x28_2 < (l0_1.length : Int) := dA
      obtain ⟨ad134, A134_0, c134_0, e134, hx134_0, hl134_0, hi134_0⟩ := at_L1 HR0_1.out x28_2 p134 q134
      cases e134
      try replace hx134_0 := (HB.out.cell (World.block_lt_of_cell? w _ hx134_0)).trans hx134_0
      have HR134_0 := Aside0.mk hi134_0
      have HC134_0 := Aside0.mk hl134_0
      clear hi134_0 hl134_0
      replace p134 := eq_true p134
      replace q134 := eq_true q134
      try go_wp2
      replace BK133 := kd BK133
      replace HB := ak (below_drew1 HB.out)
      refine sS (n := 30) (S := fun w' => True) (ds := []) trivial (fun hHeld => ?_); refine with_tabW arrays_Array_valid.tab6 arrays_Array_valid.bits6 (fun HT_ HW_ => ?_)
      generalize wr.drew = w19 at BK133 HB hHeld ⊢
      refine pS 0 32 30 1 ?_
      refine pS 1 33 30 3 ?_
      refine pS 2 34 30 7 ?_
      refine pS 3 35 30 15 ?_
      refine pS 4 36 30 31 ?_
      refine pS 5 37 30 63 ?_
      refine pS 6 38 30 127 ?_
      refine pS 7 39 30 255 ?_
      refine pS 8 40 30 511 ?_
      refine uS 9 41 30 1023 ?_
      refine uS 10 42 30 2047 ?_
      refine uS 11 43 30 4095 ?_
      refine uS 12 44 30 8191 ?_
      refine uS 13 45 30 16383 ?_
      refine uS 14 46 30 32767 ?_
      refine uS 15 47 30 65535 ?_
      refine uS 16 48 30 131071 ?_
      refine pS 17 49 30 262143 ?_
      refine pS 18 50 30 524287 ?_
      refine uS 19 51 30 1048575 ?_
      refine uS 20 52 30 2097151 ?_
      refine uS 21 53 30 4194303 ?_
      refine pS 22 54 30 8388607 ?_
      refine pS 23 55 30 16777215 ?_
      refine uS 24 56 30 33554431 ?_
      refine uS 25 57 30 67108863 ?_
      refine uS 26 58 30 134217727 ?_
      refine uS 27 59 30 268435455 ?_
      refine uS 28 60 30 536870911 ?_
      refine pS 29 61 30 1073741823 ?_
      refine done_ (done_of HT_.out (by kernel_rfl)) ?_
      try go_wp2
      go_ret
      exact ⟨by first | rfl | (simp [errW_none, errW_some] <;> rfl) | (simp [*, errW_none, errW_some] <;> rfl), hbC _⟩
     rw [if_neg c18] at H
     have c18b0 : decide (8 < ((rd_L1 l0_1 x28_2).length : Int)) = false := decide_eq_false c18
     have c18b1 : decide (8 < (rd_L1 l0_1 x28_2).length) = false := decide_eq_false (by omega)
     clear c18
     by_cases c20 : 0 < (l0_1.length : Int)
     rotate_left
     ·rw [if_neg c20] at H
      exact absurd H (by simp)
     rw [if_pos c20] at H
     have c20b0 : decide (0 < (l0_1.length : Int)) = true := decide_eq_true c20
     have c20b1 : decide (0 < l0_1.length) = true := decide_eq_true (by omega)
     clear c20
     by_cases c21 : ((rd_L1 l0_1 x28_2).length : Int) = ((rd_L1 l0_1 0).length : Int)
     rotate_left
     ·rw [if_neg c21] at H
      have c21b0 : (((rd_L1 l0_1 x28_2).length : Int) == ((rd_L1 l0_1 0).length : Int)) = false := beq_eq_false_iff_ne.mpr c21
      have c21b1 : (((rd_L1 l0_1 x28_2).length : Int) != ((rd_L1 l0_1 0).length : Int)) = true := bne_iff_ne.mpr c21
      have c21b2 : ((rd_L1 l0_1 x28_2).length == (rd_L1 l0_1 0).length) = false := by first | simpa using c21 | (simp at c21 ⊢; omega)
      obtain rfl := Option.some.inj H
      have p134 : 0 ≤ (x28_2 : Int) := dA
      have q134 : x28_2 < (l0_1.length : Int) := dA
      obtain ⟨ad134, A134_0, c134_0, e134, hx134_0, hl134_0, hi134_0⟩ := at_L1 HR0_1.out x28_2 p134 q134
      cases e134
      try replace hx134_0 := (HB.out.cell (World.block_lt_of_cell? w _ hx134_0)).trans hx134_0
      have HR134_0 := Aside0.mk hi134_0
      have HC134_0 := Aside0.mk hl134_0
      clear hi134_0 hl134_0
      replace p134 := eq_true p134
      replace q134 := eq_true q134
      try go_wp2
      replace BK133 := kd BK133
      replace HB := ak (below_drew1 HB.out)
      have p135 : 0 ≤ (0 : Int) := (by omega)
      have q135 : 0 < (l0_1.length : Int) := dA
      obtain ⟨ad135, A135_0, c135_0, e135, hx135_0, hl135_0, hi135_0⟩ := at_L1 HR0_1.out 0 p135 q135
      have hw135_0 := hx135_0
      (try rw [show ((0 : Int)).toNat = 0 from rfl] at hw135_0)
      (try rw [show 0 * 1 = 0 from rfl] at hw135_0)
      (try rw [Addr.add_zero'] at hw135_0)
      obtain rfl : ad134 = ad135 := (by injection e135)
      have qi135 : (0 < l0_1.length) = True := eq_true (by omega)
      (try rw [show ((0 : Int)).toNat = 0 from rfl] at hx135_0)
      (try rw [Addr.add_zero'] at hx135_0)
      try replace hx135_0 := (HB.out.cell (World.block_lt_of_cell? w _ hx135_0)).trans hx135_0
      have HR135_0 := Aside0.mk hi135_0
      have HC135_0 := Aside0.mk hl135_0
      clear hi135_0 hl135_0
      replace p135 := eq_true p135
      replace q135 := eq_true q135
      refine sS (n := 30) (S := fun w' => w'.cell? ⟨gb133, 0, none⟩ = some (.int .i64 a0_0) ∧ w'.cell? ⟨gb133, 1, none⟩ = some (.slice (some ad134) l0_1.length c0_1) ∧ w'.cell? ad134 = some (.slice A135_0 (rd_L1 l0_1 0).length c135_0)) (ds := []) ⟨bc BK133 0, bc BK133 1, ((HB.out.cell (World.block_lt_of_cell? w _ hw135_0)).trans hw135_0)⟩ (fun hHeld => ?_); refine with_tabW arrays_Array_valid.tab6 arrays_Array_valid.bits6 (fun HT_ HW_ => ?_)
      generalize wr.drew = w34 at BK133 HB HR135_0 hx135_0 hHeld ⊢
      refine pS 0 32 30 1 ?_
      refine pS 1 33 30 3 ?_
      refine pS 2 34 30 7 ?_
      refine pS 3 35 30 15 ?_
      refine pS 4 36 30 31 ?_
      refine pS 5 37 30 63 ?_
      refine pS 6 38 30 127 ?_
      refine pS 7 39 30 255 ?_
      refine pS 8 40 30 511 ?_
      refine pS 9 41 30 1023 ?_
      refine pS 10 42 30 2047 ?_
      refine pS 11 43 30 4095 ?_
      refine tS 12 44 30 8191 ?_
      refine pS 13 45 30 16383 ?_
      refine tS 14 46 30 32767 ?_
      refine pS 15 47 30 65535 ?_
      refine pS 16 48 30 131071 ?_
      refine pS 17 49 30 262143 ?_
      refine pS 18 50 30 524287 ?_
      refine uS 19 51 30 1048575 ?_
      refine uS 20 52 30 2097151 ?_
      refine uS 21 53 30 4194303 ?_
      refine pS 22 54 30 8388607 ?_
      refine pS 23 55 30 16777215 ?_
      refine uS 24 56 30 33554431 ?_
      refine uS 25 57 30 67108863 ?_
      refine uS 26 58 30 134217727 ?_
      refine uS 27 59 30 268435455 ?_
      refine uS 28 60 30 536870911 ?_
      refine pS 29 61 30 1073741823 ?_
      refine done_ (done_of HT_.out (by kernel_rfl)) ?_
      try go_wp2
      go_ret
      exact ⟨by first | rfl | (simp [errW_none, errW_some] <;> rfl) | (simp [*, errW_none, errW_some] <;> rfl), hbC _⟩
     rw [if_pos c21] at H
     have c21b0 : (((rd_L1 l0_1 x28_2).length : Int) == ((rd_L1 l0_1 0).length : Int)) = true := beq_iff_eq.mpr c21
     have c21b1 : (((rd_L1 l0_1 x28_2).length : Int) != ((rd_L1 l0_1 0).length : Int)) = false := bne_eq_false_iff_eq.mpr c21
     have c21b2 : ((rd_L1 l0_1 x28_2).length == (rd_L1 l0_1 0).length) = true := by first | simpa using c21 | (simp at c21 ⊢; omega)
     clear c21
     replace H := Option.bind_eq_some_iff.mp H
     obtain ⟨t136, A220, H⟩ := H
     replace H : (if t136 < 0 then (some false) else ((slices_Max_int_int.f k2 (rd_L1 l0_1 x28_2)).bind fun t137 => (if t137 ≥ a0_0 then (some false) else (arrays_Array_valid.l0 k2 l0_1 (l0_1.length : Int) (wrap64 (x28_2 + 1)) a0_0 l0_1)))) = some r := H
     have A22 := Aside0.mk A220
     clear A220
     by_cases c23 : t136 < 0
     ·rw [if_pos c23] at H
      have c23b0 : decide (t136 < 0) = true := decide_eq_true c23
      clear c23
      obtain rfl := Option.some.inj H
      have p134 : 0 ≤ (x28_2 : Int) := dA
      have q134 : x28_2 < (l0_1.length : Int) := dA
      obtain ⟨ad134, A134_0, c134_0, e134, hx134_0, hl134_0, hi134_0⟩ := at_L1 HR0_1.out x28_2 p134 q134
      cases e134
      try replace hx134_0 := (HB.out.cell (World.block_lt_of_cell? w _ hx134_0)).trans hx134_0
      have HR134_0 := Aside0.mk hi134_0
      have HC134_0 := Aside0.mk hl134_0
      clear hi134_0 hl134_0
      replace p134 := eq_true p134
      replace q134 := eq_true q134
      try go_wp2
      replace BK133 := kd BK133
      replace HB := ak (below_drew1 HB.out)
      have p135 : 0 ≤ (0 : Int) := (by omega)
      have q135 : 0 < (l0_1.length : Int) := dA
      obtain ⟨ad135, A135_0, c135_0, e135, hx135_0, hl135_0, hi135_0⟩ := at_L1 HR0_1.out 0 p135 q135
      have hw135_0 := hx135_0
      (try rw [show ((0 : Int)).toNat = 0 from rfl] at hw135_0)
      (try rw [show 0 * 1 = 0 from rfl] at hw135_0)
      (try rw [Addr.add_zero'] at hw135_0)
      obtain rfl : ad134 = ad135 := (by injection e135)
      have qi135 : (0 < l0_1.length) = True := eq_true (by omega)
      (try rw [show ((0 : Int)).toNat = 0 from rfl] at hx135_0)
      (try rw [Addr.add_zero'] at hx135_0)
      try replace hx135_0 := (HB.out.cell (World.block_lt_of_cell? w _ hx135_0)).trans hx135_0
      have HR135_0 := Aside0.mk hi135_0
      have HC135_0 := Aside0.mk hl135_0
      clear hi135_0 hl135_0
      replace p135 := eq_true p135
      replace q135 := eq_true q135
      refine sS (n := 30) (S := fun w' => w'.cell? ⟨gb133, 0, none⟩ = some (.int .i64 a0_0) ∧ w'.cell? ⟨gb133, 1, none⟩ = some (.slice (some ad134) l0_1.length c0_1) ∧ w'.cell? ad134 = some (.slice A135_0 (rd_L1 l0_1 0).length c135_0)) (ds := []) ⟨bc BK133 0, bc BK133 1, ((HB.out.cell (World.block_lt_of_cell? w _ hw135_0)).trans hw135_0)⟩ (fun hHeld => ?_); refine with_tabW arrays_Array_valid.tab6 arrays_Array_valid.bits6 (fun HT_ HW_ => ?_)
      generalize wr.drew = w24 at BK133 HB HR135_0 hx135_0 hHeld ⊢
      refine pS 0 32 30 1 ?_
      refine pS 1 33 30 3 ?_
      refine pS 2 34 30 7 ?_
      refine pS 3 35 30 15 ?_
      refine pS 4 36 30 31 ?_
      refine pS 5 37 30 63 ?_
      refine pS 6 38 30 127 ?_
      refine pS 7 39 30 255 ?_
      refine pS 8 40 30 511 ?_
      refine pS 9 41 30 1023 ?_
      refine pS 10 42 30 2047 ?_
      refine pS 11 43 30 4095 ?_
      refine tS 12 44 30 8191 ?_
      refine pS 13 45 30 16383 ?_
      refine tS 14 46 30 32767 ?_
      refine pS 15 47 30 65535 ?_
      refine pS 16 48 30 131071 ?_
      refine pS 17 49 30 262143 ?_
      refine pS 18 50 30 524287 ?_
      refine pS 19 51 30 1048575 ?_
      refine one_ (i := 20) (N := some 52) (ba 30 2097151) rfl rfl (one_of HT_.out (by kernel_rfl)) (by decide) (fun K hK => ?_)
      refine gC Try.func36 #[.slice A134_0 (rd_L1 l0_1 x28_2).length c134_0] ?_
      with_reducible refine (slices_Min_int_int.calls k2 _ _ (rd_L1 l0_1 x28_2) t136 _ ?side1 ?side2 A22.out).mono ?_
      (case side1 => exact kC HR134_0)
      (case side2 => exact HC134_0.out)
      rintro e w25 ⟨rfl, hb⟩
      refine ⟨_, rfl, ?_⟩
      replace BK133 := kB BK133 hb
      replace HB := kH _ hb
      (try clear hb)
      (try clear hb2)
      (try clear hk)
      (try clear hi)
      refine hK.out _ _ ⟨bc BK133 0, bc BK133 1, ((HB.out.cell (World.block_lt_of_cell? w _ hw135_0)).trans hw135_0)⟩ (fun hHeld => ?_)
      clear hK K
      refine norm_ (a' := ?_) ?_ ?_
      rotate_left
      ·show Act.put _ (some 52) _ = _
       simp only [Act.put, List.setIfInBounds_toArray, List.set_cons_zero, List.set_cons_succ, i64_w, i32_w]
       rfl
      refine pS 21 53 30 4194303 ?_
      refine pS 22 54 30 8388607 ?_
      refine pS 23 55 30 16777215 ?_
      refine uS 24 56 30 33554431 ?_
      refine uS 25 57 30 67108863 ?_
      refine uS 26 58 30 134217727 ?_
      refine uS 27 59 30 268435455 ?_
      refine uS 28 60 30 536870911 ?_
      refine pS 29 61 30 1073741823 ?_
      refine done_ (done_of HT_.out (by kernel_rfl)) ?_
      try go_wp2
      go_ret
      exact ⟨by first | rfl | (simp [errW_none, errW_some] <;> rfl) | (simp [*, errW_none, errW_some] <;> rfl), hbC _⟩
     rw [if_neg c23] at H
     have c23b0 : decide (t136 < 0) = false := decide_eq_false c23
     clear c23
     replace H := Option.bind_eq_some_iff.mp H
     obtain ⟨t137, A260, H⟩ := H
     replace H : (if t137 ≥ a0_0 then (some false) else (arrays_Array_valid.l0 k2 l0_1 (l0_1.length : Int) (wrap64 (x28_2 + 1)) a0_0 l0_1)) = some r := H
     have A26 := Aside0.mk A260
     clear A260
     by_cases c27 : t137 ≥ a0_0
     ·rw [if_pos c27] at H
      have c27b0 : decide (a0_0 ≤ t137) = true := decide_eq_true c27
      clear c27
      obtain rfl := Option.some.inj H
      have p134 : 0 ≤ (x28_2 : Int) := dA
      have q134 : x28_2 < (l0_1.length : Int) := dA
      obtain ⟨ad134, A134_0, c134_0, e134, hx134_0, hl134_0, hi134_0⟩ := at_L1 HR0_1.out x28_2 p134 q134
      cases e134
      try replace hx134_0 := (HB.out.cell (World.block_lt_of_cell? w _ hx134_0)).trans hx134_0
      have HR134_0 := Aside0.mk hi134_0
      have HC134_0 := Aside0.mk hl134_0
      clear hi134_0 hl134_0
      replace p134 := eq_true p134
      replace q134 := eq_true q134
      try go_wp2
      replace BK133 := kd BK133
      replace HB := ak (below_drew1 HB.out)
      have p135 : 0 ≤ (0 : Int) := (by omega)
      have q135 : 0 < (l0_1.length : Int) := dA
      obtain ⟨ad135, A135_0, c135_0, e135, hx135_0, hl135_0, hi135_0⟩ := at_L1 HR0_1.out 0 p135 q135
      have hw135_0 := hx135_0
      (try rw [show ((0 : Int)).toNat = 0 from rfl] at hw135_0)
      (try rw [show 0 * 1 = 0 from rfl] at hw135_0)
      (try rw [Addr.add_zero'] at hw135_0)
      obtain rfl : ad134 = ad135 := (by injection e135)
      have qi135 : (0 < l0_1.length) = True := eq_true (by omega)
      (try rw [show ((0 : Int)).toNat = 0 from rfl] at hx135_0)
      (try rw [Addr.add_zero'] at hx135_0)
      try replace hx135_0 := (HB.out.cell (World.block_lt_of_cell? w _ hx135_0)).trans hx135_0
      have HR135_0 := Aside0.mk hi135_0
      have HC135_0 := Aside0.mk hl135_0
      clear hi135_0 hl135_0
      replace p135 := eq_true p135
      replace q135 := eq_true q135
      refine sS (n := 30) (S := fun w' => w'.cell? ⟨gb133, 0, none⟩ = some (.int .i64 a0_0) ∧ w'.cell? ⟨gb133, 1, none⟩ = some (.slice (some ad134) l0_1.length c0_1) ∧ w'.cell? ad134 = some (.slice A135_0 (rd_L1 l0_1 0).length c135_0)) (ds := []) ⟨bc BK133 0, bc BK133 1, ((HB.out.cell (World.block_lt_of_cell? w _ hw135_0)).trans hw135_0)⟩ (fun hHeld => ?_); refine with_tabW arrays_Array_valid.tab6 arrays_Array_valid.bits6 (fun HT_ HW_ => ?_)
      generalize wr.drew = w28 at BK133 HB HR135_0 hx135_0 hHeld ⊢
      refine pS 0 32 30 1 ?_
      refine pS 1 33 30 3 ?_
      refine pS 2 34 30 7 ?_
      refine pS 3 35 30 15 ?_
      refine pS 4 36 30 31 ?_
      refine pS 5 37 30 63 ?_
      refine pS 6 38 30 127 ?_
      refine pS 7 39 30 255 ?_
      refine pS 8 40 30 511 ?_
      refine pS 9 41 30 1023 ?_
      refine pS 10 42 30 2047 ?_
      refine pS 11 43 30 4095 ?_
      refine tS 12 44 30 8191 ?_
      refine pS 13 45 30 16383 ?_
      refine tS 14 46 30 32767 ?_
      refine pS 15 47 30 65535 ?_
      refine pS 16 48 30 131071 ?_
      refine pS 17 49 30 262143 ?_
      refine pS 18 50 30 524287 ?_
      refine pS 19 51 30 1048575 ?_
      refine one_ (i := 20) (N := some 52) (ba 30 2097151) rfl rfl (one_of HT_.out (by kernel_rfl)) (by decide) (fun K hK => ?_)
      refine gC Try.func36 #[.slice A134_0 (rd_L1 l0_1 x28_2).length c134_0] ?_
      with_reducible refine (slices_Min_int_int.calls k2 _ _ (rd_L1 l0_1 x28_2) t136 _ ?side1 ?side2 A22.out).mono ?_
      (case side1 => exact kC HR134_0)
      (case side2 => exact HC134_0.out)
      rintro e w29 ⟨rfl, hb⟩
      refine ⟨_, rfl, ?_⟩
      replace BK133 := kB BK133 hb
      replace HB := kH _ hb
      (try clear hb)
      (try clear hb2)
      (try clear hk)
      (try clear hi)
      refine hK.out _ _ ⟨bc BK133 0, bc BK133 1, ((HB.out.cell (World.block_lt_of_cell? w _ hw135_0)).trans hw135_0)⟩ (fun hHeld => ?_)
      clear hK K
      refine norm_ (a' := ?_) ?_ ?_
      rotate_left
      ·show Act.put _ (some 52) _ = _
       simp only [Act.put, List.setIfInBounds_toArray, List.set_cons_zero, List.set_cons_succ, i64_w, i32_w]
       rfl
      refine pS 21 53 30 4194303 ?_
      refine pS 22 54 30 8388607 ?_
      refine pS 23 55 30 16777215 ?_
      refine pS 24 56 30 33554431 ?_
      refine pS 26 58 30 100663295 ?_
      refine tS 27 59 30 234881023 ?_
      refine one_ (i := 25) (N := some 57) (ba 30 268435455) rfl rfl (one_of HT_.out (by kernel_rfl)) (by decide) (fun K hK => ?_)
      refine gC Try.func37 #[.slice A134_0 (rd_L1 l0_1 x28_2).length c134_0] ?_
      with_reducible refine (slices_Max_int_int.calls k2 _ _ (rd_L1 l0_1 x28_2) t137 _ ?side1 ?side2 A26.out).mono ?_
      (case side1 => exact kC HR134_0)
      (case side2 => exact HC134_0.out)
      rintro e w30 ⟨rfl, hb⟩
      refine ⟨_, rfl, ?_⟩
      replace BK133 := kB BK133 hb
      replace HB := kH _ hb
      (try clear hb)
      (try clear hb2)
      (try clear hk)
      (try clear hi)
      refine hK.out _ _ ⟨bc BK133 0, bc BK133 1, ((HB.out.cell (World.block_lt_of_cell? w _ hw135_0)).trans hw135_0)⟩ (fun hHeld => ?_)
      clear hK K
      refine norm_ (a' := ?_) ?_ ?_
      rotate_left
      ·show Act.put _ (some 57) _ = _
       simp only [Act.put, List.setIfInBounds_toArray, List.set_cons_zero, List.set_cons_succ, i64_w, i32_w]
       rfl
      refine pS 28 60 30 536870911 ?_
      refine pS 29 61 30 1073741823 ?_
      refine done_ (done_of HT_.out (by kernel_rfl)) ?_
      try go_wp2
      go_ret
      exact ⟨by first | rfl | (simp [errW_none, errW_some] <;> rfl) | (simp [*, errW_none, errW_some] <;> rfl), hbC _⟩
     rw [if_neg c27] at H
     have c27b0 : decide (a0_0 ≤ t137) = false := decide_eq_false c27
     clear c27
     have H' := Aside0.mk H
     clear H
     have p134 : 0 ≤ (x28_2 : Int) := dA
     have q134 : x28_2 < (l0_1.length : Int) := dA
     obtain ⟨ad134, A134_0, c134_0, e134, hx134_0, hl134_0, hi134_0⟩ := at_L1 HR0_1.out x28_2 p134 q134
     cases e134
     try replace hx134_0 := (HB.out.cell (World.block_lt_of_cell? w _ hx134_0)).trans hx134_0
     have HR134_0 := Aside0.mk hi134_0
     have HC134_0 := Aside0.mk hl134_0
     clear hi134_0 hl134_0
     replace p134 := eq_true p134
     replace q134 := eq_true q134
     try go_wp2
     replace BK133 := kd BK133
     replace HB := ak (below_drew1 HB.out)
     have p135 : 0 ≤ (0 : Int) := (by omega)
     have q135 : 0 < (l0_1.length : Int) := dA
     obtain ⟨ad135, A135_0, c135_0, e135, hx135_0, hl135_0, hi135_0⟩ := at_L1 HR0_1.out 0 p135 q135
     have hw135_0 := hx135_0
     (try rw [show ((0 : Int)).toNat = 0 from rfl] at hw135_0)
     (try rw [show 0 * 1 = 0 from rfl] at hw135_0)
     (try rw [Addr.add_zero'] at hw135_0)
     obtain rfl : ad134 = ad135 := (by injection e135)
     have qi135 : (0 < l0_1.length) = True := eq_true (by omega)
     (try rw [show ((0 : Int)).toNat = 0 from rfl] at hx135_0)
     (try rw [Addr.add_zero'] at hx135_0)
     try replace hx135_0 := (HB.out.cell (World.block_lt_of_cell? w _ hx135_0)).trans hx135_0
     have HR135_0 := Aside0.mk hi135_0
     have HC135_0 := Aside0.mk hl135_0
     clear hi135_0 hl135_0
     replace p135 := eq_true p135
     replace q135 := eq_true q135
     refine sS (n := 30) (S := fun w' => w'.cell? ⟨gb133, 0, none⟩ = some (.int .i64 a0_0) ∧ w'.cell? ⟨gb133, 1, none⟩ = some (.slice (some ad134) l0_1.length c0_1) ∧ w'.cell? ad134 = some (.slice A135_0 (rd_L1 l0_1 0).length c135_0)) (ds := []) ⟨bc BK133 0, bc BK133 1, ((HB.out.cell (World.block_lt_of_cell? w _ hw135_0)).trans hw135_0)⟩ (fun hHeld => ?_); refine with_tabW arrays_Array_valid.tab6 arrays_Array_valid.bits6 (fun HT_ HW_ => ?_)
     generalize wr.drew = w31 at BK133 HB HR135_0 hx135_0 hHeld ⊢
     refine pS 0 32 30 1 ?_
     refine pS 1 33 30 3 ?_
     refine pS 2 34 30 7 ?_
     refine pS 3 35 30 15 ?_
     refine pS 4 36 30 31 ?_
     refine pS 5 37 30 63 ?_
     refine pS 6 38 30 127 ?_
     refine pS 7 39 30 255 ?_
     refine pS 8 40 30 511 ?_
     refine pS 9 41 30 1023 ?_
     refine pS 10 42 30 2047 ?_
     refine pS 11 43 30 4095 ?_
     refine tS 12 44 30 8191 ?_
     refine pS 13 45 30 16383 ?_
     refine tS 14 46 30 32767 ?_
     refine pS 15 47 30 65535 ?_
     refine pS 16 48 30 131071 ?_
     refine pS 17 49 30 262143 ?_
     refine pS 18 50 30 524287 ?_
     refine pS 19 51 30 1048575 ?_
     refine one_ (i := 20) (N := some 52) (ba 30 2097151) rfl rfl (one_of HT_.out (by kernel_rfl)) (by decide) (fun K hK => ?_)
     refine gC Try.func36 #[.slice A134_0 (rd_L1 l0_1 x28_2).length c134_0] ?_
     with_reducible refine (slices_Min_int_int.calls k2 _ _ (rd_L1 l0_1 x28_2) t136 _ ?side1 ?side2 A22.out).mono ?_
     (case side1 => exact kC HR134_0)
     (case side2 => exact HC134_0.out)
     rintro e w32 ⟨rfl, hb⟩
     refine ⟨_, rfl, ?_⟩
     replace BK133 := kB BK133 hb
     replace HB := kH _ hb
     (try clear hb)
     (try clear hb2)
     (try clear hk)
     (try clear hi)
     refine hK.out _ _ ⟨bc BK133 0, bc BK133 1, ((HB.out.cell (World.block_lt_of_cell? w _ hw135_0)).trans hw135_0)⟩ (fun hHeld => ?_)
     clear hK K
     refine norm_ (a' := ?_) ?_ ?_
     rotate_left
     ·show Act.put _ (some 52) _ = _
      simp only [Act.put, List.setIfInBounds_toArray, List.set_cons_zero, List.set_cons_succ, i64_w, i32_w]
      rfl
     refine pS 21 53 30 4194303 ?_
     refine pS 22 54 30 8388607 ?_
     refine pS 23 55 30 16777215 ?_
     refine pS 24 56 30 33554431 ?_
     refine pS 26 58 30 100663295 ?_
     refine tS 27 59 30 234881023 ?_
     refine one_ (i := 25) (N := some 57) (ba 30 268435455) rfl rfl (one_of HT_.out (by kernel_rfl)) (by decide) (fun K hK => ?_)
     refine gC Try.func37 #[.slice A134_0 (rd_L1 l0_1 x28_2).length c134_0] ?_
     with_reducible refine (slices_Max_int_int.calls k2 _ _ (rd_L1 l0_1 x28_2) t137 _ ?side1 ?side2 A26.out).mono ?_
     (case side1 => exact kC HR134_0)
     (case side2 => exact HC134_0.out)
     rintro e w33 ⟨rfl, hb⟩
     refine ⟨_, rfl, ?_⟩
     replace BK133 := kB BK133 hb
     replace HB := kH _ hb
     (try clear hb)
     (try clear hb2)
     (try clear hk)
     (try clear hi)
     refine hK.out _ _ ⟨bc BK133 0, bc BK133 1, ((HB.out.cell (World.block_lt_of_cell? w _ hw135_0)).trans hw135_0)⟩ (fun hHeld => ?_)
     clear hK K
     refine norm_ (a' := ?_) ?_ ?_
     rotate_left
     ·show Act.put _ (some 57) _ = _
      simp only [Act.put, List.setIfInBounds_toArray, List.set_cons_zero, List.set_cons_succ, i64_w, i32_w]
      rfl
     refine pS 28 60 30 536870911 ?_
     refine pS 29 61 30 1073741823 ?_
     refine done_ (done_of HT_.out (by kernel_rfl)) ?_
     try go_wp2
     go_roundg k2
     case measure => have := HJ1.out; have := HK2.out; omega
     case rel => exact ⟨(wrap64 (x28_2 + 1)), (by first | rfl | (simp; done) | (simp [*]; done)), H', ⟨by have := HJ1.out; have := HK2.out; omega⟩, ⟨bkC BK133⟩, ⟨hbC _⟩⟩

end Go.Proofs.Ytkieehjpnjplmaa.X
