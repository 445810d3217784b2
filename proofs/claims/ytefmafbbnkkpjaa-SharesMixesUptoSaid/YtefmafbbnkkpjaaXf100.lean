-- Written by a program of this work (wip/xprint.py, over the kit's printer) out of the translation.
import Derived.Test.YtefmafbbnkkpjaaX0
namespace Go.Proofs.Ytefmafbbnkkpjaa.X
open Go.RowKit Go.Proofs.YtefmafbbnkkpjaaW.PrintWords Go.Proofs.YtefmafbbnkkpjaaW.PrintLast Go.Proofs.YtefmafbbnkkpjaaW.PrintMore
attribute [local go_sem] max2_int min2_int max_two min_two max_three min_three max_four min_four   -- for this text's walks alone
set_option linter.unusedVariables false
set_option linter.unusedSimpArgs false

/-! ### shares_step: function 100 -/
mutual
def shares_step.l0 : Nat → List Int → List Int → Int → Option (Int × Int × Int × Bool)
 | 0, _, _, _ => none
 | k + 1, x0, x1, x6 => if x6 ≥ 0 then (if 0 ≤ x6 then (if x6 < (x0.length : Int) then (if x6 < (x1.length : Int) then (if (rd x0 x6) ≤ (rd x1 x6) then (shares_step.l0 k x0 x1 (wrap64 (x6 - 1))) else (shares_step.l1 k x0 x1 x6 (wrap64 (x6 + 1)))) else (none)) else (none)) else (none)) else (some (0, 0, 0, false))
def shares_step.l1 : Nat → List Int → List Int → Int → Int → Option (Int × Int × Int × Bool)
 | 0, _, _, _, _ => none
 | k + 1, x0, x1, x6, x7 => if x7 < (x0.length : Int) then (if 0 ≤ x7 then (if x7 < (x1.length : Int) then (if (rd x0 x7) < (rd x1 x7) then (if 0 ≤ x6 then (if x6 < (x0.length : Int) then (if x6 < (x1.length : Int) then (some (x6, x7, mn (wrap64 ((rd x0 x6) - (rd x1 x6))) (wrap64 ((rd x1 x7) - (rd x0 x7))), true)) else (none)) else (none)) else (none)) else (shares_step.l1 k x0 x1 x6 (wrap64 (x7 + 1)))) else (none)) else (none)) else (shares_step.l0 k x0 x1 (wrap64 (x6 - 1)))
end
def shares_step.f (k : Nat) (l0 : List Int) (l1 : List Int) : Option (Int × Int × Int × Bool) := shares_step.l0 k l0 l1 (wrap64 ((l0.length : Int) - 1))
theorem shares_step.mono_l : ∀ k, (∀ y0 y1 y2, LeO (shares_step.l0 k y0 y1 y2) (shares_step.l0 (k + 1) y0 y1 y2)) ∧ (∀ y0 y1 y2 y3, LeO (shares_step.l1 k y0 y1 y2 y3) (shares_step.l1 (k + 1) y0 y1 y2 y3))
 | 0 => ⟨fun _ _ _ r h => by simp [shares_step.l0] at h, fun _ _ _ _ r h => by simp [shares_step.l1] at h⟩
 | k + 1 => by
  obtain ⟨ih0, ih1⟩ := shares_step.mono_l k
  refine ⟨?_, ?_⟩
  ·intro y0 y1 y2
   unfold shares_step.l0
   repeat' first
   | (with_reducible exact ih0 _ _ _)
   | (with_reducible exact ih1 _ _ _ _)
   | (with_reducible exact LeO.refl _)
   | (with_reducible exact LeO.none _)
   | (with_reducible refine LeO.ite ?_ ?_)
   | (with_reducible refine LeO.bind ?_ (fun _ => ?_))
   | exact ih0 _ _ _
   | exact ih1 _ _ _ _
   | exact LeO.none _
   | refine LeO.ite ?_ ?_
   | refine LeO.bind ?_ (fun _ => ?_)
  ·intro y0 y1 y2 y3
   unfold shares_step.l1
   repeat' first
   | (with_reducible exact ih0 _ _ _)
   | (with_reducible exact ih1 _ _ _ _)
   | (with_reducible exact LeO.refl _)
   | (with_reducible exact LeO.none _)
   | (with_reducible refine LeO.ite ?_ ?_)
   | (with_reducible refine LeO.bind ?_ (fun _ => ?_))
   | exact ih0 _ _ _
   | exact ih1 _ _ _ _
   | exact LeO.none _
   | refine LeO.ite ?_ ?_
   | refine LeO.bind ?_ (fun _ => ?_)
theorem shares_step.mono : ∀ a0 a1 k, LeO (shares_step.f k a0 a1) (shares_step.f (k + 1) a0 a1) := by
 intro a0 a1 k
 obtain ⟨ih0, ih1⟩ := shares_step.mono_l k
 unfold shares_step.f
 repeat' first
   | (with_reducible exact ih0 _ _ _)
   | (with_reducible exact ih1 _ _ _ _)
   | (with_reducible exact LeO.refl _)
   | (with_reducible exact LeO.none _)
   | (with_reducible refine LeO.ite ?_ ?_)
   | (with_reducible refine LeO.bind ?_ (fun _ => ?_))
   | exact ih0 _ _ _
   | exact ih1 _ _ _ _
   | exact LeO.none _
   | refine LeO.ite ?_ ?_
   | refine LeO.bind ?_ (fun _ => ?_)
def shares_step.T4 : Bool × List (List Nat × List Nat) := (true, [([], []), ([], []), ([0, 1], [0, 1]), ([2], [2]), ([], []), ([], []), ([4, 5], [4, 5]), ([6], [6]), ([3, 7], [3, 7])])
def shares_step.B4 : List Nat := [0, 0, 3, 7, 0, 0, 48, 112, 255]
theorem shares_step.tab4 : rtab .any (opsOf Try.f100 4) = shares_step.T4 := by kernel_rfl
theorem shares_step.bits4 : waitsOk shares_step.T4.2 shares_step.B4 = true := by kernel_rfl
def shares_step.T8 : Bool × List (List Nat × List Nat) := (true, [([], []), ([], []), ([0, 1], [0, 1]), ([2], [2]), ([], []), ([], []), ([4, 5], [4, 5]), ([6], [6]), ([3, 7], [3, 7])])
def shares_step.B8 : List Nat := [0, 0, 3, 7, 0, 0, 48, 112, 255]
theorem shares_step.tab8 : rtab .any (opsOf Try.f100 8) = shares_step.T8 := by kernel_rfl
theorem shares_step.bits8 : waitsOk shares_step.T8.2 shares_step.B8 = true := by kernel_rfl
def shares_step.T9 : Bool × List (List Nat × List Nat) := (true, [([], []), ([], []), ([], []), ([], []), ([2, 3], [2, 3]), ([4], [4]), ([], []), ([], []), ([6, 7], [6, 7]), ([8], [8]), ([5, 9], [5, 9]), ([], []), ([], []), ([11, 12], [11, 12]), ([13], [13]), ([], []), ([], []), ([15, 16], [15, 16]), ([17], [17]), ([14, 18], [14, 18]), ([10, 19], [10, 19]), ([0, 1, 20], [0, 1, 20]), ([21, 0, 1, 2, 3, 4, 5, 6, 7, 8, 9, 10, 11, 12, 13, 14, 15, 16, 17, 18, 19, 20, 21], [21]), ([22, 0, 1, 2, 3, 4, 5, 6, 7, 8, 9, 10, 11, 12, 13, 14, 15, 16, 17, 18, 19, 20, 21, 22], [])])
def shares_step.B9 : List Nat := [0, 0, 0, 0, 12, 28, 0, 0, 192, 448, 1020, 0, 0, 6144, 14336, 0, 0, 98304, 229376, 522240, 1048572, 2097151, 4194303, 8388607]
theorem shares_step.tab9 : rtab .any (opsOf Try.f100 9) = shares_step.T9 := by kernel_rfl
theorem shares_step.bits9 : waitsOk shares_step.T9.2 shares_step.B9 = true := by kernel_rfl
set_option maxHeartbeats 8000000 in
set_option maxRecDepth 100000 in
theorem shares_step.calls (k : Nat) (A0 : Option Addr) (c0 : Nat) (l0 : List Int) (A1 : Option Addr) (c1 : Nat) (l1 : List Int) (r1 : Int) (r2 : Int) (r3 : Int) (r4 : Bool) (w : World) (hr0 : Kd.C (Kd.int .i64) w A0 l0.length l0) (hc0 : l0.length ≤ c0) (hr1 : Kd.C (Kd.int .i64) w A1 l1.length l1) (hc1 : l1.length ≤ c1) (h : shares_step.f k l0 l1 = some (r1, r2, r3, r4)) :
  Calls Try.prog 100 #[.slice A0 l0.length c0, .slice A1 l1.length c1] w fun e w' => e = .returned (.tuple #[.agg #[.int .i64 r1, .int .i64 r2, .int .i64 r3], .bool r4]) ∧ Below w.heap.size w w' := by
 have hu77 := Try.underlying77
 have HR0 := Aside0.mk hr0
 have HC0 := Aside0.mk hc0
 clear hr0 hc0
 have HR1 := Aside0.mk hr1
 have HC1 := Aside0.mk hc1
 clear hr1 hc1
 have HB := ak (Below.refl w.heap.size w)
 have H : (shares_step.l0 k l0 l1 (wrap64 ((l0.length : Int) - 1))) = some (r1, r2, r3, r4) := h
 clear h
 have H' := Aside0.mk H
 clear H
 go_enter Try.func100, Try.ntmps100
 go_wp2_with (first | ((with_reducible refine gate_dst (N := 4) rfl ?_); refine bE 4 #[.int .i64 0, .int .i64 0, .int .i64 0] 77 ?_; intro gb202 hg w3 hbox hb; have BK202 := ak (hbox); have GW202 := kG w hg; have GE202 := kG w hg; replace HB := kH _ hb; clear hb hbox hg))
 go_loopg [6] k (fun kq v6 w' => ∃ (x6_1 : Int) (x203000_1 : Int) (x203001_1 : Int) (x203002_1 : Int), v6 = .int .i64 x6_1 ∧ Aside0 (shares_step.l0 kq l0 l1 x6_1 = some (r1, r2, r3, r4)) ∧ Aside0 (kq ≤ k) ∧ Aside0 (w'.heap[gb202]? = some (.cells #[.int .i64 x203000_1, .int .i64 x203001_1, .int .i64 x203002_1] 77 (0, 0))) ∧ Aside0 (Below w.heap.size w w'))
 case atStart => exact ⟨(wrap64 ((l0.length : Int) - 1)), (0), (0), (0), (by first | rfl | (simp; done) | (simp [*]; done)), H', ⟨Nat.le_refl _⟩, ⟨bkC BK202⟩, ⟨hbC _⟩⟩
 case round =>
  clear H'
  try clear c1
  try clear p2
  obtain ⟨x6_1, x203000_1, x203001_1, x203002_1, rfl, HA, HK1, BK202, HB⟩ := hrel
  cases gk with
  | zero => exact absurd HA.out (by simp [shares_step.l0])
  | succ k1 =>
   have H := HA.out
   clear HA
   simp only [shares_step.l0] at H
   by_cases c4 : x6_1 ≥ 0
   rotate_left
   ·rw [if_neg c4] at H
    have c4b0 : decide (0 ≤ x6_1) = false := decide_eq_false c4
    clear c4
    simp only [Option.some.injEq, Prod.mk.injEq] at H
    obtain ⟨rfl, rfl, rfl, rfl⟩ := H
    have hcz25_0 : wr.cell? ⟨gb202, 0, none⟩ = some (.int .i64 x203000_1) := bc BK202 0
    have hcz25_1 : wr.cell? ⟨gb202, 1, none⟩ = some (.int .i64 x203001_1) := bc BK202 1
    have hcz25_2 : wr.cell? ⟨gb202, 2, none⟩ = some (.int .i64 x203002_1) := bc BK202 2
    have hfz25_0 := fz BK202 0
    have hfz25_1 := fz BK202 1
    have hfz25_2 := fz BK202 2
    go_wp2
    refine bodyPost_ret (results_ct rfl _ _ gb202 77 #[.int .i64 0, .int .i64 0, .int .i64 0] (0, 0) _ rfl (by (with_reducible repeat (first | refine blk_drewN ?_ _ | refine blk_drew ?_ | refine blk_alloc ?_ _)); refine blk_put (cs := #[.int .i64 0, .int .i64 0, .int .i64 x203002_1]) ?_ 2 _ rfl; (with_reducible repeat (first | refine blk_drewN ?_ _ | refine blk_drew ?_ | refine blk_alloc ?_ _)); refine blk_put (cs := #[.int .i64 0, .int .i64 x203001_1, .int .i64 x203002_1]) ?_ 1 _ rfl; (with_reducible repeat (first | refine blk_drewN ?_ _ | refine blk_drew ?_ | refine blk_alloc ?_ _)); refine blk_put (cs := #[.int .i64 x203000_1, .int .i64 x203001_1, .int .i64 x203002_1]) ?_ 0 _ rfl; (with_reducible repeat (first | refine blk_drewN ?_ _ | refine blk_drew ?_ | refine blk_alloc ?_ _)); exact BK202.out) Try.underlying77 rfl (by kernel_rfl)) rfl ?_
    exact ⟨by first | rfl | (simp [errW_none, errW_some] <;> rfl) | (simp [*, errW_none, errW_some] <;> rfl), hbC _⟩
   rw [if_pos c4] at H
   have c4b0 : decide (0 ≤ x6_1) = true := decide_eq_true c4
   clear c4
   by_cases c5 : 0 ≤ x6_1
   rotate_left
   ·rw [if_neg c5] at H
    exact absurd H (by simp)
   rw [if_pos c5] at H
   have c5b0 : decide (0 ≤ x6_1) = true := decide_eq_true c5
   clear c5
   by_cases c6 : x6_1 < (l0.length : Int)
   rotate_left
   ·rw [if_neg c6] at H
    exact absurd H (by simp)
   rw [if_pos c6] at H
   have c6b0 : decide (x6_1 < (l0.length : Int)) = true := decide_eq_true c6
   clear c6
   by_cases c7 : x6_1 < (l1.length : Int)
   rotate_left
   ·rw [if_neg c7] at H
    exact absurd H (by simp)
   rw [if_pos c7] at H
   have c7b0 : decide (x6_1 < (l1.length : Int)) = true := decide_eq_true c7
   clear c7
   by_cases c8 : (rd l0 x6_1) ≤ (rd l1 x6_1)
   ·rw [if_pos c8] at H
    have c8b0 : decide ((rd l0 x6_1) ≤ (rd l1 x6_1)) = true := decide_eq_true c8
    clear c8
    have H' := Aside0.mk H
    clear H
    try go_wp2
    replace BK202 := kd BK202
    replace HB := ak (below_drew1 HB.out)
    have p203 : 0 ≤ (x6_1 : Int) := dA
    have q203 : x6_1 < (l0.length : Int) := dA
    obtain ⟨ad203, e203, hx203_0⟩ := Kd.at_int HR0.out x6_1 p203 q203
    have hw203_0 := hx203_0
    cases e203
    try replace hx203_0 := (HB.out.cell (World.block_lt_of_cell? w _ hx203_0)).trans hx203_0
    replace p203 := eq_true p203
    replace q203 := eq_true q203
    have p204 : 0 ≤ (x6_1 : Int) := dA
    have q204 : x6_1 < (l1.length : Int) := dA
    obtain ⟨ad204, e204, hx204_0⟩ := Kd.at_int HR1.out x6_1 p204 q204
    have hw204_0 := hx204_0
    cases e204
    try replace hx204_0 := (HB.out.cell (World.block_lt_of_cell? w _ hx204_0)).trans hx204_0
    replace p204 := eq_true p204
    replace q204 := eq_true q204
    refine sS (n := 9) (S := fun w' => w'.cell? (ad203.add (x6_1).toNat) = some (.int .i64 (rd l0 x6_1)) ∧ w'.cell? (ad204.add (x6_1).toNat) = some (.int .i64 (rd l1 x6_1))) (ds := []) ⟨((HB.out.cell (World.block_lt_of_cell? w _ hw203_0)).trans hw203_0), ((HB.out.cell (World.block_lt_of_cell? w _ hw204_0)).trans hw204_0)⟩ (fun hHeld => ?_); refine with_tabW shares_step.tab4 shares_step.bits4 (fun HT_ HW_ => ?_)
    generalize wr.drew = w9 at BK202 HB hx203_0 hx204_0 hHeld ⊢
    refine pS 0 15 9 1 ?_
    refine pS 1 16 9 3 ?_
    refine pS 2 17 9 7 ?_
    refine pS 4 19 9 23 ?_
    refine pS 5 20 9 55 ?_
    refine pS 6 21 9 119 ?_
    refine tS 3 18 9 127 ?_
    refine tS 7 22 9 255 ?_
    refine pS 8 23 9 511 ?_
    refine done_ (done_of HT_.out (by kernel_rfl)) ?_
    try go_wp2
    go_roundg k1
    case measure => have := HK1.out; omega
    case rel => exact ⟨(wrap64 (x6_1 - 1)), (x203000_1), (x203001_1), (x203002_1), (by first | rfl | (simp; done) | (simp [*]; done)), H', ⟨by have := HK1.out; omega⟩, ⟨bkC BK202⟩, ⟨hbC _⟩⟩
   rw [if_neg c8] at H
   have c8b0 : decide ((rd l0 x6_1) ≤ (rd l1 x6_1)) = false := decide_eq_false c8
   clear c8
   have H' := Aside0.mk H
   clear H
   try go_wp2
   replace BK202 := kd BK202
   replace HB := ak (below_drew1 HB.out)
   have p203 : 0 ≤ (x6_1 : Int) := dA
   have q203 : x6_1 < (l0.length : Int) := dA
   obtain ⟨ad203, e203, hx203_0⟩ := Kd.at_int HR0.out x6_1 p203 q203
   have hw203_0 := hx203_0
   cases e203
   try replace hx203_0 := (HB.out.cell (World.block_lt_of_cell? w _ hx203_0)).trans hx203_0
   replace p203 := eq_true p203
   replace q203 := eq_true q203
   have p204 : 0 ≤ (x6_1 : Int) := dA
   have q204 : x6_1 < (l1.length : Int) := dA
   obtain ⟨ad204, e204, hx204_0⟩ := Kd.at_int HR1.out x6_1 p204 q204
   have hw204_0 := hx204_0
   cases e204
   try replace hx204_0 := (HB.out.cell (World.block_lt_of_cell? w _ hx204_0)).trans hx204_0
   replace p204 := eq_true p204
   replace q204 := eq_true q204
   refine sS (n := 9) (S := fun w' => w'.cell? (ad203.add (x6_1).toNat) = some (.int .i64 (rd l0 x6_1)) ∧ w'.cell? (ad204.add (x6_1).toNat) = some (.int .i64 (rd l1 x6_1))) (ds := []) ⟨((HB.out.cell (World.block_lt_of_cell? w _ hw203_0)).trans hw203_0), ((HB.out.cell (World.block_lt_of_cell? w _ hw204_0)).trans hw204_0)⟩ (fun hHeld => ?_); refine with_tabW shares_step.tab4 shares_step.bits4 (fun HT_ HW_ => ?_)
   generalize wr.drew = w10 at BK202 HB hx203_0 hx204_0 hHeld ⊢
   refine pS 0 15 9 1 ?_
   refine pS 1 16 9 3 ?_
   refine pS 2 17 9 7 ?_
   refine pS 4 19 9 23 ?_
   refine pS 5 20 9 55 ?_
   refine pS 6 21 9 119 ?_
   refine tS 3 18 9 127 ?_
   refine tS 7 22 9 255 ?_
   refine pS 8 23 9 511 ?_
   refine done_ (done_of HT_.out (by kernel_rfl)) ?_
   try go_wp2
   go_loopg [7] k1 (fun kq v7 w' => ∃ (x7_2 : Int) (x203000_2 : Int) (x203001_2 : Int) (x203002_2 : Int), v7 = .int .i64 x7_2 ∧ Aside0 (shares_step.l1 kq l0 l1 x6_1 x7_2 = some (r1, r2, r3, r4)) ∧ Aside0 (kq ≤ k1) ∧ Aside0 (w'.heap[gb202]? = some (.cells #[.int .i64 x203000_2, .int .i64 x203001_2, .int .i64 x203002_2] 77 (0, 0))) ∧ Aside0 (Below w.heap.size w w'))
   case atStart => exact ⟨(wrap64 (x6_1 + 1)), (x203000_1), (x203001_1), (x203002_1), (by first | rfl | (simp; done) | (simp [*]; done)), H', ⟨Nat.le_refl _⟩, ⟨bkC BK202⟩, ⟨hbC _⟩⟩
   case round =>
    clear H'
    try clear c1
    try clear p2
    try clear q2
    try clear hx2
    try clear c4
    try clear c4b0
    try clear c5
    try clear c5b0
    try clear c6
    try clear c6b0
    try clear p6
    try clear c7
    try clear c7b0
    try clear c8
    try clear c8b0
    try clear c10
    try clear hx203_0
    try clear hx204_0
    try clear p2
    try clear p203
    try clear p204
    try clear q203
    try clear q204
    obtain ⟨x7_2, x203000_2, x203001_2, x203002_2, rfl, HA, HK2, BK202, HB⟩ := hrel
    cases gk with
    | zero => exact absurd HA.out (by simp [shares_step.l1])
    | succ k2 =>
     have H := HA.out
     clear HA
     simp only [shares_step.l1] at H
     by_cases c11 : x7_2 < (l0.length : Int)
     rotate_left
     ·rw [if_neg c11] at H
      have c11b0 : decide (x7_2 < (l0.length : Int)) = false := decide_eq_false c11
      clear c11
      have H' := Aside0.mk H
      clear H
      go_wp2
      go_roundg k2
      case measure => have := HK1.out; have := HK2.out; omega
      case rel => exact ⟨(wrap64 (x6_1 - 1)), (x203000_2), (x203001_2), (x203002_2), (by first | rfl | (simp; done) | (simp [*]; done)), H', ⟨by have := HK1.out; have := HK2.out; omega⟩, ⟨bkC BK202⟩, ⟨hbC _⟩⟩
     rw [if_pos c11] at H
     have c11b0 : decide (x7_2 < (l0.length : Int)) = true := decide_eq_true c11
     clear c11
     by_cases c12 : 0 ≤ x7_2
     rotate_left
     ·rw [if_neg c12] at H
      exact absurd H (by simp)
     rw [if_pos c12] at H
     have c12b0 : decide (0 ≤ x7_2) = true := decide_eq_true c12
     clear c12
     by_cases c13 : x7_2 < (l1.length : Int)
     rotate_left
     ·rw [if_neg c13] at H
      exact absurd H (by simp)
     rw [if_pos c13] at H
     have c13b0 : decide (x7_2 < (l1.length : Int)) = true := decide_eq_true c13
     clear c13
     by_cases c14 : (rd l0 x7_2) < (rd l1 x7_2)
     rotate_left
     ·rw [if_neg c14] at H
      have c14b0 : decide ((rd l0 x7_2) < (rd l1 x7_2)) = false := decide_eq_false c14
      clear c14
      have H' := Aside0.mk H
      clear H
      try go_wp2
      replace BK202 := kd BK202
      replace HB := ak (below_drew1 HB.out)
      have p205 : 0 ≤ (x7_2 : Int) := dA
      have q205 : x7_2 < (l0.length : Int) := dA
      obtain ⟨ad205, e205, hx205_0⟩ := Kd.at_int HR0.out x7_2 p205 q205
      have hw205_0 := hx205_0
      obtain rfl : ad203 = ad205 := (by injection e205)
      try replace hx205_0 := (HB.out.cell (World.block_lt_of_cell? w _ hx205_0)).trans hx205_0
      replace p205 := eq_true p205
      replace q205 := eq_true q205
      have p206 : 0 ≤ (x7_2 : Int) := dA
      have q206 : x7_2 < (l1.length : Int) := dA
      obtain ⟨ad206, e206, hx206_0⟩ := Kd.at_int HR1.out x7_2 p206 q206
      have hw206_0 := hx206_0
      obtain rfl : ad204 = ad206 := (by injection e206)
      try replace hx206_0 := (HB.out.cell (World.block_lt_of_cell? w _ hx206_0)).trans hx206_0
      replace p206 := eq_true p206
      replace q206 := eq_true q206
      refine sS (n := 9) (S := fun w' => w'.cell? (ad203.add (x7_2).toNat) = some (.int .i64 (rd l0 x7_2)) ∧ w'.cell? (ad204.add (x7_2).toNat) = some (.int .i64 (rd l1 x7_2))) (ds := []) ⟨((HB.out.cell (World.block_lt_of_cell? w _ hw205_0)).trans hw205_0), ((HB.out.cell (World.block_lt_of_cell? w _ hw206_0)).trans hw206_0)⟩ (fun hHeld => ?_); refine with_tabW shares_step.tab8 shares_step.bits8 (fun HT_ HW_ => ?_)
      generalize wr.drew = w24 at BK202 HB hx205_0 hx206_0 hHeld ⊢
      refine pS 0 32 9 1 ?_
      refine pS 1 33 9 3 ?_
      refine pS 2 34 9 7 ?_
      refine pS 4 36 9 23 ?_
      refine pS 5 37 9 55 ?_
      refine pS 6 38 9 119 ?_
      refine tS 3 35 9 127 ?_
      refine tS 7 39 9 255 ?_
      refine pS 8 40 9 511 ?_
      refine done_ (done_of HT_.out (by kernel_rfl)) ?_
      try go_wp2
      go_roundg k2
      case measure => have := HK1.out; have := HK2.out; omega
      case rel => exact ⟨(wrap64 (x7_2 + 1)), (x203000_2), (x203001_2), (x203002_2), (by first | rfl | (simp; done) | (simp [*]; done)), H', ⟨by have := HK1.out; have := HK2.out; omega⟩, ⟨bkC BK202⟩, ⟨hbC _⟩⟩
     rw [if_pos c14] at H
     have c14b0 : decide ((rd l0 x7_2) < (rd l1 x7_2)) = true := decide_eq_true c14
     clear c14
     by_cases c15 : 0 ≤ x6_1
     rotate_left
     ·rw [if_neg c15] at H
      exact absurd H (by simp)
     rw [if_pos c15] at H
     have c15b0 : decide (0 ≤ x6_1) = true := decide_eq_true c15
     clear c15
     by_cases c16 : x6_1 < (l0.length : Int)
     rotate_left
     ·rw [if_neg c16] at H
      exact absurd H (by simp)
     rw [if_pos c16] at H
     have c16b0 : decide (x6_1 < (l0.length : Int)) = true := decide_eq_true c16
     clear c16
     by_cases c17 : x6_1 < (l1.length : Int)
     rotate_left
     ·rw [if_neg c17] at H
      exact absurd H (by simp)
     rw [if_pos c17] at H
     have c17b0 : decide (x6_1 < (l1.length : Int)) = true := decide_eq_true c17
     clear c17
     obtain ⟨ji18, hji18⟩ : ∃ j_ : Int, (mn (wrap64 ((rd l0 x6_1) - (rd l1 x6_1))) (wrap64 ((rd l1 x7_2) - (rd l0 x7_2)))) = j_ := ⟨_, rfl⟩
     replace H : (some (x6_1, x7_2, ji18, true)) = some (r1, r2, r3, r4) := by first | (rw [hji18] at H; exact H) | (simp only [hji18] at H ⊢; exact H)
     have hji18_ : (if (wrap64 ((rd l1 x7_2) - (rd l0 x7_2))) < (wrap64 ((rd l0 x6_1) - (rd l1 x6_1))) then (wrap64 ((rd l1 x7_2) - (rd l0 x7_2))) else (wrap64 ((rd l0 x6_1) - (rd l1 x6_1)))) = ji18 := hji18
     simp only [Option.some.injEq, Prod.mk.injEq] at H
     obtain ⟨rfl, rfl, rfl, rfl⟩ := H
     try go_wp2
     replace BK202 := kd BK202
     replace HB := ak (below_drew1 HB.out)
     have p205 : 0 ≤ (x7_2 : Int) := dA
     have q205 : x7_2 < (l0.length : Int) := dA
     obtain ⟨ad205, e205, hx205_0⟩ := Kd.at_int HR0.out x7_2 p205 q205
     have hw205_0 := hx205_0
     obtain rfl : ad203 = ad205 := (by injection e205)
     try replace hx205_0 := (HB.out.cell (World.block_lt_of_cell? w _ hx205_0)).trans hx205_0
     replace p205 := eq_true p205
     replace q205 := eq_true q205
     have p206 : 0 ≤ (x7_2 : Int) := dA
     have q206 : x7_2 < (l1.length : Int) := dA
     obtain ⟨ad206, e206, hx206_0⟩ := Kd.at_int HR1.out x7_2 p206 q206
     have hw206_0 := hx206_0
     obtain rfl : ad204 = ad206 := (by injection e206)
     try replace hx206_0 := (HB.out.cell (World.block_lt_of_cell? w _ hx206_0)).trans hx206_0
     replace p206 := eq_true p206
     replace q206 := eq_true q206
     refine sS (n := 9) (S := fun w' => w'.cell? (ad203.add (x7_2).toNat) = some (.int .i64 (rd l0 x7_2)) ∧ w'.cell? (ad204.add (x7_2).toNat) = some (.int .i64 (rd l1 x7_2))) (ds := []) ⟨((HB.out.cell (World.block_lt_of_cell? w _ hw205_0)).trans hw205_0), ((HB.out.cell (World.block_lt_of_cell? w _ hw206_0)).trans hw206_0)⟩ (fun hHeld => ?_); refine with_tabW shares_step.tab8 shares_step.bits8 (fun HT_ HW_ => ?_)
     generalize wr.drew = w19 at BK202 HB hx205_0 hx206_0 hHeld ⊢
     refine pS 0 32 9 1 ?_
     refine pS 1 33 9 3 ?_
     refine pS 2 34 9 7 ?_
     refine pS 4 36 9 23 ?_
     refine pS 5 37 9 55 ?_
     refine pS 6 38 9 119 ?_
     refine tS 3 35 9 127 ?_
     refine tS 7 39 9 255 ?_
     refine pS 8 40 9 511 ?_
     refine done_ (done_of HT_.out (by kernel_rfl)) ?_
     try go_wp2
     replace BK202 := kd BK202
     replace HB := ak (below_drew1 HB.out)
     have p207 : 0 ≤ (x6_1 : Int) := dA
     have q207 : x6_1 < (l0.length : Int) := dA
     obtain ⟨ad207, e207, hx207_0⟩ := Kd.at_int HR0.out x6_1 p207 q207
     have hw207_0 := hx207_0
     obtain rfl : ad203 = ad207 := (by injection e207)
     try replace hx207_0 := (HB.out.cell (World.block_lt_of_cell? w _ hx207_0)).trans hx207_0
     replace p207 := eq_true p207
     replace q207 := eq_true q207
     have p208 : 0 ≤ (x6_1 : Int) := dA
     have q208 : x6_1 < (l1.length : Int) := dA
     obtain ⟨ad208, e208, hx208_0⟩ := Kd.at_int HR1.out x6_1 p208 q208
     have hw208_0 := hx208_0
     obtain rfl : ad204 = ad208 := (by injection e208)
     try replace hx208_0 := (HB.out.cell (World.block_lt_of_cell? w _ hx208_0)).trans hx208_0
     replace p208 := eq_true p208
     replace q208 := eq_true q208
     have p209 : 0 ≤ (x7_2 : Int) := dA
     have q209 : x7_2 < (l1.length : Int) := dA
     obtain ⟨ad209, e209, hx209_0⟩ := Kd.at_int HR1.out x7_2 p209 q209
     have hw209_0 := hx209_0
     obtain rfl : ad204 = ad209 := (by injection e209)
     try replace hx209_0 := (HB.out.cell (World.block_lt_of_cell? w _ hx209_0)).trans hx209_0
     replace p209 := eq_true p209
     replace q209 := eq_true q209
     have p210 : 0 ≤ (x7_2 : Int) := dA
     have q210 : x7_2 < (l0.length : Int) := dA
     obtain ⟨ad210, e210, hx210_0⟩ := Kd.at_int HR0.out x7_2 p210 q210
     have hw210_0 := hx210_0
     obtain rfl : ad203 = ad210 := (by injection e210)
     try replace hx210_0 := (HB.out.cell (World.block_lt_of_cell? w _ hx210_0)).trans hx210_0
     replace p210 := eq_true p210
     replace q210 := eq_true q210
     refine sS (n := 24) (S := fun w' => w'.cell? (ad203.add (x6_1).toNat) = some (.int .i64 (rd l0 x6_1)) ∧ w'.cell? (ad204.add (x6_1).toNat) = some (.int .i64 (rd l1 x6_1)) ∧ w'.cell? (ad204.add (x7_2).toNat) = some (.int .i64 (rd l1 x7_2)) ∧ w'.cell? (ad203.add (x7_2).toNat) = some (.int .i64 (rd l0 x7_2))) (ds := []) ⟨((HB.out.cell (World.block_lt_of_cell? w _ hw207_0)).trans hw207_0), ((HB.out.cell (World.block_lt_of_cell? w _ hw208_0)).trans hw208_0), ((HB.out.cell (World.block_lt_of_cell? w _ hw209_0)).trans hw209_0), ((HB.out.cell (World.block_lt_of_cell? w _ hw210_0)).trans hw210_0)⟩ (fun hHeld => ?_); refine with_tabW shares_step.tab9 shares_step.bits9 (fun HT_ HW_ => ?_)
     generalize w19.drew = w20 at BK202 HB hx207_0 hx208_0 hx209_0 hx210_0 hHeld ⊢
     refine pS 0 41 24 1 ?_
     refine pS 1 42 24 3 ?_
     refine pS 2 43 24 7 ?_
     refine pS 3 44 24 15 ?_
     refine pS 4 45 24 31 ?_
     refine pS 6 47 24 95 ?_
     refine pS 7 48 24 223 ?_
     refine pS 8 49 24 479 ?_
     refine pS 11 52 24 2527 ?_
     refine pS 12 53 24 6623 ?_
     refine pS 13 54 24 14815 ?_
     refine pS 15 56 24 47583 ?_
     refine pS 16 57 24 113119 ?_
     refine pS 17 58 24 244191 ?_
     refine tS 5 46 24 244223 ?_
     refine tS 9 50 24 244735 ?_
     refine pS 10 51 24 245759 ?_
     refine tS 14 55 24 262143 ?_
     refine tS 18 59 24 524287 ?_
     refine pS 19 60 24 1048575 ?_
     refine pS 20 61 24 2097151 ?_
     refine pS 21 62 24 4194303 ?_
     refine one_ (i := 22) (N := none) (ba 24 8388607) rfl rfl (one_of HT_.out (by kernel_rfl)) (by decide) (fun K hK => ?_)
     have hs21 : w20.cell? ⟨gb202, 0, none⟩ = some (.int .i64 x203000_2) := bc BK202 0
     have hfs21 := fz BK202 0
     have hs22 : w20.cell? ⟨gb202, 1, none⟩ = some (.int .i64 x203001_2) := bc BK202 1
     have hfs22 := fz BK202 1
     have hs23 : w20.cell? ⟨gb202, 2, none⟩ = some (.int .i64 x203002_2) := bc BK202 2
     have hfs23 := fz BK202 2
     refine skip_ (w1 := ?_) (by rfl) rfl ?_ ?_
     rotate_left
     ·go_simp
      rfl
     refine hK.out _ _ ⟨((cell_far (p := ⟨gb202, _, none⟩) (by first | exact Nat.ne_of_lt (Nat.lt_of_lt_of_le (by have := World.block_lt_of_cell? _ _ hw207_0; first | rwa [add_block] at this | exact this) GW202.out) | (rw [add_block]; exact Nat.ne_of_lt (Nat.lt_of_lt_of_le (by have := World.block_lt_of_cell? _ _ hw207_0; first | rwa [add_block] at this | exact this) GW202.out)) | (show (Addr.add _ _).block ≠ _; rw [add_block]; exact Nat.ne_of_lt (Nat.lt_of_lt_of_le (by have := World.block_lt_of_cell? _ _ hw207_0; first | rwa [add_block] at this | exact this) GW202.out)) | (dsimp only; exact Nat.ne_of_lt (Nat.lt_of_lt_of_le (by have := World.block_lt_of_cell? _ _ hw207_0; first | rwa [add_block] at this | exact this) GW202.out))) _).trans (((cell_far (p := ⟨gb202, _, none⟩) (by first | exact Nat.ne_of_lt (Nat.lt_of_lt_of_le (by have := World.block_lt_of_cell? _ _ hw207_0; first | rwa [add_block] at this | exact this) GW202.out) | (rw [add_block]; exact Nat.ne_of_lt (Nat.lt_of_lt_of_le (by have := World.block_lt_of_cell? _ _ hw207_0; first | rwa [add_block] at this | exact this) GW202.out)) | (show (Addr.add _ _).block ≠ _; rw [add_block]; exact Nat.ne_of_lt (Nat.lt_of_lt_of_le (by have := World.block_lt_of_cell? _ _ hw207_0; first | rwa [add_block] at this | exact this) GW202.out)) | (dsimp only; exact Nat.ne_of_lt (Nat.lt_of_lt_of_le (by have := World.block_lt_of_cell? _ _ hw207_0; first | rwa [add_block] at this | exact this) GW202.out))) _).trans (((cell_far (p := ⟨gb202, _, none⟩) (by first | exact Nat.ne_of_lt (Nat.lt_of_lt_of_le (by have := World.block_lt_of_cell? _ _ hw207_0; first | rwa [add_block] at this | exact this) GW202.out) | (rw [add_block]; exact Nat.ne_of_lt (Nat.lt_of_lt_of_le (by have := World.block_lt_of_cell? _ _ hw207_0; first | rwa [add_block] at this | exact this) GW202.out)) | (show (Addr.add _ _).block ≠ _; rw [add_block]; exact Nat.ne_of_lt (Nat.lt_of_lt_of_le (by have := World.block_lt_of_cell? _ _ hw207_0; first | rwa [add_block] at this | exact this) GW202.out)) | (dsimp only; exact Nat.ne_of_lt (Nat.lt_of_lt_of_le (by have := World.block_lt_of_cell? _ _ hw207_0; first | rwa [add_block] at this | exact this) GW202.out))) _).trans (hHeld.1)))))), ((cell_far (p := ⟨gb202, _, none⟩) (by first | exact Nat.ne_of_lt (Nat.lt_of_lt_of_le (by have := World.block_lt_of_cell? _ _ hw208_0; first | rwa [add_block] at this | exact this) GW202.out) | (rw [add_block]; exact Nat.ne_of_lt (Nat.lt_of_lt_of_le (by have := World.block_lt_of_cell? _ _ hw208_0; first | rwa [add_block] at this | exact this) GW202.out)) | (show (Addr.add _ _).block ≠ _; rw [add_block]; exact Nat.ne_of_lt (Nat.lt_of_lt_of_le (by have := World.block_lt_of_cell? _ _ hw208_0; first | rwa [add_block] at this | exact this) GW202.out)) | (dsimp only; exact Nat.ne_of_lt (Nat.lt_of_lt_of_le (by have := World.block_lt_of_cell? _ _ hw208_0; first | rwa [add_block] at this | exact this) GW202.out))) _).trans (((cell_far (p := ⟨gb202, _, none⟩) (by first | exact Nat.ne_of_lt (Nat.lt_of_lt_of_le (by have := World.block_lt_of_cell? _ _ hw208_0; first | rwa [add_block] at this | exact this) GW202.out) | (rw [add_block]; exact Nat.ne_of_lt (Nat.lt_of_lt_of_le (by have := World.block_lt_of_cell? _ _ hw208_0; first | rwa [add_block] at this | exact this) GW202.out)) | (show (Addr.add _ _).block ≠ _; rw [add_block]; exact Nat.ne_of_lt (Nat.lt_of_lt_of_le (by have := World.block_lt_of_cell? _ _ hw208_0; first | rwa [add_block] at this | exact this) GW202.out)) | (dsimp only; exact Nat.ne_of_lt (Nat.lt_of_lt_of_le (by have := World.block_lt_of_cell? _ _ hw208_0; first | rwa [add_block] at this | exact this) GW202.out))) _).trans (((cell_far (p := ⟨gb202, _, none⟩) (by first | exact Nat.ne_of_lt (Nat.lt_of_lt_of_le (by have := World.block_lt_of_cell? _ _ hw208_0; first | rwa [add_block] at this | exact this) GW202.out) | (rw [add_block]; exact Nat.ne_of_lt (Nat.lt_of_lt_of_le (by have := World.block_lt_of_cell? _ _ hw208_0; first | rwa [add_block] at this | exact this) GW202.out)) | (show (Addr.add _ _).block ≠ _; rw [add_block]; exact Nat.ne_of_lt (Nat.lt_of_lt_of_le (by have := World.block_lt_of_cell? _ _ hw208_0; first | rwa [add_block] at this | exact this) GW202.out)) | (dsimp only; exact Nat.ne_of_lt (Nat.lt_of_lt_of_le (by have := World.block_lt_of_cell? _ _ hw208_0; first | rwa [add_block] at this | exact this) GW202.out))) _).trans (hHeld.2.1)))))), ((cell_far (p := ⟨gb202, _, none⟩) (by first | exact Nat.ne_of_lt (Nat.lt_of_lt_of_le (by have := World.block_lt_of_cell? _ _ hw209_0; first | rwa [add_block] at this | exact this) GW202.out) | (rw [add_block]; exact Nat.ne_of_lt (Nat.lt_of_lt_of_le (by have := World.block_lt_of_cell? _ _ hw209_0; first | rwa [add_block] at this | exact this) GW202.out)) | (show (Addr.add _ _).block ≠ _; rw [add_block]; exact Nat.ne_of_lt (Nat.lt_of_lt_of_le (by have := World.block_lt_of_cell? _ _ hw209_0; first | rwa [add_block] at this | exact this) GW202.out)) | (dsimp only; exact Nat.ne_of_lt (Nat.lt_of_lt_of_le (by have := World.block_lt_of_cell? _ _ hw209_0; first | rwa [add_block] at this | exact this) GW202.out))) _).trans (((cell_far (p := ⟨gb202, _, none⟩) (by first | exact Nat.ne_of_lt (Nat.lt_of_lt_of_le (by have := World.block_lt_of_cell? _ _ hw209_0; first | rwa [add_block] at this | exact this) GW202.out) | (rw [add_block]; exact Nat.ne_of_lt (Nat.lt_of_lt_of_le (by have := World.block_lt_of_cell? _ _ hw209_0; first | rwa [add_block] at this | exact this) GW202.out)) | (show (Addr.add _ _).block ≠ _; rw [add_block]; exact Nat.ne_of_lt (Nat.lt_of_lt_of_le (by have := World.block_lt_of_cell? _ _ hw209_0; first | rwa [add_block] at this | exact this) GW202.out)) | (dsimp only; exact Nat.ne_of_lt (Nat.lt_of_lt_of_le (by have := World.block_lt_of_cell? _ _ hw209_0; first | rwa [add_block] at this | exact this) GW202.out))) _).trans (((cell_far (p := ⟨gb202, _, none⟩) (by first | exact Nat.ne_of_lt (Nat.lt_of_lt_of_le (by have := World.block_lt_of_cell? _ _ hw209_0; first | rwa [add_block] at this | exact this) GW202.out) | (rw [add_block]; exact Nat.ne_of_lt (Nat.lt_of_lt_of_le (by have := World.block_lt_of_cell? _ _ hw209_0; first | rwa [add_block] at this | exact this) GW202.out)) | (show (Addr.add _ _).block ≠ _; rw [add_block]; exact Nat.ne_of_lt (Nat.lt_of_lt_of_le (by have := World.block_lt_of_cell? _ _ hw209_0; first | rwa [add_block] at this | exact this) GW202.out)) | (dsimp only; exact Nat.ne_of_lt (Nat.lt_of_lt_of_le (by have := World.block_lt_of_cell? _ _ hw209_0; first | rwa [add_block] at this | exact this) GW202.out))) _).trans (hHeld.2.2.1)))))), ((cell_far (p := ⟨gb202, _, none⟩) (by first | exact Nat.ne_of_lt (Nat.lt_of_lt_of_le (by have := World.block_lt_of_cell? _ _ hw210_0; first | rwa [add_block] at this | exact this) GW202.out) | (rw [add_block]; exact Nat.ne_of_lt (Nat.lt_of_lt_of_le (by have := World.block_lt_of_cell? _ _ hw210_0; first | rwa [add_block] at this | exact this) GW202.out)) | (show (Addr.add _ _).block ≠ _; rw [add_block]; exact Nat.ne_of_lt (Nat.lt_of_lt_of_le (by have := World.block_lt_of_cell? _ _ hw210_0; first | rwa [add_block] at this | exact this) GW202.out)) | (dsimp only; exact Nat.ne_of_lt (Nat.lt_of_lt_of_le (by have := World.block_lt_of_cell? _ _ hw210_0; first | rwa [add_block] at this | exact this) GW202.out))) _).trans (((cell_far (p := ⟨gb202, _, none⟩) (by first | exact Nat.ne_of_lt (Nat.lt_of_lt_of_le (by have := World.block_lt_of_cell? _ _ hw210_0; first | rwa [add_block] at this | exact this) GW202.out) | (rw [add_block]; exact Nat.ne_of_lt (Nat.lt_of_lt_of_le (by have := World.block_lt_of_cell? _ _ hw210_0; first | rwa [add_block] at this | exact this) GW202.out)) | (show (Addr.add _ _).block ≠ _; rw [add_block]; exact Nat.ne_of_lt (Nat.lt_of_lt_of_le (by have := World.block_lt_of_cell? _ _ hw210_0; first | rwa [add_block] at this | exact this) GW202.out)) | (dsimp only; exact Nat.ne_of_lt (Nat.lt_of_lt_of_le (by have := World.block_lt_of_cell? _ _ hw210_0; first | rwa [add_block] at this | exact this) GW202.out))) _).trans (((cell_far (p := ⟨gb202, _, none⟩) (by first | exact Nat.ne_of_lt (Nat.lt_of_lt_of_le (by have := World.block_lt_of_cell? _ _ hw210_0; first | rwa [add_block] at this | exact this) GW202.out) | (rw [add_block]; exact Nat.ne_of_lt (Nat.lt_of_lt_of_le (by have := World.block_lt_of_cell? _ _ hw210_0; first | rwa [add_block] at this | exact this) GW202.out)) | (show (Addr.add _ _).block ≠ _; rw [add_block]; exact Nat.ne_of_lt (Nat.lt_of_lt_of_le (by have := World.block_lt_of_cell? _ _ hw210_0; first | rwa [add_block] at this | exact this) GW202.out)) | (dsimp only; exact Nat.ne_of_lt (Nat.lt_of_lt_of_le (by have := World.block_lt_of_cell? _ _ hw210_0; first | rwa [add_block] at this | exact this) GW202.out))) _).trans (hHeld.2.2.2))))))⟩ (fun hHeld => ?_)
     clear hK K
     refine pS 23 5 24 16777215 ?_
     refine done_ (done_of HT_.out (by kernel_rfl)) ?_
     try go_wp2
     refine bodyPost_ret (results_ct rfl _ _ gb202 77 #[.int .i64 x6_1, .int .i64 x7_2, .int .i64 ji18] (0, 0) _ rfl (by (with_reducible repeat (first | refine blk_drewN ?_ _ | refine blk_drew ?_ | refine blk_alloc ?_ _)); refine blk_put (cs := #[.int .i64 x6_1, .int .i64 x7_2, .int .i64 x203002_2]) ?_ 2 _ rfl; (with_reducible repeat (first | refine blk_drewN ?_ _ | refine blk_drew ?_ | refine blk_alloc ?_ _)); refine blk_put (cs := #[.int .i64 x6_1, .int .i64 x203001_2, .int .i64 x203002_2]) ?_ 1 _ rfl; (with_reducible repeat (first | refine blk_drewN ?_ _ | refine blk_drew ?_ | refine blk_alloc ?_ _)); refine blk_put (cs := #[.int .i64 x203000_2, .int .i64 x203001_2, .int .i64 x203002_2]) ?_ 0 _ rfl; (with_reducible repeat (first | refine blk_drewN ?_ _ | refine blk_drew ?_ | refine blk_alloc ?_ _)); exact BK202.out) Try.underlying77 rfl (by kernel_rfl)) rfl ?_
     exact ⟨by first | rfl | (simp [errW_none, errW_some] <;> rfl) | (simp only [← hji18]; first | rfl | (simp [errW_none, errW_some] <;> rfl)) | (simp [*, errW_none, errW_some] <;> rfl), hbC _⟩

end Go.Proofs.Ytefmafbbnkkpjaa.X
