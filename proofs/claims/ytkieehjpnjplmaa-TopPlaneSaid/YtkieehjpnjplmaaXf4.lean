-- Written by a program of this work (wip/xprint.py, over the kit's printer) out of the translation.
import Derived.Test.YtkieehjpnjplmaaX0
namespace Go.Proofs.Ytkieehjpnjplmaa.X
open Go.RowKit Go.Proofs.YtkieehjpnjplmaaW.PrintWords Go.Proofs.YtkieehjpnjplmaaW.PrintLast Go.Proofs.YtkieehjpnjplmaaW.PrintMore
attribute [local go_sem] max2_int min2_int max_two min_two max_three min_three max_four min_four   -- for this text's walks alone
set_option linter.unusedVariables false
set_option linter.unusedSimpArgs false

/-! ### arrays_Lines: function 4 -/
mutual
def arrays_Lines.j0 : Nat → Int → Bool → Option (Int × (List (List Int)) × Int)
 | 0, _, _ => none
 | k + 1, x0, x14 => if x14 = true then (some (0, ([] : List (List Int)), 2)) else (arrays_Lines.l0 k x0 x0 0 x0 ([] : List (List Int)))
def arrays_Lines.l0 : Nat → Int → Int → Int → Int → List (List Int) → Option (Int × (List (List Int)) × Int)
 | 0, _, _, _, _, _ => none
 | k + 1, x0, x18, x19, x103000, x103001 => if x19 < x18 then (arrays_Lines.l1 k x0 x19 x18 x19 x0 0 x103000 x103001) else (some (x103000, x103001, 0))
def arrays_Lines.l1 : Nat → Int → Int → Int → Int → Int → Int → Int → List (List Int) → Option (Int × (List (List Int)) × Int)
 | 0, _, _, _, _, _, _, _, _ => none
 | k + 1, x0, x5, x18, x19, x22, x23, x103000, x103001 => if x23 < x22 then (arrays_Lines.l2 k x0 x5 x23 ([] : List Int) x18 x19 x22 x23 x0 0 x103000 x103001) else (arrays_Lines.l0 k x0 x18 (wrap64 (x19 + 1)) x103000 x103001)
def arrays_Lines.l2 : Nat → Int → Int → Int → List Int → Int → Int → Int → Int → Int → Int → Int → List (List Int) → Option (Int × (List (List Int)) × Int)
 | 0, _, _, _, _, _, _, _, _, _, _, _, _ => none
 | k + 1, x0, x5, x6, x7, x18, x19, x22, x23, x26, x27, x103000, x103001 => if x27 < x26 then (if x0 = 0 then (none) else (if x7.length < 17592186044416 then (arrays_Lines.l2 k x0 x5 x6 (x7 ++ [Int.tmod (wrap64 ((wrap64 (x5 * x27)) + x6)) x0]) x18 x19 x22 x23 x26 (wrap64 (x27 + 1)) x103000 x103001) else (none))) else (if x7.length < 17592186044416 then (if x103001.length < 5864062014805 then (arrays_Lines.l1 k x0 x5 x18 x19 x22 (wrap64 (x23 + 1)) x103000 (x103001 ++ [(x7 ++ [x5])])) else (none)) else (none))
end
def arrays_Lines.f (k : Nat) (a0 : Int) : Option (Int × (List (List Int)) × Int) := if a0 < 2 then (arrays_Lines.j0 k a0 true) else (arrays_Lines.j0 k a0 (decide (a0 > 3)))
theorem arrays_Lines.mono_l : ∀ k, (∀ y0 y1, LeO (arrays_Lines.j0 k y0 y1) (arrays_Lines.j0 (k + 1) y0 y1)) ∧ (∀ y0 y1 y2 y3 y4, LeO (arrays_Lines.l0 k y0 y1 y2 y3 y4) (arrays_Lines.l0 (k + 1) y0 y1 y2 y3 y4)) ∧ (∀ y0 y1 y2 y3 y4 y5 y6 y7, LeO (arrays_Lines.l1 k y0 y1 y2 y3 y4 y5 y6 y7) (arrays_Lines.l1 (k + 1) y0 y1 y2 y3 y4 y5 y6 y7)) ∧ (∀ y0 y1 y2 y3 y4 y5 y6 y7 y8 y9 y10 y11, LeO (arrays_Lines.l2 k y0 y1 y2 y3 y4 y5 y6 y7 y8 y9 y10 y11) (arrays_Lines.l2 (k + 1) y0 y1 y2 y3 y4 y5 y6 y7 y8 y9 y10 y11))
 | 0 => ⟨fun _ _ r h => by simp [arrays_Lines.j0] at h, fun _ _ _ _ _ r h => by simp [arrays_Lines.l0] at h, fun _ _ _ _ _ _ _ _ r h => by simp [arrays_Lines.l1] at h, fun _ _ _ _ _ _ _ _ _ _ _ _ r h => by simp [arrays_Lines.l2] at h⟩
 | k + 1 => by
  obtain ⟨ih0, ih1, ih2, ih3⟩ := arrays_Lines.mono_l k
  refine ⟨?_, ?_, ?_, ?_⟩
  ·intro y0 y1
   unfold arrays_Lines.j0
   repeat' first
   | (with_reducible exact ih0 _ _)
   | (with_reducible exact ih1 _ _ _ _ _)
   | (with_reducible exact ih2 _ _ _ _ _ _ _ _)
   | (with_reducible exact ih3 _ _ _ _ _ _ _ _ _ _ _ _)
   | (with_reducible exact LeO.refl _)
   | (with_reducible exact LeO.none _)
   | (with_reducible refine LeO.ite ?_ ?_)
   | (with_reducible refine LeO.bind ?_ (fun _ => ?_))
   | exact ih0 _ _
   | exact ih1 _ _ _ _ _
   | exact ih2 _ _ _ _ _ _ _ _
   | exact ih3 _ _ _ _ _ _ _ _ _ _ _ _
   | exact LeO.none _
   | refine LeO.ite ?_ ?_
   | refine LeO.bind ?_ (fun _ => ?_)
  ·intro y0 y1 y2 y3 y4
   unfold arrays_Lines.l0
   repeat' first
   | (with_reducible exact ih0 _ _)
   | (with_reducible exact ih1 _ _ _ _ _)
   | (with_reducible exact ih2 _ _ _ _ _ _ _ _)
   | (with_reducible exact ih3 _ _ _ _ _ _ _ _ _ _ _ _)
   | (with_reducible exact LeO.refl _)
   | (with_reducible exact LeO.none _)
   | (with_reducible refine LeO.ite ?_ ?_)
   | (with_reducible refine LeO.bind ?_ (fun _ => ?_))
   | exact ih0 _ _
   | exact ih1 _ _ _ _ _
   | exact ih2 _ _ _ _ _ _ _ _
   | exact ih3 _ _ _ _ _ _ _ _ _ _ _ _
   | exact LeO.none _
   | refine LeO.ite ?_ ?_
   | refine LeO.bind ?_ (fun _ => ?_)
  ·intro y0 y1 y2 y3 y4 y5 y6 y7
   unfold arrays_Lines.l1
   repeat' first
   | (with_reducible exact ih0 _ _)
   | (with_reducible exact ih1 _ _ _ _ _)
   | (with_reducible exact ih2 _ _ _ _ _ _ _ _)
   | (with_reducible exact ih3 _ _ _ _ _ _ _ _ _ _ _ _)
   | (with_reducible exact LeO.refl _)
   | (with_reducible exact LeO.none _)
   | (with_reducible refine LeO.ite ?_ ?_)
   | (with_reducible refine LeO.bind ?_ (fun _ => ?_))
   | exact ih0 _ _
   | exact ih1 _ _ _ _ _
   | exact ih2 _ _ _ _ _ _ _ _
   | exact ih3 _ _ _ _ _ _ _ _ _ _ _ _
   | exact LeO.none _
   | refine LeO.ite ?_ ?_
   | refine LeO.bind ?_ (fun _ => ?_)
  ·intro y0 y1 y2 y3 y4 y5 y6 y7 y8 y9 y10 y11
   unfold arrays_Lines.l2
   repeat' first
   | (with_reducible exact ih0 _ _)
   | (with_reducible exact ih1 _ _ _ _ _)
   | (with_reducible exact ih2 _ _ _ _ _ _ _ _)
   | (with_reducible exact ih3 _ _ _ _ _ _ _ _ _ _ _ _)
   | (with_reducible exact LeO.refl _)
   | (with_reducible exact LeO.none _)
   | (with_reducible refine LeO.ite ?_ ?_)
   | (with_reducible refine LeO.bind ?_ (fun _ => ?_))
   | exact ih0 _ _
   | exact ih1 _ _ _ _ _
   | exact ih2 _ _ _ _ _ _ _ _
   | exact ih3 _ _ _ _ _ _ _ _ _ _ _ _
   | exact LeO.none _
   | refine LeO.ite ?_ ?_
   | refine LeO.bind ?_ (fun _ => ?_)
theorem arrays_Lines.mono : ∀ a0 k, LeO (arrays_Lines.f k a0) (arrays_Lines.f (k + 1) a0) := by
 intro a0 k
 obtain ⟨ih0, ih1, ih2, ih3⟩ := arrays_Lines.mono_l k
 unfold arrays_Lines.f
 repeat' first
   | (with_reducible exact ih0 _ _)
   | (with_reducible exact ih1 _ _ _ _ _)
   | (with_reducible exact ih2 _ _ _ _ _ _ _ _)
   | (with_reducible exact ih3 _ _ _ _ _ _ _ _ _ _ _ _)
   | (with_reducible exact LeO.refl _)
   | (with_reducible exact LeO.none _)
   | (with_reducible refine LeO.ite ?_ ?_)
   | (with_reducible refine LeO.bind ?_ (fun _ => ?_))
   | exact ih0 _ _
   | exact ih1 _ _ _ _ _
   | exact ih2 _ _ _ _ _ _ _ _
   | exact ih3 _ _ _ _ _ _ _ _ _ _ _ _
   | exact LeO.none _
   | refine LeO.ite ?_ ?_
   | refine LeO.bind ?_ (fun _ => ?_)
def arrays_Lines.T16 : Bool × List (List Nat × List Nat) := (true, [([], []), ([0], [0]), ([], []), ([], []), ([3], [3]), ([2, 4], [2, 4]), ([5], [5]), ([1, 6, 5], [1, 6]), ([0, 1, 2, 3, 4, 5, 6, 7], []), ([8, 7, 7, 0, 1, 2, 3, 4, 5, 6, 7], [7, 8])])
def arrays_Lines.B16 : List Nat := [0, 1, 0, 0, 8, 28, 60, 127, 255, 511]
theorem arrays_Lines.tab16 : rtab .any (opsOf Try.f4 16) = arrays_Lines.T16 := by kernel_rfl
theorem arrays_Lines.bits16 : waitsOk arrays_Lines.T16.2 arrays_Lines.B16 = true := by kernel_rfl
set_option maxHeartbeats 8000000 in
set_option maxRecDepth 100000 in
theorem arrays_Lines.calls (k : Nat) (a0 : Int) (r1 : Int) (r2 : List (List Int)) (r3 : Int) (w : World) (h : arrays_Lines.f k a0 = some (r1, r2, r3)) :
  Calls Try.prog 4 #[.int .i64 a0] w fun e w' => ∃ v1_ : Value, e = .returned (.tuple #[.agg #[.int .i64 r1, v1_], .int .i64 r3]) ∧ Kd.S (Kd.slice 3 (Kd.int .i64)) 22 w' w.heap.size (fun _ => True) v1_ r2 ∧ Below w.heap.size w w' := by
 have hu25 := Try.underlying25
 have HB := ak (Below.refl w.heap.size w)
 have H : (if a0 < 2 then (arrays_Lines.j0 k a0 true) else (arrays_Lines.j0 k a0 (decide (a0 > 3)))) = some (r1, r2, r3) := h
 clear h
 have HC2 := Aside0.mk H
 clear H
 go_enter Try.func4, Try.ntmps4
 go_upto_region 1 with (first | ((with_reducible refine gate_dst (N := 2) rfl ?_); refine bE 2 #[.int .i64 0, .slice none 0 0] 25 ?_; intro gb101 hg w3 hbox hb; have BK101 := ak (hbox); have GW101 := kG w hg; have GE101 := kG w hg; replace HB := kH _ hb; clear hb hbox hg))
 (try simp only [Act.put, List.setIfInBounds_toArray, List.set_cons_zero, List.set_cons_succ])
 go_cut [14] (fun v14 wc => ∃ (kq : Nat) (x14_1 : Bool), v14 = .bool x14_1 ∧ Aside0 (arrays_Lines.j0 kq a0 x14_1 = some (r1, r2, r3)) ∧ Aside0 (kq ≤ k) ∧ Aside0 (wc.heap[gb101]? = some (.cells #[.int .i64 0, (.slice none 0 0)] 25 (0, 0))) ∧ Aside0 (Below w.heap.size w wc))
 case first =>
  have H := HC2.out
  clear HC2
  by_cases c4 : a0 < 2
  ·rw [if_pos c4] at H
   have c4b0 : decide (a0 < 2) = true := decide_eq_true c4
   clear c4
   (first | rw [c4b0] | (simp only [i64_w, i32_w]; rw [c4b0]) | skip)
   have H' := Aside0.mk H
   clear H
   go_wp2
   go_meet
   case rel => exact ⟨_, (true), (by first | rfl | (simp; done) | (simp [*]; done)), H', ⟨by first | omega | exact Nat.le_refl _⟩, ⟨bkC BK101⟩, ⟨hbC _⟩⟩
  rw [if_neg c4] at H
  have c4b0 : decide (a0 < 2) = false := decide_eq_false c4
  clear c4
  (first | rw [c4b0] | (simp only [i64_w, i32_w]; rw [c4b0]) | skip)
  have H' := Aside0.mk H
  clear H
  go_wp2
  go_meet
  case rel => exact ⟨_, (decide (a0 > 3)), (by first | rfl | (simp; done) | (simp [*]; done)), H', ⟨by first | omega | exact Nat.le_refl _⟩, ⟨bkC BK101⟩, ⟨hbC _⟩⟩
 case rest =>
  clear HC2
  try clear p2
  try clear c4
  try clear c4b0
  obtain ⟨kq, x14_1, rfl, HA, HJ1, BK101, HB⟩ := hcut
  cases kq with
  | zero => exact absurd HA.out (by simp [arrays_Lines.j0])
  | succ kj1 =>
   have H := HA.out
   clear HA
   simp only [arrays_Lines.j0] at H
   by_cases c5 : x14_1 = true
   ·subst c5
    have H1 : (some (0, ([] : List (List Int)), 2)) = some (r1, r2, r3) := by rw [if_pos rfl] at H; exact H
    clear H
    have H := H1
    clear H1
    simp only [Option.some.injEq, Prod.mk.injEq] at H
    obtain ⟨rfl, rfl, rfl⟩ := H
    have hcz6_0 : wc.cell? ⟨gb101, 0, none⟩ = some (.int .i64 0) := bc BK101 0
    have hcz6_1 : wc.cell? ⟨gb101, 1, none⟩ = some (.slice none 0 0) := bc BK101 1
    have hfz6_0 := fz BK101 0
    have hfz6_1 := fz BK101 1
    go_wp2
    refine bodyPost_ret (results_ct rfl _ _ gb101 25 #[.int .i64 0, .slice none 0 0] (0, 0) _ rfl (by (with_reducible repeat (first | refine blk_drewN ?_ _ | refine blk_drew ?_ | refine blk_alloc ?_ _)); refine blk_put (cs := #[.int .i64 0, .slice none 0 0]) ?_ 1 _ rfl; (with_reducible repeat (first | refine blk_drewN ?_ _ | refine blk_drew ?_ | refine blk_alloc ?_ _)); refine blk_put (cs := #[.int .i64 0, .slice none 0 0]) ?_ 0 _ rfl; (with_reducible repeat (first | refine blk_drewN ?_ _ | refine blk_drew ?_ | refine blk_alloc ?_ _)); exact BK101.out) Try.underlying25 rfl (by kernel_rfl)) rfl ?_
    exact ⟨_, by first | rfl | (simp [errW_none, errW_some] <;> rfl) | (simp [*, errW_none, errW_some] <;> rfl), by first | exact Kd.S_nil _ _ _ _ _ | exact Kd.N_nil _ _ _ _ _ | exact Kd.V_nil _ _ _ _ _ | exact Kd.Q_nil _ _ _ _ _ | exact Kd.R_nil _ _ _ _ _, hbC _⟩
   replace c5 := Bool.eq_false_iff.mpr c5
   subst c5
   have H1 : (arrays_Lines.l0 kj1 a0 a0 0 a0 ([] : List (List Int))) = some (r1, r2, r3) := by rw [if_neg (show ¬ (false = true) by decide)] at H; exact H
   clear H
   have H := H1
   clear H1
   have H' := Aside0.mk H
   clear H
   go_wp2_with (first | ((with_reducible refine gate_dst (N := 4) rfl ?_); refine bE 4 #[.int .i64 0, .slice none 0 0] 25 ?_; intro gb102 hg w7 hbox hb; have BK102 := ak (hbox); have GW102 := kG w hg; have GE102 := kG w hg; replace HB := kH _ hb; have NB101_102 := kL BK101 hg; have NB102_101 := kR BK101 hg; replace BK101 := kB BK101 hb; clear hb hbox hg; have hnb8 := NB102_101.out; have hnc8 := NB101_102.out; have hcz9_0 : w7.cell? ⟨gb102, 0, none⟩ = some (.int .i64 0) := bc BK102 0; have hcz9_1 : w7.cell? ⟨gb102, 1, none⟩ = some (.slice none 0 0) := bc BK102 1; have hfz9_0 := fz BK102 0; have hfz9_1 := fz BK102 1))
   go_loopg [19] kj1 (fun kq v19 w' => ∃ (x19_2 : Int) (x103001_2 : List (List Int)) (u103001 : Value), v19 = .int .i64 x19_2 ∧ Aside0 (arrays_Lines.l0 kq a0 a0 x19_2 a0 x103001_2 = some (r1, r2, r3)) ∧ Aside0 (kq ≤ kj1) ∧ Aside0 (Kd.S (Kd.slice 3 (Kd.int .i64)) 22 w' w.heap.size (fun _ => True) u103001 x103001_2) ∧ Aside0 (w'.heap[gb101]? = some (.cells #[.int .i64 0, (.slice none 0 0)] 25 (0, 0))) ∧ Aside0 (w'.heap[gb102]? = some (.cells #[.int .i64 a0, u103001] 25 (0, 0))) ∧ Aside0 (Below w.heap.size w w'))
   case atStart => exact ⟨(0), (([] : List (List Int))), (.slice none 0 0), (by first | rfl | (simp; done) | (simp [*]; done)), H', ⟨Nat.le_refl _⟩, ⟨by first | exact Kd.S_nil _ _ _ _ _ | exact Kd.N_nil _ _ _ _ _ | exact Kd.V_nil _ _ _ _ _ | exact Kd.Q_nil _ _ _ _ _ | exact Kd.R_nil _ _ _ _ _⟩, ⟨bF BK101⟩, ⟨by (with_reducible repeat (first | refine blk_drewN ?_ _ | refine blk_drew ?_ | refine blk_alloc ?_ _)); refine blk_put (cs := #[.int .i64 a0, .slice none 0 0]) ?_ 1 _ rfl; (with_reducible repeat (first | refine blk_drewN ?_ _ | refine blk_drew ?_ | refine blk_alloc ?_ _)); refine blk_put (cs := #[.int .i64 0, .slice none 0 0]) ?_ 0 _ rfl; (with_reducible repeat (first | refine blk_drewN ?_ _ | refine blk_drew ?_ | refine blk_alloc ?_ _)); exact BK102.out⟩, ⟨hbC _⟩⟩
   case round =>
    clear H'
    try clear p2
    try clear c4
    try clear c4b0
    try clear c5
    try clear c8
    try clear hcz6_0
    try clear hcz6_1
    try clear hcz9_0
    try clear hcz9_1
    try clear hfz6_0
    try clear hfz6_1
    try clear hfz9_0
    try clear hfz9_1
    try clear p2
    obtain ⟨x19_2, x103001_2, u103001, rfl, HA, HK2, HO_103001, BK101, BK102, HB⟩ := hrel
    cases gk with
    | zero => exact absurd HA.out (by simp [arrays_Lines.l0])
    | succ k2 =>
     have H := HA.out
     clear HA
     simp only [arrays_Lines.l0] at H
     by_cases c10 : x19_2 < a0
     rotate_left
     ·rw [if_neg c10] at H
      have c10b0 : decide (x19_2 < a0) = false := decide_eq_false c10
      clear c10
      simp only [Option.some.injEq, Prod.mk.injEq] at H
      obtain ⟨rfl, rfl, rfl⟩ := H
      have hnb24 := NB102_101.out
      have hnc24 := NB101_102.out
      have hcz25_0 : wr.cell? ⟨gb102, 0, none⟩ = some (.int .i64 a0) := bc BK102 0
      have hcz25_1 : wr.cell? ⟨gb102, 1, none⟩ = some (u103001) := bc BK102 1
      have hfz25_0 := fz BK102 0
      have hfz25_1 := fz BK102 1
      have hcz26_0 : wr.cell? ⟨gb101, 0, none⟩ = some (.int .i64 0) := bc BK101 0
      have hcz26_1 : wr.cell? ⟨gb101, 1, none⟩ = some (.slice none 0 0) := bc BK101 1
      have hfz26_0 := fz BK101 0
      have hfz26_1 := fz BK101 1
      obtain ⟨Ao27, co27, eo27⟩ := Kd.S_slice HO_103001.out
      subst eo27
      go_wp2
      refine bodyPost_ret (results_ct rfl _ _ gb101 25 #[.int .i64 a0, .slice Ao27 x103001_2.length co27] (0, 0) _ rfl (by (with_reducible repeat (first | refine blk_drewN ?_ _ | refine blk_drew ?_ | refine blk_alloc ?_ _)); refine blk_put (cs := #[.int .i64 a0, .slice none 0 0]) ?_ 1 _ rfl; (with_reducible repeat (first | refine blk_drewN ?_ _ | refine blk_drew ?_ | refine blk_alloc ?_ _)); refine blk_put (cs := #[.int .i64 0, .slice none 0 0]) ?_ 0 _ rfl; (with_reducible repeat (first | refine blk_drewN ?_ _ | refine blk_drew ?_ | refine blk_alloc ?_ _)); exact BK101.out) Try.underlying25 rfl (by kernel_rfl)) rfl ?_
      exact ⟨_, by first | rfl | (simp [errW_none, errW_some] <;> rfl) | (simp [*, errW_none, errW_some] <;> rfl), by (with_reducible repeat (first | apply Kd.S_alloc | apply Kd.S_drewN | apply Kd.S_drew)); exact Kd.S_mono (Kd.S_far (p := ⟨gb101, 1, none⟩) (Kd.S_far (p := ⟨gb101, 0, none⟩) (Kd.S_types HO_103001.out BK101.out (by decide)) (fun _ hk => hk.2) (.int .i64 a0)) (fun _ hk => hk.2) (.slice Ao27 x103001_2.length co27)) (fun _ hk => trivial), hbC _⟩
     rw [if_pos c10] at H
     have c10b0 : decide (x19_2 < a0) = true := decide_eq_true c10
     clear c10
     have H' := Aside0.mk H
     clear H
     go_wp2
     go_loopg [23] k2 (fun kq v23 w' => ∃ (x23_3 : Int) (x103001_3 : List (List Int)) (u103001 : Value), v23 = .int .i64 x23_3 ∧ Aside0 (arrays_Lines.l1 kq a0 x19_2 a0 x19_2 a0 x23_3 a0 x103001_3 = some (r1, r2, r3)) ∧ Aside0 (kq ≤ k2) ∧ Aside0 (Kd.S (Kd.slice 3 (Kd.int .i64)) 22 w' w.heap.size (fun _ => True) u103001 x103001_3) ∧ Aside0 (w'.heap[gb101]? = some (.cells #[.int .i64 0, (.slice none 0 0)] 25 (0, 0))) ∧ Aside0 (w'.heap[gb102]? = some (.cells #[.int .i64 a0, u103001] 25 (0, 0))) ∧ Aside0 (Below w.heap.size w w'))
     case atStart => exact ⟨(0), (x103001_2), (u103001), (by first | rfl | (simp; done) | (simp [*]; done)), H', ⟨Nat.le_refl _⟩, ⟨by (with_reducible repeat (first | apply Kd.S_alloc | apply Kd.S_drewN | apply Kd.S_drew)); exact HO_103001.out⟩, ⟨bkC BK101⟩, ⟨bkC BK102⟩, ⟨hbC _⟩⟩
     case round =>
      clear H'
      try clear c1
      try clear p2
      try clear c4
      try clear c4b0
      try clear c5
      try clear c8
      try clear c10
      try clear c10b0
      try clear hcz6_0
      try clear hcz6_1
      try clear hcz9_0
      try clear hcz9_1
      try clear hfz6_0
      try clear hfz6_1
      try clear hfz9_0
      try clear hfz9_1
      try clear p2
      obtain ⟨x23_3, x103001_3, u103001, rfl, HA, HK3, HO_103001, BK101, BK102, HB⟩ := hrel
      cases gk with
      | zero => exact absurd HA.out (by simp [arrays_Lines.l1])
      | succ k3 =>
       have H := HA.out
       clear HA
       simp only [arrays_Lines.l1] at H
       by_cases c11 : x23_3 < a0
       rotate_left
       ·rw [if_neg c11] at H
        have c11b0 : decide (x23_3 < a0) = false := decide_eq_false c11
        clear c11
        have H' := Aside0.mk H
        clear H
        go_wp2
        go_roundg k3
        case measure => have := HJ1.out; have := HK2.out; have := HK3.out; omega
        case rel => exact ⟨(wrap64 (x19_2 + 1)), (x103001_3), (u103001), (by first | rfl | (simp; done) | (simp [*]; done)), H', ⟨by have := HJ1.out; have := HK2.out; have := HK3.out; omega⟩, ⟨by (with_reducible repeat (first | apply Kd.S_alloc | apply Kd.S_drewN | apply Kd.S_drew)); exact HO_103001.out⟩, ⟨bkC BK101⟩, ⟨bkC BK102⟩, ⟨hbC _⟩⟩
       rw [if_pos c11] at H
       have c11b0 : decide (x23_3 < a0) = true := decide_eq_true c11
       clear c11
       have H' := Aside0.mk H
       clear H
       go_wp2
       go_loopg [7, 27] k3 (fun kq v7 v27 w' => ∃ (x7_4 : List Int) (x27_4 : Int), v27 = .int .i64 x27_4 ∧ Aside0 (arrays_Lines.l2 kq a0 x19_2 x23_3 x7_4 a0 x19_2 a0 x23_3 a0 x27_4 a0 x103001_3 = some (r1, r2, r3)) ∧ Aside0 (kq ≤ k3) ∧ Aside0 (Kd.R (Kd.int .i64) 3 w' w.heap.size (fun _ => True) v7 x7_4) ∧ Aside0 (Kd.S (Kd.slice 3 (Kd.int .i64)) 22 w' w.heap.size (fun k_ => nb k_ v7) u103001 x103001_3) ∧ Aside0 (w'.heap[gb101]? = some (.cells #[.int .i64 0, (.slice none 0 0)] 25 (0, 0))) ∧ Aside0 (w'.heap[gb102]? = some (.cells #[.int .i64 a0, u103001] 25 (0, 0))) ∧ Aside0 (Below w.heap.size w w'))
       case atStart => exact ⟨(([] : List Int)), (0), (by first | rfl | (simp; done) | (simp [*]; done)), H', ⟨Nat.le_refl _⟩, ⟨by first | exact Kd.R_nil _ _ _ _ _ | exact Kd.N_nil _ _ _ _ _ | exact Kd.V_nil _ _ _ _ _ | exact Kd.Q_nil _ _ _ _ _ | exact Kd.S_nil _ _ _ _ _⟩, ⟨by (with_reducible repeat (first | apply Kd.S_alloc | apply Kd.S_drewN | apply Kd.S_drew)); exact Kd.S_mono HO_103001.out (fun _ hk => (by simp [Value.ownBlock]))⟩, ⟨bkC BK101⟩, ⟨bkC BK102⟩, ⟨hbC _⟩⟩
       case round =>
        clear H'
        try clear c1
        try clear p2
        try clear c4
        try clear c4b0
        try clear c5
        try clear c8
        try clear c10
        try clear c10b0
        try clear c11
        try clear c11b0
        try clear hcz6_0
        try clear hcz6_1
        try clear hcz9_0
        try clear hcz9_1
        try clear hfz6_0
        try clear hfz6_1
        try clear hfz9_0
        try clear hfz9_1
        try clear p2
        obtain ⟨x7_4, x27_4, rfl, HA, HK4, HO_7, HO_103001, BK101, BK102, HB⟩ := hrel
        cases gk with
        | zero => exact absurd HA.out (by simp [arrays_Lines.l2])
        | succ k4 =>
         have H := HA.out
         clear HA
         simp only [arrays_Lines.l2] at H
         by_cases c12 : x27_4 < a0
         ·rw [if_pos c12] at H
          have c12b0 : decide (x27_4 < a0) = true := decide_eq_true c12
          clear c12
          by_cases c13 : a0 = 0
          ·rw [if_pos c13] at H
           exact absurd H (by simp)
          rw [if_neg c13] at H
          have c13b0 : (a0 == 0) = false := beq_eq_false_iff_ne.mpr c13
          have c13b1 : (a0 != 0) = true := bne_iff_ne.mpr c13
          by_cases c14 : x7_4.length < 17592186044416
          rotate_left
          ·rw [if_neg c14] at H
           exact absurd H (by simp)
          rw [if_pos c14] at H
          have LMc14 := Aside0.mk c14
          clear c14
          obtain ⟨y103, hy103⟩ : ∃ y_ : List Int, y_ = (x7_4 ++ [Int.tmod (wrap64 ((wrap64 (x19_2 * x27_4)) + x23_3)) a0]) := ⟨_, rfl⟩
          replace H : (arrays_Lines.l2 k4 a0 x19_2 x23_3 y103 a0 x19_2 a0 x23_3 a0 (wrap64 (x27_4 + 1)) a0 x103001_3) = some (r1, r2, r3) := by first | (rw [hy103]; with_reducible exact H) | (have H2_ := (Option.bind_some _ _).symm.trans H; rw [hy103]; with_reducible exact H2_) | (have H2_ := (Option.bind_some _ _).symm.trans H; with_reducible exact H2_) | with_reducible exact H | (rw [hy103]; exact H) | exact H
          have Ny103 := Aside0.mk hy103
          clear hy103
          have H' := Aside0.mk H
          clear H
          go_wp2_with (first | ((with_reducible refine gate_builtin (b := .append) (xs := #[.tmp 30, .tmp 38]) rfl ?_); at_builtin; refine Kd.R_append (Kd.int .i64) (w0 := w) w.heap.size rfl (.tmp 30) (.tmp 38) 22 3 (.int .i64 0) 8 rfl Try.underlying22 info3 rfl (by decide) (by omega) u7 x7_4 (Int.tmod (wrap64 ((wrap64 (x19_2 * x27_4)) + x23_3)) a0) [.int .i64 (Int.tmod (wrap64 ((wrap64 (x19_2 * x27_4)) + x23_3)) a0)] (fun _ => True) (fun _ => False) rfl rfl ?aP (fun _ hk => hk.elim) ?aF ?aO ?aB ?aS ?aL ?_; (case aP => exact rfl); (case aB => exact (hbC _)); (case aF => exact (fun _ _ => trivial)); (case aO => exact (rC HO_7)); (case aS => exact (below_size (hbC _))); (case aL => have := LMc14.out; omega); intro v104 w15 ho hb hg hat; rw [← Ny103.out] at ho; have n0_ := ak (Kd.S_after (ok := (fun _ => True)) (by (with_reducible repeat (first | apply Kd.S_alloc | apply Kd.S_drewN | apply Kd.S_drew)); exact Kd.S_mono HO_103001.out (fun _ hk => ⟨trivial, hk⟩)) hg hat); have n1_ := ak (blk_grown (g := gb101) (o := .cells #[.int .i64 0, .slice none 0 0] 25 (0, 0)) (bkC BK101) hg (Kd.R_ne HO_7.out BK101.out (by decide))); have n2_ := ak (blk_grown (g := gb102) (o := .cells #[.int .i64 a0, u103001] 25 (0, 0)) (bkC BK102) hg (Kd.R_ne HO_7.out BK102.out (by decide))); have n3_ := ak (hb); have n4_ := ak (ho); clear HO_103001; clear BK101; clear BK102; clear HB; clear HO_7; have HO_103001 := n0_; have BK101 := n1_; have BK102 := n2_; have HB := n3_; have HO105 := n4_; clear n0_ n1_ n2_ n3_ n4_; clear ho hb hg hat))
          go_roundg k4
          case measure => have := HJ1.out; have := HK2.out; have := HK3.out; have := HK4.out; omega
          case rel => exact ⟨(y103), (wrap64 (x27_4 + 1)), (by first | rfl | (simp; done) | (simp [*]; done)), H', ⟨by have := HJ1.out; have := HK2.out; have := HK3.out; have := HK4.out; omega⟩, ⟨rC HO105⟩, ⟨by (with_reducible repeat (first | apply Kd.S_alloc | apply Kd.S_drewN | apply Kd.S_drew)); exact Kd.S_mono HO_103001.out (fun _ hk => hk.2)⟩, ⟨bkC BK101⟩, ⟨bkC BK102⟩, ⟨hbC _⟩⟩
         rw [if_neg c12] at H
         have c12b0 : decide (x27_4 < a0) = false := decide_eq_false c12
         clear c12
         by_cases c16 : x7_4.length < 17592186044416
         rotate_left
         ·rw [if_neg c16] at H
          exact absurd H (by simp)
         rw [if_pos c16] at H
         have LMc16 := Aside0.mk c16
         clear c16
         obtain ⟨y106, hy106⟩ : ∃ y_ : List Int, y_ = (x7_4 ++ [x19_2]) := ⟨_, rfl⟩
         replace H : (if x103001_3.length < 5864062014805 then (arrays_Lines.l1 k4 a0 x19_2 a0 x19_2 a0 (wrap64 (x23_3 + 1)) a0 (x103001_3 ++ [y106])) else (none)) = some (r1, r2, r3) := by first | (rw [hy106]; with_reducible exact H) | (have H2_ := (Option.bind_some _ _).symm.trans H; rw [hy106]; with_reducible exact H2_) | (have H2_ := (Option.bind_some _ _).symm.trans H; with_reducible exact H2_) | with_reducible exact H | (rw [hy106]; exact H) | exact H
         have Ny106 := Aside0.mk hy106
         clear hy106
         by_cases c17 : x103001_3.length < 5864062014805
         rotate_left
         ·rw [if_neg c17] at H
          exact absurd H (by simp)
         rw [if_pos c17] at H
         have LMc17 := Aside0.mk c17
         clear c17
         obtain ⟨y109, hy109⟩ : ∃ y_ : List (List Int), y_ = (x103001_3 ++ [y106]) := ⟨_, rfl⟩
         replace H : (arrays_Lines.l1 k4 a0 x19_2 a0 x19_2 a0 (wrap64 (x23_3 + 1)) a0 y109) = some (r1, r2, r3) := by first | (rw [hy109]; with_reducible exact H) | (have H2_ := (Option.bind_some _ _).symm.trans H; rw [hy109]; with_reducible exact H2_) | (have H2_ := (Option.bind_some _ _).symm.trans H; with_reducible exact H2_) | with_reducible exact H | (rw [hy109]; exact H) | exact H
         have Ny109 := Aside0.mk hy109
         clear hy109
         have H' := Aside0.mk H
         clear H
         try go_wp2
         replace HO_7 := ak (Kd.R_drew HO_7.out)
         replace HO_103001 := ak (Kd.S_drew HO_103001.out)
         replace BK101 := kd BK101
         replace BK102 := kd BK102
         replace HB := ak (below_drew1 HB.out)
         refine sS (n := 10) (S := fun w' => w'.cell? ⟨gb102, 0, none⟩ = some (.int .i64 a0) ∧ w'.cell? ⟨gb102, 1, none⟩ = some (u103001)) (ds := [9]) ⟨bc BK102 0, bc BK102 1⟩ (fun hHeld => ?_); refine with_tabW arrays_Lines.tab16 arrays_Lines.bits16 (fun HT_ HW_ => ?_)
         generalize wr.drew = w18 at HO_7 HO_103001 BK101 BK102 HB hHeld ⊢
         refine pS 0 41 10 1 ?_
         refine pS 2 43 10 5 ?_
         refine pS 3 44 10 13 ?_
         refine tS 1 42 10 15 ?_
         refine one_ (i := 4) (N := some 45) (ba 10 31) rfl rfl (one_of HT_.out (by kernel_rfl)) (by decide) (fun K hK => ?_)
         refine value_ (w1 := ?_) (v := ?_) (by rfl) rfl ?_ ?_
         rotate_left 2
         ·go_simp
          constructor
          ·rfl
          ·rfl
         refine hK.out _ _ ⟨(blk_cell (blk_alloc BK102.out _) 0).trans rfl, (blk_cell (blk_alloc BK102.out _) 1).trans rfl⟩ (fun hHeld => ?_)
         clear hK K
         refine norm_ (a' := ?_) ?_ ?_
         rotate_left
         ·show Act.put _ (some 45) _ = _
          simp only [Act.put, List.setIfInBounds_toArray, List.set_cons_zero, List.set_cons_succ, i64_w, i32_w]
          rfl
         refine one_ (i := 5) (N := some 46) (ba 10 63) rfl rfl (one_of HT_.out (by kernel_rfl)) (by decide) (fun K hK => ?_)
         refine Kd.R_append_step (Kd.int .i64) (w0 := w) w.heap.size (by rfl) (.tmp 43) (.tmp 45) 22 3 (.int .i64 0) 8 rfl Try.underlying22 info3 rfl (by decide) (by omega) u7 x7_4 x19_2 [.int .i64 x19_2] (fun _ => True) (fun _ => False) rfl rfl ?aP (fun _ hk => hk.elim) ?aF ?aO ?aB ?aS ?aL ?_
         (case aP => exact rfl)
         (case aB => exact (hbC _))
         (case aF => exact (fun _ _ => trivial))
         (case aO => exact (rC HO_7))
         (case aS => exact (below_size (hbC _)))
         (case aL => have := LMc16.out; omega)
         intro v107 w19 ho hb hg hat
         rw [← Ny106.out] at ho
         have n0_ := ak (Kd.S_after (ok := (fun _ => True)) (by (with_reducible repeat (first | apply Kd.S_alloc | apply Kd.S_drewN | apply Kd.S_drew)); exact Kd.S_mono HO_103001.out (fun _ hk => ⟨trivial, hk⟩)) hg hat)
         have n1_ := ak (blk_grown (g := gb101) (o := .cells #[.int .i64 0, .slice none 0 0] 25 (0, 0)) (bkC BK101) hg (Kd.R_ne HO_7.out BK101.out (by decide)))
         have n2_ := ak (blk_grown (g := gb102) (o := .cells #[.int .i64 a0, u103001] 25 (0, 0)) (bkC BK102) hg (Kd.R_ne HO_7.out BK102.out (by decide)))
         have n3_ := ak (hb)
         have n4_ := ak (ho)
         clear HO_103001
         clear BK101
         clear BK102
         clear HB
         clear HO_7
         have HO_103001 := n0_
         have BK101 := n1_
         have BK102 := n2_
         have HB := n3_
         have HO108 := n4_
         clear n0_ n1_ n2_ n3_ n4_
         clear ho hb hg hat
         obtain ⟨Ao21, co21, eo21⟩ := Kd.R_slice HO108.out
         (first | subst eo21 | (injection eo21 with f1_ f2_ f3_; have f4_ := f1_.symm; have f5_ := f3_.symm; clear f1_ f2_ f3_; subst f4_; subst f5_))
         refine hK.out _ _ ⟨bc BK102 0, bc BK102 1⟩ (fun hHeld => ?_)
         clear hK K
         refine norm_ (a' := ?_) ?_ ?_
         rotate_left
         ·show Act.put _ (some 46) _ = _
          simp only [Act.put, List.setIfInBounds_toArray, List.set_cons_zero, List.set_cons_succ, i64_w, i32_w]
          rfl
         refine one_ (i := 6) (N := some 47) (ba 10 127) rfl rfl (one_of HT_.out (by kernel_rfl)) (by decide) (fun K hK => ?_)
         refine value_ (w1 := ?_) (v := ?_) (by rfl) rfl ?_ ?_
         rotate_left 2
         ·go_simp
          constructor
          ·rfl
          ·rfl
         refine hK.out _ _ ⟨(blk_cell (blk_alloc BK102.out _) 0).trans rfl, (blk_cell (blk_alloc BK102.out _) 1).trans rfl⟩ (fun hHeld => ?_)
         clear hK K
         refine norm_ (a' := ?_) ?_ ?_
         rotate_left
         ·show Act.put _ (some 47) _ = _
          simp only [Act.put, List.setIfInBounds_toArray, List.set_cons_zero, List.set_cons_succ, i64_w, i32_w]
          rfl
         refine one_ (i := 7) (N := some 48) (ba 10 255) rfl rfl (one_of HT_.out (by kernel_rfl)) (by decide) (fun K hK => ?_)
         refine Kd.S_append_step (Kd.slice 3 (Kd.int .i64)) (w0 := w) w.heap.size (by rfl) (.tmp 42) (.tmp 47) 23 22 (.slice none 0 0) 24 rfl Try.underlying23 info22 rfl (by decide) (by omega) u103001 x103001_3 y106 [.slice Ao21 y106.length co21] (fun _ => True) (fun k_ => some k_ = (.slice Ao21 y106.length co21 : Value).ownBlock) rfl rfl ?aP (fun k_ hk_ => ((Kd.R_mono (ok' := fun k_ => ((fun _ => True)) k_ ∧ nb k_ u103001) (Kd.R_apart' (HO108.out) (Kd.S_typed HO_103001.out) (by decide)) (fun k_ hk => ⟨trivial, hk.2⟩))).1 k_ hk_.symm) ?aF ?aO ?aB ?aS ?aL ?_
         (case aP => exact Kd.M_row (Kd.R_mono (Kd.R_tight rfl (Kd.R_mono (ok' := fun k_ => ((fun _ => True)) k_ ∧ nb k_ u103001) (Kd.R_apart' (HO108.out) (Kd.S_typed HO_103001.out) (by decide)) (fun k_ hk => ⟨trivial, hk.2⟩))) (fun _ h_ => h_)))
         (case aB => exact (hbC _))
         (case aF => exact (fun _ _ => trivial))
         (case aO => exact (by (with_reducible repeat (first | apply Kd.S_alloc | apply Kd.S_drewN | apply Kd.S_drew)); exact Kd.S_mono HO_103001.out (fun k_ hk => ⟨trivial, fun e_ => hk.2 e_⟩)))
         (case aS => exact (below_size (hbC _)))
         (case aL => have := LMc17.out; omega)
         intro v110 w20 ho hb hg hat
         rw [← Ny109.out] at ho
         have n0_ := ak (blk_grown (g := gb101) (o := .cells #[.int .i64 0, .slice none 0 0] 25 (0, 0)) (bkC BK101) hg (Kd.S_ne HO_103001.out BK101.out (by decide)))
         have n1_ := ak (blk_grown (g := gb102) (o := .cells #[.int .i64 a0, u103001] 25 (0, 0)) (bkC BK102) hg (Kd.S_ne HO_103001.out BK102.out (by decide)))
         have n2_ := ak (hb)
         have n3_ := ak (ho)
         clear BK101
         clear BK102
         clear HB
         clear HO_103001
         clear HO108
         have BK101 := n0_
         have BK102 := n1_
         have HB := n2_
         have HO111 := n3_
         clear n0_ n1_ n2_ n3_
         clear ho hb hg hat
         obtain ⟨Ao22, co22, eo22⟩ := Kd.S_slice HO111.out
         (first | subst eo22 | (injection eo22 with f1_ f2_ f3_; have f4_ := f1_.symm; have f5_ := f3_.symm; clear f1_ f2_ f3_; subst f4_; subst f5_))
         refine hK.out _ _ ⟨bc BK102 0, bc BK102 1⟩ (fun hHeld => ?_)
         clear hK K
         refine norm_ (a' := ?_) ?_ ?_
         rotate_left
         ·show Act.put _ (some 48) _ = _
          simp only [Act.put, List.setIfInBounds_toArray, List.set_cons_zero, List.set_cons_succ, i64_w, i32_w]
          rfl
         refine pS 8 49 10 511 ?_
         refine last_ (i := 9) (N := none) (ba 10 1023) rfl rfl (one_of HT_.out (by kernel_rfl)) (by decide) (fun K hK => ?_)
         have hs23 : w20.cell? ⟨gb102, 1, none⟩ = some (u103001) := bc BK102 1
         have hfs23 := fz BK102 1
         have hns23_0 := NB101_102.out
         have hms23_0 := NB102_101.out
         refine skip_ (w1 := ?_) (by rfl) rfl ?_ ?_
         rotate_left
         ·go_simp
          rfl
         refine hK.out _ _ ?_
         clear hK K
         refine done_ (done_of HT_.out (by kernel_rfl)) ?_
         try go_wp2
         go_roundg k4
         case measure => have := HJ1.out; have := HK2.out; have := HK3.out; have := HK4.out; omega
         case rel => exact ⟨(wrap64 (x23_3 + 1)), (y109), (.slice Ao22 y109.length co22), (by first | rfl | (simp; done) | (simp [*]; done)), H', ⟨by have := HJ1.out; have := HK2.out; have := HK3.out; have := HK4.out; omega⟩, ⟨by (with_reducible repeat (first | apply Kd.S_alloc | apply Kd.S_drewN | apply Kd.S_drew)); exact Kd.S_mono (Kd.S_far (p := ⟨gb102, 1, none⟩) (Kd.S_types HO111.out BK102.out (by decide)) (fun _ hk => hk.2) (.slice Ao22 y109.length co22)) (fun _ hk => trivial)⟩, ⟨bF BK101⟩, ⟨by (with_reducible repeat (first | refine blk_drewN ?_ _ | refine blk_drew ?_ | refine blk_alloc ?_ _)); refine blk_put (cs := #[.int .i64 a0, u103001]) ?_ 1 _ rfl; (with_reducible repeat (first | refine blk_drewN ?_ _ | refine blk_drew ?_ | refine blk_alloc ?_ _)); exact BK102.out⟩, ⟨hbC _⟩⟩

end Go.Proofs.Ytkieehjpnjplmaa.X
