-- Written by a program of this work (wip/xprint.py, over the kit's printer) out of the translation.
import Derived.Test.YtpnocmkpeogifaaX0
namespace Go.Proofs.Ytpnocmkpeogifaa.X
open Go.RowKit Go.Proofs.YtpnocmkpeogifaaW.PrintWords Go.Proofs.YtpnocmkpeogifaaW.PrintLast Go.Proofs.YtpnocmkpeogifaaW.PrintMore
attribute [local go_sem] max2_int min2_int max_two min_two max_three min_three max_four min_four   -- for this text's walks alone
set_option linter.unusedVariables false
set_option linter.unusedSimpArgs false

/-! ### congouref04_Mirror: function 36 -/
mutual
def congouref04_Mirror.l0 : Nat → Int → Int → List Int → List Int → Int → List Int → Option (Int × List Int × List Int)
 | 0, _, _, _, _, _, _ => none
 | k + 1, x4, x695000, x695001, x695002, x697000, x697001 => if x4 ≥ 0 then (if 0 ≤ x4 then (if x4 < (x695001.length : Int) then (if x697001.length < 17592186044416 then (congouref04_Mirror.l0 k (wrap64 (x4 - 1)) x695000 x695001 x695002 x697000 (x697001 ++ [wrap64 (12 - (rd x695001 x4))])) else (none)) else (none)) else (none)) else (congouref04_Mirror.l1 k (wrap64 ((x695002.length : Int) - 1)) x695000 x695001 x695002 x697000 x697001 ([] : List Int))
def congouref04_Mirror.l1 : Nat → Int → Int → List Int → List Int → Int → List Int → List Int → Option (Int × List Int × List Int)
 | 0, _, _, _, _, _, _, _ => none
 | k + 1, x5, x695000, x695001, x695002, x697000, x697001, x697002 => if x5 ≥ 0 then (if 0 ≤ x5 then (if x5 < (x695002.length : Int) then (if x697002.length < 17592186044416 then (congouref04_Mirror.l1 k (wrap64 (x5 - 1)) x695000 x695001 x695002 x697000 x697001 (x697002 ++ [rd x695002 x5])) else (none)) else (none)) else (none)) else (some (x697000, x697001, x697002))
end
def congouref04_Mirror.f (k : Nat) (a0_0 : Int) (l0_1 : List Int) (l0_2 : List Int) : Option (Int × List Int × List Int) := congouref04_Mirror.l0 k (wrap64 ((l0_1.length : Int) - 1)) a0_0 l0_1 l0_2 a0_0 ([] : List Int)
theorem congouref04_Mirror.mono_l : ∀ k, (∀ y0 y1 y2 y3 y4 y5, LeO (congouref04_Mirror.l0 k y0 y1 y2 y3 y4 y5) (congouref04_Mirror.l0 (k + 1) y0 y1 y2 y3 y4 y5)) ∧ (∀ y0 y1 y2 y3 y4 y5 y6, LeO (congouref04_Mirror.l1 k y0 y1 y2 y3 y4 y5 y6) (congouref04_Mirror.l1 (k + 1) y0 y1 y2 y3 y4 y5 y6))
 | 0 => ⟨fun _ _ _ _ _ _ r h => by simp [congouref04_Mirror.l0] at h, fun _ _ _ _ _ _ _ r h => by simp [congouref04_Mirror.l1] at h⟩
 | k + 1 => by
  obtain ⟨ih0, ih1⟩ := congouref04_Mirror.mono_l k
  refine ⟨?_, ?_⟩
  ·intro y0 y1 y2 y3 y4 y5
   unfold congouref04_Mirror.l0
   repeat' first
   | (with_reducible exact ih0 _ _ _ _ _ _)
   | (with_reducible exact ih1 _ _ _ _ _ _ _)
   | (with_reducible exact LeO.refl _)
   | (with_reducible exact LeO.none _)
   | (with_reducible refine LeO.ite ?_ ?_)
   | (with_reducible refine LeO.bind ?_ (fun _ => ?_))
   | exact ih0 _ _ _ _ _ _
   | exact ih1 _ _ _ _ _ _ _
   | exact LeO.none _
   | refine LeO.ite ?_ ?_
   | refine LeO.bind ?_ (fun _ => ?_)
  ·intro y0 y1 y2 y3 y4 y5 y6
   unfold congouref04_Mirror.l1
   repeat' first
   | (with_reducible exact ih0 _ _ _ _ _ _)
   | (with_reducible exact ih1 _ _ _ _ _ _ _)
   | (with_reducible exact LeO.refl _)
   | (with_reducible exact LeO.none _)
   | (with_reducible refine LeO.ite ?_ ?_)
   | (with_reducible refine LeO.bind ?_ (fun _ => ?_))
   | exact ih0 _ _ _ _ _ _
   | exact ih1 _ _ _ _ _ _ _
   | exact LeO.none _
   | refine LeO.ite ?_ ?_
   | refine LeO.bind ?_ (fun _ => ?_)
theorem congouref04_Mirror.mono : ∀ a0 a1 a2 k, LeO (congouref04_Mirror.f k a0 a1 a2) (congouref04_Mirror.f (k + 1) a0 a1 a2) := by
 intro a0 a1 a2 k
 obtain ⟨ih0, ih1⟩ := congouref04_Mirror.mono_l k
 unfold congouref04_Mirror.f
 repeat' first
   | (with_reducible exact ih0 _ _ _ _ _ _)
   | (with_reducible exact ih1 _ _ _ _ _ _ _)
   | (with_reducible exact LeO.refl _)
   | (with_reducible exact LeO.none _)
   | (with_reducible refine LeO.ite ?_ ?_)
   | (with_reducible refine LeO.bind ?_ (fun _ => ?_))
   | exact ih0 _ _ _ _ _ _
   | exact ih1 _ _ _ _ _ _ _
   | exact LeO.none _
   | refine LeO.ite ?_ ?_
   | refine LeO.bind ?_ (fun _ => ?_)
def congouref04_Mirror.T5 : Bool × List (List Nat × List Nat) := (true, [([], []), ([0], [0]), ([], []), ([2], [2]), ([], []), ([3, 4], [3, 4]), ([5], [5]), ([6], [6]), ([7], [7]), ([1, 8], [1, 8]), ([0, 1, 2, 3, 4, 5, 6, 7, 8, 9], []), ([10, 9, 9, 0, 1, 2, 3, 4, 5, 6, 7, 8, 9], [9, 10])])
def congouref04_Mirror.B5 : List Nat := [0, 1, 0, 4, 0, 28, 60, 124, 252, 511, 1023, 2047]
theorem congouref04_Mirror.tab5 : rtab .any (opsOf Try.f36 5) = congouref04_Mirror.T5 := by kernel_rfl
theorem congouref04_Mirror.bits5 : waitsOk congouref04_Mirror.T5.2 congouref04_Mirror.B5 = true := by kernel_rfl
def congouref04_Mirror.T9 : Bool × List (List Nat × List Nat) := (true, [([], []), ([0], [0]), ([], []), ([2], [2]), ([], []), ([3, 4], [3, 4]), ([5], [5]), ([6], [6]), ([1, 7], [1, 7]), ([0, 1, 2, 3, 4, 5, 6, 7, 8], []), ([9, 8, 8, 0, 1, 2, 3, 4, 5, 6, 7, 8], [8, 9])])
def congouref04_Mirror.B9 : List Nat := [0, 1, 0, 4, 0, 28, 60, 124, 255, 511, 1023]
theorem congouref04_Mirror.tab9 : rtab .any (opsOf Try.f36 9) = congouref04_Mirror.T9 := by kernel_rfl
theorem congouref04_Mirror.bits9 : waitsOk congouref04_Mirror.T9.2 congouref04_Mirror.B9 = true := by kernel_rfl
set_option maxHeartbeats 8000000 in
set_option maxRecDepth 100000 in
theorem congouref04_Mirror.calls (k : Nat) (a0_0 : Int) (A0_1 : Option Addr) (c0_1 : Nat) (l0_1 : List Int) (A0_2 : Option Addr) (c0_2 : Nat) (l0_2 : List Int) (r1 : Int) (r2 : List Int) (r3 : List Int) (w : World) (hr0_1 : Kd.C (Kd.int .i64) w A0_1 l0_1.length l0_1) (hc0_1 : l0_1.length ≤ c0_1) (hr0_2 : Kd.C (Kd.int .i64) w A0_2 l0_2.length l0_2) (hc0_2 : l0_2.length ≤ c0_2) (h : congouref04_Mirror.f k a0_0 l0_1 l0_2 = some (r1, r2, r3)) :
  Calls Try.prog 36 #[.agg #[.int .i64 a0_0, .slice A0_1 l0_1.length c0_1, .slice A0_2 l0_2.length c0_2]] w fun e w' => ∃ v1_ v2_ : Value, e = .returned (.agg #[.int .i64 r1, v1_, v2_]) ∧ Kd.R (Kd.int .i64) 3 w' w.heap.size (fun k_ => some k_ ≠ (v2_ : Value).ownBlock) v1_ r2 ∧ Kd.R (Kd.int .i64) 3 w' w.heap.size (fun k_ => some k_ ≠ (v1_ : Value).ownBlock) v2_ r3 ∧ Below w.heap.size w w' := by
 have hu24 := Try.underlying24
 have HR0_1 := Aside0.mk hr0_1
 have HC0_1 := Aside0.mk hc0_1
 clear hr0_1 hc0_1
 have HR0_2 := Aside0.mk hr0_2
 have HC0_2 := Aside0.mk hc0_2
 clear hr0_2 hc0_2
 have HB := ak (Below.refl w.heap.size w)
 have H : (congouref04_Mirror.l0 k (wrap64 ((l0_1.length : Int) - 1)) a0_0 l0_1 l0_2 a0_0 ([] : List Int)) = some (r1, r2, r3) := h
 clear h
 have H' := Aside0.mk H
 clear H
 go_enter Try.func36, Try.ntmps36
 go_wp2_with (first | ((with_reducible refine gate_dst (N := 1) rfl ?_); refine bE 1 #[.int .i64 a0_0, .slice A0_1 l0_1.length c0_1, .slice A0_2 l0_2.length c0_2] 24 ?_; intro gb694 hg w2 hbox hb; have BK694 := ak (hbox); have GW694 := kG w hg; have GE694 := kG w hg; replace HB := kH _ hb; clear hb hbox hg) | ((with_reducible refine gate_dst (N := 2) rfl ?_); refine bE 2 #[.int .i64 0, .slice none 0 0, .slice none 0 0] 24 ?_; intro gb695 hg w3 hbox hb; have BK695 := ak (hbox); have GW695 := kG w hg; have GE695 := kG w hg; replace HB := kH _ hb; have NB694_695 := kL BK694 hg; have NB695_694 := kR BK694 hg; replace BK694 := kB BK694 hb; clear hb hbox hg; have hnb4 := NB694_695.out; have hnc4 := NB695_694.out; have hcz5_0 : w3.cell? ⟨gb694, 0, none⟩ = some (.int .i64 a0_0) := bc BK694 0; have hcz5_1 : w3.cell? ⟨gb694, 1, none⟩ = some (.slice A0_1 l0_1.length c0_1) := bc BK694 1; have hcz5_2 : w3.cell? ⟨gb694, 2, none⟩ = some (.slice A0_2 l0_2.length c0_2) := bc BK694 2; have hfz5_0 := fz BK694 0; have hfz5_1 := fz BK694 1; have hfz5_2 := fz BK694 2) | ((with_reducible refine gate_dst (N := 3) rfl ?_); refine bE 3 #[.int .i64 0, .slice none 0 0, .slice none 0 0] 24 ?_; intro gb696 hg w6 hbox hb; have BK696 := ak (hbox); have GW696 := kG w hg; have GE696 := kG w hg; replace HB := kH _ hb; have NB694_696 := kL BK694 hg; have NB696_694 := kR BK694 hg; replace BK694 := kB BK694 hb; have NB695_696 := kL BK695 hg; have NB696_695 := kR BK695 hg; replace BK695 := kB BK695 hb; clear hb hbox hg; have hnb7 := NB696_694.out; have hnc7 := NB694_696.out; have hnb8 := NB696_695.out; have hnc8 := NB695_696.out; have hcz9_0 : w6.cell? ⟨gb696, 0, none⟩ = some (.int .i64 0) := bc BK696 0; have hcz9_1 : w6.cell? ⟨gb696, 1, none⟩ = some (.slice none 0 0) := bc BK696 1; have hcz9_2 : w6.cell? ⟨gb696, 2, none⟩ = some (.slice none 0 0) := bc BK696 2; have hfz9_0 := fz BK696 0; have hfz9_1 := fz BK696 1; have hfz9_2 := fz BK696 2; have hcz10_0 : w6.cell? ⟨gb694, 0, none⟩ = some (.int .i64 a0_0) := bc BK694 0; have hcz10_1 : w6.cell? ⟨gb694, 1, none⟩ = some (.slice A0_1 l0_1.length c0_1) := bc BK694 1; have hcz10_2 : w6.cell? ⟨gb694, 2, none⟩ = some (.slice A0_2 l0_2.length c0_2) := bc BK694 2; have hfz10_0 := fz BK694 0; have hfz10_1 := fz BK694 1; have hfz10_2 := fz BK694 2))
 go_loopg [4] k (fun kq v4 w' => ∃ (x4_1 : Int) (x697001_1 : List Int) (u697001 : Value), v4 = .int .i64 x4_1 ∧ Aside0 (congouref04_Mirror.l0 kq x4_1 a0_0 l0_1 l0_2 a0_0 x697001_1 = some (r1, r2, r3)) ∧ Aside0 (kq ≤ k) ∧ Aside0 (Kd.R (Kd.int .i64) 3 w' w.heap.size (fun _ => True) u697001 x697001_1) ∧ Aside0 (w'.heap[gb694]? = some (.cells #[.int .i64 a0_0, (.slice A0_1 l0_1.length c0_1), (.slice A0_2 l0_2.length c0_2)] 24 (0, 0))) ∧ Aside0 (w'.heap[gb695]? = some (.cells #[.int .i64 0, (.slice none 0 0), (.slice none 0 0)] 24 (0, 0))) ∧ Aside0 (w'.heap[gb696]? = some (.cells #[.int .i64 a0_0, u697001, (.slice none 0 0)] 24 (0, 0))) ∧ Aside0 (Below w.heap.size w w'))
 case atStart => exact ⟨(wrap64 ((l0_1.length : Int) - 1)), (([] : List Int)), (.slice none 0 0), (by first | rfl | (simp; done) | (simp [*]; done)), H', ⟨Nat.le_refl _⟩, ⟨by first | exact Kd.R_nil _ _ _ _ _ | exact Kd.N_nil _ _ _ _ _ | exact Kd.V_nil _ _ _ _ _ | exact Kd.Q_nil _ _ _ _ _ | exact Kd.S_nil _ _ _ _ _⟩, ⟨bF BK694⟩, ⟨bF BK695⟩, ⟨by (with_reducible repeat (first | refine blk_drewN ?_ _ | refine blk_drew ?_ | refine blk_alloc ?_ _)); refine blk_put (cs := #[.int .i64 a0_0, .slice none 0 0, .slice none 0 0]) ?_ 2 _ rfl; (with_reducible repeat (first | refine blk_drewN ?_ _ | refine blk_drew ?_ | refine blk_alloc ?_ _)); refine blk_put (cs := #[.int .i64 a0_0, .slice none 0 0, .slice none 0 0]) ?_ 1 _ rfl; (with_reducible repeat (first | refine blk_drewN ?_ _ | refine blk_drew ?_ | refine blk_alloc ?_ _)); refine blk_put (cs := #[.int .i64 0, .slice none 0 0, .slice none 0 0]) ?_ 0 _ rfl; (with_reducible repeat (first | refine blk_drewN ?_ _ | refine blk_drew ?_ | refine blk_alloc ?_ _)); exact BK696.out⟩, ⟨hbC _⟩⟩
 case round =>
  clear H'
  try clear p2
  try clear c3
  try clear c4
  try clear p6
  try clear c7
  try clear c8
  try clear hcz10_0
  try clear hcz10_1
  try clear hcz10_2
  try clear hcz5_0
  try clear hcz5_1
  try clear hcz5_2
  try clear hcz9_0
  try clear hcz9_1
  try clear hcz9_2
  try clear hfz10_0
  try clear hfz10_1
  try clear hfz10_2
  try clear hfz5_0
  try clear hfz5_1
  try clear hfz5_2
  try clear hfz9_0
  try clear hfz9_1
  try clear hfz9_2
  obtain ⟨x4_1, x697001_1, u697001, rfl, HA, HK1, HO_697001, BK694, BK695, BK696, HB⟩ := hrel
  cases gk with
  | zero => exact absurd HA.out (by simp [congouref04_Mirror.l0])
  | succ k1 =>
   have H := HA.out
   clear HA
   simp only [congouref04_Mirror.l0] at H
   by_cases c11 : x4_1 ≥ 0
   ·rw [if_pos c11] at H
    have c11b0 : decide (0 ≤ x4_1) = true := decide_eq_true c11
    clear c11
    by_cases c12 : 0 ≤ x4_1
    rotate_left
    ·rw [if_neg c12] at H
     exact absurd H (by simp)
    rw [if_pos c12] at H
    have c12b0 : decide (0 ≤ x4_1) = true := decide_eq_true c12
    clear c12
    by_cases c13 : x4_1 < (l0_1.length : Int)
    rotate_left
    ·rw [if_neg c13] at H
     exact absurd H (by simp)
    rw [if_pos c13] at H
    have c13b0 : decide (x4_1 < (l0_1.length : Int)) = true := decide_eq_true c13
    clear c13
    by_cases c14 : x697001_1.length < 17592186044416
    rotate_left
    ·rw [if_neg c14] at H
     exact absurd H (by simp)
    rw [if_pos c14] at H
    have LMc14 := Aside0.mk c14
    clear c14
    obtain ⟨y698, hy698⟩ : ∃ y_ : List Int, y_ = (x697001_1 ++ [wrap64 (12 - (rd l0_1 x4_1))]) := ⟨_, rfl⟩
    replace H : (congouref04_Mirror.l0 k1 (wrap64 (x4_1 - 1)) a0_0 l0_1 l0_2 a0_0 y698) = some (r1, r2, r3) := by first | (rw [hy698]; with_reducible exact H) | (have H2_ := (Option.bind_some _ _).symm.trans H; rw [hy698]; with_reducible exact H2_) | (have H2_ := (Option.bind_some _ _).symm.trans H; with_reducible exact H2_) | with_reducible exact H | (rw [hy698]; exact H) | exact H
    have Ny698 := Aside0.mk hy698
    clear hy698
    have H' := Aside0.mk H
    clear H
    try go_wp2
    replace HO_697001 := ak (Kd.R_drew HO_697001.out)
    replace BK694 := kd BK694
    replace BK695 := kd BK695
    replace BK696 := kd BK696
    replace HB := ak (below_drew1 HB.out)
    have p697 : 0 ≤ (x4_1 : Int) := dA
    have q697 : x4_1 < (l0_1.length : Int) := dA
    obtain ⟨ad697, e697, hx697_0⟩ := Kd.at_int HR0_1.out x4_1 p697 q697
    have hw697_0 := hx697_0
    cases e697
    try replace hx697_0 := (HB.out.cell (World.block_lt_of_cell? w _ hx697_0)).trans hx697_0
    replace p697 := eq_true p697
    replace q697 := eq_true q697
    refine sS (n := 12) (S := fun w' => w'.cell? ⟨gb696, 0, none⟩ = some (.int .i64 a0_0) ∧ w'.cell? ⟨gb696, 1, none⟩ = some (u697001) ∧ w'.cell? ⟨gb696, 2, none⟩ = some (.slice none 0 0) ∧ w'.cell? ⟨gb694, 0, none⟩ = some (.int .i64 a0_0) ∧ w'.cell? ⟨gb694, 1, none⟩ = some (.slice (some ad697) l0_1.length c0_1) ∧ w'.cell? ⟨gb694, 2, none⟩ = some (.slice A0_2 l0_2.length c0_2) ∧ w'.cell? (ad697.add (x4_1).toNat) = some (.int .i64 (rd l0_1 x4_1))) (ds := [11]) ⟨bc BK696 0, bc BK696 1, bc BK696 2, bc BK694 0, bc BK694 1, bc BK694 2, ((HB.out.cell (World.block_lt_of_cell? w _ hw697_0)).trans hw697_0)⟩ (fun hHeld => ?_); refine with_tabW congouref04_Mirror.tab5 congouref04_Mirror.bits5 (fun HT_ HW_ => ?_)
    generalize wr.drew = w15 at HO_697001 BK694 BK695 BK696 HB hx697_0 hHeld ⊢
    refine pS 0 17 12 1 ?_
    refine pS 2 19 12 5 ?_
    refine pS 4 21 12 21 ?_
    refine tS 1 18 12 23 ?_
    refine tS 3 20 12 31 ?_
    refine pS 5 22 12 63 ?_
    refine tS 6 23 12 127 ?_
    refine pS 7 24 12 255 ?_
    refine one_ (i := 8) (N := some 25) (ba 12 511) rfl rfl (one_of HT_.out (by kernel_rfl)) (by decide) (fun K hK => ?_)
    refine value_ (w1 := ?_) (v := ?_) (by rfl) rfl ?_ ?_
    rotate_left 2
    ·go_simp
     constructor
     ·rfl
     ·rfl
    refine hK.out _ _ ⟨(blk_cell (blk_alloc BK696.out _) 0).trans rfl, (blk_cell (blk_alloc BK696.out _) 1).trans rfl, (blk_cell (blk_alloc BK696.out _) 2).trans rfl, (blk_cell (blk_alloc BK694.out _) 0).trans rfl, (blk_cell (blk_alloc BK694.out _) 1).trans rfl, (blk_cell (blk_alloc BK694.out _) 2).trans rfl, (World.cell?_alloc_lt _ _ _ (World.block_lt_of_cell? _ _ (((HB.out.cell (World.block_lt_of_cell? w _ hw697_0)).trans hw697_0)))).trans (((HB.out.cell (World.block_lt_of_cell? w _ hw697_0)).trans hw697_0))⟩ (fun hHeld => ?_)
    clear hK K
    refine norm_ (a' := ?_) ?_ ?_
    rotate_left
    ·show Act.put _ (some 25) _ = _
     simp only [Act.put, List.setIfInBounds_toArray, List.set_cons_zero, List.set_cons_succ, i64_w, i32_w]
     rfl
    refine one_ (i := 9) (N := some 26) (ba 12 1023) rfl rfl (one_of HT_.out (by kernel_rfl)) (by decide) (fun K hK => ?_)
    refine Kd.R_append_step (Kd.int .i64) (w0 := w) w.heap.size (by rfl) (.tmp 18) (.tmp 25) 22 3 (.int .i64 0) 8 rfl Try.underlying22 info3 rfl (by decide) (by omega) u697001 x697001_1 (wrap64 (12 - (rd l0_1 x4_1))) [.int .i64 (wrap64 (12 - (rd l0_1 x4_1)))] (fun _ => True) (fun _ => False) rfl rfl ?aP (fun _ hk => hk.elim) ?aF ?aO ?aB ?aS ?aL ?_
    (case aP => exact rfl)
    (case aB => exact (hbC _))
    (case aF => exact (fun _ _ => trivial))
    (case aO => exact (rC HO_697001))
    (case aS => exact (below_size (hbC _)))
    (case aL => have := LMc14.out; omega)
    intro v699 w16 ho hb hg hat
    rw [← Ny698.out] at ho
    have n0_ := ak (blk_grown (g := gb694) (o := .cells #[.int .i64 a0_0, .slice (some ad697) l0_1.length c0_1, .slice A0_2 l0_2.length c0_2] 24 (0, 0)) (bkC BK694) hg (Kd.R_ne HO_697001.out BK694.out (by decide)))
    have n1_ := ak (blk_grown (g := gb695) (o := .cells #[.int .i64 0, .slice none 0 0, .slice none 0 0] 24 (0, 0)) (bkC BK695) hg (Kd.R_ne HO_697001.out BK695.out (by decide)))
    have n2_ := ak (blk_grown (g := gb696) (o := .cells #[.int .i64 a0_0, u697001, .slice none 0 0] 24 (0, 0)) (bkC BK696) hg (Kd.R_ne HO_697001.out BK696.out (by decide)))
    have n3_ := ak (hb)
    have n4_ := ak (ho)
    clear BK694
    clear BK695
    clear BK696
    clear HB
    clear HO_697001
    have BK694 := n0_
    have BK695 := n1_
    have BK696 := n2_
    have HB := n3_
    have HO700 := n4_
    clear n0_ n1_ n2_ n3_ n4_
    clear ho hb hg hat
    obtain ⟨Ao17, co17, eo17⟩ := Kd.R_slice HO700.out
    (first | subst eo17 | (injection eo17 with f1_ f2_ f3_; have f4_ := f1_.symm; have f5_ := f3_.symm; clear f1_ f2_ f3_; subst f4_; subst f5_))
    refine hK.out _ _ ⟨bc BK696 0, bc BK696 1, bc BK696 2, bc BK694 0, bc BK694 1, bc BK694 2, ((HB.out.cell (World.block_lt_of_cell? w _ hw697_0)).trans hw697_0)⟩ (fun hHeld => ?_)
    clear hK K
    refine norm_ (a' := ?_) ?_ ?_
    rotate_left
    ·show Act.put _ (some 26) _ = _
     simp only [Act.put, List.setIfInBounds_toArray, List.set_cons_zero, List.set_cons_succ, i64_w, i32_w]
     rfl
    refine pS 10 27 12 2047 ?_
    refine last_ (i := 11) (N := none) (ba 12 4095) rfl rfl (one_of HT_.out (by kernel_rfl)) (by decide) (fun K hK => ?_)
    have hs18 : w16.cell? ⟨gb696, 1, none⟩ = some (u697001) := bc BK696 1
    have hfs18 := fz BK696 1
    have hns18_0 := NB694_696.out
    have hns18_1 := NB695_696.out
    have hms18_0 := NB696_694.out
    have hms18_1 := NB696_695.out
    refine skip_ (w1 := ?_) (by rfl) rfl ?_ ?_
    rotate_left
    ·go_simp
     rfl
    refine hK.out _ _ ?_
    clear hK K
    refine done_ (done_of HT_.out (by kernel_rfl)) ?_
    try go_wp2
    go_roundg k1
    case measure => have := HK1.out; omega
    case rel => exact ⟨(wrap64 (x4_1 - 1)), (y698), (.slice Ao17 y698.length co17), (by first | rfl | (simp; done) | (simp [*]; done)), H', ⟨by have := HK1.out; omega⟩, ⟨rD (Kd.R_mono (Kd.R_far (p := ⟨gb696, 1, none⟩) (Kd.R_types HO700.out BK696.out (by decide)) (fun _ hk => hk.2) (.slice Ao17 y698.length co17)) (fun _ hk => trivial))⟩, ⟨bF BK694⟩, ⟨bF BK695⟩, ⟨by (with_reducible repeat (first | refine blk_drewN ?_ _ | refine blk_drew ?_ | refine blk_alloc ?_ _)); refine blk_put (cs := #[.int .i64 a0_0, u697001, .slice none 0 0]) ?_ 1 _ rfl; (with_reducible repeat (first | refine blk_drewN ?_ _ | refine blk_drew ?_ | refine blk_alloc ?_ _)); exact BK696.out⟩, ⟨hbC _⟩⟩
   rw [if_neg c11] at H
   have c11b0 : decide (0 ≤ x4_1) = false := decide_eq_false c11
   clear c11
   have H' := Aside0.mk H
   clear H
   have hnb19 := NB694_695.out
   have hnc19 := NB695_694.out
   have hnb20 := NB694_696.out
   have hnc20 := NB696_694.out
   have hcz21_0 : wr.cell? ⟨gb694, 0, none⟩ = some (.int .i64 a0_0) := bc BK694 0
   have hcz21_1 : wr.cell? ⟨gb694, 1, none⟩ = some (.slice A0_1 l0_1.length c0_1) := bc BK694 1
   have hcz21_2 : wr.cell? ⟨gb694, 2, none⟩ = some (.slice A0_2 l0_2.length c0_2) := bc BK694 2
   have hfz21_0 := fz BK694 0
   have hfz21_1 := fz BK694 1
   have hfz21_2 := fz BK694 2
   go_wp2
   go_loopg [5] k1 (fun kq v5 w' => ∃ (x5_2 : Int) (x697002_2 : List Int) (u697002 : Value), v5 = .int .i64 x5_2 ∧ Aside0 (congouref04_Mirror.l1 kq x5_2 a0_0 l0_1 l0_2 a0_0 x697001_1 x697002_2 = some (r1, r2, r3)) ∧ Aside0 (kq ≤ k1) ∧ Aside0 (Kd.R (Kd.int .i64) 3 w' w.heap.size (fun k_ => nb k_ u697002) u697001 x697001_1) ∧ Aside0 (Kd.R (Kd.int .i64) 3 w' w.heap.size (fun k_ => nb k_ u697001) u697002 x697002_2) ∧ Aside0 (w'.heap[gb694]? = some (.cells #[.int .i64 a0_0, (.slice A0_1 l0_1.length c0_1), (.slice A0_2 l0_2.length c0_2)] 24 (0, 0))) ∧ Aside0 (w'.heap[gb695]? = some (.cells #[.int .i64 0, (.slice none 0 0), (.slice none 0 0)] 24 (0, 0))) ∧ Aside0 (w'.heap[gb696]? = some (.cells #[.int .i64 a0_0, u697001, u697002] 24 (0, 0))) ∧ Aside0 (Below w.heap.size w w'))
   case atStart => exact ⟨(wrap64 ((l0_2.length : Int) - 1)), (([] : List Int)), (.slice none 0 0), (by first | rfl | (simp; done) | (simp [*]; done)), H', ⟨Nat.le_refl _⟩, ⟨rD (Kd.R_mono HO_697001.out (fun _ hk => (by simp [Value.ownBlock])))⟩, ⟨by first | exact Kd.R_nil _ _ _ _ _ | exact Kd.N_nil _ _ _ _ _ | exact Kd.V_nil _ _ _ _ _ | exact Kd.Q_nil _ _ _ _ _ | exact Kd.S_nil _ _ _ _ _⟩, ⟨bkC BK694⟩, ⟨bkC BK695⟩, ⟨bkC BK696⟩, ⟨hbC _⟩⟩
   case round =>
    clear H'
    try clear c1
    try clear c2
    try clear p2
    try clear c3
    try clear c4
    try clear p6
    try clear q6
    try clear hx6
    try clear c7
    try clear c8
    try clear c11
    try clear c11b0
    try clear c12
    try clear c12b0
    try clear c13
    try clear c13b0
    try clear c14
    try clear c19
    try clear c20
    try clear hcz10_0
    try clear hcz10_1
    try clear hcz10_2
    try clear hcz21_0
    try clear hcz21_1
    try clear hcz21_2
    try clear hcz5_0
    try clear hcz5_1
    try clear hcz5_2
    try clear hcz9_0
    try clear hcz9_1
    try clear hcz9_2
    try clear hfz10_0
    try clear hfz10_1
    try clear hfz10_2
    try clear hfz21_0
    try clear hfz21_1
    try clear hfz21_2
    try clear hfz5_0
    try clear hfz5_1
    try clear hfz5_2
    try clear hfz9_0
    try clear hfz9_1
    try clear hfz9_2
    try clear hx697_0
    try clear p2
    try clear p6
    try clear p697
    try clear q697
    obtain ⟨x5_2, x697002_2, u697002, rfl, HA, HK2, HO_697001, HO_697002, BK694, BK695, BK696, HB⟩ := hrel
    cases gk with
    | zero => exact absurd HA.out (by simp [congouref04_Mirror.l1])
    | succ k2 =>
     have H := HA.out
     clear HA
     simp only [congouref04_Mirror.l1] at H
     by_cases c22 : x5_2 ≥ 0
     rotate_left
     ·rw [if_neg c22] at H
      have c22b0 : decide (0 ≤ x5_2) = false := decide_eq_false c22
      clear c22
      simp only [Option.some.injEq, Prod.mk.injEq] at H
      obtain ⟨rfl, rfl, rfl⟩ := H
      have hnb30 := NB696_694.out
      have hnc30 := NB694_696.out
      have hnb31 := NB696_695.out
      have hnc31 := NB695_696.out
      have hcz32_0 : wr.cell? ⟨gb696, 0, none⟩ = some (.int .i64 a0_0) := bc BK696 0
      have hcz32_1 : wr.cell? ⟨gb696, 1, none⟩ = some (u697001) := bc BK696 1
      have hcz32_2 : wr.cell? ⟨gb696, 2, none⟩ = some (u697002) := bc BK696 2
      have hfz32_0 := fz BK696 0
      have hfz32_1 := fz BK696 1
      have hfz32_2 := fz BK696 2
      have hnb33 := NB695_694.out
      have hnc33 := NB694_695.out
      have hcz34_0 : wr.cell? ⟨gb695, 0, none⟩ = some (.int .i64 0) := bc BK695 0
      have hcz34_1 : wr.cell? ⟨gb695, 1, none⟩ = some (.slice none 0 0) := bc BK695 1
      have hcz34_2 : wr.cell? ⟨gb695, 2, none⟩ = some (.slice none 0 0) := bc BK695 2
      have hfz34_0 := fz BK695 0
      have hfz34_1 := fz BK695 1
      have hfz34_2 := fz BK695 2
      obtain ⟨Ao35, co35, eo35⟩ := Kd.R_slice HO_697001.out
      subst eo35
      obtain ⟨Ao36, co36, eo36⟩ := Kd.R_slice HO_697002.out
      subst eo36
      go_wp2
      refine bodyPost_ret (results_cell_row rfl _ _ gb695 24 #[.int .i64 a0_0, .slice Ao35 x697001_1.length co35, .slice Ao36 x697002_2.length co36] (0, 0) _ rfl (by (with_reducible repeat (first | refine blk_drewN ?_ _ | refine blk_drew ?_ | refine blk_alloc ?_ _)); refine blk_put (cs := #[.int .i64 a0_0, .slice Ao35 x697001_1.length co35, .slice none 0 0]) ?_ 2 _ rfl; (with_reducible repeat (first | refine blk_drewN ?_ _ | refine blk_drew ?_ | refine blk_alloc ?_ _)); refine blk_put (cs := #[.int .i64 a0_0, .slice none 0 0, .slice none 0 0]) ?_ 1 _ rfl; (with_reducible repeat (first | refine blk_drewN ?_ _ | refine blk_drew ?_ | refine blk_alloc ?_ _)); refine blk_put (cs := #[.int .i64 0, .slice none 0 0, .slice none 0 0]) ?_ 0 _ rfl; (with_reducible repeat (first | refine blk_drewN ?_ _ | refine blk_drew ?_ | refine blk_alloc ?_ _)); exact BK695.out) Try.underlying24 rfl (by kernel_rfl)) rfl ?_
      exact ⟨_, _, by first | rfl | (simp [errW_none, errW_some] <;> rfl) | (simp [*, errW_none, errW_some] <;> rfl), rD (Kd.R_mono (Kd.R_far (p := ⟨gb695, 2, none⟩) (Kd.R_far (p := ⟨gb695, 1, none⟩) (Kd.R_far (p := ⟨gb695, 0, none⟩) (Kd.R_types HO_697001.out BK695.out (by decide)) (fun _ hk => hk.2) (.int .i64 a0_0)) (fun _ hk => hk.2) (.slice Ao35 x697001_1.length co35)) (fun _ hk => hk.2) (.slice Ao36 x697002_2.length co36)) (fun _ hk => hk.1)), rD (Kd.R_mono (Kd.R_far (p := ⟨gb695, 2, none⟩) (Kd.R_far (p := ⟨gb695, 1, none⟩) (Kd.R_far (p := ⟨gb695, 0, none⟩) (Kd.R_types HO_697002.out BK695.out (by decide)) (fun _ hk => hk.2) (.int .i64 a0_0)) (fun _ hk => hk.2) (.slice Ao35 x697001_1.length co35)) (fun _ hk => hk.2) (.slice Ao36 x697002_2.length co36)) (fun _ hk => hk.1)), hbC _⟩
     rw [if_pos c22] at H
     have c22b0 : decide (0 ≤ x5_2) = true := decide_eq_true c22
     clear c22
     by_cases c23 : 0 ≤ x5_2
     rotate_left
     ·rw [if_neg c23] at H
      exact absurd H (by simp)
     rw [if_pos c23] at H
     have c23b0 : decide (0 ≤ x5_2) = true := decide_eq_true c23
     clear c23
     by_cases c24 : x5_2 < (l0_2.length : Int)
     rotate_left
     ·rw [if_neg c24] at H
      exact absurd H (by simp)
     rw [if_pos c24] at H
     have c24b0 : decide (x5_2 < (l0_2.length : Int)) = true := decide_eq_true c24
     clear c24
     by_cases c25 : x697002_2.length < 17592186044416
     rotate_left
     ·rw [if_neg c25] at H
      exact absurd H (by simp)
     rw [if_pos c25] at H
     have LMc25 := Aside0.mk c25
     clear c25
     obtain ⟨y702, hy702⟩ : ∃ y_ : List Int, y_ = (x697002_2 ++ [rd l0_2 x5_2]) := ⟨_, rfl⟩
     replace H : (congouref04_Mirror.l1 k2 (wrap64 (x5_2 - 1)) a0_0 l0_1 l0_2 a0_0 x697001_1 y702) = some (r1, r2, r3) := by first | (rw [hy702]; with_reducible exact H) | (have H2_ := (Option.bind_some _ _).symm.trans H; rw [hy702]; with_reducible exact H2_) | (have H2_ := (Option.bind_some _ _).symm.trans H; with_reducible exact H2_) | with_reducible exact H | (rw [hy702]; exact H) | exact H
     have Ny702 := Aside0.mk hy702
     clear hy702
     have H' := Aside0.mk H
     clear H
     try go_wp2
     replace HO_697001 := ak (Kd.R_drew HO_697001.out)
     replace HO_697002 := ak (Kd.R_drew HO_697002.out)
     replace BK694 := kd BK694
     replace BK695 := kd BK695
     replace BK696 := kd BK696
     replace HB := ak (below_drew1 HB.out)
     have p701 : 0 ≤ (x5_2 : Int) := dA
     have q701 : x5_2 < (l0_2.length : Int) := dA
     obtain ⟨ad701, e701, hx701_0⟩ := Kd.at_int HR0_2.out x5_2 p701 q701
     have hw701_0 := hx701_0
     cases e701
     try replace hx701_0 := (HB.out.cell (World.block_lt_of_cell? w _ hx701_0)).trans hx701_0
     replace p701 := eq_true p701
     replace q701 := eq_true q701
     refine sS (n := 11) (S := fun w' => w'.cell? ⟨gb696, 0, none⟩ = some (.int .i64 a0_0) ∧ w'.cell? ⟨gb696, 1, none⟩ = some (u697001) ∧ w'.cell? ⟨gb696, 2, none⟩ = some (u697002) ∧ w'.cell? ⟨gb694, 0, none⟩ = some (.int .i64 a0_0) ∧ w'.cell? ⟨gb694, 1, none⟩ = some (.slice A0_1 l0_1.length c0_1) ∧ w'.cell? ⟨gb694, 2, none⟩ = some (.slice (some ad701) l0_2.length c0_2) ∧ w'.cell? (ad701.add (x5_2).toNat) = some (.int .i64 (rd l0_2 x5_2))) (ds := [10]) ⟨bc BK696 0, bc BK696 1, bc BK696 2, bc BK694 0, bc BK694 1, bc BK694 2, ((HB.out.cell (World.block_lt_of_cell? w _ hw701_0)).trans hw701_0)⟩ (fun hHeld => ?_); refine with_tabW congouref04_Mirror.tab9 congouref04_Mirror.bits9 (fun HT_ HW_ => ?_)
     generalize wr.drew = w26 at HO_697001 HO_697002 BK694 BK695 BK696 HB hx701_0 hHeld ⊢
     refine pS 0 36 11 1 ?_
     refine pS 2 38 11 5 ?_
     refine pS 4 40 11 21 ?_
     refine tS 1 37 11 23 ?_
     refine tS 3 39 11 31 ?_
     refine pS 5 41 11 63 ?_
     refine tS 6 42 11 127 ?_
     refine one_ (i := 7) (N := some 43) (ba 11 255) rfl rfl (one_of HT_.out (by kernel_rfl)) (by decide) (fun K hK => ?_)
     refine value_ (w1 := ?_) (v := ?_) (by rfl) rfl ?_ ?_
     rotate_left 2
     ·go_simp
      constructor
      ·rfl
      ·rfl
     refine hK.out _ _ ⟨(blk_cell (blk_alloc BK696.out _) 0).trans rfl, (blk_cell (blk_alloc BK696.out _) 1).trans rfl, (blk_cell (blk_alloc BK696.out _) 2).trans rfl, (blk_cell (blk_alloc BK694.out _) 0).trans rfl, (blk_cell (blk_alloc BK694.out _) 1).trans rfl, (blk_cell (blk_alloc BK694.out _) 2).trans rfl, (World.cell?_alloc_lt _ _ _ (World.block_lt_of_cell? _ _ (((HB.out.cell (World.block_lt_of_cell? w _ hw701_0)).trans hw701_0)))).trans (((HB.out.cell (World.block_lt_of_cell? w _ hw701_0)).trans hw701_0))⟩ (fun hHeld => ?_)
     clear hK K
     refine norm_ (a' := ?_) ?_ ?_
     rotate_left
     ·show Act.put _ (some 43) _ = _
      simp only [Act.put, List.setIfInBounds_toArray, List.set_cons_zero, List.set_cons_succ, i64_w, i32_w]
      rfl
     refine one_ (i := 8) (N := some 44) (ba 11 511) rfl rfl (one_of HT_.out (by kernel_rfl)) (by decide) (fun K hK => ?_)
     refine Kd.R_append_step (Kd.int .i64) (w0 := w) w.heap.size (by rfl) (.tmp 37) (.tmp 43) 22 3 (.int .i64 0) 8 rfl Try.underlying22 info3 rfl (by decide) (by omega) u697002 x697002_2 (rd l0_2 x5_2) [.int .i64 (rd l0_2 x5_2)] (fun k_ => nb k_ u697001) (fun _ => False) rfl rfl ?aP (fun _ hk => hk.elim) ?aF ?aO ?aB ?aS ?aL ?_
     (case aP => exact rfl)
     (case aB => exact (hbC _))
     (case aF => exact (fun k_ hk => Kd.fresh' (Kd.R_lt (rC HO_697001)) k_ hk))
     (case aO => exact (rC HO_697002))
     (case aS => exact (below_size (hbC _)))
     (case aL => have := LMc25.out; omega)
     intro v703 w27 ho hb hg hat
     rw [← Ny702.out] at ho
     have n0_ := ak (Kd.R_after (ok := (fun _ => True)) (rD (Kd.R_mono HO_697001.out (fun _ hk => ⟨trivial, hk⟩))) hg hat)
     have n1_ := ak (blk_grown (g := gb694) (o := .cells #[.int .i64 a0_0, .slice A0_1 l0_1.length c0_1, .slice (some ad701) l0_2.length c0_2] 24 (0, 0)) (bkC BK694) hg (Kd.R_ne HO_697002.out BK694.out (by decide)))
     have n2_ := ak (blk_grown (g := gb695) (o := .cells #[.int .i64 0, .slice none 0 0, .slice none 0 0] 24 (0, 0)) (bkC BK695) hg (Kd.R_ne HO_697002.out BK695.out (by decide)))
     have n3_ := ak (blk_grown (g := gb696) (o := .cells #[.int .i64 a0_0, u697001, u697002] 24 (0, 0)) (bkC BK696) hg (Kd.R_ne HO_697002.out BK696.out (by decide)))
     have n4_ := ak (hb)
     have n5_ := ak (ho)
     clear HO_697001
     clear BK694
     clear BK695
     clear BK696
     clear HB
     clear HO_697002
     have HO_697001 := n0_
     have BK694 := n1_
     have BK695 := n2_
     have BK696 := n3_
     have HB := n4_
     have HO704 := n5_
     clear n0_ n1_ n2_ n3_ n4_ n5_
     clear ho hb hg hat
     obtain ⟨Ao28, co28, eo28⟩ := Kd.R_slice HO704.out
     (first | subst eo28 | (injection eo28 with f1_ f2_ f3_; have f4_ := f1_.symm; have f5_ := f3_.symm; clear f1_ f2_ f3_; subst f4_; subst f5_))
     refine hK.out _ _ ⟨bc BK696 0, bc BK696 1, bc BK696 2, bc BK694 0, bc BK694 1, bc BK694 2, ((HB.out.cell (World.block_lt_of_cell? w _ hw701_0)).trans hw701_0)⟩ (fun hHeld => ?_)
     clear hK K
     refine norm_ (a' := ?_) ?_ ?_
     rotate_left
     ·show Act.put _ (some 44) _ = _
      simp only [Act.put, List.setIfInBounds_toArray, List.set_cons_zero, List.set_cons_succ, i64_w, i32_w]
      rfl
     refine pS 9 45 11 1023 ?_
     refine last_ (i := 10) (N := none) (ba 11 2047) rfl rfl (one_of HT_.out (by kernel_rfl)) (by decide) (fun K hK => ?_)
     have hs29 : w27.cell? ⟨gb696, 2, none⟩ = some (u697002) := bc BK696 2
     have hfs29 := fz BK696 2
     have hns29_0 := NB694_696.out
     have hns29_1 := NB695_696.out
     have hms29_0 := NB696_694.out
     have hms29_1 := NB696_695.out
     refine skip_ (w1 := ?_) (by rfl) rfl ?_ ?_
     rotate_left
     ·go_simp
      rfl
     refine hK.out _ _ ?_
     clear hK K
     refine done_ (done_of HT_.out (by kernel_rfl)) ?_
     try go_wp2
     go_roundg k2
     case measure => have := HK1.out; have := HK2.out; omega
     case rel => exact ⟨(wrap64 (x5_2 - 1)), (y702), (.slice Ao28 y702.length co28), (by first | rfl | (simp; done) | (simp [*]; done)), H', ⟨by have := HK1.out; have := HK2.out; omega⟩, ⟨rD (Kd.R_mono (Kd.R_far (p := ⟨gb696, 2, none⟩) (Kd.R_types HO_697001.out BK696.out (by decide)) (fun _ hk => hk.2) (.slice Ao28 y702.length co28)) (fun _ hk => hk.1.2))⟩, ⟨rD (Kd.R_mono (Kd.R_far (p := ⟨gb696, 2, none⟩) (Kd.R_types HO704.out BK696.out (by decide)) (fun _ hk => hk.2) (.slice Ao28 y702.length co28)) (fun _ hk => hk.1))⟩, ⟨bF BK694⟩, ⟨bF BK695⟩, ⟨by (with_reducible repeat (first | refine blk_drewN ?_ _ | refine blk_drew ?_ | refine blk_alloc ?_ _)); refine blk_put (cs := #[.int .i64 a0_0, u697001, u697002]) ?_ 2 _ rfl; (with_reducible repeat (first | refine blk_drewN ?_ _ | refine blk_drew ?_ | refine blk_alloc ?_ _)); exact BK696.out⟩, ⟨hbC _⟩⟩

end Go.Proofs.Ytpnocmkpeogifaa.X
