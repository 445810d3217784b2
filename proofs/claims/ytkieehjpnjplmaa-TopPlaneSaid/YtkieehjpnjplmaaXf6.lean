-- Written by a program of this work (wip/xprint.py, over the kit's printer) out of the translation.
import Derived.Test.YtkieehjpnjplmaaX0
import Derived.Test.YtkieehjpnjplmaaXG1a
namespace Go.Proofs.Ytkieehjpnjplmaa.X
open Go.RowKit Go.Proofs.YtkieehjpnjplmaaW.PrintWords Go.Proofs.YtkieehjpnjplmaaW.PrintLast Go.Proofs.YtkieehjpnjplmaaW.PrintMore
attribute [local go_sem] max2_int min2_int max_two min_two max_three min_three max_four min_four   -- for this text's walks alone
set_option linter.unusedVariables false
set_option linter.unusedSimpArgs false

/-! ### congoutop_array: function 6 -/
def congoutop_array.l0 : Nat → List (List Int) → Int → Int → Int → List (List Int) → Option (Int × (List (List Int)))
 | 0, _, _, _, _, _ => none
 | k + 1, x10, x11, x12, x121000, x121001 => if x12 < x11 then (if 0 ≤ x12 then (if x12 < (x10.length : Int) then (if x12 < 19 then (if 0 ≤ (mn ((rd_L1 x10 x12).length : Int) 11) then (if (mn ((rd_L1 x10 x12).length : Int) 11) ≤ ((rd_L1 x10 x12).length : Int) then ((slices_Clone_int_int.f ((rd_L1 x10 x12).take ((mn ((rd_L1 x10 x12).length : Int) 11) : Int).toNat)).bind fun t123 => (if x121001.length < 5864062014805 then (congoutop_array.l0 k x10 x11 (wrap64 (x12 + 1)) x121000 (x121001 ++ [t123])) else (none))) else (none)) else (none)) else (congoutop_array.l0 k x10 x11 (wrap64 (x12 + 1)) x121000 x121001)) else (none)) else (none)) else (some (x121000, x121001))
def congoutop_array.f (k : Nat) (a0_0 : Int) (l0_1 : List (List Int)) : Option (Int × (List (List Int))) := congoutop_array.l0 k l0_1 (l0_1.length : Int) 0 a0_0 ([] : List (List Int))
theorem congoutop_array.mono_l : ∀ k, (∀ y0 y1 y2 y3 y4, LeO (congoutop_array.l0 k y0 y1 y2 y3 y4) (congoutop_array.l0 (k + 1) y0 y1 y2 y3 y4))
 | 0 => fun _ _ _ _ _ r h => by simp [congoutop_array.l0] at h
 | k + 1 => by
  have ih0 := congoutop_array.mono_l k
  ·intro y0 y1 y2 y3 y4
   unfold congoutop_array.l0
   repeat' first
   | (with_reducible exact ih0 _ _ _ _ _)
   | (with_reducible exact LeO.refl _)
   | (with_reducible exact LeO.none _)
   | (with_reducible refine LeO.ite ?_ ?_)
   | (with_reducible refine LeO.bind ?_ (fun _ => ?_))
   | exact ih0 _ _ _ _ _
   | exact LeO.none _
   | refine LeO.ite ?_ ?_
   | refine LeO.bind ?_ (fun _ => ?_)
theorem congoutop_array.mono : ∀ a0 a1 k, LeO (congoutop_array.f k a0 a1) (congoutop_array.f (k + 1) a0 a1) := by
 intro a0 a1 k
 have ih0 := congoutop_array.mono_l k
 unfold congoutop_array.f
 repeat' first
   | (with_reducible exact ih0 _ _ _ _ _)
   | (with_reducible exact LeO.refl _)
   | (with_reducible exact LeO.none _)
   | (with_reducible refine LeO.ite ?_ ?_)
   | (with_reducible refine LeO.bind ?_ (fun _ => ?_))
   | exact ih0 _ _ _ _ _
   | exact LeO.none _
   | refine LeO.ite ?_ ?_
   | refine LeO.bind ?_ (fun _ => ?_)
def congoutop_array.T6 : Bool × List (List Nat × List Nat) := (true, [([], []), ([0], [0]), ([], []), ([], []), ([3], [3]), ([4], [4]), ([2, 5], [2, 5]), ([6], [6]), ([7], [7]), ([1, 8, 7], [1, 8]), ([0, 1, 2, 3, 4, 5, 6, 7, 8, 9], []), ([10, 9, 9, 0, 1, 2, 3, 4, 5, 6, 7, 8, 9], [9, 10])])
def congoutop_array.B6 : List Nat := [0, 1, 0, 0, 8, 24, 60, 124, 252, 511, 1023, 2047]
theorem congoutop_array.tab6 : rtab .any (opsOf Try.f6 6) = congoutop_array.T6 := by kernel_rfl
theorem congoutop_array.bits6 : waitsOk congoutop_array.T6.2 congoutop_array.B6 = true := by kernel_rfl
set_option maxHeartbeats 8000000 in
set_option maxRecDepth 100000 in
theorem congoutop_array.calls (k : Nat) (a0_0 : Int) (A0_1 : Option Addr) (c0_1 : Nat) (l0_1 : List (List Int)) (r1 : Int) (r2 : List (List Int)) (w : World) (hr0_1 : Kd.C (Kd.slice 3 (Kd.int .i64)) w A0_1 l0_1.length l0_1) (hc0_1 : l0_1.length ≤ c0_1) (h : congoutop_array.f k a0_0 l0_1 = some (r1, r2)) :
  Calls Try.prog 6 #[.agg #[.int .i64 a0_0, .slice A0_1 l0_1.length c0_1]] w fun e w' => ∃ v1_ : Value, e = .returned (.agg #[.int .i64 r1, v1_]) ∧ Kd.S (Kd.slice 3 (Kd.int .i64)) 22 w' w.heap.size (fun _ => True) v1_ r2 ∧ Below w.heap.size w w' := by
 have hu31 := Try.underlying31
 have hu25 := Try.underlying25
 have HR0_1 := Aside0.mk hr0_1
 have HC0_1 := Aside0.mk hc0_1
 clear hr0_1 hc0_1
 have HB := ak (Below.refl w.heap.size w)
 have H : (congoutop_array.l0 k l0_1 (l0_1.length : Int) 0 a0_0 ([] : List (List Int))) = some (r1, r2) := h
 clear h
 have H' := Aside0.mk H
 clear H
 go_enter Try.func6, Try.ntmps6
 go_wp2_with (first | ((with_reducible refine gate_dst (N := 1) rfl ?_); refine bE 1 #[.int .i64 a0_0, .slice A0_1 l0_1.length c0_1] 31 ?_; intro gb118 hg w2 hbox hb; have BK118 := ak (hbox); have GW118 := kG w hg; have GE118 := kG w hg; replace HB := kH _ hb; clear hb hbox hg) | ((with_reducible refine gate_dst (N := 2) rfl ?_); refine bE 2 #[.int .i64 0, .slice none 0 0] 25 ?_; intro gb119 hg w3 hbox hb; have BK119 := ak (hbox); have GW119 := kG w hg; have GE119 := kG w hg; replace HB := kH _ hb; have NB118_119 := kL BK118 hg; have NB119_118 := kR BK118 hg; replace BK118 := kB BK118 hb; clear hb hbox hg; have hnb4 := NB118_119.out; have hnc4 := NB119_118.out; have hcz5_0 : w3.cell? ⟨gb118, 0, none⟩ = some (.int .i64 a0_0) := bc BK118 0; have hcz5_1 : w3.cell? ⟨gb118, 1, none⟩ = some (.slice A0_1 l0_1.length c0_1) := bc BK118 1; have hfz5_0 := fz BK118 0; have hfz5_1 := fz BK118 1) | ((with_reducible refine gate_dst (N := 3) rfl ?_); refine bE 3 #[.int .i64 0, .slice none 0 0] 25 ?_; intro gb120 hg w6 hbox hb; have BK120 := ak (hbox); have GW120 := kG w hg; have GE120 := kG w hg; replace HB := kH _ hb; have NB118_120 := kL BK118 hg; have NB120_118 := kR BK118 hg; replace BK118 := kB BK118 hb; have NB119_120 := kL BK119 hg; have NB120_119 := kR BK119 hg; replace BK119 := kB BK119 hb; clear hb hbox hg; have hnb7 := NB120_118.out; have hnc7 := NB118_120.out; have hnb8 := NB120_119.out; have hnc8 := NB119_120.out; have hcz9_0 : w6.cell? ⟨gb120, 0, none⟩ = some (.int .i64 0) := bc BK120 0; have hcz9_1 : w6.cell? ⟨gb120, 1, none⟩ = some (.slice none 0 0) := bc BK120 1; have hfz9_0 := fz BK120 0; have hfz9_1 := fz BK120 1; have hcz10_0 : w6.cell? ⟨gb118, 0, none⟩ = some (.int .i64 a0_0) := bc BK118 0; have hcz10_1 : w6.cell? ⟨gb118, 1, none⟩ = some (.slice A0_1 l0_1.length c0_1) := bc BK118 1; have hfz10_0 := fz BK118 0; have hfz10_1 := fz BK118 1))
 go_loopg [12] k (fun kq v12 w' => ∃ (x12_1 : Int) (x121001_1 : List (List Int)) (u121001 : Value), v12 = .int .i64 x12_1 ∧ Aside0 (congoutop_array.l0 kq l0_1 (l0_1.length : Int) x12_1 a0_0 x121001_1 = some (r1, r2)) ∧ Aside0 (kq ≤ k) ∧ Aside0 (Kd.S (Kd.slice 3 (Kd.int .i64)) 22 w' w.heap.size (fun _ => True) u121001 x121001_1) ∧ Aside0 (w'.heap[gb118]? = some (.cells #[.int .i64 a0_0, (.slice A0_1 l0_1.length c0_1)] 31 (0, 0))) ∧ Aside0 (w'.heap[gb119]? = some (.cells #[.int .i64 0, (.slice none 0 0)] 25 (0, 0))) ∧ Aside0 (w'.heap[gb120]? = some (.cells #[.int .i64 a0_0, u121001] 25 (0, 0))) ∧ Aside0 (Below w.heap.size w w'))
 case atStart => exact ⟨(0), (([] : List (List Int))), (.slice none 0 0), (by first | rfl | (simp; done) | (simp [*]; done)), H', ⟨Nat.le_refl _⟩, ⟨by first | exact Kd.S_nil _ _ _ _ _ | exact Kd.N_nil _ _ _ _ _ | exact Kd.V_nil _ _ _ _ _ | exact Kd.Q_nil _ _ _ _ _ | exact Kd.R_nil _ _ _ _ _⟩, ⟨bF BK118⟩, ⟨bF BK119⟩, ⟨by (with_reducible repeat (first | refine blk_drewN ?_ _ | refine blk_drew ?_ | refine blk_alloc ?_ _)); refine blk_put (cs := #[.int .i64 a0_0, .slice none 0 0]) ?_ 1 _ rfl; (with_reducible repeat (first | refine blk_drewN ?_ _ | refine blk_drew ?_ | refine blk_alloc ?_ _)); refine blk_put (cs := #[.int .i64 0, .slice none 0 0]) ?_ 0 _ rfl; (with_reducible repeat (first | refine blk_drewN ?_ _ | refine blk_drew ?_ | refine blk_alloc ?_ _)); exact BK120.out⟩, ⟨hbC _⟩⟩
 case round =>
  clear H'
  try clear p2
  try clear c4
  try clear c6
  try clear c7
  try clear c8
  try clear hcz10_0
  try clear hcz10_1
  try clear hcz5_0
  try clear hcz5_1
  try clear hcz9_0
  try clear hcz9_1
  try clear hfz10_0
  try clear hfz10_1
  try clear hfz5_0
  try clear hfz5_1
  try clear hfz9_0
  try clear hfz9_1
  obtain ⟨x12_1, x121001_1, u121001, rfl, HA, HK1, HO_121001, BK118, BK119, BK120, HB⟩ := hrel
  cases gk with
  | zero => exact absurd HA.out (by simp [congoutop_array.l0])
  | succ k1 =>
   have H := HA.out
   clear HA
   simp only [congoutop_array.l0] at H
   by_cases c11 : x12_1 < (l0_1.length : Int)
   rotate_left
   ·rw [if_neg c11] at H
    have c11b0 : decide (x12_1 < (l0_1.length : Int)) = false := decide_eq_false c11
    clear c11
    simp only [Option.some.injEq, Prod.mk.injEq] at H
    obtain ⟨rfl, rfl⟩ := H
    have hnb27 := NB120_118.out
    have hnc27 := NB118_120.out
    have hnb28 := NB120_119.out
    have hnc28 := NB119_120.out
    have hcz29_0 : wr.cell? ⟨gb120, 0, none⟩ = some (.int .i64 a0_0) := bc BK120 0
    have hcz29_1 : wr.cell? ⟨gb120, 1, none⟩ = some (u121001) := bc BK120 1
    have hfz29_0 := fz BK120 0
    have hfz29_1 := fz BK120 1
    have hnb30 := NB119_118.out
    have hnc30 := NB118_119.out
    have hcz31_0 : wr.cell? ⟨gb119, 0, none⟩ = some (.int .i64 0) := bc BK119 0
    have hcz31_1 : wr.cell? ⟨gb119, 1, none⟩ = some (.slice none 0 0) := bc BK119 1
    have hfz31_0 := fz BK119 0
    have hfz31_1 := fz BK119 1
    obtain ⟨Ao32, co32, eo32⟩ := Kd.S_slice HO_121001.out
    subst eo32
    go_wp2
    refine bodyPost_ret (results_cell_row rfl _ _ gb119 25 #[.int .i64 a0_0, .slice Ao32 x121001_1.length co32] (0, 0) _ rfl (by (with_reducible repeat (first | refine blk_drewN ?_ _ | refine blk_drew ?_ | refine blk_alloc ?_ _)); refine blk_put (cs := #[.int .i64 a0_0, .slice none 0 0]) ?_ 1 _ rfl; (with_reducible repeat (first | refine blk_drewN ?_ _ | refine blk_drew ?_ | refine blk_alloc ?_ _)); refine blk_put (cs := #[.int .i64 0, .slice none 0 0]) ?_ 0 _ rfl; (with_reducible repeat (first | refine blk_drewN ?_ _ | refine blk_drew ?_ | refine blk_alloc ?_ _)); exact BK119.out) Try.underlying25 rfl (by kernel_rfl)) rfl ?_
    exact ⟨_, by first | rfl | (simp [errW_none, errW_some] <;> rfl) | (simp [*, errW_none, errW_some] <;> rfl), by (with_reducible repeat (first | apply Kd.S_alloc | apply Kd.S_drewN | apply Kd.S_drew)); exact Kd.S_mono (Kd.S_far (p := ⟨gb119, 1, none⟩) (Kd.S_far (p := ⟨gb119, 0, none⟩) (Kd.S_types HO_121001.out BK119.out (by decide)) (fun _ hk => hk.2) (.int .i64 a0_0)) (fun _ hk => hk.2) (.slice Ao32 x121001_1.length co32)) (fun _ hk => trivial), hbC _⟩
   rw [if_pos c11] at H
   have c11b0 : decide (x12_1 < (l0_1.length : Int)) = true := decide_eq_true c11
   clear c11
   by_cases c12 : 0 ≤ x12_1
   rotate_left
   ·rw [if_neg c12] at H
    exact absurd H (by simp)
   rw [if_pos c12] at H
   have c12b0 : decide (0 ≤ x12_1) = true := decide_eq_true c12
   clear c12
   by_cases c13 : x12_1 < (l0_1.length : Int)
   rotate_left
   ·rw [if_neg c13] at H
    exact absurd H (by simp)
   rw [if_pos c13] at H
   have c13b0 : decide (x12_1 < (l0_1.length : Int)) = true := decide_eq_true c13
   clear c13
   by_cases c14 : x12_1 < 19
   rotate_left
   ·rw [if_neg c14] at H
    have c14b0 : decide (x12_1 < 19) = false := decide_eq_false c14
    clear c14
    have H' := Aside0.mk H
    clear H
    have p121 : 0 ≤ (x12_1 : Int) := dA
    have q121 : x12_1 < (l0_1.length : Int) := dA
    obtain ⟨ad121, A121_0, c121_0, e121, hx121_0, hl121_0, hi121_0⟩ := at_L1 HR0_1.out x12_1 p121 q121
    cases e121
    try replace hx121_0 := (HB.out.cell (World.block_lt_of_cell? w _ hx121_0)).trans hx121_0
    have HR121_0 := Aside0.mk hi121_0
    have HC121_0 := Aside0.mk hl121_0
    clear hi121_0 hl121_0
    replace p121 := eq_true p121
    replace q121 := eq_true q121
    go_wp2
    go_roundg k1
    case measure => have := HK1.out; omega
    case rel => exact ⟨(wrap64 (x12_1 + 1)), (x121001_1), (u121001), (by first | rfl | (simp; done) | (simp [*]; done)), H', ⟨by have := HK1.out; omega⟩, ⟨by (with_reducible repeat (first | apply Kd.S_alloc | apply Kd.S_drewN | apply Kd.S_drew)); exact HO_121001.out⟩, ⟨bkC BK118⟩, ⟨bkC BK119⟩, ⟨bkC BK120⟩, ⟨hbC _⟩⟩
   rw [if_pos c14] at H
   have c14b0 : decide (x12_1 < 19) = true := decide_eq_true c14
   clear c14
   obtain ⟨ji15, hji15⟩ : ∃ j_ : Int, (mn ((rd_L1 l0_1 x12_1).length : Int) 11) = j_ := ⟨_, rfl⟩
   replace H : (if 0 ≤ (ji15) then (if (ji15) ≤ ((rd_L1 l0_1 x12_1).length : Int) then ((slices_Clone_int_int.f ((rd_L1 l0_1 x12_1).take ((ji15) : Int).toNat)).bind fun t123 => (if x121001_1.length < 5864062014805 then (congoutop_array.l0 k1 l0_1 (l0_1.length : Int) (wrap64 (x12_1 + 1)) a0_0 (x121001_1 ++ [t123])) else (none))) else (none)) else (none)) = some (r1, r2) := by first | (rw [hji15] at H; exact H) | (simp only [hji15] at H ⊢; exact H)
   have hji15_ : (if 11 < ((rd_L1 l0_1 x12_1).length : Int) then 11 else ((rd_L1 l0_1 x12_1).length : Int)) = ji15 := hji15
   by_cases c16 : 0 ≤ (ji15)
   rotate_left
   ·rw [if_neg c16] at H
    exact absurd H (by simp)
   rw [if_pos c16] at H
   have c16b0 := eq_true c16
   have c16b1 : decide (0 ≤ (ji15)) = true := decide_eq_true c16
   clear c16
   by_cases c17 : (ji15) ≤ ((rd_L1 l0_1 x12_1).length : Int)
   rotate_left
   ·rw [if_neg c17] at H
    exact absurd H (by simp)
   rw [if_pos c17] at H
   have c17b0 := eq_true c17
   have c17b1 : decide ((ji15) ≤ ((rd_L1 l0_1 x12_1).length : Int)) = true := decide_eq_true c17
   clear c17
   replace H := Option.bind_eq_some_iff.mp H
   obtain ⟨t123, A180, H⟩ := H
   replace H : (if x121001_1.length < 5864062014805 then (congoutop_array.l0 k1 l0_1 (l0_1.length : Int) (wrap64 (x12_1 + 1)) a0_0 (x121001_1 ++ [t123])) else (none)) = some (r1, r2) := H
   have A18 := Aside0.mk A180
   clear A180
   by_cases c19 : x121001_1.length < 5864062014805
   rotate_left
   ·rw [if_neg c19] at H
    exact absurd H (by simp)
   rw [if_pos c19] at H
   have LMc19 := Aside0.mk c19
   clear c19
   obtain ⟨y126, hy126⟩ : ∃ y_ : List (List Int), y_ = (x121001_1 ++ [t123]) := ⟨_, rfl⟩
   replace H : (congoutop_array.l0 k1 l0_1 (l0_1.length : Int) (wrap64 (x12_1 + 1)) a0_0 y126) = some (r1, r2) := by first | (rw [hy126]; with_reducible exact H) | (have H2_ := (Option.bind_some _ _).symm.trans H; rw [hy126]; with_reducible exact H2_) | (have H2_ := (Option.bind_some _ _).symm.trans H; with_reducible exact H2_) | with_reducible exact H | (rw [hy126]; exact H) | exact H
   have Ny126 := Aside0.mk hy126
   clear hy126
   have H' := Aside0.mk H
   clear H
   have p121 : 0 ≤ (x12_1 : Int) := dA
   have q121 : x12_1 < (l0_1.length : Int) := dA
   obtain ⟨ad121, A121_0, c121_0, e121, hx121_0, hl121_0, hi121_0⟩ := at_L1 HR0_1.out x12_1 p121 q121
   cases e121
   try replace hx121_0 := (HB.out.cell (World.block_lt_of_cell? w _ hx121_0)).trans hx121_0
   have HR121_0 := Aside0.mk hi121_0
   have HC121_0 := Aside0.mk hl121_0
   clear hi121_0 hl121_0
   replace p121 := eq_true p121
   replace q121 := eq_true q121
   try go_wp2
   replace HO_121001 := ak (Kd.S_drew HO_121001.out)
   replace BK118 := kd BK118
   replace BK119 := kd BK119
   replace BK120 := kd BK120
   replace HB := ak (below_drew1 HB.out)
   obtain ⟨i021, hi021, _, hsz21, _⟩ := info_parts info3
   obtain ⟨hcut21, hA21, hC21⟩ := print_take_of (P := Try.prog) (Value.int .i64) 0 22 3 .i64 Try.underlying22 hi021 hsz21 A121_0 c121_0 (rd_L1 l0_1 x12_1) (ji15) (dA) (dA) HC121_0.out
   have HR122 := ak (Kd.C_of_reads (h1 := fun _ => rfl) (hA21 _ (Kd.reads_of_C HR121_0.out)))
   have HC122 := Aside0.mk hC21
   clear hA21 hC21 hi021 hsz21
   refine sS (n := 12) (S := fun w' => w'.cell? ⟨gb120, 0, none⟩ = some (.int .i64 a0_0) ∧ w'.cell? ⟨gb120, 1, none⟩ = some (u121001)) (ds := [11]) ⟨bc BK120 0, bc BK120 1⟩ (fun hHeld => ?_); refine with_tabW congoutop_array.tab6 congoutop_array.bits6 (fun HT_ HW_ => ?_)
   generalize wr.drew = w20 at HO_121001 BK118 BK119 BK120 HB HR122 hHeld ⊢
   refine pS 0 19 12 1 ?_
   refine pS 2 21 12 5 ?_
   refine pS 3 22 12 13 ?_
   refine pS 4 23 12 29 ?_
   refine pS 5 24 12 61 ?_
   refine pS 6 25 12 125 ?_
   refine tS 1 20 12 127 ?_
   refine one_ (i := 7) (N := some 26) (ba 12 255) rfl rfl (one_of HT_.out (by kernel_rfl)) (by decide) (fun K hK => ?_)
   refine goes_ Try.func7 (by kernel_rfl) rfl #[.slice A121_0 ((rd_L1 l0_1 x12_1).take ((ji15) : Int).toNat).length c121_0] (by rfl) rfl rfl (by (try simp only [List.map_toArray, List.map_cons, List.map_nil]); first | done | (rw [show ((rd_L1 l0_1 x12_1).take ((ji15) : Int).toNat).length = (ji15).toNat from (by rw [List.length_take]; have h_ : ((ji15) : Int) ≤ ((rd_L1 l0_1 x12_1).length : Int) := dA; omega)] <;> rfl) | (simp only [hji15]; rfl) | rfl | (simp only [List.length_drop, List.length_take]; rfl)) ?_
   with_reducible refine (slices_Clone_int_int.calls _ _ ((rd_L1 l0_1 x12_1).take ((ji15) : Int).toNat) t123 _ ?side1 ?side2 A18.out).mono ?_
   (case side1 => exact kC HR122)
   (case side2 => exact HC122.out)
   rintro e w22 ⟨v124, rfl, ho0, hb⟩
   refine ⟨_, rfl, ?_⟩
   replace HO_121001 := ak (Kd.S_elder' (by (with_reducible repeat (first | apply Kd.S_alloc | apply Kd.S_drewN | apply Kd.S_drew)); exact HO_121001.out) (Kd.R_base ho0) hb)
   have HO125 := ak (Kd.R_lower ho0 (below_size (hbC _)))
   replace BK118 := kB BK118 hb
   replace BK119 := kB BK119 hb
   replace BK120 := kB BK120 hb
   replace HB := kH _ hb
   (try clear hb)
   (try clear hb2)
   (try clear hk)
   (try clear hi)
   (try clear ho0)
   obtain ⟨Ao24, co24, eo24⟩ := Kd.R_slice HO125.out
   (first | subst eo24 | (injection eo24 with f1_ f2_ f3_; have f4_ := f1_.symm; have f5_ := f3_.symm; clear f1_ f2_ f3_; subst f4_; subst f5_))
   refine hK.out _ _ ⟨bc BK120 0, bc BK120 1⟩ (fun hHeld => ?_)
   clear hK K
   refine norm_ (a' := ?_) ?_ ?_
   rotate_left
   ·show Act.put _ (some 26) _ = _
    simp only [Act.put, List.setIfInBounds_toArray, List.set_cons_zero, List.set_cons_succ, i64_w, i32_w]
    rfl
   refine one_ (i := 8) (N := some 27) (ba 12 511) rfl rfl (one_of HT_.out (by kernel_rfl)) (by decide) (fun K hK => ?_)
   refine value_ (w1 := ?_) (v := ?_) (by rfl) rfl ?_ ?_
   rotate_left 2
   ·go_simp
    constructor
    ·rfl
    ·rfl
   refine hK.out _ _ ⟨(blk_cell (blk_alloc BK120.out _) 0).trans rfl, (blk_cell (blk_alloc BK120.out _) 1).trans rfl⟩ (fun hHeld => ?_)
   clear hK K
   refine norm_ (a' := ?_) ?_ ?_
   rotate_left
   ·show Act.put _ (some 27) _ = _
    simp only [Act.put, List.setIfInBounds_toArray, List.set_cons_zero, List.set_cons_succ, i64_w, i32_w]
    rfl
   refine one_ (i := 9) (N := some 28) (ba 12 1023) rfl rfl (one_of HT_.out (by kernel_rfl)) (by decide) (fun K hK => ?_)
   refine Kd.S_append_step (Kd.slice 3 (Kd.int .i64)) (w0 := w) w.heap.size (by rfl) (.tmp 20) (.tmp 27) 23 22 (.slice none 0 0) 24 rfl Try.underlying23 info22 rfl (by decide) (by omega) u121001 x121001_1 t123 [.slice Ao24 t123.length co24] (fun _ => True) (fun k_ => some k_ = (.slice Ao24 t123.length co24 : Value).ownBlock) rfl rfl ?aP (fun k_ hk_ => ((Kd.R_mono (ok' := fun k_ => ((fun _ => True)) k_ ∧ nb k_ u121001) (Kd.R_apart' (HO125.out) (Kd.S_typed HO_121001.out) (by decide)) (fun k_ hk => ⟨trivial, hk.2⟩))).1 k_ hk_.symm) ?aF ?aO ?aB ?aS ?aL ?_
   (case aP => exact Kd.M_row (Kd.R_mono (Kd.R_tight rfl (Kd.R_mono (ok' := fun k_ => ((fun _ => True)) k_ ∧ nb k_ u121001) (Kd.R_apart' (HO125.out) (Kd.S_typed HO_121001.out) (by decide)) (fun k_ hk => ⟨trivial, hk.2⟩))) (fun _ h_ => h_)))
   (case aB => exact (hbC _))
   (case aF => exact (fun _ _ => trivial))
   (case aO => exact (by (with_reducible repeat (first | apply Kd.S_alloc | apply Kd.S_drewN | apply Kd.S_drew)); exact Kd.S_mono HO_121001.out (fun k_ hk => ⟨trivial, fun e_ => hk.2 e_⟩)))
   (case aS => exact (below_size (hbC _)))
   (case aL => have := LMc19.out; omega)
   intro v127 w23 ho hb hg hat
   rw [← Ny126.out] at ho
   have n0_ := ak (blk_grown (g := gb118) (o := .cells #[.int .i64 a0_0, .slice (some ad121) l0_1.length c0_1] 31 (0, 0)) (bkC BK118) hg (Kd.S_ne HO_121001.out BK118.out (by decide)))
   have n1_ := ak (blk_grown (g := gb119) (o := .cells #[.int .i64 0, .slice none 0 0] 25 (0, 0)) (bkC BK119) hg (Kd.S_ne HO_121001.out BK119.out (by decide)))
   have n2_ := ak (blk_grown (g := gb120) (o := .cells #[.int .i64 a0_0, u121001] 25 (0, 0)) (bkC BK120) hg (Kd.S_ne HO_121001.out BK120.out (by decide)))
   have n3_ := ak (hb)
   have n4_ := ak (ho)
   clear BK118
   clear BK119
   clear BK120
   clear HB
   clear HO_121001
   clear HO125
   have BK118 := n0_
   have BK119 := n1_
   have BK120 := n2_
   have HB := n3_
   have HO128 := n4_
   clear n0_ n1_ n2_ n3_ n4_
   clear ho hb hg hat
   obtain ⟨Ao25, co25, eo25⟩ := Kd.S_slice HO128.out
   (first | subst eo25 | (injection eo25 with f1_ f2_ f3_; have f4_ := f1_.symm; have f5_ := f3_.symm; clear f1_ f2_ f3_; subst f4_; subst f5_))
   refine hK.out _ _ ⟨bc BK120 0, bc BK120 1⟩ (fun hHeld => ?_)
   clear hK K
   refine norm_ (a' := ?_) ?_ ?_
   rotate_left
   ·show Act.put _ (some 28) _ = _
    simp only [Act.put, List.setIfInBounds_toArray, List.set_cons_zero, List.set_cons_succ, i64_w, i32_w]
    rfl
   refine pS 10 29 12 2047 ?_
   refine last_ (i := 11) (N := none) (ba 12 4095) rfl rfl (one_of HT_.out (by kernel_rfl)) (by decide) (fun K hK => ?_)
   have hs26 : w23.cell? ⟨gb120, 1, none⟩ = some (u121001) := bc BK120 1
   have hfs26 := fz BK120 1
   have hns26_0 := NB118_120.out
   have hns26_1 := NB119_120.out
   have hms26_0 := NB120_118.out
   have hms26_1 := NB120_119.out
   refine skip_ (w1 := ?_) (by rfl) rfl ?_ ?_
   rotate_left
   ·go_simp
    rfl
   refine hK.out _ _ ?_
   clear hK K
   refine done_ (done_of HT_.out (by kernel_rfl)) ?_
   try go_wp2
   go_roundg k1
   case measure => have := HK1.out; omega
   case rel => exact ⟨(wrap64 (x12_1 + 1)), (y126), (.slice Ao25 y126.length co25), (by first | rfl | (simp; done) | (simp [*]; done)), H', ⟨by have := HK1.out; omega⟩, ⟨by (with_reducible repeat (first | apply Kd.S_alloc | apply Kd.S_drewN | apply Kd.S_drew)); exact Kd.S_mono (Kd.S_far (p := ⟨gb120, 1, none⟩) (Kd.S_types HO128.out BK120.out (by decide)) (fun _ hk => hk.2) (.slice Ao25 y126.length co25)) (fun _ hk => trivial)⟩, ⟨bF BK118⟩, ⟨bF BK119⟩, ⟨by (with_reducible repeat (first | refine blk_drewN ?_ _ | refine blk_drew ?_ | refine blk_alloc ?_ _)); refine blk_put (cs := #[.int .i64 a0_0, u121001]) ?_ 1 _ rfl; (with_reducible repeat (first | refine blk_drewN ?_ _ | refine blk_drew ?_ | refine blk_alloc ?_ _)); exact BK120.out⟩, ⟨hbC _⟩⟩

end Go.Proofs.Ytkieehjpnjplmaa.X
