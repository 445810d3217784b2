-- Written by a program of this work (wip/xprint.py, over the kit's printer) out of the translation.
import Derived.Test.YtefmafbbnkkpjaaX0
namespace Go.Proofs.Ytefmafbbnkkpjaa.X
open Go.RowKit Go.Proofs.YtefmafbbnkkpjaaW.PrintWords Go.Proofs.YtefmafbbnkkpjaaW.PrintLast Go.Proofs.YtefmafbbnkkpjaaW.PrintMore
attribute [local go_sem] max2_int min2_int max_two min_two max_three min_three max_four min_four   -- for this text's walks alone
set_option linter.unusedVariables false
set_option linter.unusedSimpArgs false

/-! ### congouref01_Given: function 75 -/
def congouref01_Given.l0 : Nat → List Int → List (S78) → Int → Int → Option (List Int × Bool)
 | 0, _, _, _, _ => none
 | k + 1, x6, x12, x13, x14 => if x14 < x13 then (if 0 ≤ x14 then (if x14 < (x12.length : Int) then (if ((rd_T78 x12 x14).f0) < 0 then (some (([] : List Int), false)) else (if ((rd_T78 x12 x14).f0) ≥ (x6.length : Int) then (some (([] : List Int), false)) else (if ((rd_T78 x12 x14).f1) < 0 then (some (([] : List Int), false)) else (if ((rd_T78 x12 x14).f1) ≥ (x6.length : Int) then (some (([] : List Int), false)) else (if ((rd_T78 x12 x14).f0) = ((rd_T78 x12 x14).f1) then (some (([] : List Int), false)) else (if ((rd_T78 x12 x14).f2) < 1 then (some (([] : List Int), false)) else (if ((rd_T78 x12 x14).f2) > 20 then (some (([] : List Int), false)) else (if 0 ≤ ((rd_T78 x12 x14).f0) then (if ((rd_T78 x12 x14).f0) < (x6.length : Int) then (if 0 ≤ ((rd_T78 x12 x14).f1) then (if ((rd_T78 x12 x14).f1) < (x6.length : Int) then (if (rd x6 ((rd_T78 x12 x14).f0)) < (wrap64 ((rd x6 ((rd_T78 x12 x14).f1)) + (wrap64 (2 * ((rd_T78 x12 x14).f2))))) then (some (([] : List Int), false)) else ((some (x6.set (((rd_T78 x12 x14).f0) : Int).toNat (wrap64 ((rd x6 ((rd_T78 x12 x14).f0)) - ((rd_T78 x12 x14).f2))) : List Int)).bind fun y278 => (congouref01_Given.l0 k (y278.set (((rd_T78 x12 x14).f1) : Int).toNat (wrap64 ((rd y278 ((rd_T78 x12 x14).f1)) + ((rd_T78 x12 x14).f2)))) x12 x13 (wrap64 (x14 + 1))))) else (none)) else (none)) else (none)) else (none))))))))) else (none)) else (none)) else (some (x6, true))
def congouref01_Given.f (k : Nat) (l0 : List Int) (l1 : List (S78)) : Option (List Int × Bool) := (some (([] : List Int) : List Int)).bind fun y267 => (if y267.length + l0.length < 17592186044416 then (congouref01_Given.l0 k (y267 ++ l0) l1 (l1.length : Int) 0) else (none))
theorem congouref01_Given.mono_l : ∀ k, (∀ y0 y1 y2 y3, LeO (congouref01_Given.l0 k y0 y1 y2 y3) (congouref01_Given.l0 (k + 1) y0 y1 y2 y3))
 | 0 => fun _ _ _ _ r h => by simp [congouref01_Given.l0] at h
 | k + 1 => by
  have ih0 := congouref01_Given.mono_l k
  ·intro y0 y1 y2 y3
   unfold congouref01_Given.l0
   repeat' first
   | (with_reducible exact ih0 _ _ _ _)
   | (with_reducible exact LeO.refl _)
   | (with_reducible exact LeO.none _)
   | (with_reducible refine LeO.ite ?_ ?_)
   | (with_reducible refine LeO.bind ?_ (fun _ => ?_))
   | exact ih0 _ _ _ _
   | exact LeO.none _
   | refine LeO.ite ?_ ?_
   | refine LeO.bind ?_ (fun _ => ?_)
theorem congouref01_Given.mono : ∀ a0 a1 k, LeO (congouref01_Given.f k a0 a1) (congouref01_Given.f (k + 1) a0 a1) := by
 intro a0 a1 k
 have ih0 := congouref01_Given.mono_l k
 unfold congouref01_Given.f
 repeat' first
   | (with_reducible exact ih0 _ _ _ _)
   | (with_reducible exact LeO.refl _)
   | (with_reducible exact LeO.none _)
   | (with_reducible refine LeO.ite ?_ ?_)
   | (with_reducible refine LeO.bind ?_ (fun _ => ?_))
   | exact ih0 _ _ _ _
   | exact LeO.none _
   | refine LeO.ite ?_ ?_
   | refine LeO.bind ?_ (fun _ => ?_)
def congouref01_Given.T5 : Bool × List (List Nat × List Nat) := (true, [([], []), ([0], [0]), ([1], [1]), ([2], [2]), ([3], [3]), ([4, 3], [3, 4]), ([3], [3]), ([6, 3], [3, 6]), ([5, 7, 3], [3, 5, 7]), ([3, 8], [3, 8]), ([9, 3], [9]), ([10], [10]), ([11, 10], [10, 11]), ([12, 10], [10, 12]), ([10, 13], [10, 13]), ([14, 10], [14]), ([15], [15]), ([16, 15], [15, 16]), ([15], [15]), ([18, 15], [15, 18]), ([17, 19, 15], [15, 17, 19]), ([15, 20], [15, 20]), ([21, 15], [21]), ([22], [22]), ([23, 22], [22, 23]), ([22], [22]), ([25, 22], [22, 25]), ([24, 26, 22], [22, 24, 26]), ([22, 27], [22, 27]), ([28, 22], [28]), ([29], [29]), ([30, 29], [29, 30]), ([31, 29], [29, 31]), ([29, 32], [29, 32]), ([33, 29], [33]), ([34], [34]), ([35, 34], [34, 35]), ([36, 34], [34, 36]), ([34, 37], [34, 37]), ([38, 34], [38]), ([39], [39]), ([39], [39]), ([41, 39], [39, 41]), ([40, 42, 39], [39, 40, 42]), ([43, 39], [39, 43]), ([39], [39]), ([39], [39]), ([46, 39], [39, 46]), ([45, 47, 39], [39, 45, 47]), ([48, 39], [39, 48]), ([39], [39]), ([50, 39], [39, 50]), ([51, 39], [39, 51]), ([49, 52, 39], [39, 49, 52]), ([44, 53, 39], [39, 44, 53]), ([39, 54], [39, 54])])
def congouref01_Given.B5 : List Nat := [0, 1, 3, 7, 15, 31, 15, 79, 255, 511, 1023, 2047, 4095, 8191, 16383, 32767, 65535, 131071, 65535, 327679, 1048575, 2097151, 4194303, 8388607, 16777215, 8388607, 41943039, 134217727, 268435455, 536870911, 1073741823, 2147483647, 4294967295, 8589934591, 17179869183, 34359738367, 68719476735, 137438953471, 274877906943, 549755813887, 1099511627775, 1099511627775, 3298534883327, 8796093022207, 17592186044415, 1099511627775, 1099511627775, 71468255805439, 247390116249599, 528865092960255, 1099511627775, 1126999418470399, 3378799232155647, 8973114394279935, 18014398509481983, 36028797018963967]
theorem congouref01_Given.tab5 : rtab .any (opsOf Try.f75 5) = congouref01_Given.T5 := by kernel_rfl
theorem congouref01_Given.bits5 : waitsOk congouref01_Given.T5.2 congouref01_Given.B5 = true := by kernel_rfl
def congouref01_Given.T7 : Bool × List (List Nat × List Nat) := (true, [([], []), ([], []), ([1], [1]), ([0, 2], [0, 2]), ([3], [3]), ([], []), ([5], [5]), ([4, 6], [4, 6]), ([0, 2, 0, 1, 2, 3, 4, 5, 6, 7], [0, 2]), ([8, 7, 0, 1, 2, 3, 4, 5, 6, 7], [7, 8])])
def congouref01_Given.B7 : List Nat := [0, 0, 2, 7, 15, 0, 32, 127, 255, 511]
theorem congouref01_Given.tab7 : rtab .any (opsOf Try.f75 7) = congouref01_Given.T7 := by kernel_rfl
theorem congouref01_Given.bits7 : waitsOk congouref01_Given.T7.2 congouref01_Given.B7 = true := by kernel_rfl
def congouref01_Given.T8 : Bool × List (List Nat × List Nat) := (true, [([], []), ([], []), ([1], [1]), ([0, 2], [0, 2]), ([3], [3]), ([], []), ([5], [5]), ([4, 6], [4, 6]), ([0, 2, 0, 1, 2, 3, 4, 5, 6, 7], [0, 2]), ([8, 7, 0, 1, 2, 3, 4, 5, 6, 7], [7, 8])])
def congouref01_Given.B8 : List Nat := [0, 0, 2, 7, 15, 0, 32, 127, 255, 511]
theorem congouref01_Given.tab8 : rtab .any (opsOf Try.f75 8) = congouref01_Given.T8 := by kernel_rfl
theorem congouref01_Given.bits8 : waitsOk congouref01_Given.T8.2 congouref01_Given.B8 = true := by kernel_rfl
set_option maxHeartbeats 8000000 in
set_option maxRecDepth 100000 in
theorem congouref01_Given.calls (k : Nat) (A0 : Option Addr) (c0 : Nat) (l0 : List Int) (A1 : Option Addr) (c1 : Nat) (l1 : List (S78)) (r1 : List Int) (r2 : Bool) (w : World) (hr0 : Kd.C (Kd.int .i64) w A0 l0.length l0) (hc0 : l0.length ≤ c0) (hr1 : Kd.C k78 w A1 l1.length l1) (hc1 : l1.length ≤ c1) (h : congouref01_Given.f k l0 l1 = some (r1, r2)) :
  Calls Try.prog 75 #[.slice A0 l0.length c0, .slice A1 l1.length c1] w fun e w' => ∃ v0_ : Value, e = .returned (.tuple #[v0_, .bool r2]) ∧ Kd.R (Kd.int .i64) 3 w' w.heap.size (fun _ => True) v0_ r1 ∧ Below w.heap.size w w' := by
 have hu78 := Try.underlying78
 have HR0 := Aside0.mk hr0
 have HC0 := Aside0.mk hc0
 clear hr0 hc0
 have HR1 := Aside0.mk hr1
 have HC1 := Aside0.mk hc1
 clear hr1 hc1
 have HB := ak (Below.refl w.heap.size w)
 have H : ((some (([] : List Int) : List Int)).bind fun y267 => (if y267.length + l0.length < 17592186044416 then (congouref01_Given.l0 k (y267 ++ l0) l1 (l1.length : Int) 0) else (none))) = some (r1, r2) := h
 clear h
 obtain ⟨y267, hy267⟩ : ∃ y_ : List Int, y_ = (([] : List Int)) := ⟨_, rfl⟩
 replace H : (if y267.length + l0.length < 17592186044416 then (congouref01_Given.l0 k (y267 ++ l0) l1 (l1.length : Int) 0) else (none)) = some (r1, r2) := by first | (rw [hy267]; with_reducible exact H) | (have H2_ := (Option.bind_some _ _).symm.trans H; rw [hy267]; with_reducible exact H2_) | (have H2_ := (Option.bind_some _ _).symm.trans H; with_reducible exact H2_) | with_reducible exact H | (rw [hy267]; exact H) | exact H
 have Ny267 := Aside0.mk hy267
 clear hy267
 by_cases c3 : y267.length + l0.length < 17592186044416
 rotate_left
 ·rw [if_neg c3] at H
  exact absurd H (by simp)
 rw [if_pos c3] at H
 have LMc3 := Aside0.mk c3
 clear c3
 obtain ⟨y270, hy270⟩ : ∃ y_ : List Int, y_ = (y267 ++ l0) := ⟨_, rfl⟩
 replace H : (congouref01_Given.l0 k y270 l1 (l1.length : Int) 0) = some (r1, r2) := by first | (rw [hy270]; with_reducible exact H) | (have H2_ := (Option.bind_some _ _).symm.trans H; rw [hy270]; with_reducible exact H2_) | (have H2_ := (Option.bind_some _ _).symm.trans H; with_reducible exact H2_) | with_reducible exact H | (rw [hy270]; exact H) | exact H
 have Ny270 := Aside0.mk hy270
 clear hy270
 have H' := Aside0.mk H
 clear H
 go_enter Try.func75, Try.ntmps75
 go_wp2_with (first | ((with_reducible refine gate_dst (N := 9) rfl ?_); (try (refine gate_guard (by rfl) ?_; dsimp only)); refine Kd.R_lit (Kd.int .i64) _ 3 ?hg (N := 9) ?hd (xs := ([] : List Int)) (inner := []) (ok := fun _ => True) (okp := fun _ => True) ?hr ?hp (fun _ hk => hk) trivial (Below.refl _ _) (Nat.le_refl _) (by simp) ?_; (case hd => rfl); (case hg => rfl); (case hr => first | (go_simp; done) | (go_simp; rfl)); (case hp => exact (Reps.none _ _)); intro v268 w4 ho5 hb hg_ hnew_; clear hg_ hnew_; (first | rw [← Ny267.out] at ho5 | (simp only [Int.reduceToNat] at ho5; rw [← Ny267.out] at ho5)); have HO269 := ak (Kd.R_lower ho5 (below_size (hbC _))); replace HB := kH _ hb; clear hb ho5) | ((with_reducible refine gate_builtin (b := .append) (xs := #[.tmp 9, .tmp 10]) rfl ?_); (try (refine gate_guard (by rfl) ?_; dsimp only)); at_builtin; refine Kd.R_append_rows (Kd.int .i64) (w0 := w) w.heap.size rfl (.tmp 9) (.tmp 10) 22 3 (.int .i64 0) 8 rfl Try.underlying22 info3 rfl (by decide) (by omega) v268 y267 l0 _ _ _ (fun _ => True) (fun _ => False) rfl rfl ?aO ?aR (fun _ _ h => h) (fun _ h => h.elim) ?aF ?aB ?aS ?aL ?_; (case aR => exact kC HR0); (case aB => exact (hbC _)); (case aF => exact (fun _ _ => trivial)); (case aO => exact (rC HO269)); (case aS => exact (below_size (hbC _))); (case aL => have := LMc3.out; omega); intro v271 w6 ho hb hg hat; rw [← Ny270.out] at ho; have n0_ := ak (hb); have n1_ := ak (ho); clear HB; clear HO269; have HB := n0_; have HO272 := n1_; clear n0_ n1_; clear ho hb hg hat))
 go_loopg [14] k (fun kq v14 w' => ∃ (x6_1 : List Int) (x14_1 : Int), v14 = .int .i64 x14_1 ∧ Aside0 (congouref01_Given.l0 kq x6_1 l1 (l1.length : Int) x14_1 = some (r1, r2)) ∧ Aside0 (kq ≤ k) ∧ Aside0 (Kd.R (Kd.int .i64) 3 w' w.heap.size (fun _ => True) v271 x6_1) ∧ Aside0 (Below w.heap.size w w'))
 case atStart => exact ⟨(y270), (0), (by first | rfl | (simp; done) | (simp [*]; done)), H', ⟨Nat.le_refl _⟩, ⟨rC HO272⟩, ⟨hbC _⟩⟩
 case round =>
  clear H'
  try clear c1
  try clear p2
  try clear c3
  obtain ⟨x6_1, x14_1, rfl, HA, HK1, HO_6, HB⟩ := hrel
  cases gk with
  | zero => exact absurd HA.out (by simp [congouref01_Given.l0])
  | succ k1 =>
   have H := HA.out
   clear HA
   simp only [congouref01_Given.l0] at H
   by_cases c7 : x14_1 < (l1.length : Int)
   rotate_left
   ·rw [if_neg c7] at H
    have c7b0 : decide (x14_1 < (l1.length : Int)) = false := decide_eq_false c7
    clear c7
    simp only [Option.some.injEq, Prod.mk.injEq] at H
    obtain ⟨rfl, rfl⟩ := H
    go_wp2
    go_ret2
    exact ⟨_, by first | rfl | (simp [errW_none, errW_some] <;> rfl) | (simp [*, errW_none, errW_some] <;> rfl), rC HO_6, hbC _⟩
   rw [if_pos c7] at H
   have c7b0 : decide (x14_1 < (l1.length : Int)) = true := decide_eq_true c7
   clear c7
   by_cases c8 : 0 ≤ x14_1
   rotate_left
   ·rw [if_neg c8] at H
    exact absurd H (by simp)
   rw [if_pos c8] at H
   have c8b0 : decide (0 ≤ x14_1) = true := decide_eq_true c8
   clear c8
   by_cases c9 : x14_1 < (l1.length : Int)
   rotate_left
   ·rw [if_neg c9] at H
    exact absurd H (by simp)
   rw [if_pos c9] at H
   have c9b0 : decide (x14_1 < (l1.length : Int)) = true := decide_eq_true c9
   clear c9
   by_cases c10 : ((rd_T78 l1 x14_1).f0) < 0
   ·rw [if_pos c10] at H
    have c10b0 : decide (((rd_T78 l1 x14_1).f0) < 0) = true := decide_eq_true c10
    clear c10
    simp only [Option.some.injEq, Prod.mk.injEq] at H
    obtain ⟨rfl, rfl⟩ := H
    have p273 : 0 ≤ (x14_1 : Int) := dA
    have q273 : x14_1 < (l1.length : Int) := dA
    obtain ⟨ad273, e273, hx273_0, hx273_1, hx273_2⟩ := at_T78 HR1.out x14_1 p273 q273
    cases e273
    try replace hx273_0 := (HB.out.cell (World.block_lt_of_cell? w _ hx273_0)).trans hx273_0
    try replace hx273_1 := (HB.out.cell (World.block_lt_of_cell? w _ hx273_1)).trans hx273_1
    try replace hx273_2 := (HB.out.cell (World.block_lt_of_cell? w _ hx273_2)).trans hx273_2
    replace p273 := eq_true p273
    replace q273 := eq_true q273
    try go_wp2_with (first | ((with_reducible refine gate_dst (N := 8) rfl ?_); (try (refine gate_guard (by rfl) ?_; dsimp only)); refine bE 8 #[.int .i64 0, .int .i64 0, .int .i64 0] 78 ?_; intro gb274 hg w11 hbox hb; replace HO_6 := kO HO_6 hb; have BK274 := ak (hbox); have GW274 := kG w hg; have GE274 := kG w hg; replace HB := kH _ hb; clear hb hbox hg; have hcz12_0 : w11.cell? ⟨gb274, 0, none⟩ = some (.int .i64 0) := bc BK274 0; have hcz12_1 : w11.cell? ⟨gb274, 1, none⟩ = some (.int .i64 0) := bc BK274 1; have hcz12_2 : w11.cell? ⟨gb274, 2, none⟩ = some (.int .i64 0) := bc BK274 2; have hfz12_0 := fz BK274 0; have hfz12_1 := fz BK274 1; have hfz12_2 := fz BK274 2))
    have n0_ : Aside0 (Kd.R (Kd.int .i64) 3 (((w11.setCell ⟨gb274, 0, none⟩ (.int .i64 ((rd_T78 l1 x14_1).f0))).setCell ⟨gb274, 1, none⟩ (.int .i64 ((rd_T78 l1 x14_1).f1))).setCell ⟨gb274, 2, none⟩ (.int .i64 ((rd_T78 l1 x14_1).f2))) w.heap.size (fun _ => True) v271 x6_1) := ⟨rD (Kd.R_mono (Kd.R_far (p := ⟨gb274, 2, none⟩) (Kd.R_far (p := ⟨gb274, 1, none⟩) (Kd.R_far (p := ⟨gb274, 0, none⟩) (Kd.R_types HO_6.out BK274.out (by decide)) (fun _ hk => hk.2) (.int .i64 ((rd_T78 l1 x14_1).f0))) (fun _ hk => hk.2) (.int .i64 ((rd_T78 l1 x14_1).f1))) (fun _ hk => hk.2) (.int .i64 ((rd_T78 l1 x14_1).f2))) (fun _ hk => trivial))⟩
    have n1_ : Aside0 ((((w11.setCell ⟨gb274, 0, none⟩ (.int .i64 ((rd_T78 l1 x14_1).f0))).setCell ⟨gb274, 1, none⟩ (.int .i64 ((rd_T78 l1 x14_1).f1))).setCell ⟨gb274, 2, none⟩ (.int .i64 ((rd_T78 l1 x14_1).f2))).heap[gb274]? = some (.cells #[.int .i64 ((rd_T78 l1 x14_1).f0), .int .i64 ((rd_T78 l1 x14_1).f1), .int .i64 ((rd_T78 l1 x14_1).f2)] 78 (0, 0))) := ⟨by (with_reducible repeat (first | refine blk_drewN ?_ _ | refine blk_drew ?_ | refine blk_alloc ?_ _)); refine blk_put (cs := #[.int .i64 ((rd_T78 l1 x14_1).f0), .int .i64 ((rd_T78 l1 x14_1).f1), .int .i64 0]) ?_ 2 _ rfl; (with_reducible repeat (first | refine blk_drewN ?_ _ | refine blk_drew ?_ | refine blk_alloc ?_ _)); refine blk_put (cs := #[.int .i64 ((rd_T78 l1 x14_1).f0), .int .i64 0, .int .i64 0]) ?_ 1 _ rfl; (with_reducible repeat (first | refine blk_drewN ?_ _ | refine blk_drew ?_ | refine blk_alloc ?_ _)); refine blk_put (cs := #[.int .i64 0, .int .i64 0, .int .i64 0]) ?_ 0 _ rfl; (with_reducible repeat (first | refine blk_drewN ?_ _ | refine blk_drew ?_ | refine blk_alloc ?_ _)); exact BK274.out⟩
    have n2_ : Aside0 (Below w.heap.size w (((w11.setCell ⟨gb274, 0, none⟩ (.int .i64 ((rd_T78 l1 x14_1).f0))).setCell ⟨gb274, 1, none⟩ (.int .i64 ((rd_T78 l1 x14_1).f1))).setCell ⟨gb274, 2, none⟩ (.int .i64 ((rd_T78 l1 x14_1).f2)))) := ⟨hbC _⟩
    (try clear HO_6)
    (try clear BK274)
    (try clear HB)
    generalize (((w11.setCell ⟨gb274, 0, none⟩ (.int .i64 ((rd_T78 l1 x14_1).f0))).setCell ⟨gb274, 1, none⟩ (.int .i64 ((rd_T78 l1 x14_1).f1))).setCell ⟨gb274, 2, none⟩ (.int .i64 ((rd_T78 l1 x14_1).f2))) = w13 at n0_ n1_ n2_ ⊢
    have HO_6 := n0_
    have BK274 := n1_
    have HB := n2_
    clear n0_ n1_ n2_
    replace HO_6 := ak (Kd.R_drew HO_6.out)
    replace BK274 := kd BK274
    replace HB := ak (below_drew1 HB.out)
    refine sS (n := 56) (S := fun w' => w'.cell? ⟨gb274, 0, none⟩ = some (.int .i64 ((rd_T78 l1 x14_1).f0)) ∧ w'.cell? ⟨gb274, 1, none⟩ = some (.int .i64 ((rd_T78 l1 x14_1).f1)) ∧ w'.cell? ⟨gb274, 2, none⟩ = some (.int .i64 ((rd_T78 l1 x14_1).f2))) (ds := []) ⟨bc BK274 0, bc BK274 1, bc BK274 2⟩ (fun hHeld => ?_); refine with_tabW congouref01_Given.tab5 congouref01_Given.bits5 (fun HT_ HW_ => ?_)
    generalize w13.drew = w14 at HO_6 BK274 HB hHeld ⊢
    refine pS 0 18 56 1 ?_
    refine tS 1 19 56 3 ?_
    refine pS 2 20 56 7 ?_
    refine pS 3 21 56 15 ?_
    refine uS 4 22 56 31 ?_
    refine uS 5 23 56 63 ?_
    refine uS 6 24 56 127 ?_
    refine uS 7 25 56 255 ?_
    refine uS 8 26 56 511 ?_
    refine pS 9 27 56 1023 ?_
    refine pS 10 28 56 2047 ?_
    refine uS 11 29 56 4095 ?_
    refine uS 12 30 56 8191 ?_
    refine uS 13 31 56 16383 ?_
    refine pS 14 32 56 32767 ?_
    refine pS 15 33 56 65535 ?_
    refine uS 16 34 56 131071 ?_
    refine uS 17 35 56 262143 ?_
    refine uS 18 36 56 524287 ?_
    refine uS 19 37 56 1048575 ?_
    refine uS 20 38 56 2097151 ?_
    refine pS 21 39 56 4194303 ?_
    refine pS 22 40 56 8388607 ?_
    refine uS 23 41 56 16777215 ?_
    refine uS 24 42 56 33554431 ?_
    refine uS 25 43 56 67108863 ?_
    refine uS 26 44 56 134217727 ?_
    refine uS 27 45 56 268435455 ?_
    refine pS 28 46 56 536870911 ?_
    refine pS 29 47 56 1073741823 ?_
    refine uS 30 48 56 2147483647 ?_
    refine uS 31 49 56 4294967295 ?_
    refine uS 32 50 56 8589934591 ?_
    refine pS 33 51 56 17179869183 ?_
    refine pS 34 52 56 34359738367 ?_
    refine uS 35 53 56 68719476735 ?_
    refine uS 36 54 56 137438953471 ?_
    refine uS 37 55 56 274877906943 ?_
    refine pS 38 56 56 549755813887 ?_
    refine pS 39 57 56 1099511627775 ?_
    refine uS 40 58 56 2199023255551 ?_
    refine uS 41 59 56 4398046511103 ?_
    refine uS 42 60 56 8796093022207 ?_
    refine uS 43 61 56 17592186044415 ?_
    refine uS 44 62 56 35184372088831 ?_
    refine uS 45 63 56 70368744177663 ?_
    refine uS 46 64 56 140737488355327 ?_
    refine uS 47 65 56 281474976710655 ?_
    refine uS 48 66 56 562949953421311 ?_
    refine uS 49 67 56 1125899906842623 ?_
    refine uS 50 68 56 2251799813685247 ?_
    refine uS 51 69 56 4503599627370495 ?_
    refine uS 52 70 56 9007199254740991 ?_
    refine uS 53 71 56 18014398509481983 ?_
    refine uS 54 72 56 36028797018963967 ?_
    refine pS 55 73 56 72057594037927935 ?_
    refine done_ (done_of HT_.out (by kernel_rfl)) ?_
    try go_wp2
    go_ret2
    exact ⟨_, by first | rfl | (simp [errW_none, errW_some] <;> rfl) | (simp [*, errW_none, errW_some] <;> rfl), by first | exact Kd.R_nil _ _ _ _ _ | exact Kd.N_nil _ _ _ _ _ | exact Kd.V_nil _ _ _ _ _ | exact Kd.Q_nil _ _ _ _ _ | exact Kd.S_nil _ _ _ _ _, hbC _⟩
   rw [if_neg c10] at H
   have c10b0 : decide (((rd_T78 l1 x14_1).f0) < 0) = false := decide_eq_false c10
   clear c10
   by_cases c15 : ((rd_T78 l1 x14_1).f0) ≥ (x6_1.length : Int)
   ·rw [if_pos c15] at H
    have c15b0 : decide ((x6_1.length : Int) ≤ ((rd_T78 l1 x14_1).f0)) = true := decide_eq_true c15
    clear c15
    simp only [Option.some.injEq, Prod.mk.injEq] at H
    obtain ⟨rfl, rfl⟩ := H
    have p273 : 0 ≤ (x14_1 : Int) := dA
    have q273 : x14_1 < (l1.length : Int) := dA
    obtain ⟨ad273, e273, hx273_0, hx273_1, hx273_2⟩ := at_T78 HR1.out x14_1 p273 q273
    cases e273
    try replace hx273_0 := (HB.out.cell (World.block_lt_of_cell? w _ hx273_0)).trans hx273_0
    try replace hx273_1 := (HB.out.cell (World.block_lt_of_cell? w _ hx273_1)).trans hx273_1
    try replace hx273_2 := (HB.out.cell (World.block_lt_of_cell? w _ hx273_2)).trans hx273_2
    replace p273 := eq_true p273
    replace q273 := eq_true q273
    try go_wp2_with (first | ((with_reducible refine gate_dst (N := 8) rfl ?_); (try (refine gate_guard (by rfl) ?_; dsimp only)); refine bE 8 #[.int .i64 0, .int .i64 0, .int .i64 0] 78 ?_; intro gb274 hg w16 hbox hb; replace HO_6 := kO HO_6 hb; have BK274 := ak (hbox); have GW274 := kG w hg; have GE274 := kG w hg; replace HB := kH _ hb; clear hb hbox hg; have hcz17_0 : w16.cell? ⟨gb274, 0, none⟩ = some (.int .i64 0) := bc BK274 0; have hcz17_1 : w16.cell? ⟨gb274, 1, none⟩ = some (.int .i64 0) := bc BK274 1; have hcz17_2 : w16.cell? ⟨gb274, 2, none⟩ = some (.int .i64 0) := bc BK274 2; have hfz17_0 := fz BK274 0; have hfz17_1 := fz BK274 1; have hfz17_2 := fz BK274 2))
    have n0_ : Aside0 (Kd.R (Kd.int .i64) 3 (((w16.setCell ⟨gb274, 0, none⟩ (.int .i64 ((rd_T78 l1 x14_1).f0))).setCell ⟨gb274, 1, none⟩ (.int .i64 ((rd_T78 l1 x14_1).f1))).setCell ⟨gb274, 2, none⟩ (.int .i64 ((rd_T78 l1 x14_1).f2))) w.heap.size (fun _ => True) v271 x6_1) := ⟨rD (Kd.R_mono (Kd.R_far (p := ⟨gb274, 2, none⟩) (Kd.R_far (p := ⟨gb274, 1, none⟩) (Kd.R_far (p := ⟨gb274, 0, none⟩) (Kd.R_types HO_6.out BK274.out (by decide)) (fun _ hk => hk.2) (.int .i64 ((rd_T78 l1 x14_1).f0))) (fun _ hk => hk.2) (.int .i64 ((rd_T78 l1 x14_1).f1))) (fun _ hk => hk.2) (.int .i64 ((rd_T78 l1 x14_1).f2))) (fun _ hk => trivial))⟩
    have n1_ : Aside0 ((((w16.setCell ⟨gb274, 0, none⟩ (.int .i64 ((rd_T78 l1 x14_1).f0))).setCell ⟨gb274, 1, none⟩ (.int .i64 ((rd_T78 l1 x14_1).f1))).setCell ⟨gb274, 2, none⟩ (.int .i64 ((rd_T78 l1 x14_1).f2))).heap[gb274]? = some (.cells #[.int .i64 ((rd_T78 l1 x14_1).f0), .int .i64 ((rd_T78 l1 x14_1).f1), .int .i64 ((rd_T78 l1 x14_1).f2)] 78 (0, 0))) := ⟨by (with_reducible repeat (first | refine blk_drewN ?_ _ | refine blk_drew ?_ | refine blk_alloc ?_ _)); refine blk_put (cs := #[.int .i64 ((rd_T78 l1 x14_1).f0), .int .i64 ((rd_T78 l1 x14_1).f1), .int .i64 0]) ?_ 2 _ rfl; (with_reducible repeat (first | refine blk_drewN ?_ _ | refine blk_drew ?_ | refine blk_alloc ?_ _)); refine blk_put (cs := #[.int .i64 ((rd_T78 l1 x14_1).f0), .int .i64 0, .int .i64 0]) ?_ 1 _ rfl; (with_reducible repeat (first | refine blk_drewN ?_ _ | refine blk_drew ?_ | refine blk_alloc ?_ _)); refine blk_put (cs := #[.int .i64 0, .int .i64 0, .int .i64 0]) ?_ 0 _ rfl; (with_reducible repeat (first | refine blk_drewN ?_ _ | refine blk_drew ?_ | refine blk_alloc ?_ _)); exact BK274.out⟩
    have n2_ : Aside0 (Below w.heap.size w (((w16.setCell ⟨gb274, 0, none⟩ (.int .i64 ((rd_T78 l1 x14_1).f0))).setCell ⟨gb274, 1, none⟩ (.int .i64 ((rd_T78 l1 x14_1).f1))).setCell ⟨gb274, 2, none⟩ (.int .i64 ((rd_T78 l1 x14_1).f2)))) := ⟨hbC _⟩
    (try clear HO_6)
    (try clear BK274)
    (try clear HB)
    generalize (((w16.setCell ⟨gb274, 0, none⟩ (.int .i64 ((rd_T78 l1 x14_1).f0))).setCell ⟨gb274, 1, none⟩ (.int .i64 ((rd_T78 l1 x14_1).f1))).setCell ⟨gb274, 2, none⟩ (.int .i64 ((rd_T78 l1 x14_1).f2))) = w18 at n0_ n1_ n2_ ⊢
    have HO_6 := n0_
    have BK274 := n1_
    have HB := n2_
    clear n0_ n1_ n2_
    replace HO_6 := ak (Kd.R_drew HO_6.out)
    replace BK274 := kd BK274
    replace HB := ak (below_drew1 HB.out)
    obtain ⟨Ao20, co20, eo20⟩ := Kd.R_slice HO_6.out
    (first | subst eo20 | (injection eo20 with f1_ f2_ f3_; have f4_ := f1_.symm; have f5_ := f3_.symm; clear f1_ f2_ f3_; subst f4_; subst f5_))
    refine sS (n := 56) (S := fun w' => w'.cell? ⟨gb274, 0, none⟩ = some (.int .i64 ((rd_T78 l1 x14_1).f0)) ∧ w'.cell? ⟨gb274, 1, none⟩ = some (.int .i64 ((rd_T78 l1 x14_1).f1)) ∧ w'.cell? ⟨gb274, 2, none⟩ = some (.int .i64 ((rd_T78 l1 x14_1).f2))) (ds := []) ⟨bc BK274 0, bc BK274 1, bc BK274 2⟩ (fun hHeld => ?_); refine with_tabW congouref01_Given.tab5 congouref01_Given.bits5 (fun HT_ HW_ => ?_)
    generalize w18.drew = w19 at HO_6 BK274 HB hHeld ⊢
    refine pS 0 18 56 1 ?_
    refine tS 1 19 56 3 ?_
    refine pS 2 20 56 7 ?_
    refine pS 3 21 56 15 ?_
    refine pS 4 22 56 31 ?_
    refine pS 6 24 56 95 ?_
    refine pS 7 25 56 223 ?_
    refine tS 5 23 56 255 ?_
    refine pS 8 26 56 511 ?_
    refine pS 9 27 56 1023 ?_
    refine pS 10 28 56 2047 ?_
    refine uS 11 29 56 4095 ?_
    refine uS 12 30 56 8191 ?_
    refine uS 13 31 56 16383 ?_
    refine pS 14 32 56 32767 ?_
    refine pS 15 33 56 65535 ?_
    refine uS 16 34 56 131071 ?_
    refine uS 17 35 56 262143 ?_
    refine uS 18 36 56 524287 ?_
    refine uS 19 37 56 1048575 ?_
    refine uS 20 38 56 2097151 ?_
    refine pS 21 39 56 4194303 ?_
    refine pS 22 40 56 8388607 ?_
    refine uS 23 41 56 16777215 ?_
    refine uS 24 42 56 33554431 ?_
    refine uS 25 43 56 67108863 ?_
    refine uS 26 44 56 134217727 ?_
    refine uS 27 45 56 268435455 ?_
    refine pS 28 46 56 536870911 ?_
    refine pS 29 47 56 1073741823 ?_
    refine uS 30 48 56 2147483647 ?_
    refine uS 31 49 56 4294967295 ?_
    refine uS 32 50 56 8589934591 ?_
    refine pS 33 51 56 17179869183 ?_
    refine pS 34 52 56 34359738367 ?_
    refine uS 35 53 56 68719476735 ?_
    refine uS 36 54 56 137438953471 ?_
    refine uS 37 55 56 274877906943 ?_
    refine pS 38 56 56 549755813887 ?_
    refine pS 39 57 56 1099511627775 ?_
    refine uS 40 58 56 2199023255551 ?_
    refine uS 41 59 56 4398046511103 ?_
    refine uS 42 60 56 8796093022207 ?_
    refine uS 43 61 56 17592186044415 ?_
    refine uS 44 62 56 35184372088831 ?_
    refine uS 45 63 56 70368744177663 ?_
    refine uS 46 64 56 140737488355327 ?_
    refine uS 47 65 56 281474976710655 ?_
    refine uS 48 66 56 562949953421311 ?_
    refine uS 49 67 56 1125899906842623 ?_
    refine uS 50 68 56 2251799813685247 ?_
    refine uS 51 69 56 4503599627370495 ?_
    refine uS 52 70 56 9007199254740991 ?_
    refine uS 53 71 56 18014398509481983 ?_
    refine uS 54 72 56 36028797018963967 ?_
    refine pS 55 73 56 72057594037927935 ?_
    refine done_ (done_of HT_.out (by kernel_rfl)) ?_
    try go_wp2
    go_ret2
    exact ⟨_, by first | rfl | (simp [errW_none, errW_some] <;> rfl) | (simp [*, errW_none, errW_some] <;> rfl), by first | exact Kd.R_nil _ _ _ _ _ | exact Kd.N_nil _ _ _ _ _ | exact Kd.V_nil _ _ _ _ _ | exact Kd.Q_nil _ _ _ _ _ | exact Kd.S_nil _ _ _ _ _, hbC _⟩
   rw [if_neg c15] at H
   have c15b0 : decide ((x6_1.length : Int) ≤ ((rd_T78 l1 x14_1).f0)) = false := decide_eq_false c15
   clear c15
   by_cases c21 : ((rd_T78 l1 x14_1).f1) < 0
   ·rw [if_pos c21] at H
    have c21b0 : decide (((rd_T78 l1 x14_1).f1) < 0) = true := decide_eq_true c21
    clear c21
    simp only [Option.some.injEq, Prod.mk.injEq] at H
    obtain ⟨rfl, rfl⟩ := H
    have p273 : 0 ≤ (x14_1 : Int) := dA
    have q273 : x14_1 < (l1.length : Int) := dA
    obtain ⟨ad273, e273, hx273_0, hx273_1, hx273_2⟩ := at_T78 HR1.out x14_1 p273 q273
    cases e273
    try replace hx273_0 := (HB.out.cell (World.block_lt_of_cell? w _ hx273_0)).trans hx273_0
    try replace hx273_1 := (HB.out.cell (World.block_lt_of_cell? w _ hx273_1)).trans hx273_1
    try replace hx273_2 := (HB.out.cell (World.block_lt_of_cell? w _ hx273_2)).trans hx273_2
    replace p273 := eq_true p273
    replace q273 := eq_true q273
    try go_wp2_with (first | ((with_reducible refine gate_dst (N := 8) rfl ?_); (try (refine gate_guard (by rfl) ?_; dsimp only)); refine bE 8 #[.int .i64 0, .int .i64 0, .int .i64 0] 78 ?_; intro gb274 hg w22 hbox hb; replace HO_6 := kO HO_6 hb; have BK274 := ak (hbox); have GW274 := kG w hg; have GE274 := kG w hg; replace HB := kH _ hb; clear hb hbox hg; have hcz23_0 : w22.cell? ⟨gb274, 0, none⟩ = some (.int .i64 0) := bc BK274 0; have hcz23_1 : w22.cell? ⟨gb274, 1, none⟩ = some (.int .i64 0) := bc BK274 1; have hcz23_2 : w22.cell? ⟨gb274, 2, none⟩ = some (.int .i64 0) := bc BK274 2; have hfz23_0 := fz BK274 0; have hfz23_1 := fz BK274 1; have hfz23_2 := fz BK274 2))
    have n0_ : Aside0 (Kd.R (Kd.int .i64) 3 (((w22.setCell ⟨gb274, 0, none⟩ (.int .i64 ((rd_T78 l1 x14_1).f0))).setCell ⟨gb274, 1, none⟩ (.int .i64 ((rd_T78 l1 x14_1).f1))).setCell ⟨gb274, 2, none⟩ (.int .i64 ((rd_T78 l1 x14_1).f2))) w.heap.size (fun _ => True) v271 x6_1) := ⟨rD (Kd.R_mono (Kd.R_far (p := ⟨gb274, 2, none⟩) (Kd.R_far (p := ⟨gb274, 1, none⟩) (Kd.R_far (p := ⟨gb274, 0, none⟩) (Kd.R_types HO_6.out BK274.out (by decide)) (fun _ hk => hk.2) (.int .i64 ((rd_T78 l1 x14_1).f0))) (fun _ hk => hk.2) (.int .i64 ((rd_T78 l1 x14_1).f1))) (fun _ hk => hk.2) (.int .i64 ((rd_T78 l1 x14_1).f2))) (fun _ hk => trivial))⟩
    have n1_ : Aside0 ((((w22.setCell ⟨gb274, 0, none⟩ (.int .i64 ((rd_T78 l1 x14_1).f0))).setCell ⟨gb274, 1, none⟩ (.int .i64 ((rd_T78 l1 x14_1).f1))).setCell ⟨gb274, 2, none⟩ (.int .i64 ((rd_T78 l1 x14_1).f2))).heap[gb274]? = some (.cells #[.int .i64 ((rd_T78 l1 x14_1).f0), .int .i64 ((rd_T78 l1 x14_1).f1), .int .i64 ((rd_T78 l1 x14_1).f2)] 78 (0, 0))) := ⟨by (with_reducible repeat (first | refine blk_drewN ?_ _ | refine blk_drew ?_ | refine blk_alloc ?_ _)); refine blk_put (cs := #[.int .i64 ((rd_T78 l1 x14_1).f0), .int .i64 ((rd_T78 l1 x14_1).f1), .int .i64 0]) ?_ 2 _ rfl; (with_reducible repeat (first | refine blk_drewN ?_ _ | refine blk_drew ?_ | refine blk_alloc ?_ _)); refine blk_put (cs := #[.int .i64 ((rd_T78 l1 x14_1).f0), .int .i64 0, .int .i64 0]) ?_ 1 _ rfl; (with_reducible repeat (first | refine blk_drewN ?_ _ | refine blk_drew ?_ | refine blk_alloc ?_ _)); refine blk_put (cs := #[.int .i64 0, .int .i64 0, .int .i64 0]) ?_ 0 _ rfl; (with_reducible repeat (first | refine blk_drewN ?_ _ | refine blk_drew ?_ | refine blk_alloc ?_ _)); exact BK274.out⟩
    have n2_ : Aside0 (Below w.heap.size w (((w22.setCell ⟨gb274, 0, none⟩ (.int .i64 ((rd_T78 l1 x14_1).f0))).setCell ⟨gb274, 1, none⟩ (.int .i64 ((rd_T78 l1 x14_1).f1))).setCell ⟨gb274, 2, none⟩ (.int .i64 ((rd_T78 l1 x14_1).f2)))) := ⟨hbC _⟩
    (try clear HO_6)
    (try clear BK274)
    (try clear HB)
    generalize (((w22.setCell ⟨gb274, 0, none⟩ (.int .i64 ((rd_T78 l1 x14_1).f0))).setCell ⟨gb274, 1, none⟩ (.int .i64 ((rd_T78 l1 x14_1).f1))).setCell ⟨gb274, 2, none⟩ (.int .i64 ((rd_T78 l1 x14_1).f2))) = w24 at n0_ n1_ n2_ ⊢
    have HO_6 := n0_
    have BK274 := n1_
    have HB := n2_
    clear n0_ n1_ n2_
    replace HO_6 := ak (Kd.R_drew HO_6.out)
    replace BK274 := kd BK274
    replace HB := ak (below_drew1 HB.out)
    obtain ⟨Ao26, co26, eo26⟩ := Kd.R_slice HO_6.out
    (first | subst eo26 | (injection eo26 with f1_ f2_ f3_; have f4_ := f1_.symm; have f5_ := f3_.symm; clear f1_ f2_ f3_; subst f4_; subst f5_))
    refine sS (n := 56) (S := fun w' => w'.cell? ⟨gb274, 0, none⟩ = some (.int .i64 ((rd_T78 l1 x14_1).f0)) ∧ w'.cell? ⟨gb274, 1, none⟩ = some (.int .i64 ((rd_T78 l1 x14_1).f1)) ∧ w'.cell? ⟨gb274, 2, none⟩ = some (.int .i64 ((rd_T78 l1 x14_1).f2))) (ds := []) ⟨bc BK274 0, bc BK274 1, bc BK274 2⟩ (fun hHeld => ?_); refine with_tabW congouref01_Given.tab5 congouref01_Given.bits5 (fun HT_ HW_ => ?_)
    generalize w24.drew = w25 at HO_6 BK274 HB hHeld ⊢
    refine pS 0 18 56 1 ?_
    refine tS 1 19 56 3 ?_
    refine pS 2 20 56 7 ?_
    refine pS 3 21 56 15 ?_
    refine pS 4 22 56 31 ?_
    refine pS 6 24 56 95 ?_
    refine pS 7 25 56 223 ?_
    refine tS 5 23 56 255 ?_
    refine pS 8 26 56 511 ?_
    refine pS 9 27 56 1023 ?_
    refine pS 10 28 56 2047 ?_
    refine pS 11 29 56 4095 ?_
    refine tS 12 30 56 8191 ?_
    refine pS 13 31 56 16383 ?_
    refine pS 14 32 56 32767 ?_
    refine pS 15 33 56 65535 ?_
    refine uS 16 34 56 131071 ?_
    refine uS 17 35 56 262143 ?_
    refine uS 18 36 56 524287 ?_
    refine uS 19 37 56 1048575 ?_
    refine uS 20 38 56 2097151 ?_
    refine pS 21 39 56 4194303 ?_
    refine pS 22 40 56 8388607 ?_
    refine uS 23 41 56 16777215 ?_
    refine uS 24 42 56 33554431 ?_
    refine uS 25 43 56 67108863 ?_
    refine uS 26 44 56 134217727 ?_
    refine uS 27 45 56 268435455 ?_
    refine pS 28 46 56 536870911 ?_
    refine pS 29 47 56 1073741823 ?_
    refine uS 30 48 56 2147483647 ?_
    refine uS 31 49 56 4294967295 ?_
    refine uS 32 50 56 8589934591 ?_
    refine pS 33 51 56 17179869183 ?_
    refine pS 34 52 56 34359738367 ?_
    refine uS 35 53 56 68719476735 ?_
    refine uS 36 54 56 137438953471 ?_
    refine uS 37 55 56 274877906943 ?_
    refine pS 38 56 56 549755813887 ?_
    refine pS 39 57 56 1099511627775 ?_
    refine uS 40 58 56 2199023255551 ?_
    refine uS 41 59 56 4398046511103 ?_
    refine uS 42 60 56 8796093022207 ?_
    refine uS 43 61 56 17592186044415 ?_
    refine uS 44 62 56 35184372088831 ?_
    refine uS 45 63 56 70368744177663 ?_
    refine uS 46 64 56 140737488355327 ?_
    refine uS 47 65 56 281474976710655 ?_
    refine uS 48 66 56 562949953421311 ?_
    refine uS 49 67 56 1125899906842623 ?_
    refine uS 50 68 56 2251799813685247 ?_
    refine uS 51 69 56 4503599627370495 ?_
    refine uS 52 70 56 9007199254740991 ?_
    refine uS 53 71 56 18014398509481983 ?_
    refine uS 54 72 56 36028797018963967 ?_
    refine pS 55 73 56 72057594037927935 ?_
    refine done_ (done_of HT_.out (by kernel_rfl)) ?_
    try go_wp2
    go_ret2
    exact ⟨_, by first | rfl | (simp [errW_none, errW_some] <;> rfl) | (simp [*, errW_none, errW_some] <;> rfl), by first | exact Kd.R_nil _ _ _ _ _ | exact Kd.N_nil _ _ _ _ _ | exact Kd.V_nil _ _ _ _ _ | exact Kd.Q_nil _ _ _ _ _ | exact Kd.S_nil _ _ _ _ _, hbC _⟩
   rw [if_neg c21] at H
   have c21b0 : decide (((rd_T78 l1 x14_1).f1) < 0) = false := decide_eq_false c21
   clear c21
   by_cases c27 : ((rd_T78 l1 x14_1).f1) ≥ (x6_1.length : Int)
   ·rw [if_pos c27] at H
    have c27b0 : decide ((x6_1.length : Int) ≤ ((rd_T78 l1 x14_1).f1)) = true := decide_eq_true c27
    clear c27
    simp only [Option.some.injEq, Prod.mk.injEq] at H
    obtain ⟨rfl, rfl⟩ := H
    have p273 : 0 ≤ (x14_1 : Int) := dA
    have q273 : x14_1 < (l1.length : Int) := dA
    obtain ⟨ad273, e273, hx273_0, hx273_1, hx273_2⟩ := at_T78 HR1.out x14_1 p273 q273
    cases e273
    try replace hx273_0 := (HB.out.cell (World.block_lt_of_cell? w _ hx273_0)).trans hx273_0
    try replace hx273_1 := (HB.out.cell (World.block_lt_of_cell? w _ hx273_1)).trans hx273_1
    try replace hx273_2 := (HB.out.cell (World.block_lt_of_cell? w _ hx273_2)).trans hx273_2
    replace p273 := eq_true p273
    replace q273 := eq_true q273
    try go_wp2_with (first | ((with_reducible refine gate_dst (N := 8) rfl ?_); (try (refine gate_guard (by rfl) ?_; dsimp only)); refine bE 8 #[.int .i64 0, .int .i64 0, .int .i64 0] 78 ?_; intro gb274 hg w28 hbox hb; replace HO_6 := kO HO_6 hb; have BK274 := ak (hbox); have GW274 := kG w hg; have GE274 := kG w hg; replace HB := kH _ hb; clear hb hbox hg; have hcz29_0 : w28.cell? ⟨gb274, 0, none⟩ = some (.int .i64 0) := bc BK274 0; have hcz29_1 : w28.cell? ⟨gb274, 1, none⟩ = some (.int .i64 0) := bc BK274 1; have hcz29_2 : w28.cell? ⟨gb274, 2, none⟩ = some (.int .i64 0) := bc BK274 2; have hfz29_0 := fz BK274 0; have hfz29_1 := fz BK274 1; have hfz29_2 := fz BK274 2))
    have n0_ : Aside0 (Kd.R (Kd.int .i64) 3 (((w28.setCell ⟨gb274, 0, none⟩ (.int .i64 ((rd_T78 l1 x14_1).f0))).setCell ⟨gb274, 1, none⟩ (.int .i64 ((rd_T78 l1 x14_1).f1))).setCell ⟨gb274, 2, none⟩ (.int .i64 ((rd_T78 l1 x14_1).f2))) w.heap.size (fun _ => True) v271 x6_1) := ⟨rD (Kd.R_mono (Kd.R_far (p := ⟨gb274, 2, none⟩) (Kd.R_far (p := ⟨gb274, 1, none⟩) (Kd.R_far (p := ⟨gb274, 0, none⟩) (Kd.R_types HO_6.out BK274.out (by decide)) (fun _ hk => hk.2) (.int .i64 ((rd_T78 l1 x14_1).f0))) (fun _ hk => hk.2) (.int .i64 ((rd_T78 l1 x14_1).f1))) (fun _ hk => hk.2) (.int .i64 ((rd_T78 l1 x14_1).f2))) (fun _ hk => trivial))⟩
    have n1_ : Aside0 ((((w28.setCell ⟨gb274, 0, none⟩ (.int .i64 ((rd_T78 l1 x14_1).f0))).setCell ⟨gb274, 1, none⟩ (.int .i64 ((rd_T78 l1 x14_1).f1))).setCell ⟨gb274, 2, none⟩ (.int .i64 ((rd_T78 l1 x14_1).f2))).heap[gb274]? = some (.cells #[.int .i64 ((rd_T78 l1 x14_1).f0), .int .i64 ((rd_T78 l1 x14_1).f1), .int .i64 ((rd_T78 l1 x14_1).f2)] 78 (0, 0))) := ⟨by (with_reducible repeat (first | refine blk_drewN ?_ _ | refine blk_drew ?_ | refine blk_alloc ?_ _)); refine blk_put (cs := #[.int .i64 ((rd_T78 l1 x14_1).f0), .int .i64 ((rd_T78 l1 x14_1).f1), .int .i64 0]) ?_ 2 _ rfl; (with_reducible repeat (first | refine blk_drewN ?_ _ | refine blk_drew ?_ | refine blk_alloc ?_ _)); refine blk_put (cs := #[.int .i64 ((rd_T78 l1 x14_1).f0), .int .i64 0, .int .i64 0]) ?_ 1 _ rfl; (with_reducible repeat (first | refine blk_drewN ?_ _ | refine blk_drew ?_ | refine blk_alloc ?_ _)); refine blk_put (cs := #[.int .i64 0, .int .i64 0, .int .i64 0]) ?_ 0 _ rfl; (with_reducible repeat (first | refine blk_drewN ?_ _ | refine blk_drew ?_ | refine blk_alloc ?_ _)); exact BK274.out⟩
    have n2_ : Aside0 (Below w.heap.size w (((w28.setCell ⟨gb274, 0, none⟩ (.int .i64 ((rd_T78 l1 x14_1).f0))).setCell ⟨gb274, 1, none⟩ (.int .i64 ((rd_T78 l1 x14_1).f1))).setCell ⟨gb274, 2, none⟩ (.int .i64 ((rd_T78 l1 x14_1).f2)))) := ⟨hbC _⟩
    (try clear HO_6)
    (try clear BK274)
    (try clear HB)
    generalize (((w28.setCell ⟨gb274, 0, none⟩ (.int .i64 ((rd_T78 l1 x14_1).f0))).setCell ⟨gb274, 1, none⟩ (.int .i64 ((rd_T78 l1 x14_1).f1))).setCell ⟨gb274, 2, none⟩ (.int .i64 ((rd_T78 l1 x14_1).f2))) = w30 at n0_ n1_ n2_ ⊢
    have HO_6 := n0_
    have BK274 := n1_
    have HB := n2_
    clear n0_ n1_ n2_
    replace HO_6 := ak (Kd.R_drew HO_6.out)
    replace BK274 := kd BK274
    replace HB := ak (below_drew1 HB.out)
    obtain ⟨Ao32, co32, eo32⟩ := Kd.R_slice HO_6.out
    (first | subst eo32 | (injection eo32 with f1_ f2_ f3_; have f4_ := f1_.symm; have f5_ := f3_.symm; clear f1_ f2_ f3_; subst f4_; subst f5_))
    refine sS (n := 56) (S := fun w' => w'.cell? ⟨gb274, 0, none⟩ = some (.int .i64 ((rd_T78 l1 x14_1).f0)) ∧ w'.cell? ⟨gb274, 1, none⟩ = some (.int .i64 ((rd_T78 l1 x14_1).f1)) ∧ w'.cell? ⟨gb274, 2, none⟩ = some (.int .i64 ((rd_T78 l1 x14_1).f2))) (ds := []) ⟨bc BK274 0, bc BK274 1, bc BK274 2⟩ (fun hHeld => ?_); refine with_tabW congouref01_Given.tab5 congouref01_Given.bits5 (fun HT_ HW_ => ?_)
    generalize w30.drew = w31 at HO_6 BK274 HB hHeld ⊢
    refine pS 0 18 56 1 ?_
    refine tS 1 19 56 3 ?_
    refine pS 2 20 56 7 ?_
    refine pS 3 21 56 15 ?_
    refine pS 4 22 56 31 ?_
    refine pS 6 24 56 95 ?_
    refine pS 7 25 56 223 ?_
    refine tS 5 23 56 255 ?_
    refine pS 8 26 56 511 ?_
    refine pS 9 27 56 1023 ?_
    refine pS 10 28 56 2047 ?_
    refine pS 11 29 56 4095 ?_
    refine tS 12 30 56 8191 ?_
    refine pS 13 31 56 16383 ?_
    refine pS 14 32 56 32767 ?_
    refine pS 15 33 56 65535 ?_
    refine pS 16 34 56 131071 ?_
    refine pS 18 36 56 393215 ?_
    refine pS 19 37 56 917503 ?_
    refine tS 17 35 56 1048575 ?_
    refine pS 20 38 56 2097151 ?_
    refine pS 21 39 56 4194303 ?_
    refine pS 22 40 56 8388607 ?_
    refine uS 23 41 56 16777215 ?_
    refine uS 24 42 56 33554431 ?_
    refine uS 25 43 56 67108863 ?_
    refine uS 26 44 56 134217727 ?_
    refine uS 27 45 56 268435455 ?_
    refine pS 28 46 56 536870911 ?_
    refine pS 29 47 56 1073741823 ?_
    refine uS 30 48 56 2147483647 ?_
    refine uS 31 49 56 4294967295 ?_
    refine uS 32 50 56 8589934591 ?_
    refine pS 33 51 56 17179869183 ?_
    refine pS 34 52 56 34359738367 ?_
    refine uS 35 53 56 68719476735 ?_
    refine uS 36 54 56 137438953471 ?_
    refine uS 37 55 56 274877906943 ?_
    refine pS 38 56 56 549755813887 ?_
    refine pS 39 57 56 1099511627775 ?_
    refine uS 40 58 56 2199023255551 ?_
    refine uS 41 59 56 4398046511103 ?_
    refine uS 42 60 56 8796093022207 ?_
    refine uS 43 61 56 17592186044415 ?_
    refine uS 44 62 56 35184372088831 ?_
    refine uS 45 63 56 70368744177663 ?_
    refine uS 46 64 56 140737488355327 ?_
    refine uS 47 65 56 281474976710655 ?_
    refine uS 48 66 56 562949953421311 ?_
    refine uS 49 67 56 1125899906842623 ?_
    refine uS 50 68 56 2251799813685247 ?_
    refine uS 51 69 56 4503599627370495 ?_
    refine uS 52 70 56 9007199254740991 ?_
    refine uS 53 71 56 18014398509481983 ?_
    refine uS 54 72 56 36028797018963967 ?_
    refine pS 55 73 56 72057594037927935 ?_
    refine done_ (done_of HT_.out (by kernel_rfl)) ?_
    try go_wp2
    go_ret2
    exact ⟨_, by first | rfl | (simp [errW_none, errW_some] <;> rfl) | (simp [*, errW_none, errW_some] <;> rfl), by first | exact Kd.R_nil _ _ _ _ _ | exact Kd.N_nil _ _ _ _ _ | exact Kd.V_nil _ _ _ _ _ | exact Kd.Q_nil _ _ _ _ _ | exact Kd.S_nil _ _ _ _ _, hbC _⟩
   rw [if_neg c27] at H
   have c27b0 : decide ((x6_1.length : Int) ≤ ((rd_T78 l1 x14_1).f1)) = false := decide_eq_false c27
   clear c27
   by_cases c33 : ((rd_T78 l1 x14_1).f0) = ((rd_T78 l1 x14_1).f1)
   ·rw [if_pos c33] at H
    have c33b0 : (((rd_T78 l1 x14_1).f0) == ((rd_T78 l1 x14_1).f1)) = true := beq_iff_eq.mpr c33
    have c33b1 : (((rd_T78 l1 x14_1).f0) != ((rd_T78 l1 x14_1).f1)) = false := bne_eq_false_iff_eq.mpr c33
    clear c33
    simp only [Option.some.injEq, Prod.mk.injEq] at H
    obtain ⟨rfl, rfl⟩ := H
    have p273 : 0 ≤ (x14_1 : Int) := dA
    have q273 : x14_1 < (l1.length : Int) := dA
    obtain ⟨ad273, e273, hx273_0, hx273_1, hx273_2⟩ := at_T78 HR1.out x14_1 p273 q273
    cases e273
    try replace hx273_0 := (HB.out.cell (World.block_lt_of_cell? w _ hx273_0)).trans hx273_0
    try replace hx273_1 := (HB.out.cell (World.block_lt_of_cell? w _ hx273_1)).trans hx273_1
    try replace hx273_2 := (HB.out.cell (World.block_lt_of_cell? w _ hx273_2)).trans hx273_2
    replace p273 := eq_true p273
    replace q273 := eq_true q273
    try go_wp2_with (first | ((with_reducible refine gate_dst (N := 8) rfl ?_); (try (refine gate_guard (by rfl) ?_; dsimp only)); refine bE 8 #[.int .i64 0, .int .i64 0, .int .i64 0] 78 ?_; intro gb274 hg w34 hbox hb; replace HO_6 := kO HO_6 hb; have BK274 := ak (hbox); have GW274 := kG w hg; have GE274 := kG w hg; replace HB := kH _ hb; clear hb hbox hg; have hcz35_0 : w34.cell? ⟨gb274, 0, none⟩ = some (.int .i64 0) := bc BK274 0; have hcz35_1 : w34.cell? ⟨gb274, 1, none⟩ = some (.int .i64 0) := bc BK274 1; have hcz35_2 : w34.cell? ⟨gb274, 2, none⟩ = some (.int .i64 0) := bc BK274 2; have hfz35_0 := fz BK274 0; have hfz35_1 := fz BK274 1; have hfz35_2 := fz BK274 2))
    have n0_ : Aside0 (Kd.R (Kd.int .i64) 3 (((w34.setCell ⟨gb274, 0, none⟩ (.int .i64 ((rd_T78 l1 x14_1).f0))).setCell ⟨gb274, 1, none⟩ (.int .i64 ((rd_T78 l1 x14_1).f1))).setCell ⟨gb274, 2, none⟩ (.int .i64 ((rd_T78 l1 x14_1).f2))) w.heap.size (fun _ => True) v271 x6_1) := ⟨rD (Kd.R_mono (Kd.R_far (p := ⟨gb274, 2, none⟩) (Kd.R_far (p := ⟨gb274, 1, none⟩) (Kd.R_far (p := ⟨gb274, 0, none⟩) (Kd.R_types HO_6.out BK274.out (by decide)) (fun _ hk => hk.2) (.int .i64 ((rd_T78 l1 x14_1).f0))) (fun _ hk => hk.2) (.int .i64 ((rd_T78 l1 x14_1).f1))) (fun _ hk => hk.2) (.int .i64 ((rd_T78 l1 x14_1).f2))) (fun _ hk => trivial))⟩
    have n1_ : Aside0 ((((w34.setCell ⟨gb274, 0, none⟩ (.int .i64 ((rd_T78 l1 x14_1).f0))).setCell ⟨gb274, 1, none⟩ (.int .i64 ((rd_T78 l1 x14_1).f1))).setCell ⟨gb274, 2, none⟩ (.int .i64 ((rd_T78 l1 x14_1).f2))).heap[gb274]? = some (.cells #[.int .i64 ((rd_T78 l1 x14_1).f0), .int .i64 ((rd_T78 l1 x14_1).f1), .int .i64 ((rd_T78 l1 x14_1).f2)] 78 (0, 0))) := ⟨by (with_reducible repeat (first | refine blk_drewN ?_ _ | refine blk_drew ?_ | refine blk_alloc ?_ _)); refine blk_put (cs := #[.int .i64 ((rd_T78 l1 x14_1).f0), .int .i64 ((rd_T78 l1 x14_1).f1), .int .i64 0]) ?_ 2 _ rfl; (with_reducible repeat (first | refine blk_drewN ?_ _ | refine blk_drew ?_ | refine blk_alloc ?_ _)); refine blk_put (cs := #[.int .i64 ((rd_T78 l1 x14_1).f0), .int .i64 0, .int .i64 0]) ?_ 1 _ rfl; (with_reducible repeat (first | refine blk_drewN ?_ _ | refine blk_drew ?_ | refine blk_alloc ?_ _)); refine blk_put (cs := #[.int .i64 0, .int .i64 0, .int .i64 0]) ?_ 0 _ rfl; (with_reducible repeat (first | refine blk_drewN ?_ _ | refine blk_drew ?_ | refine blk_alloc ?_ _)); exact BK274.out⟩
    have n2_ : Aside0 (Below w.heap.size w (((w34.setCell ⟨gb274, 0, none⟩ (.int .i64 ((rd_T78 l1 x14_1).f0))).setCell ⟨gb274, 1, none⟩ (.int .i64 ((rd_T78 l1 x14_1).f1))).setCell ⟨gb274, 2, none⟩ (.int .i64 ((rd_T78 l1 x14_1).f2)))) := ⟨hbC _⟩
    (try clear HO_6)
    (try clear BK274)
    (try clear HB)
    generalize (((w34.setCell ⟨gb274, 0, none⟩ (.int .i64 ((rd_T78 l1 x14_1).f0))).setCell ⟨gb274, 1, none⟩ (.int .i64 ((rd_T78 l1 x14_1).f1))).setCell ⟨gb274, 2, none⟩ (.int .i64 ((rd_T78 l1 x14_1).f2))) = w36 at n0_ n1_ n2_ ⊢
    have HO_6 := n0_
    have BK274 := n1_
    have HB := n2_
    clear n0_ n1_ n2_
    replace HO_6 := ak (Kd.R_drew HO_6.out)
    replace BK274 := kd BK274
    replace HB := ak (below_drew1 HB.out)
    obtain ⟨Ao38, co38, eo38⟩ := Kd.R_slice HO_6.out
    (first | subst eo38 | (injection eo38 with f1_ f2_ f3_; have f4_ := f1_.symm; have f5_ := f3_.symm; clear f1_ f2_ f3_; subst f4_; subst f5_))
    refine sS (n := 56) (S := fun w' => w'.cell? ⟨gb274, 0, none⟩ = some (.int .i64 ((rd_T78 l1 x14_1).f0)) ∧ w'.cell? ⟨gb274, 1, none⟩ = some (.int .i64 ((rd_T78 l1 x14_1).f1)) ∧ w'.cell? ⟨gb274, 2, none⟩ = some (.int .i64 ((rd_T78 l1 x14_1).f2))) (ds := []) ⟨bc BK274 0, bc BK274 1, bc BK274 2⟩ (fun hHeld => ?_); refine with_tabW congouref01_Given.tab5 congouref01_Given.bits5 (fun HT_ HW_ => ?_)
    generalize w36.drew = w37 at HO_6 BK274 HB hHeld ⊢
    refine pS 0 18 56 1 ?_
    refine tS 1 19 56 3 ?_
    refine pS 2 20 56 7 ?_
    refine pS 3 21 56 15 ?_
    refine pS 4 22 56 31 ?_
    refine pS 6 24 56 95 ?_
    refine pS 7 25 56 223 ?_
    refine tS 5 23 56 255 ?_
    refine pS 8 26 56 511 ?_
    refine pS 9 27 56 1023 ?_
    refine pS 10 28 56 2047 ?_
    refine pS 11 29 56 4095 ?_
    refine tS 12 30 56 8191 ?_
    refine pS 13 31 56 16383 ?_
    refine pS 14 32 56 32767 ?_
    refine pS 15 33 56 65535 ?_
    refine pS 16 34 56 131071 ?_
    refine pS 18 36 56 393215 ?_
    refine pS 19 37 56 917503 ?_
    refine tS 17 35 56 1048575 ?_
    refine pS 20 38 56 2097151 ?_
    refine pS 21 39 56 4194303 ?_
    refine pS 22 40 56 8388607 ?_
    refine pS 23 41 56 16777215 ?_
    refine pS 25 43 56 50331647 ?_
    refine tS 24 42 56 67108863 ?_
    refine tS 26 44 56 134217727 ?_
    refine pS 27 45 56 268435455 ?_
    refine pS 28 46 56 536870911 ?_
    refine pS 29 47 56 1073741823 ?_
    refine uS 30 48 56 2147483647 ?_
    refine uS 31 49 56 4294967295 ?_
    refine uS 32 50 56 8589934591 ?_
    refine pS 33 51 56 17179869183 ?_
    refine pS 34 52 56 34359738367 ?_
    refine uS 35 53 56 68719476735 ?_
    refine uS 36 54 56 137438953471 ?_
    refine uS 37 55 56 274877906943 ?_
    refine pS 38 56 56 549755813887 ?_
    refine pS 39 57 56 1099511627775 ?_
    refine uS 40 58 56 2199023255551 ?_
    refine uS 41 59 56 4398046511103 ?_
    refine uS 42 60 56 8796093022207 ?_
    refine uS 43 61 56 17592186044415 ?_
    refine uS 44 62 56 35184372088831 ?_
    refine uS 45 63 56 70368744177663 ?_
    refine uS 46 64 56 140737488355327 ?_
    refine uS 47 65 56 281474976710655 ?_
    refine uS 48 66 56 562949953421311 ?_
    refine uS 49 67 56 1125899906842623 ?_
    refine uS 50 68 56 2251799813685247 ?_
    refine uS 51 69 56 4503599627370495 ?_
    refine uS 52 70 56 9007199254740991 ?_
    refine uS 53 71 56 18014398509481983 ?_
    refine uS 54 72 56 36028797018963967 ?_
    refine pS 55 73 56 72057594037927935 ?_
    refine done_ (done_of HT_.out (by kernel_rfl)) ?_
    try go_wp2
    go_ret2
    exact ⟨_, by first | rfl | (simp [errW_none, errW_some] <;> rfl) | (simp [*, errW_none, errW_some] <;> rfl), by first | exact Kd.R_nil _ _ _ _ _ | exact Kd.N_nil _ _ _ _ _ | exact Kd.V_nil _ _ _ _ _ | exact Kd.Q_nil _ _ _ _ _ | exact Kd.S_nil _ _ _ _ _, hbC _⟩
   rw [if_neg c33] at H
   have c33b0 : (((rd_T78 l1 x14_1).f0) == ((rd_T78 l1 x14_1).f1)) = false := beq_eq_false_iff_ne.mpr c33
   have c33b1 : (((rd_T78 l1 x14_1).f0) != ((rd_T78 l1 x14_1).f1)) = true := bne_iff_ne.mpr c33
   by_cases c39 : ((rd_T78 l1 x14_1).f2) < 1
   ·rw [if_pos c39] at H
    have c39b0 : decide (((rd_T78 l1 x14_1).f2) < 1) = true := decide_eq_true c39
    clear c39
    simp only [Option.some.injEq, Prod.mk.injEq] at H
    obtain ⟨rfl, rfl⟩ := H
    have p273 : 0 ≤ (x14_1 : Int) := dA
    have q273 : x14_1 < (l1.length : Int) := dA
    obtain ⟨ad273, e273, hx273_0, hx273_1, hx273_2⟩ := at_T78 HR1.out x14_1 p273 q273
    cases e273
    try replace hx273_0 := (HB.out.cell (World.block_lt_of_cell? w _ hx273_0)).trans hx273_0
    try replace hx273_1 := (HB.out.cell (World.block_lt_of_cell? w _ hx273_1)).trans hx273_1
    try replace hx273_2 := (HB.out.cell (World.block_lt_of_cell? w _ hx273_2)).trans hx273_2
    replace p273 := eq_true p273
    replace q273 := eq_true q273
    try go_wp2_with (first | ((with_reducible refine gate_dst (N := 8) rfl ?_); (try (refine gate_guard (by rfl) ?_; dsimp only)); refine bE 8 #[.int .i64 0, .int .i64 0, .int .i64 0] 78 ?_; intro gb274 hg w40 hbox hb; replace HO_6 := kO HO_6 hb; have BK274 := ak (hbox); have GW274 := kG w hg; have GE274 := kG w hg; replace HB := kH _ hb; clear hb hbox hg; have hcz41_0 : w40.cell? ⟨gb274, 0, none⟩ = some (.int .i64 0) := bc BK274 0; have hcz41_1 : w40.cell? ⟨gb274, 1, none⟩ = some (.int .i64 0) := bc BK274 1; have hcz41_2 : w40.cell? ⟨gb274, 2, none⟩ = some (.int .i64 0) := bc BK274 2; have hfz41_0 := fz BK274 0; have hfz41_1 := fz BK274 1; have hfz41_2 := fz BK274 2))
    have n0_ : Aside0 (Kd.R (Kd.int .i64) 3 (((w40.setCell ⟨gb274, 0, none⟩ (.int .i64 ((rd_T78 l1 x14_1).f0))).setCell ⟨gb274, 1, none⟩ (.int .i64 ((rd_T78 l1 x14_1).f1))).setCell ⟨gb274, 2, none⟩ (.int .i64 ((rd_T78 l1 x14_1).f2))) w.heap.size (fun _ => True) v271 x6_1) := ⟨rD (Kd.R_mono (Kd.R_far (p := ⟨gb274, 2, none⟩) (Kd.R_far (p := ⟨gb274, 1, none⟩) (Kd.R_far (p := ⟨gb274, 0, none⟩) (Kd.R_types HO_6.out BK274.out (by decide)) (fun _ hk => hk.2) (.int .i64 ((rd_T78 l1 x14_1).f0))) (fun _ hk => hk.2) (.int .i64 ((rd_T78 l1 x14_1).f1))) (fun _ hk => hk.2) (.int .i64 ((rd_T78 l1 x14_1).f2))) (fun _ hk => trivial))⟩
    have n1_ : Aside0 ((((w40.setCell ⟨gb274, 0, none⟩ (.int .i64 ((rd_T78 l1 x14_1).f0))).setCell ⟨gb274, 1, none⟩ (.int .i64 ((rd_T78 l1 x14_1).f1))).setCell ⟨gb274, 2, none⟩ (.int .i64 ((rd_T78 l1 x14_1).f2))).heap[gb274]? = some (.cells #[.int .i64 ((rd_T78 l1 x14_1).f0), .int .i64 ((rd_T78 l1 x14_1).f1), .int .i64 ((rd_T78 l1 x14_1).f2)] 78 (0, 0))) := ⟨by (with_reducible repeat (first | refine blk_drewN ?_ _ | refine blk_drew ?_ | refine blk_alloc ?_ _)); refine blk_put (cs := #[.int .i64 ((rd_T78 l1 x14_1).f0), .int .i64 ((rd_T78 l1 x14_1).f1), .int .i64 0]) ?_ 2 _ rfl; (with_reducible repeat (first | refine blk_drewN ?_ _ | refine blk_drew ?_ | refine blk_alloc ?_ _)); refine blk_put (cs := #[.int .i64 ((rd_T78 l1 x14_1).f0), .int .i64 0, .int .i64 0]) ?_ 1 _ rfl; (with_reducible repeat (first | refine blk_drewN ?_ _ | refine blk_drew ?_ | refine blk_alloc ?_ _)); refine blk_put (cs := #[.int .i64 0, .int .i64 0, .int .i64 0]) ?_ 0 _ rfl; (with_reducible repeat (first | refine blk_drewN ?_ _ | refine blk_drew ?_ | refine blk_alloc ?_ _)); exact BK274.out⟩
    have n2_ : Aside0 (Below w.heap.size w (((w40.setCell ⟨gb274, 0, none⟩ (.int .i64 ((rd_T78 l1 x14_1).f0))).setCell ⟨gb274, 1, none⟩ (.int .i64 ((rd_T78 l1 x14_1).f1))).setCell ⟨gb274, 2, none⟩ (.int .i64 ((rd_T78 l1 x14_1).f2)))) := ⟨hbC _⟩
    (try clear HO_6)
    (try clear BK274)
    (try clear HB)
    generalize (((w40.setCell ⟨gb274, 0, none⟩ (.int .i64 ((rd_T78 l1 x14_1).f0))).setCell ⟨gb274, 1, none⟩ (.int .i64 ((rd_T78 l1 x14_1).f1))).setCell ⟨gb274, 2, none⟩ (.int .i64 ((rd_T78 l1 x14_1).f2))) = w42 at n0_ n1_ n2_ ⊢
    have HO_6 := n0_
    have BK274 := n1_
    have HB := n2_
    clear n0_ n1_ n2_
    replace HO_6 := ak (Kd.R_drew HO_6.out)
    replace BK274 := kd BK274
    replace HB := ak (below_drew1 HB.out)
    obtain ⟨Ao44, co44, eo44⟩ := Kd.R_slice HO_6.out
    (first | subst eo44 | (injection eo44 with f1_ f2_ f3_; have f4_ := f1_.symm; have f5_ := f3_.symm; clear f1_ f2_ f3_; subst f4_; subst f5_))
    refine sS (n := 56) (S := fun w' => w'.cell? ⟨gb274, 0, none⟩ = some (.int .i64 ((rd_T78 l1 x14_1).f0)) ∧ w'.cell? ⟨gb274, 1, none⟩ = some (.int .i64 ((rd_T78 l1 x14_1).f1)) ∧ w'.cell? ⟨gb274, 2, none⟩ = some (.int .i64 ((rd_T78 l1 x14_1).f2))) (ds := []) ⟨bc BK274 0, bc BK274 1, bc BK274 2⟩ (fun hHeld => ?_); refine with_tabW congouref01_Given.tab5 congouref01_Given.bits5 (fun HT_ HW_ => ?_)
    generalize w42.drew = w43 at HO_6 BK274 HB hHeld ⊢
    refine pS 0 18 56 1 ?_
    refine tS 1 19 56 3 ?_
    refine pS 2 20 56 7 ?_
    refine pS 3 21 56 15 ?_
    refine pS 4 22 56 31 ?_
    refine pS 6 24 56 95 ?_
    refine pS 7 25 56 223 ?_
    refine tS 5 23 56 255 ?_
    refine pS 8 26 56 511 ?_
    refine pS 9 27 56 1023 ?_
    refine pS 10 28 56 2047 ?_
    refine pS 11 29 56 4095 ?_
    refine tS 12 30 56 8191 ?_
    refine pS 13 31 56 16383 ?_
    refine pS 14 32 56 32767 ?_
    refine pS 15 33 56 65535 ?_
    refine pS 16 34 56 131071 ?_
    refine pS 18 36 56 393215 ?_
    refine pS 19 37 56 917503 ?_
    refine tS 17 35 56 1048575 ?_
    refine pS 20 38 56 2097151 ?_
    refine pS 21 39 56 4194303 ?_
    refine pS 22 40 56 8388607 ?_
    refine pS 23 41 56 16777215 ?_
    refine pS 25 43 56 50331647 ?_
    refine tS 24 42 56 67108863 ?_
    refine tS 26 44 56 134217727 ?_
    refine pS 27 45 56 268435455 ?_
    refine pS 28 46 56 536870911 ?_
    refine pS 29 47 56 1073741823 ?_
    refine pS 30 48 56 2147483647 ?_
    refine tS 31 49 56 4294967295 ?_
    refine pS 32 50 56 8589934591 ?_
    refine pS 33 51 56 17179869183 ?_
    refine pS 34 52 56 34359738367 ?_
    refine uS 35 53 56 68719476735 ?_
    refine uS 36 54 56 137438953471 ?_
    refine uS 37 55 56 274877906943 ?_
    refine pS 38 56 56 549755813887 ?_
    refine pS 39 57 56 1099511627775 ?_
    refine uS 40 58 56 2199023255551 ?_
    refine uS 41 59 56 4398046511103 ?_
    refine uS 42 60 56 8796093022207 ?_
    refine uS 43 61 56 17592186044415 ?_
    refine uS 44 62 56 35184372088831 ?_
    refine uS 45 63 56 70368744177663 ?_
    refine uS 46 64 56 140737488355327 ?_
    refine uS 47 65 56 281474976710655 ?_
    refine uS 48 66 56 562949953421311 ?_
    refine uS 49 67 56 1125899906842623 ?_
    refine uS 50 68 56 2251799813685247 ?_
    refine uS 51 69 56 4503599627370495 ?_
    refine uS 52 70 56 9007199254740991 ?_
    refine uS 53 71 56 18014398509481983 ?_
    refine uS 54 72 56 36028797018963967 ?_
    refine pS 55 73 56 72057594037927935 ?_
    refine done_ (done_of HT_.out (by kernel_rfl)) ?_
    try go_wp2
    go_ret2
    exact ⟨_, by first | rfl | (simp [errW_none, errW_some] <;> rfl) | (simp [*, errW_none, errW_some] <;> rfl), by first | exact Kd.R_nil _ _ _ _ _ | exact Kd.N_nil _ _ _ _ _ | exact Kd.V_nil _ _ _ _ _ | exact Kd.Q_nil _ _ _ _ _ | exact Kd.S_nil _ _ _ _ _, hbC _⟩
   rw [if_neg c39] at H
   have c39b0 : decide (((rd_T78 l1 x14_1).f2) < 1) = false := decide_eq_false c39
   clear c39
   by_cases c45 : ((rd_T78 l1 x14_1).f2) > 20
   ·rw [if_pos c45] at H
    have c45b0 : decide (20 < ((rd_T78 l1 x14_1).f2)) = true := decide_eq_true c45
    clear c45
    simp only [Option.some.injEq, Prod.mk.injEq] at H
    obtain ⟨rfl, rfl⟩ := H
    have p273 : 0 ≤ (x14_1 : Int) := dA
    have q273 : x14_1 < (l1.length : Int) := dA
    obtain ⟨ad273, e273, hx273_0, hx273_1, hx273_2⟩ := at_T78 HR1.out x14_1 p273 q273
    cases e273
    try replace hx273_0 := (HB.out.cell (World.block_lt_of_cell? w _ hx273_0)).trans hx273_0
    try replace hx273_1 := (HB.out.cell (World.block_lt_of_cell? w _ hx273_1)).trans hx273_1
    try replace hx273_2 := (HB.out.cell (World.block_lt_of_cell? w _ hx273_2)).trans hx273_2
    replace p273 := eq_true p273
    replace q273 := eq_true q273
    try go_wp2_with (first | ((with_reducible refine gate_dst (N := 8) rfl ?_); (try (refine gate_guard (by rfl) ?_; dsimp only)); refine bE 8 #[.int .i64 0, .int .i64 0, .int .i64 0] 78 ?_; intro gb274 hg w46 hbox hb; replace HO_6 := kO HO_6 hb; have BK274 := ak (hbox); have GW274 := kG w hg; have GE274 := kG w hg; replace HB := kH _ hb; clear hb hbox hg; have hcz47_0 : w46.cell? ⟨gb274, 0, none⟩ = some (.int .i64 0) := bc BK274 0; have hcz47_1 : w46.cell? ⟨gb274, 1, none⟩ = some (.int .i64 0) := bc BK274 1; have hcz47_2 : w46.cell? ⟨gb274, 2, none⟩ = some (.int .i64 0) := bc BK274 2; have hfz47_0 := fz BK274 0; have hfz47_1 := fz BK274 1; have hfz47_2 := fz BK274 2))
    have n0_ : Aside0 (Kd.R (Kd.int .i64) 3 (((w46.setCell ⟨gb274, 0, none⟩ (.int .i64 ((rd_T78 l1 x14_1).f0))).setCell ⟨gb274, 1, none⟩ (.int .i64 ((rd_T78 l1 x14_1).f1))).setCell ⟨gb274, 2, none⟩ (.int .i64 ((rd_T78 l1 x14_1).f2))) w.heap.size (fun _ => True) v271 x6_1) := ⟨rD (Kd.R_mono (Kd.R_far (p := ⟨gb274, 2, none⟩) (Kd.R_far (p := ⟨gb274, 1, none⟩) (Kd.R_far (p := ⟨gb274, 0, none⟩) (Kd.R_types HO_6.out BK274.out (by decide)) (fun _ hk => hk.2) (.int .i64 ((rd_T78 l1 x14_1).f0))) (fun _ hk => hk.2) (.int .i64 ((rd_T78 l1 x14_1).f1))) (fun _ hk => hk.2) (.int .i64 ((rd_T78 l1 x14_1).f2))) (fun _ hk => trivial))⟩
    have n1_ : Aside0 ((((w46.setCell ⟨gb274, 0, none⟩ (.int .i64 ((rd_T78 l1 x14_1).f0))).setCell ⟨gb274, 1, none⟩ (.int .i64 ((rd_T78 l1 x14_1).f1))).setCell ⟨gb274, 2, none⟩ (.int .i64 ((rd_T78 l1 x14_1).f2))).heap[gb274]? = some (.cells #[.int .i64 ((rd_T78 l1 x14_1).f0), .int .i64 ((rd_T78 l1 x14_1).f1), .int .i64 ((rd_T78 l1 x14_1).f2)] 78 (0, 0))) := ⟨by (with_reducible repeat (first | refine blk_drewN ?_ _ | refine blk_drew ?_ | refine blk_alloc ?_ _)); refine blk_put (cs := #[.int .i64 ((rd_T78 l1 x14_1).f0), .int .i64 ((rd_T78 l1 x14_1).f1), .int .i64 0]) ?_ 2 _ rfl; (with_reducible repeat (first | refine blk_drewN ?_ _ | refine blk_drew ?_ | refine blk_alloc ?_ _)); refine blk_put (cs := #[.int .i64 ((rd_T78 l1 x14_1).f0), .int .i64 0, .int .i64 0]) ?_ 1 _ rfl; (with_reducible repeat (first | refine blk_drewN ?_ _ | refine blk_drew ?_ | refine blk_alloc ?_ _)); refine blk_put (cs := #[.int .i64 0, .int .i64 0, .int .i64 0]) ?_ 0 _ rfl; (with_reducible repeat (first | refine blk_drewN ?_ _ | refine blk_drew ?_ | refine blk_alloc ?_ _)); exact BK274.out⟩
    have n2_ : Aside0 (Below w.heap.size w (((w46.setCell ⟨gb274, 0, none⟩ (.int .i64 ((rd_T78 l1 x14_1).f0))).setCell ⟨gb274, 1, none⟩ (.int .i64 ((rd_T78 l1 x14_1).f1))).setCell ⟨gb274, 2, none⟩ (.int .i64 ((rd_T78 l1 x14_1).f2)))) := ⟨hbC _⟩
    (try clear HO_6)
    (try clear BK274)
    (try clear HB)
    generalize (((w46.setCell ⟨gb274, 0, none⟩ (.int .i64 ((rd_T78 l1 x14_1).f0))).setCell ⟨gb274, 1, none⟩ (.int .i64 ((rd_T78 l1 x14_1).f1))).setCell ⟨gb274, 2, none⟩ (.int .i64 ((rd_T78 l1 x14_1).f2))) = w48 at n0_ n1_ n2_ ⊢
    have HO_6 := n0_
    have BK274 := n1_
    have HB := n2_
    clear n0_ n1_ n2_
    replace HO_6 := ak (Kd.R_drew HO_6.out)
    replace BK274 := kd BK274
    replace HB := ak (below_drew1 HB.out)
    obtain ⟨Ao50, co50, eo50⟩ := Kd.R_slice HO_6.out
    (first | subst eo50 | (injection eo50 with f1_ f2_ f3_; have f4_ := f1_.symm; have f5_ := f3_.symm; clear f1_ f2_ f3_; subst f4_; subst f5_))
    refine sS (n := 56) (S := fun w' => w'.cell? ⟨gb274, 0, none⟩ = some (.int .i64 ((rd_T78 l1 x14_1).f0)) ∧ w'.cell? ⟨gb274, 1, none⟩ = some (.int .i64 ((rd_T78 l1 x14_1).f1)) ∧ w'.cell? ⟨gb274, 2, none⟩ = some (.int .i64 ((rd_T78 l1 x14_1).f2))) (ds := []) ⟨bc BK274 0, bc BK274 1, bc BK274 2⟩ (fun hHeld => ?_); refine with_tabW congouref01_Given.tab5 congouref01_Given.bits5 (fun HT_ HW_ => ?_)
    generalize w48.drew = w49 at HO_6 BK274 HB hHeld ⊢
    refine pS 0 18 56 1 ?_
    refine tS 1 19 56 3 ?_
    refine pS 2 20 56 7 ?_
    refine pS 3 21 56 15 ?_
    refine pS 4 22 56 31 ?_
    refine pS 6 24 56 95 ?_
    refine pS 7 25 56 223 ?_
    refine tS 5 23 56 255 ?_
    refine pS 8 26 56 511 ?_
    refine pS 9 27 56 1023 ?_
    refine pS 10 28 56 2047 ?_
    refine pS 11 29 56 4095 ?_
    refine tS 12 30 56 8191 ?_
    refine pS 13 31 56 16383 ?_
    refine pS 14 32 56 32767 ?_
    refine pS 15 33 56 65535 ?_
    refine pS 16 34 56 131071 ?_
    refine pS 18 36 56 393215 ?_
    refine pS 19 37 56 917503 ?_
    refine tS 17 35 56 1048575 ?_
    refine pS 20 38 56 2097151 ?_
    refine pS 21 39 56 4194303 ?_
    refine pS 22 40 56 8388607 ?_
    refine pS 23 41 56 16777215 ?_
    refine pS 25 43 56 50331647 ?_
    refine tS 24 42 56 67108863 ?_
    refine tS 26 44 56 134217727 ?_
    refine pS 27 45 56 268435455 ?_
    refine pS 28 46 56 536870911 ?_
    refine pS 29 47 56 1073741823 ?_
    refine pS 30 48 56 2147483647 ?_
    refine tS 31 49 56 4294967295 ?_
    refine pS 32 50 56 8589934591 ?_
    refine pS 33 51 56 17179869183 ?_
    refine pS 34 52 56 34359738367 ?_
    refine pS 35 53 56 68719476735 ?_
    refine tS 36 54 56 137438953471 ?_
    refine pS 37 55 56 274877906943 ?_
    refine pS 38 56 56 549755813887 ?_
    refine pS 39 57 56 1099511627775 ?_
    refine uS 40 58 56 2199023255551 ?_
    refine uS 41 59 56 4398046511103 ?_
    refine uS 42 60 56 8796093022207 ?_
    refine uS 43 61 56 17592186044415 ?_
    refine uS 44 62 56 35184372088831 ?_
    refine uS 45 63 56 70368744177663 ?_
    refine uS 46 64 56 140737488355327 ?_
    refine uS 47 65 56 281474976710655 ?_
    refine uS 48 66 56 562949953421311 ?_
    refine uS 49 67 56 1125899906842623 ?_
    refine uS 50 68 56 2251799813685247 ?_
    refine uS 51 69 56 4503599627370495 ?_
    refine uS 52 70 56 9007199254740991 ?_
    refine uS 53 71 56 18014398509481983 ?_
    refine uS 54 72 56 36028797018963967 ?_
    refine pS 55 73 56 72057594037927935 ?_
    refine done_ (done_of HT_.out (by kernel_rfl)) ?_
    try go_wp2
    go_ret2
    exact ⟨_, by first | rfl | (simp [errW_none, errW_some] <;> rfl) | (simp [*, errW_none, errW_some] <;> rfl), by first | exact Kd.R_nil _ _ _ _ _ | exact Kd.N_nil _ _ _ _ _ | exact Kd.V_nil _ _ _ _ _ | exact Kd.Q_nil _ _ _ _ _ | exact Kd.S_nil _ _ _ _ _, hbC _⟩
   rw [if_neg c45] at H
   have c45b0 : decide (20 < ((rd_T78 l1 x14_1).f2)) = false := decide_eq_false c45
   clear c45
   by_cases c51 : 0 ≤ ((rd_T78 l1 x14_1).f0)
   rotate_left
   ·rw [if_neg c51] at H
    exact absurd H (by simp)
   rw [if_pos c51] at H
   have c51b0 : decide (0 ≤ ((rd_T78 l1 x14_1).f0)) = true := decide_eq_true c51
   clear c51
   by_cases c52 : ((rd_T78 l1 x14_1).f0) < (x6_1.length : Int)
   rotate_left
   ·rw [if_neg c52] at H
    exact absurd H (by simp)
   rw [if_pos c52] at H
   have c52b0 : decide (((rd_T78 l1 x14_1).f0) < (x6_1.length : Int)) = true := decide_eq_true c52
   clear c52
   by_cases c53 : 0 ≤ ((rd_T78 l1 x14_1).f1)
   rotate_left
   ·rw [if_neg c53] at H
    exact absurd H (by simp)
   rw [if_pos c53] at H
   have c53b0 : decide (0 ≤ ((rd_T78 l1 x14_1).f1)) = true := decide_eq_true c53
   clear c53
   by_cases c54 : ((rd_T78 l1 x14_1).f1) < (x6_1.length : Int)
   rotate_left
   ·rw [if_neg c54] at H
    exact absurd H (by simp)
   rw [if_pos c54] at H
   have c54b0 : decide (((rd_T78 l1 x14_1).f1) < (x6_1.length : Int)) = true := decide_eq_true c54
   clear c54
   by_cases c55 : (rd x6_1 ((rd_T78 l1 x14_1).f0)) < (wrap64 ((rd x6_1 ((rd_T78 l1 x14_1).f1)) + (wrap64 (2 * ((rd_T78 l1 x14_1).f2)))))
   ·rw [if_pos c55] at H
    have c55b0 : decide ((rd x6_1 ((rd_T78 l1 x14_1).f0)) < (wrap64 ((rd x6_1 ((rd_T78 l1 x14_1).f1)) + (wrap64 (2 * ((rd_T78 l1 x14_1).f2)))))) = true := decide_eq_true c55
    clear c55
    simp only [Option.some.injEq, Prod.mk.injEq] at H
    obtain ⟨rfl, rfl⟩ := H
    have p273 : 0 ≤ (x14_1 : Int) := dA
    have q273 : x14_1 < (l1.length : Int) := dA
    obtain ⟨ad273, e273, hx273_0, hx273_1, hx273_2⟩ := at_T78 HR1.out x14_1 p273 q273
    cases e273
    try replace hx273_0 := (HB.out.cell (World.block_lt_of_cell? w _ hx273_0)).trans hx273_0
    try replace hx273_1 := (HB.out.cell (World.block_lt_of_cell? w _ hx273_1)).trans hx273_1
    try replace hx273_2 := (HB.out.cell (World.block_lt_of_cell? w _ hx273_2)).trans hx273_2
    replace p273 := eq_true p273
    replace q273 := eq_true q273
    try go_wp2_with (first | ((with_reducible refine gate_dst (N := 8) rfl ?_); (try (refine gate_guard (by rfl) ?_; dsimp only)); refine bE 8 #[.int .i64 0, .int .i64 0, .int .i64 0] 78 ?_; intro gb274 hg w56 hbox hb; replace HO_6 := kO HO_6 hb; have BK274 := ak (hbox); have GW274 := kG w hg; have GE274 := kG w hg; replace HB := kH _ hb; clear hb hbox hg; have hcz57_0 : w56.cell? ⟨gb274, 0, none⟩ = some (.int .i64 0) := bc BK274 0; have hcz57_1 : w56.cell? ⟨gb274, 1, none⟩ = some (.int .i64 0) := bc BK274 1; have hcz57_2 : w56.cell? ⟨gb274, 2, none⟩ = some (.int .i64 0) := bc BK274 2; have hfz57_0 := fz BK274 0; have hfz57_1 := fz BK274 1; have hfz57_2 := fz BK274 2))
    have n0_ : Aside0 (Kd.R (Kd.int .i64) 3 (((w56.setCell ⟨gb274, 0, none⟩ (.int .i64 ((rd_T78 l1 x14_1).f0))).setCell ⟨gb274, 1, none⟩ (.int .i64 ((rd_T78 l1 x14_1).f1))).setCell ⟨gb274, 2, none⟩ (.int .i64 ((rd_T78 l1 x14_1).f2))) w.heap.size (fun _ => True) v271 x6_1) := ⟨rD (Kd.R_mono (Kd.R_far (p := ⟨gb274, 2, none⟩) (Kd.R_far (p := ⟨gb274, 1, none⟩) (Kd.R_far (p := ⟨gb274, 0, none⟩) (Kd.R_types HO_6.out BK274.out (by decide)) (fun _ hk => hk.2) (.int .i64 ((rd_T78 l1 x14_1).f0))) (fun _ hk => hk.2) (.int .i64 ((rd_T78 l1 x14_1).f1))) (fun _ hk => hk.2) (.int .i64 ((rd_T78 l1 x14_1).f2))) (fun _ hk => trivial))⟩
    have n1_ : Aside0 ((((w56.setCell ⟨gb274, 0, none⟩ (.int .i64 ((rd_T78 l1 x14_1).f0))).setCell ⟨gb274, 1, none⟩ (.int .i64 ((rd_T78 l1 x14_1).f1))).setCell ⟨gb274, 2, none⟩ (.int .i64 ((rd_T78 l1 x14_1).f2))).heap[gb274]? = some (.cells #[.int .i64 ((rd_T78 l1 x14_1).f0), .int .i64 ((rd_T78 l1 x14_1).f1), .int .i64 ((rd_T78 l1 x14_1).f2)] 78 (0, 0))) := ⟨by (with_reducible repeat (first | refine blk_drewN ?_ _ | refine blk_drew ?_ | refine blk_alloc ?_ _)); refine blk_put (cs := #[.int .i64 ((rd_T78 l1 x14_1).f0), .int .i64 ((rd_T78 l1 x14_1).f1), .int .i64 0]) ?_ 2 _ rfl; (with_reducible repeat (first | refine blk_drewN ?_ _ | refine blk_drew ?_ | refine blk_alloc ?_ _)); refine blk_put (cs := #[.int .i64 ((rd_T78 l1 x14_1).f0), .int .i64 0, .int .i64 0]) ?_ 1 _ rfl; (with_reducible repeat (first | refine blk_drewN ?_ _ | refine blk_drew ?_ | refine blk_alloc ?_ _)); refine blk_put (cs := #[.int .i64 0, .int .i64 0, .int .i64 0]) ?_ 0 _ rfl; (with_reducible repeat (first | refine blk_drewN ?_ _ | refine blk_drew ?_ | refine blk_alloc ?_ _)); exact BK274.out⟩
    have n2_ : Aside0 (Below w.heap.size w (((w56.setCell ⟨gb274, 0, none⟩ (.int .i64 ((rd_T78 l1 x14_1).f0))).setCell ⟨gb274, 1, none⟩ (.int .i64 ((rd_T78 l1 x14_1).f1))).setCell ⟨gb274, 2, none⟩ (.int .i64 ((rd_T78 l1 x14_1).f2)))) := ⟨hbC _⟩
    (try clear HO_6)
    (try clear BK274)
    (try clear HB)
    generalize (((w56.setCell ⟨gb274, 0, none⟩ (.int .i64 ((rd_T78 l1 x14_1).f0))).setCell ⟨gb274, 1, none⟩ (.int .i64 ((rd_T78 l1 x14_1).f1))).setCell ⟨gb274, 2, none⟩ (.int .i64 ((rd_T78 l1 x14_1).f2))) = w58 at n0_ n1_ n2_ ⊢
    have HO_6 := n0_
    have BK274 := n1_
    have HB := n2_
    clear n0_ n1_ n2_
    replace HO_6 := ak (Kd.R_drew HO_6.out)
    replace BK274 := kd BK274
    replace HB := ak (below_drew1 HB.out)
    obtain ⟨Ao60, co60, eo60⟩ := Kd.R_slice HO_6.out
    (first | subst eo60 | (injection eo60 with f1_ f2_ f3_; have f4_ := f1_.symm; have f5_ := f3_.symm; clear f1_ f2_ f3_; subst f4_; subst f5_))
    have p275 : 0 ≤ (((rd_T78 l1 x14_1).f0) : Int) := dA
    have q275 : ((rd_T78 l1 x14_1).f0) < (x6_1.length : Int) := dA
    obtain ⟨ad275, e275, hx275_0⟩ := Kd.at_int (Kd.R_reads' HO_6.out).2.2 ((rd_T78 l1 x14_1).f0) p275 q275
    cases e275
    replace p275 := eq_true p275
    replace q275 := eq_true q275
    have p276 : 0 ≤ (((rd_T78 l1 x14_1).f1) : Int) := dA
    have q276 : ((rd_T78 l1 x14_1).f1) < (x6_1.length : Int) := dA
    obtain ⟨ad276, e276, hx276_0⟩ := Kd.at_int (Kd.R_reads' HO_6.out).2.2 ((rd_T78 l1 x14_1).f1) p276 q276
    obtain rfl : ad275 = ad276 := (by injection e276)
    replace p276 := eq_true p276
    replace q276 := eq_true q276
    refine sS (n := 56) (S := fun w' => w'.cell? ⟨gb274, 0, none⟩ = some (.int .i64 ((rd_T78 l1 x14_1).f0)) ∧ w'.cell? ⟨gb274, 1, none⟩ = some (.int .i64 ((rd_T78 l1 x14_1).f1)) ∧ w'.cell? ⟨gb274, 2, none⟩ = some (.int .i64 ((rd_T78 l1 x14_1).f2)) ∧ w'.cell? (ad275.add (((rd_T78 l1 x14_1).f0)).toNat) = some (.int .i64 (rd x6_1 ((rd_T78 l1 x14_1).f0))) ∧ w'.cell? (ad275.add (((rd_T78 l1 x14_1).f1)).toNat) = some (.int .i64 (rd x6_1 ((rd_T78 l1 x14_1).f1)))) (ds := []) ⟨bc BK274 0, bc BK274 1, bc BK274 2, hx275_0, hx276_0⟩ (fun hHeld => ?_); refine with_tabW congouref01_Given.tab5 congouref01_Given.bits5 (fun HT_ HW_ => ?_)
    generalize w58.drew = w59 at HO_6 BK274 HB hx275_0 hx276_0 hHeld ⊢
    refine pS 0 18 56 1 ?_
    refine tS 1 19 56 3 ?_
    refine pS 2 20 56 7 ?_
    refine pS 3 21 56 15 ?_
    refine pS 4 22 56 31 ?_
    refine pS 6 24 56 95 ?_
    refine pS 7 25 56 223 ?_
    refine tS 5 23 56 255 ?_
    refine pS 8 26 56 511 ?_
    refine pS 9 27 56 1023 ?_
    refine pS 10 28 56 2047 ?_
    refine pS 11 29 56 4095 ?_
    refine tS 12 30 56 8191 ?_
    refine pS 13 31 56 16383 ?_
    refine pS 14 32 56 32767 ?_
    refine pS 15 33 56 65535 ?_
    refine pS 16 34 56 131071 ?_
    refine pS 18 36 56 393215 ?_
    refine pS 19 37 56 917503 ?_
    refine tS 17 35 56 1048575 ?_
    refine pS 20 38 56 2097151 ?_
    refine pS 21 39 56 4194303 ?_
    refine pS 22 40 56 8388607 ?_
    refine pS 23 41 56 16777215 ?_
    refine pS 25 43 56 50331647 ?_
    refine tS 24 42 56 67108863 ?_
    refine tS 26 44 56 134217727 ?_
    refine pS 27 45 56 268435455 ?_
    refine pS 28 46 56 536870911 ?_
    refine pS 29 47 56 1073741823 ?_
    refine pS 30 48 56 2147483647 ?_
    refine tS 31 49 56 4294967295 ?_
    refine pS 32 50 56 8589934591 ?_
    refine pS 33 51 56 17179869183 ?_
    refine pS 34 52 56 34359738367 ?_
    refine pS 35 53 56 68719476735 ?_
    refine tS 36 54 56 137438953471 ?_
    refine pS 37 55 56 274877906943 ?_
    refine pS 38 56 56 549755813887 ?_
    refine pS 39 57 56 1099511627775 ?_
    refine pS 40 58 56 2199023255551 ?_
    refine pS 41 59 56 4398046511103 ?_
    refine pS 45 63 56 39582418599935 ?_
    refine pS 46 64 56 109951162777599 ?_
    refine pS 50 68 56 1235851069620223 ?_
    refine tS 42 60 56 1240249116131327 ?_
    refine pS 43 61 56 1249045209153535 ?_
    refine tS 44 62 56 1266637395197951 ?_
    refine tS 47 65 56 1407374883553279 ?_
    refine pS 48 66 56 1688849860263935 ?_
    refine tS 49 67 56 2251799813685247 ?_
    refine tS 51 69 56 4503599627370495 ?_
    refine pS 52 70 56 9007199254740991 ?_
    refine pS 53 71 56 18014398509481983 ?_
    refine pS 54 72 56 36028797018963967 ?_
    refine pS 55 73 56 72057594037927935 ?_
    refine done_ (done_of HT_.out (by kernel_rfl)) ?_
    try go_wp2
    go_ret2
    exact ⟨_, by first | rfl | (simp [errW_none, errW_some] <;> rfl) | (simp [*, errW_none, errW_some] <;> rfl), by first | exact Kd.R_nil _ _ _ _ _ | exact Kd.N_nil _ _ _ _ _ | exact Kd.V_nil _ _ _ _ _ | exact Kd.Q_nil _ _ _ _ _ | exact Kd.S_nil _ _ _ _ _, hbC _⟩
   rw [if_neg c55] at H
   have c55b0 : decide ((rd x6_1 ((rd_T78 l1 x14_1).f0)) < (wrap64 ((rd x6_1 ((rd_T78 l1 x14_1).f1)) + (wrap64 (2 * ((rd_T78 l1 x14_1).f2)))))) = false := decide_eq_false c55
   clear c55
   obtain ⟨y278, hy278⟩ : ∃ y_ : List Int, y_ = (x6_1.set (((rd_T78 l1 x14_1).f0) : Int).toNat (wrap64 ((rd x6_1 ((rd_T78 l1 x14_1).f0)) - ((rd_T78 l1 x14_1).f2)))) := ⟨_, rfl⟩
   replace H : (congouref01_Given.l0 k1 (y278.set (((rd_T78 l1 x14_1).f1) : Int).toNat (wrap64 ((rd y278 ((rd_T78 l1 x14_1).f1)) + ((rd_T78 l1 x14_1).f2)))) l1 (l1.length : Int) (wrap64 (x14_1 + 1))) = some (r1, r2) := by first | (rw [hy278]; with_reducible exact H) | (have H2_ := (Option.bind_some _ _).symm.trans H; rw [hy278]; with_reducible exact H2_) | (have H2_ := (Option.bind_some _ _).symm.trans H; with_reducible exact H2_) | with_reducible exact H | (rw [hy278]; exact H) | exact H
   have Ny278 := Aside0.mk hy278
   clear hy278
   obtain ⟨y280, hy280⟩ : ∃ y_ : List Int, y_ = (y278.set (((rd_T78 l1 x14_1).f1) : Int).toNat (wrap64 ((rd y278 ((rd_T78 l1 x14_1).f1)) + ((rd_T78 l1 x14_1).f2)))) := ⟨_, rfl⟩
   replace H : (congouref01_Given.l0 k1 y280 l1 (l1.length : Int) (wrap64 (x14_1 + 1))) = some (r1, r2) := by first | (rw [hy280]; with_reducible exact H) | (have H2_ := (Option.bind_some _ _).symm.trans H; rw [hy280]; with_reducible exact H2_) | (have H2_ := (Option.bind_some _ _).symm.trans H; with_reducible exact H2_) | with_reducible exact H | (rw [hy280]; exact H) | exact H
   have Ny280 := Aside0.mk hy280
   clear hy280
   have H' := Aside0.mk H
   clear H
   have p273 : 0 ≤ (x14_1 : Int) := dA
   have q273 : x14_1 < (l1.length : Int) := dA
   obtain ⟨ad273, e273, hx273_0, hx273_1, hx273_2⟩ := at_T78 HR1.out x14_1 p273 q273
   cases e273
   try replace hx273_0 := (HB.out.cell (World.block_lt_of_cell? w _ hx273_0)).trans hx273_0
   try replace hx273_1 := (HB.out.cell (World.block_lt_of_cell? w _ hx273_1)).trans hx273_1
   try replace hx273_2 := (HB.out.cell (World.block_lt_of_cell? w _ hx273_2)).trans hx273_2
   replace p273 := eq_true p273
   replace q273 := eq_true q273
   try go_wp2_with (first | ((with_reducible refine gate_dst (N := 8) rfl ?_); (try (refine gate_guard (by rfl) ?_; dsimp only)); refine bE 8 #[.int .i64 0, .int .i64 0, .int .i64 0] 78 ?_; intro gb274 hg w63 hbox hb; replace HO_6 := kO HO_6 hb; have BK274 := ak (hbox); have GW274 := kG w hg; have GE274 := kG w hg; replace HB := kH _ hb; clear hb hbox hg; have hcz64_0 : w63.cell? ⟨gb274, 0, none⟩ = some (.int .i64 0) := bc BK274 0; have hcz64_1 : w63.cell? ⟨gb274, 1, none⟩ = some (.int .i64 0) := bc BK274 1; have hcz64_2 : w63.cell? ⟨gb274, 2, none⟩ = some (.int .i64 0) := bc BK274 2; have hfz64_0 := fz BK274 0; have hfz64_1 := fz BK274 1; have hfz64_2 := fz BK274 2))
   have n0_ : Aside0 (Kd.R (Kd.int .i64) 3 (((w63.setCell ⟨gb274, 0, none⟩ (.int .i64 ((rd_T78 l1 x14_1).f0))).setCell ⟨gb274, 1, none⟩ (.int .i64 ((rd_T78 l1 x14_1).f1))).setCell ⟨gb274, 2, none⟩ (.int .i64 ((rd_T78 l1 x14_1).f2))) w.heap.size (fun _ => True) v271 x6_1) := ⟨rD (Kd.R_mono (Kd.R_far (p := ⟨gb274, 2, none⟩) (Kd.R_far (p := ⟨gb274, 1, none⟩) (Kd.R_far (p := ⟨gb274, 0, none⟩) (Kd.R_types HO_6.out BK274.out (by decide)) (fun _ hk => hk.2) (.int .i64 ((rd_T78 l1 x14_1).f0))) (fun _ hk => hk.2) (.int .i64 ((rd_T78 l1 x14_1).f1))) (fun _ hk => hk.2) (.int .i64 ((rd_T78 l1 x14_1).f2))) (fun _ hk => trivial))⟩
   have n1_ : Aside0 ((((w63.setCell ⟨gb274, 0, none⟩ (.int .i64 ((rd_T78 l1 x14_1).f0))).setCell ⟨gb274, 1, none⟩ (.int .i64 ((rd_T78 l1 x14_1).f1))).setCell ⟨gb274, 2, none⟩ (.int .i64 ((rd_T78 l1 x14_1).f2))).heap[gb274]? = some (.cells #[.int .i64 ((rd_T78 l1 x14_1).f0), .int .i64 ((rd_T78 l1 x14_1).f1), .int .i64 ((rd_T78 l1 x14_1).f2)] 78 (0, 0))) := ⟨by (with_reducible repeat (first | refine blk_drewN ?_ _ | refine blk_drew ?_ | refine blk_alloc ?_ _)); refine blk_put (cs := #[.int .i64 ((rd_T78 l1 x14_1).f0), .int .i64 ((rd_T78 l1 x14_1).f1), .int .i64 0]) ?_ 2 _ rfl; (with_reducible repeat (first | refine blk_drewN ?_ _ | refine blk_drew ?_ | refine blk_alloc ?_ _)); refine blk_put (cs := #[.int .i64 ((rd_T78 l1 x14_1).f0), .int .i64 0, .int .i64 0]) ?_ 1 _ rfl; (with_reducible repeat (first | refine blk_drewN ?_ _ | refine blk_drew ?_ | refine blk_alloc ?_ _)); refine blk_put (cs := #[.int .i64 0, .int .i64 0, .int .i64 0]) ?_ 0 _ rfl; (with_reducible repeat (first | refine blk_drewN ?_ _ | refine blk_drew ?_ | refine blk_alloc ?_ _)); exact BK274.out⟩
   have n2_ : Aside0 (Below w.heap.size w (((w63.setCell ⟨gb274, 0, none⟩ (.int .i64 ((rd_T78 l1 x14_1).f0))).setCell ⟨gb274, 1, none⟩ (.int .i64 ((rd_T78 l1 x14_1).f1))).setCell ⟨gb274, 2, none⟩ (.int .i64 ((rd_T78 l1 x14_1).f2)))) := ⟨hbC _⟩
   (try clear HO_6)
   (try clear BK274)
   (try clear HB)
   generalize (((w63.setCell ⟨gb274, 0, none⟩ (.int .i64 ((rd_T78 l1 x14_1).f0))).setCell ⟨gb274, 1, none⟩ (.int .i64 ((rd_T78 l1 x14_1).f1))).setCell ⟨gb274, 2, none⟩ (.int .i64 ((rd_T78 l1 x14_1).f2))) = w65 at n0_ n1_ n2_ ⊢
   have HO_6 := n0_
   have BK274 := n1_
   have HB := n2_
   clear n0_ n1_ n2_
   replace HO_6 := ak (Kd.R_drew HO_6.out)
   replace BK274 := kd BK274
   replace HB := ak (below_drew1 HB.out)
   obtain ⟨Ao67, co67, eo67⟩ := Kd.R_slice HO_6.out
   (first | subst eo67 | (injection eo67 with f1_ f2_ f3_; have f4_ := f1_.symm; have f5_ := f3_.symm; clear f1_ f2_ f3_; subst f4_; subst f5_))
   have p275 : 0 ≤ (((rd_T78 l1 x14_1).f0) : Int) := dA
   have q275 : ((rd_T78 l1 x14_1).f0) < (x6_1.length : Int) := dA
   obtain ⟨ad275, e275, hx275_0⟩ := Kd.at_int (Kd.R_reads' HO_6.out).2.2 ((rd_T78 l1 x14_1).f0) p275 q275
   cases e275
   replace p275 := eq_true p275
   replace q275 := eq_true q275
   have p276 : 0 ≤ (((rd_T78 l1 x14_1).f1) : Int) := dA
   have q276 : ((rd_T78 l1 x14_1).f1) < (x6_1.length : Int) := dA
   obtain ⟨ad276, e276, hx276_0⟩ := Kd.at_int (Kd.R_reads' HO_6.out).2.2 ((rd_T78 l1 x14_1).f1) p276 q276
   obtain rfl : ad275 = ad276 := (by injection e276)
   replace p276 := eq_true p276
   replace q276 := eq_true q276
   refine sS (n := 56) (S := fun w' => w'.cell? ⟨gb274, 0, none⟩ = some (.int .i64 ((rd_T78 l1 x14_1).f0)) ∧ w'.cell? ⟨gb274, 1, none⟩ = some (.int .i64 ((rd_T78 l1 x14_1).f1)) ∧ w'.cell? ⟨gb274, 2, none⟩ = some (.int .i64 ((rd_T78 l1 x14_1).f2)) ∧ w'.cell? (ad275.add (((rd_T78 l1 x14_1).f0)).toNat) = some (.int .i64 (rd x6_1 ((rd_T78 l1 x14_1).f0))) ∧ w'.cell? (ad275.add (((rd_T78 l1 x14_1).f1)).toNat) = some (.int .i64 (rd x6_1 ((rd_T78 l1 x14_1).f1)))) (ds := []) ⟨bc BK274 0, bc BK274 1, bc BK274 2, hx275_0, hx276_0⟩ (fun hHeld => ?_); refine with_tabW congouref01_Given.tab5 congouref01_Given.bits5 (fun HT_ HW_ => ?_)
   generalize w65.drew = w66 at HO_6 BK274 HB hx275_0 hx276_0 hHeld ⊢
   refine pS 0 18 56 1 ?_
   refine tS 1 19 56 3 ?_
   refine pS 2 20 56 7 ?_
   refine pS 3 21 56 15 ?_
   refine pS 4 22 56 31 ?_
   refine pS 6 24 56 95 ?_
   refine pS 7 25 56 223 ?_
   refine tS 5 23 56 255 ?_
   refine pS 8 26 56 511 ?_
   refine pS 9 27 56 1023 ?_
   refine pS 10 28 56 2047 ?_
   refine pS 11 29 56 4095 ?_
   refine tS 12 30 56 8191 ?_
   refine pS 13 31 56 16383 ?_
   refine pS 14 32 56 32767 ?_
   refine pS 15 33 56 65535 ?_
   refine pS 16 34 56 131071 ?_
   refine pS 18 36 56 393215 ?_
   refine pS 19 37 56 917503 ?_
   refine tS 17 35 56 1048575 ?_
   refine pS 20 38 56 2097151 ?_
   refine pS 21 39 56 4194303 ?_
   refine pS 22 40 56 8388607 ?_
   refine pS 23 41 56 16777215 ?_
   refine pS 25 43 56 50331647 ?_
   refine tS 24 42 56 67108863 ?_
   refine tS 26 44 56 134217727 ?_
   refine pS 27 45 56 268435455 ?_
   refine pS 28 46 56 536870911 ?_
   refine pS 29 47 56 1073741823 ?_
   refine pS 30 48 56 2147483647 ?_
   refine tS 31 49 56 4294967295 ?_
   refine pS 32 50 56 8589934591 ?_
   refine pS 33 51 56 17179869183 ?_
   refine pS 34 52 56 34359738367 ?_
   refine pS 35 53 56 68719476735 ?_
   refine tS 36 54 56 137438953471 ?_
   refine pS 37 55 56 274877906943 ?_
   refine pS 38 56 56 549755813887 ?_
   refine pS 39 57 56 1099511627775 ?_
   refine pS 40 58 56 2199023255551 ?_
   refine pS 41 59 56 4398046511103 ?_
   refine pS 45 63 56 39582418599935 ?_
   refine pS 46 64 56 109951162777599 ?_
   refine pS 50 68 56 1235851069620223 ?_
   refine tS 42 60 56 1240249116131327 ?_
   refine pS 43 61 56 1249045209153535 ?_
   refine tS 44 62 56 1266637395197951 ?_
   refine tS 47 65 56 1407374883553279 ?_
   refine pS 48 66 56 1688849860263935 ?_
   refine tS 49 67 56 2251799813685247 ?_
   refine tS 51 69 56 4503599627370495 ?_
   refine pS 52 70 56 9007199254740991 ?_
   refine pS 53 71 56 18014398509481983 ?_
   refine pS 54 72 56 36028797018963967 ?_
   refine pS 55 73 56 72057594037927935 ?_
   refine done_ (done_of HT_.out (by kernel_rfl)) ?_
   try go_wp2
   replace HO_6 := ak (Kd.R_drew HO_6.out)
   replace BK274 := kd BK274
   replace HB := ak (below_drew1 HB.out)
   have p277 : 0 ≤ (((rd_T78 l1 x14_1).f0) : Int) := dA
   have q277 : ((rd_T78 l1 x14_1).f0) < (x6_1.length : Int) := dA
   obtain ⟨ad277, e277, hx277_0⟩ := Kd.at_int (Kd.R_reads' HO_6.out).2.2 ((rd_T78 l1 x14_1).f0) p277 q277
   obtain rfl : ad275 = ad277 := (by injection e277)
   replace p277 := eq_true p277
   replace q277 := eq_true q277
   have p61 : 0 ≤ (((rd_T78 l1 x14_1).f0) : Int) := dA
   have q61 : (((rd_T78 l1 x14_1).f0) : Int) < ((x6_1.length : Int) : Int) := dA
   obtain ⟨go61, co61, eo61, gb61, gl61, cl61, HG61⟩ := Kd.R_form HO_6.out (by omega)
   (first | cases eo61 | (injection eo61 with ea_ en_ ec_; (first | subst ea_ | (injection ea_ with ea_; subst ea_)); subst ec_; clear en_))
   have GB61 := Aside0.mk gb61
   have GG61 := Aside0.mk HG61
   clear gb61 gl61 HG61
   (first | simp only [add_plain] at hx275_0 | skip)
   (first | simp only [add_plain] at hx276_0 | skip)
   (first | simp only [add_plain] at hx277_0 | skip)
   obtain ⟨hx61_0, hf61_0⟩ := Kd.R_celln 0 HO_6.out (((rd_T78 l1 x14_1).f0) : Int) p61 q61
   replace p61 := eq_true p61
   replace q61 := eq_true q61
   have HP69 := Kd.R_putn HO_6.out (((rd_T78 l1 x14_1).f0) : Int) (wrap64 ((rd x6_1 ((rd_T78 l1 x14_1).f0)) - ((rd_T78 l1 x14_1).f2)))
   rw [← Ny278.out] at HP69
   have HQ69 := Aside0.mk HP69
   clear HP69
   refine sS (n := 10) (S := fun w' => w'.cell? ⟨gb274, 0, none⟩ = some (.int .i64 ((rd_T78 l1 x14_1).f0)) ∧ w'.cell? ⟨gb274, 1, none⟩ = some (.int .i64 ((rd_T78 l1 x14_1).f1)) ∧ w'.cell? ⟨gb274, 2, none⟩ = some (.int .i64 ((rd_T78 l1 x14_1).f2)) ∧ w'.cell? ⟨go61, (((rd_T78 l1 x14_1).f0) : Int).toNat, none⟩ = some (.int .i64 (rd x6_1 ((rd_T78 l1 x14_1).f0)))) (ds := [9]) ⟨bc BK274 0, bc BK274 1, bc BK274 2, hx277_0⟩ (fun hHeld => ?_); refine with_tabW congouref01_Given.tab7 congouref01_Given.bits7 (fun HT_ HW_ => ?_)
   generalize w66.drew = w68 at HO_6 BK274 HB GG61 HQ69 hf61_0 hx275_0 hx276_0 hx277_0 hx61_0 hHeld ⊢
   refine pS 0 74 10 1 ?_
   refine pS 1 75 10 3 ?_
   refine pS 5 79 10 35 ?_
   refine tS 2 76 10 39 ?_
   refine pS 3 77 10 47 ?_
   refine tS 4 78 10 63 ?_
   refine tS 6 80 10 127 ?_
   refine pS 7 81 10 255 ?_
   refine pS 8 82 10 511 ?_
   refine last_ (i := 9) (N := none) (ba 10 1023) rfl rfl (one_of HT_.out (by kernel_rfl)) (by decide) (fun K hK => ?_)
   refine skip_ (w1 := ?_) (by rfl) rfl ?_ ?_
   rotate_left
   ·go_simp
    rfl
   refine hK.out _ _ ?_
   clear hK K
   refine done_ (done_of HT_.out (by kernel_rfl)) ?_
   try go_wp2
   have n0_ : Aside0 (Kd.R (Kd.int .i64) 3 (w68.setCell ⟨go61, (((rd_T78 l1 x14_1).f0) : Int).toNat, none⟩ (.int .i64 (wrap64 ((rd x6_1 ((rd_T78 l1 x14_1).f0)) - ((rd_T78 l1 x14_1).f2))))) w.heap.size (fun _ => True) (.slice (some ⟨go61, 0, none⟩) x6_1.length co67) y278) := ⟨rD (HQ69.out)⟩
   have n1_ : Aside0 ((w68.setCell ⟨go61, (((rd_T78 l1 x14_1).f0) : Int).toNat, none⟩ (.int .i64 (wrap64 ((rd x6_1 ((rd_T78 l1 x14_1).f0)) - ((rd_T78 l1 x14_1).f2))))).heap[gb274]? = some (.cells #[.int .i64 ((rd_T78 l1 x14_1).f0), .int .i64 ((rd_T78 l1 x14_1).f1), .int .i64 ((rd_T78 l1 x14_1).f2)] 78 (0, 0))) := ⟨by (with_reducible repeat (first | refine blk_drewN ?_ _ | refine blk_drew ?_ | refine blk_alloc ?_ _)); refine blk_far ?_ (by have h_ := Kd.R_ne HO_6.out BK274.out (by decide); intro e_; exact h_ (by rw [e_]; rfl)) _; (with_reducible repeat (first | refine blk_drewN ?_ _ | refine blk_drew ?_ | refine blk_alloc ?_ _)); exact BK274.out⟩
   have n2_ : Aside0 (Below w.heap.size w (w68.setCell ⟨go61, (((rd_T78 l1 x14_1).f0) : Int).toNat, none⟩ (.int .i64 (wrap64 ((rd x6_1 ((rd_T78 l1 x14_1).f0)) - ((rd_T78 l1 x14_1).f2)))))) := ⟨by repeat (first | (with_reducible first | exact HB.out | apply below_alloc | apply pw_below_drewN | apply below_drew1 | refine below_set ?_ GB61.out | refine below_set ?_ GE274.out) | exact HB.out)⟩
   (try clear HO_6)
   (try clear BK274)
   (try clear HB)
   generalize (w68.setCell ⟨go61, (((rd_T78 l1 x14_1).f0) : Int).toNat, none⟩ (.int .i64 (wrap64 ((rd x6_1 ((rd_T78 l1 x14_1).f0)) - ((rd_T78 l1 x14_1).f2))))) = w70 at n0_ n1_ n2_ ⊢
   have HO_6 := n0_
   have BK274 := n1_
   have HB := n2_
   clear n0_ n1_ n2_
   replace HO_6 := ak (Kd.R_drew HO_6.out)
   replace BK274 := kd BK274
   replace HB := ak (below_drew1 HB.out)
   have p279 : 0 ≤ (((rd_T78 l1 x14_1).f1) : Int) := dA
   have q279 : ((rd_T78 l1 x14_1).f1) < (y278.length : Int) := (by have h_ : (((rd_T78 l1 x14_1).f1) : Int) < ((x6_1.length : Int) : Int) := dA; first | (have e_ := (Kd.R_reads' HO_6.out).1; omega) | simpa only [Ny278.out, List.length_set] using h_)
   have ql279 : ((((rd_T78 l1 x14_1).f1) : Int) < ((x6_1.length : Int) : Int)) = True := eq_true (dA)
   obtain ⟨ad279, e279, hx279_0⟩ := Kd.at_int (Kd.R_reads' HO_6.out).2.2 ((rd_T78 l1 x14_1).f1) p279 q279
   obtain rfl : (⟨go61, 0, none⟩ : Addr) = ad279 := (by injection e279)
   (first | simp only [add_plain] at hx279_0 | simp only [add_at] at hx279_0 | simp only [Addr.add, Nat.zero_add] at hx279_0 | skip)
   replace p279 := eq_true p279
   replace q279 := eq_true q279
   have p62 : 0 ≤ (((rd_T78 l1 x14_1).f1) : Int) := dA
   have q62 : (((rd_T78 l1 x14_1).f1) : Int) < ((x6_1.length : Int) : Int) := dA
   obtain ⟨hx62_0, hf62_0⟩ := Kd.R_celln 0 HO_6.out (((rd_T78 l1 x14_1).f1) : Int) p62 q62
   replace p62 := eq_true p62
   replace q62 := eq_true q62
   have HP72 := Kd.R_putn HO_6.out (((rd_T78 l1 x14_1).f1) : Int) (wrap64 ((rd y278 ((rd_T78 l1 x14_1).f1)) + ((rd_T78 l1 x14_1).f2)))
   rw [← Ny280.out] at HP72
   have HQ72 := Aside0.mk HP72
   clear HP72
   refine sS (n := 10) (S := fun w' => w'.cell? ⟨gb274, 0, none⟩ = some (.int .i64 ((rd_T78 l1 x14_1).f0)) ∧ w'.cell? ⟨gb274, 1, none⟩ = some (.int .i64 ((rd_T78 l1 x14_1).f1)) ∧ w'.cell? ⟨gb274, 2, none⟩ = some (.int .i64 ((rd_T78 l1 x14_1).f2)) ∧ w'.cell? ⟨go61, (((rd_T78 l1 x14_1).f1)).toNat, none⟩ = some (.int .i64 (rd y278 ((rd_T78 l1 x14_1).f1)))) (ds := [9]) ⟨bc BK274 0, bc BK274 1, bc BK274 2, hx279_0⟩ (fun hHeld => ?_); refine with_tabW congouref01_Given.tab8 congouref01_Given.bits8 (fun HT_ HW_ => ?_)
   generalize w70.drew = w71 at HO_6 BK274 HB HQ69 HQ72 hf62_0 hx279_0 hx62_0 hHeld ⊢
   refine pS 0 83 10 1 ?_
   refine pS 1 84 10 3 ?_
   refine pS 5 88 10 35 ?_
   refine tS 2 85 10 39 ?_
   refine pS 3 86 10 47 ?_
   refine tS 4 87 10 63 ?_
   refine tS 6 89 10 127 ?_
   refine pS 7 90 10 255 ?_
   refine pS 8 91 10 511 ?_
   refine last_ (i := 9) (N := none) (ba 10 1023) rfl rfl (one_of HT_.out (by kernel_rfl)) (by decide) (fun K hK => ?_)
   refine skip_ (w1 := ?_) (by rfl) rfl ?_ ?_
   rotate_left
   ·go_simp
    rfl
   refine hK.out _ _ ?_
   clear hK K
   refine done_ (done_of HT_.out (by kernel_rfl)) ?_
   try go_wp2
   go_roundg k1
   case measure => have := HK1.out; omega
   case rel => exact ⟨(y280), (wrap64 (x14_1 + 1)), (by first | rfl | (simp; done) | (simp [*]; done)), H', ⟨by have := HK1.out; omega⟩, ⟨rD (HQ72.out)⟩, ⟨by repeat (first | (with_reducible first | exact HB.out | apply below_alloc | apply pw_below_drewN | apply below_drew1 | refine below_set ?_ GB61.out | refine below_set ?_ GE274.out) | exact HB.out)⟩⟩

end Go.Proofs.Ytefmafbbnkkpjaa.X
