-- Written by a program of this work (wip/xprint.py, over the kit's printer) out of the translation.
import Derived.Test.YtpnocmkpeogifaaX0
import Derived.Test.YtpnocmkpeogifaaXG1a
import Derived.Test.YtpnocmkpeogifaaXG2a
namespace Go.Proofs.Ytpnocmkpeogifaa.X
open Go.RowKit Go.Proofs.YtpnocmkpeogifaaW.PrintWords Go.Proofs.YtpnocmkpeogifaaW.PrintLast Go.Proofs.YtpnocmkpeogifaaW.PrintMore
attribute [local go_sem] max2_int min2_int max_two min_two max_three min_three max_four min_four   -- for this text's walks alone
set_option linter.unusedVariables false
set_option linter.unusedSimpArgs false

/-! ### congouref04_Plus: function 57 -/
def congouref04_Plus.f (k : Nat) (a0_0 : Int) (a0_1 : Int) (a1_0 : Int) (a1_1 : Int) : Option (Int × Int) := (congouref04_gcd.f k a0_1 a1_1).bind fun t428 => (if t428 = 0 then (none) else (if a0_1 = 0 then (none) else (if a1_1 = 0 then (none) else ((congouref04_Frac.f k (wrap64 ((wrap64 (a0_0 * (wrap64 (Int.tdiv (wrap64 ((wrap64 (Int.tdiv a0_1 t428)) * a1_1)) a0_1)))) + (wrap64 (a1_0 * (wrap64 (Int.tdiv (wrap64 ((wrap64 (Int.tdiv a0_1 t428)) * a1_1)) a1_1)))))) (wrap64 ((wrap64 (Int.tdiv a0_1 t428)) * a1_1))).bind fun bt429 => (some (bt429.1, bt429.2))))))
theorem congouref04_Plus.mono : ∀ a0 a1 a2 a3 k, LeO (congouref04_Plus.f k a0 a1 a2 a3) (congouref04_Plus.f (k + 1) a0 a1 a2 a3) := by
 intro a0 a1 a2 a3 k
 unfold congouref04_Plus.f
 repeat' first
   | (with_reducible exact congouref04_Frac.mono _ _ _)
   | (with_reducible exact congouref04_gcd.mono _ _ _)
   | (with_reducible exact LeO.refl _)
   | (with_reducible exact LeO.none _)
   | (with_reducible refine LeO.ite ?_ ?_)
   | (with_reducible refine LeO.bind ?_ (fun _ => ?_))
   | exact congouref04_Frac.mono _ _ _
   | exact congouref04_gcd.mono _ _ _
   | exact LeO.none _
   | refine LeO.ite ?_ ?_
   | refine LeO.bind ?_ (fun _ => ?_)
def congouref04_Plus.T1 : Bool × List (List Nat × List Nat) := (true, [([], []), ([0], [0]), ([], []), ([2], [2]), ([], []), ([4], [4]), ([3, 5], [3, 5]), ([1, 6], [1, 6]), ([], []), ([8], [8]), ([7, 9], [7, 9]), ([10, 6, 0, 1, 2, 3, 4, 5, 6, 7, 8, 9, 10], [10])])
def congouref04_Plus.B1 : List Nat := [0, 1, 0, 4, 0, 16, 60, 127, 0, 256, 1023, 2047]
theorem congouref04_Plus.tab1 : rtab .any (opsOf Try.f57 1) = congouref04_Plus.T1 := by kernel_rfl
theorem congouref04_Plus.bits1 : waitsOk congouref04_Plus.T1.2 congouref04_Plus.B1 = true := by kernel_rfl
def congouref04_Plus.T2 : Bool × List (List Nat × List Nat) := (true, [([], []), ([0], [0]), ([], []), ([], []), ([3], [3]), ([2, 4], [2, 4]), ([1, 5], [1, 5]), ([], []), ([7], [7]), ([], []), ([], []), ([10], [10]), ([9, 11], [9, 11]), ([8, 12], [8, 12]), ([6, 13], [6, 13]), ([], []), ([14, 15], [14, 15]), ([16, 16, 0, 1, 2, 3, 4, 5, 6, 7, 8, 9, 10, 11, 12, 13, 14, 15, 16], [16])])
def congouref04_Plus.B2 : List Nat := [0, 1, 0, 0, 8, 28, 63, 0, 128, 0, 0, 1024, 3584, 8064, 16383, 0, 65535, 131071]
theorem congouref04_Plus.tab2 : rtab .any (opsOf Try.f57 2) = congouref04_Plus.T2 := by kernel_rfl
theorem congouref04_Plus.bits2 : waitsOk congouref04_Plus.T2.2 congouref04_Plus.B2 = true := by kernel_rfl
set_option maxHeartbeats 8000000 in
set_option maxRecDepth 100000 in
theorem congouref04_Plus.calls (k : Nat) (a0_0 : Int) (a0_1 : Int) (a1_0 : Int) (a1_1 : Int) (r1 : Int) (r2 : Int) (w : World) (h : congouref04_Plus.f k a0_0 a0_1 a1_0 a1_1 = some (r1, r2)) :
  Calls Try.prog 57 #[.agg #[.int .i64 a0_0, .int .i64 a0_1], .agg #[.int .i64 a1_0, .int .i64 a1_1]] w fun e w' => e = .returned (.agg #[.int .i64 r1, .int .i64 r2]) ∧ Below w.heap.size w w' := by
 have hu26 := Try.underlying26
 have HB := ak (Below.refl w.heap.size w)
 have H : ((congouref04_gcd.f k a0_1 a1_1).bind fun t428 => (if t428 = 0 then (none) else (if a0_1 = 0 then (none) else (if a1_1 = 0 then (none) else ((congouref04_Frac.f k (wrap64 ((wrap64 (a0_0 * (wrap64 (Int.tdiv (wrap64 ((wrap64 (Int.tdiv a0_1 t428)) * a1_1)) a0_1)))) + (wrap64 (a1_0 * (wrap64 (Int.tdiv (wrap64 ((wrap64 (Int.tdiv a0_1 t428)) * a1_1)) a1_1)))))) (wrap64 ((wrap64 (Int.tdiv a0_1 t428)) * a1_1))).bind fun bt429 => (some (bt429.1, bt429.2))))))) = some (r1, r2) := h
 clear h
 replace H := Option.bind_eq_some_iff.mp H
 obtain ⟨t428, A30, H⟩ := H
 replace H : (if t428 = 0 then (none) else (if a0_1 = 0 then (none) else (if a1_1 = 0 then (none) else ((congouref04_Frac.f k (wrap64 ((wrap64 (a0_0 * (wrap64 (Int.tdiv (wrap64 ((wrap64 (Int.tdiv a0_1 t428)) * a1_1)) a0_1)))) + (wrap64 (a1_0 * (wrap64 (Int.tdiv (wrap64 ((wrap64 (Int.tdiv a0_1 t428)) * a1_1)) a1_1)))))) (wrap64 ((wrap64 (Int.tdiv a0_1 t428)) * a1_1))).bind fun bt429 => (some (bt429.1, bt429.2)))))) = some (r1, r2) := H
 have A3 := Aside0.mk A30
 clear A30
 by_cases c4 : t428 = 0
 ·rw [if_pos c4] at H
  exact absurd H (by simp)
 rw [if_neg c4] at H
 have c4b0 : (t428 == 0) = false := beq_eq_false_iff_ne.mpr c4
 have c4b1 : (t428 != 0) = true := bne_iff_ne.mpr c4
 by_cases c5 : a0_1 = 0
 ·rw [if_pos c5] at H
  exact absurd H (by simp)
 rw [if_neg c5] at H
 have c5b0 : (a0_1 == 0) = false := beq_eq_false_iff_ne.mpr c5
 have c5b1 : (a0_1 != 0) = true := bne_iff_ne.mpr c5
 by_cases c6 : a1_1 = 0
 ·rw [if_pos c6] at H
  exact absurd H (by simp)
 rw [if_neg c6] at H
 have c6b0 : (a1_1 == 0) = false := beq_eq_false_iff_ne.mpr c6
 have c6b1 : (a1_1 != 0) = true := bne_iff_ne.mpr c6
 replace H := Option.bind_eq_some_iff.mp H
 obtain ⟨⟨t429, t430⟩, A70, H⟩ := H
 replace H : (some (t429, t430)) = some (r1, r2) := H
 have A7 := Aside0.mk A70
 clear A70
 simp only [Option.some.injEq, Prod.mk.injEq] at H
 obtain ⟨rfl, rfl⟩ := H
 go_enter Try.func57, Try.ntmps57
 try go_wp2_with (first | ((with_reducible refine gate_dst (N := 2) rfl ?_); refine bE 2 #[.int .i64 a0_0, .int .i64 a0_1] 26 ?_; intro gb425 hg w8 hbox hb; have BK425 := ak (hbox); have GW425 := kG w hg; have GE425 := kG w hg; replace HB := kH _ hb; clear hb hbox hg) | ((with_reducible refine gate_dst (N := 3) rfl ?_); refine bE 3 #[.int .i64 a1_0, .int .i64 a1_1] 26 ?_; intro gb426 hg w9 hbox hb; have BK426 := ak (hbox); have GW426 := kG w hg; have GE426 := kG w hg; replace HB := kH _ hb; have NB425_426 := kL BK425 hg; have NB426_425 := kR BK425 hg; replace BK425 := kB BK425 hb; clear hb hbox hg) | ((with_reducible refine gate_dst (N := 4) rfl ?_); refine bE 4 #[.int .i64 0, .int .i64 0] 26 ?_; intro gb427 hg w10 hbox hb; have BK427 := ak (hbox); have GW427 := kG w hg; have GE427 := kG w hg; replace HB := kH _ hb; have NB425_427 := kL BK425 hg; have NB427_425 := kR BK425 hg; replace BK425 := kB BK425 hb; have NB426_427 := kL BK426 hg; have NB427_426 := kR BK426 hg; replace BK426 := kB BK426 hb; clear hb hbox hg))
 replace BK425 := kd BK425
 replace BK426 := kd BK426
 replace BK427 := kd BK427
 replace HB := ak (below_drew1 HB.out)
 refine sS (n := 12) (S := fun w' => w'.cell? ⟨gb425, 0, none⟩ = some (.int .i64 a0_0) ∧ w'.cell? ⟨gb425, 1, none⟩ = some (.int .i64 a0_1) ∧ w'.cell? ⟨gb426, 0, none⟩ = some (.int .i64 a1_0) ∧ w'.cell? ⟨gb426, 1, none⟩ = some (.int .i64 a1_1)) (ds := []) ⟨bc BK425 0, bc BK425 1, bc BK426 0, bc BK426 1⟩ (fun hHeld => ?_); refine with_tabW congouref04_Plus.tab1 congouref04_Plus.bits1 (fun HT_ HW_ => ?_)
 generalize w10.drew = w11 at BK425 BK426 BK427 HB hHeld ⊢
 refine pS 0 6 12 1 ?_
 refine pS 2 8 12 5 ?_
 refine pS 4 10 12 21 ?_
 refine pS 8 14 12 277 ?_
 refine tS 1 7 12 279 ?_
 refine tS 3 9 12 287 ?_
 refine tS 5 11 12 319 ?_
 refine tS 9 15 12 831 ?_
 refine one_ (i := 6) (N := some 12) (ba 12 895) rfl rfl (one_of HT_.out (by kernel_rfl)) (by decide) (fun K hK => ?_)
 refine gC Try.func63 #[.int .i64 a0_1, .int .i64 a1_1] ?_
 with_reducible refine (congouref04_gcd.calls k a0_1 a1_1 t428 _ A3.out).mono ?_
 rintro e w' ⟨rfl, ⟨nd, rfl⟩⟩
 refine ⟨_, rfl, ?_⟩
 refine hK.out _ _ ⟨bc BK425 0, bc BK425 1, bc BK426 0, bc BK426 1⟩ (fun hHeld => ?_)
 clear hK K
 refine norm_ (a' := ?_) ?_ ?_
 rotate_left
 ·show Act.put _ (some 12) _ = _
  simp only [Act.put, List.setIfInBounds_toArray, List.set_cons_zero, List.set_cons_succ, i64_w, i32_w]
  rfl
 refine pS 7 13 12 1023 ?_
 refine pS 10 16 12 2047 ?_
 refine pS 11 5 12 4095 ?_
 refine done_ (done_of HT_.out (by kernel_rfl)) ?_
 try go_wp2
 (try (rw [drewN_self w11]; generalize hq_ : World.drewN w11 _ = w11; have n0_ : Aside0 (w11.heap[gb425]? = some (.cells #[.int .i64 a0_0, .int .i64 a0_1] 26 (0, 0))) := ⟨by rw [← hq_]; exact (bkC BK425)⟩; have n1_ : Aside0 (w11.heap[gb426]? = some (.cells #[.int .i64 a1_0, .int .i64 a1_1] 26 (0, 0))) := ⟨by rw [← hq_]; exact (bkC BK426)⟩; have n2_ : Aside0 (w11.heap[gb427]? = some (.cells #[.int .i64 0, .int .i64 0] 26 (0, 0))) := ⟨by rw [← hq_]; exact (bkC BK427)⟩; have n3_ : Aside0 (Below w.heap.size w w11) := ⟨by rw [← hq_]; exact (hbC _)⟩; clear BK425 BK426 BK427 HB hq_; have BK425 := n0_; have BK426 := n1_; have BK427 := n2_; have HB := n3_; clear n0_ n1_ n2_ n3_))
 replace BK425 := kd BK425
 replace BK426 := kd BK426
 replace BK427 := kd BK427
 replace HB := ak (below_drew1 HB.out)
 refine sS (n := 18) (S := fun w' => w'.cell? ⟨gb425, 0, none⟩ = some (.int .i64 a0_0) ∧ w'.cell? ⟨gb425, 1, none⟩ = some (.int .i64 a0_1) ∧ w'.cell? ⟨gb426, 0, none⟩ = some (.int .i64 a1_0) ∧ w'.cell? ⟨gb426, 1, none⟩ = some (.int .i64 a1_1)) (ds := []) ⟨bc BK425 0, bc BK425 1, bc BK426 0, bc BK426 1⟩ (fun hHeld => ?_); refine with_tabW congouref04_Plus.tab2 congouref04_Plus.bits2 (fun HT_ HW_ => ?_)
 generalize w11.drew = w12 at BK425 BK426 BK427 HB hHeld ⊢
 refine pS 0 17 18 1 ?_
 refine pS 2 19 18 5 ?_
 refine pS 3 20 18 13 ?_
 refine pS 7 24 18 141 ?_
 refine pS 9 26 18 653 ?_
 refine pS 10 27 18 1677 ?_
 refine pS 15 32 18 34445 ?_
 refine tS 1 18 18 34447 ?_
 refine tS 4 21 18 34463 ?_
 refine pS 5 22 18 34495 ?_
 refine pS 6 23 18 34559 ?_
 refine tS 8 25 18 34815 ?_
 refine tS 11 28 18 36863 ?_
 refine pS 12 29 18 40959 ?_
 refine pS 13 30 18 49151 ?_
 refine pS 14 31 18 65535 ?_
 refine one_ (i := 16) (N := some 33) (ba 18 131071) rfl rfl (one_of HT_.out (by kernel_rfl)) (by decide) (fun K hK => ?_)
 refine gC Try.func33 #[.int .i64 (wrap64 ((wrap64 (a0_0 * (wrap64 (Int.tdiv (wrap64 ((wrap64 (Int.tdiv a0_1 t428)) * a1_1)) a0_1)))) + (wrap64 (a1_0 * (wrap64 (Int.tdiv (wrap64 ((wrap64 (Int.tdiv a0_1 t428)) * a1_1)) a1_1)))))), .int .i64 (wrap64 ((wrap64 (Int.tdiv a0_1 t428)) * a1_1))] ?_
 with_reducible refine (congouref04_Frac.calls k (wrap64 ((wrap64 (a0_0 * (wrap64 (Int.tdiv (wrap64 ((wrap64 (Int.tdiv a0_1 t428)) * a1_1)) a0_1)))) + (wrap64 (a1_0 * (wrap64 (Int.tdiv (wrap64 ((wrap64 (Int.tdiv a0_1 t428)) * a1_1)) a1_1)))))) (wrap64 ((wrap64 (Int.tdiv a0_1 t428)) * a1_1)) t429 t430 _ A7.out).mono ?_
 rintro e w13 ⟨rfl, hb⟩
 refine ⟨_, rfl, ?_⟩
 replace BK425 := kB BK425 hb
 replace BK426 := kB BK426 hb
 replace BK427 := kB BK427 hb
 replace HB := kH _ hb
 (try clear hb)
 (try clear hb2)
 (try clear hk)
 (try clear hi)
 refine hK.out _ _ ⟨bc BK425 0, bc BK425 1, bc BK426 0, bc BK426 1⟩ (fun hHeld => ?_)
 clear hK K
 refine norm_ (a' := ?_) ?_ ?_
 rotate_left
 ·show Act.put _ (some 33) _ = _
  simp only [Act.put, List.setIfInBounds_toArray, List.set_cons_zero, List.set_cons_succ, i64_w, i32_w]
  rfl
 refine one_ (i := 17) (N := none) (ba 18 262143) rfl rfl (one_of HT_.out (by kernel_rfl)) (by decide) (fun K hK => ?_)
 have hs14 : w13.cell? ⟨gb427, 0, none⟩ = some (.int .i64 0) := bc BK427 0
 have hfs14 := fz BK427 0
 have hns14_0 := NB425_427.out
 have hns14_1 := NB426_427.out
 have hms14_0 := NB427_425.out
 have hms14_1 := NB427_426.out
 have hs15 : w13.cell? ⟨gb427, 1, none⟩ = some (.int .i64 0) := bc BK427 1
 have hfs15 := fz BK427 1
 have hns15_0 := NB425_427.out
 have hns15_1 := NB426_427.out
 have hms15_0 := NB427_425.out
 have hms15_1 := NB427_426.out
 refine skip_ (w1 := ?_) (by rfl) rfl ?_ ?_
 rotate_left
 ·go_simp
  rfl
 refine hK.out _ _ ⟨((cell_far (p := ⟨gb427, _, none⟩) NB425_427.out _).trans (((cell_far (p := ⟨gb427, _, none⟩) NB425_427.out _).trans (hHeld.1)))), ((cell_far (p := ⟨gb427, _, none⟩) NB425_427.out _).trans (((cell_far (p := ⟨gb427, _, none⟩) NB425_427.out _).trans (hHeld.2.1)))), ((cell_far (p := ⟨gb427, _, none⟩) NB426_427.out _).trans (((cell_far (p := ⟨gb427, _, none⟩) NB426_427.out _).trans (hHeld.2.2.1)))), ((cell_far (p := ⟨gb427, _, none⟩) NB426_427.out _).trans (((cell_far (p := ⟨gb427, _, none⟩) NB426_427.out _).trans (hHeld.2.2.2))))⟩ (fun hHeld => ?_)
 clear hK K
 refine done_ (done_of HT_.out (by kernel_rfl)) ?_
 try go_wp2
 refine bodyPost_ret (results_cell_row rfl _ _ gb427 26 #[.int .i64 t429, .int .i64 t430] (0, 0) _ rfl (by (with_reducible repeat (first | refine blk_drewN ?_ _ | refine blk_drew ?_ | refine blk_alloc ?_ _)); refine blk_put (cs := #[.int .i64 t429, .int .i64 0]) ?_ 1 _ rfl; (with_reducible repeat (first | refine blk_drewN ?_ _ | refine blk_drew ?_ | refine blk_alloc ?_ _)); refine blk_put (cs := #[.int .i64 0, .int .i64 0]) ?_ 0 _ rfl; (with_reducible repeat (first | refine blk_drewN ?_ _ | refine blk_drew ?_ | refine blk_alloc ?_ _)); exact BK427.out) Try.underlying26 rfl (by kernel_rfl)) rfl ?_
 exact ⟨by first | rfl | (simp [errW_none, errW_some] <;> rfl) | (simp [*, errW_none, errW_some] <;> rfl), hbC _⟩

end Go.Proofs.Ytpnocmkpeogifaa.X
