-- Written by a program of this work (wip/xprint.py, over the kit's printer) out of the translation.
import Derived.Test.YtefmafbbnkkpjaaX0
import Derived.Test.YtefmafbbnkkpjaaXG1a
import Derived.Test.YtefmafbbnkkpjaaXG2a
namespace Go.Proofs.Ytefmafbbnkkpjaa.X
open Go.RowKit Go.Proofs.YtefmafbbnkkpjaaW.PrintWords Go.Proofs.YtefmafbbnkkpjaaW.PrintLast Go.Proofs.YtefmafbbnkkpjaaW.PrintMore
attribute [local go_sem] max2_int min2_int max_two min_two max_three min_three max_four min_four   -- for this text's walks alone
set_option linter.unusedVariables false
set_option linter.unusedSimpArgs false

/-! ### shares_plus: function 117 -/
def shares_plus.f (k : Nat) (a0_0 : Int) (a0_1 : Int) (a1_0 : Int) (a1_1 : Int) : Option (Int × Int) := (shares_gcd.f k a0_1 a1_1).bind fun t1014 => (if t1014 = 0 then (none) else ((shares_frac.f k (wrap64 ((wrap64 (a0_0 * (wrap64 (Int.tdiv a1_1 t1014)))) + (wrap64 (a1_0 * (wrap64 (Int.tdiv a0_1 t1014)))))) (wrap64 ((wrap64 (Int.tdiv a0_1 t1014)) * a1_1))).bind fun bt1015 => (some (bt1015.1, bt1015.2))))
theorem shares_plus.mono : ∀ a0 a1 a2 a3 k, LeO (shares_plus.f k a0 a1 a2 a3) (shares_plus.f (k + 1) a0 a1 a2 a3) := by
 intro a0 a1 a2 a3 k
 unfold shares_plus.f
 repeat' first
   | (with_reducible exact shares_frac.mono _ _ _)
   | (with_reducible exact shares_gcd.mono _ _ _)
   | (with_reducible exact LeO.refl _)
   | (with_reducible exact LeO.none _)
   | (with_reducible refine LeO.ite ?_ ?_)
   | (with_reducible refine LeO.bind ?_ (fun _ => ?_))
   | exact shares_frac.mono _ _ _
   | exact shares_gcd.mono _ _ _
   | exact LeO.none _
   | refine LeO.ite ?_ ?_
   | refine LeO.bind ?_ (fun _ => ?_)
def shares_plus.T2 : Bool × List (List Nat × List Nat) := (true, [([], []), ([0], [0]), ([], []), ([2], [2]), ([], []), ([3, 4], [3, 4]), ([1, 5], [1, 5]), ([], []), ([7], [7]), ([], []), ([9], [9]), ([], []), ([10, 11], [10, 11]), ([8, 12], [8, 12]), ([6, 13], [6, 13]), ([], []), ([15], [15]), ([], []), ([16, 17], [16, 17]), ([], []), ([19], [19]), ([18, 20], [18, 20]), ([14, 21], [14, 21]), ([22, 22, 0, 1, 2, 3, 4, 5, 6, 7, 8, 9, 10, 11, 12, 13, 14, 15, 16, 17, 18, 19, 20, 21, 22], [22])])
def shares_plus.B2 : List Nat := [0, 1, 0, 4, 0, 28, 63, 0, 128, 0, 512, 0, 3584, 8064, 16383, 0, 32768, 0, 229376, 0, 524288, 2064384, 4194303, 8388607]
theorem shares_plus.tab2 : rtab .any (opsOf Try.f117 2) = shares_plus.T2 := by kernel_rfl
theorem shares_plus.bits2 : waitsOk shares_plus.T2.2 shares_plus.B2 = true := by kernel_rfl
set_option maxHeartbeats 8000000 in
set_option maxRecDepth 100000 in
theorem shares_plus.calls (k : Nat) (a0_0 : Int) (a0_1 : Int) (a1_0 : Int) (a1_1 : Int) (r1 : Int) (r2 : Int) (w : World) (h : shares_plus.f k a0_0 a0_1 a1_0 a1_1 = some (r1, r2)) :
  Calls Try.prog 117 #[.agg #[.int .i64 a0_0, .int .i64 a0_1], .agg #[.int .i64 a1_0, .int .i64 a1_1]] w fun e w' => e = .returned (.agg #[.int .i64 r1, .int .i64 r2]) ∧ Below w.heap.size w w' := by
 have hu62 := Try.underlying62
 have HB := ak (Below.refl w.heap.size w)
 have H : ((shares_gcd.f k a0_1 a1_1).bind fun t1014 => (if t1014 = 0 then (none) else ((shares_frac.f k (wrap64 ((wrap64 (a0_0 * (wrap64 (Int.tdiv a1_1 t1014)))) + (wrap64 (a1_0 * (wrap64 (Int.tdiv a0_1 t1014)))))) (wrap64 ((wrap64 (Int.tdiv a0_1 t1014)) * a1_1))).bind fun bt1015 => (some (bt1015.1, bt1015.2))))) = some (r1, r2) := h
 clear h
 replace H := Option.bind_eq_some_iff.mp H
 obtain ⟨t1014, A30, H⟩ := H
 replace H : (if t1014 = 0 then (none) else ((shares_frac.f k (wrap64 ((wrap64 (a0_0 * (wrap64 (Int.tdiv a1_1 t1014)))) + (wrap64 (a1_0 * (wrap64 (Int.tdiv a0_1 t1014)))))) (wrap64 ((wrap64 (Int.tdiv a0_1 t1014)) * a1_1))).bind fun bt1015 => (some (bt1015.1, bt1015.2)))) = some (r1, r2) := H
 have A3 := Aside0.mk A30
 clear A30
 by_cases c4 : t1014 = 0
 ·rw [if_pos c4] at H
  exact absurd H (by simp)
 rw [if_neg c4] at H
 have c4b0 : (t1014 == 0) = false := beq_eq_false_iff_ne.mpr c4
 have c4b1 : (t1014 != 0) = true := bne_iff_ne.mpr c4
 replace H := Option.bind_eq_some_iff.mp H
 obtain ⟨⟨t1015, t1016⟩, A50, H⟩ := H
 replace H : (some (t1015, t1016)) = some (r1, r2) := H
 have A5 := Aside0.mk A50
 clear A50
 simp only [Option.some.injEq, Prod.mk.injEq] at H
 obtain ⟨rfl, rfl⟩ := H
 go_enter Try.func117, Try.ntmps117
 try go_wp2_with (first | ((with_reducible refine gate_dst (N := 2) rfl ?_); refine bE 2 #[.int .i64 a0_0, .int .i64 a0_1] 62 ?_; intro gb1011 hg w6 hbox hb; have BK1011 := ak (hbox); have GW1011 := kG w hg; have GE1011 := kG w hg; replace HB := kH _ hb; clear hb hbox hg) | ((with_reducible refine gate_dst (N := 3) rfl ?_); refine bE 3 #[.int .i64 a1_0, .int .i64 a1_1] 62 ?_; intro gb1012 hg w7 hbox hb; have BK1012 := ak (hbox); have GW1012 := kG w hg; have GE1012 := kG w hg; replace HB := kH _ hb; have NB1011_1012 := kL BK1011 hg; have NB1012_1011 := kR BK1011 hg; replace BK1011 := kB BK1011 hb; clear hb hbox hg) | ((with_reducible refine gate_dst (N := 4) rfl ?_); refine bE 4 #[.int .i64 0, .int .i64 0] 62 ?_; intro gb1013 hg w8 hbox hb; have BK1013 := ak (hbox); have GW1013 := kG w hg; have GE1013 := kG w hg; replace HB := kH _ hb; have NB1011_1013 := kL BK1011 hg; have NB1013_1011 := kR BK1011 hg; replace BK1011 := kB BK1011 hb; have NB1012_1013 := kL BK1012 hg; have NB1013_1012 := kR BK1012 hg; replace BK1012 := kB BK1012 hb; clear hb hbox hg; have hnb9 := NB1011_1012.out; have hnc9 := NB1012_1011.out; have hnb10 := NB1011_1013.out; have hnc10 := NB1013_1011.out; have hcz11_0 : w8.cell? ⟨gb1011, 0, none⟩ = some (.int .i64 a0_0) := bc BK1011 0; have hcz11_1 : w8.cell? ⟨gb1011, 1, none⟩ = some (.int .i64 a0_1) := bc BK1011 1; have hfz11_0 := fz BK1011 0; have hfz11_1 := fz BK1011 1; have hnb12 := NB1012_1013.out; have hnc12 := NB1013_1012.out; have hcz13_0 : w8.cell? ⟨gb1012, 0, none⟩ = some (.int .i64 a1_0) := bc BK1012 0; have hcz13_1 : w8.cell? ⟨gb1012, 1, none⟩ = some (.int .i64 a1_1) := bc BK1012 1; have hfz13_0 := fz BK1012 0; have hfz13_1 := fz BK1012 1) | ((with_reducible refine gate_callee (f := 108) rfl ?_); refine gL 10 Try.func108 #[.int .i64 a0_1, .int .i64 a1_1] ?_; (with_reducible refine (shares_gcd.calls k a0_1 a1_1 t1014 _ A3.out).mono ?_); rintro e w14 ⟨rfl, hb⟩; refine ⟨_, rfl, ?_⟩; replace BK1011 := kB BK1011 hb; replace BK1012 := kB BK1012 hb; replace BK1013 := kB BK1013 hb; replace HB := kH _ hb; (try clear hb); (try clear hb2); (try clear hk); (try clear hi)))
 replace BK1011 := kd BK1011
 replace BK1012 := kd BK1012
 replace BK1013 := kd BK1013
 replace HB := ak (below_drew1 HB.out)
 refine sS (n := 24) (S := fun w' => w'.cell? ⟨gb1011, 0, none⟩ = some (.int .i64 a0_0) ∧ w'.cell? ⟨gb1011, 1, none⟩ = some (.int .i64 a0_1) ∧ w'.cell? ⟨gb1012, 0, none⟩ = some (.int .i64 a1_0) ∧ w'.cell? ⟨gb1012, 1, none⟩ = some (.int .i64 a1_1)) (ds := []) ⟨bc BK1011 0, bc BK1011 1, bc BK1012 0, bc BK1012 1⟩ (fun hHeld => ?_); refine with_tabW shares_plus.tab2 shares_plus.bits2 (fun HT_ HW_ => ?_)
 generalize w14.drew = w15 at BK1011 BK1012 BK1013 HB hHeld ⊢
 refine pS 0 11 24 1 ?_
 refine pS 2 13 24 5 ?_
 refine pS 4 15 24 21 ?_
 refine pS 7 18 24 149 ?_
 refine pS 9 20 24 661 ?_
 refine pS 11 22 24 2709 ?_
 refine pS 15 26 24 35477 ?_
 refine pS 17 28 24 166549 ?_
 refine pS 19 30 24 690837 ?_
 refine tS 1 12 24 690839 ?_
 refine tS 3 14 24 690847 ?_
 refine pS 5 16 24 690879 ?_
 refine pS 6 17 24 690943 ?_
 refine tS 8 19 24 691199 ?_
 refine tS 10 21 24 692223 ?_
 refine pS 12 23 24 696319 ?_
 refine pS 13 24 24 704511 ?_
 refine pS 14 25 24 720895 ?_
 refine tS 16 27 24 786431 ?_
 refine pS 18 29 24 1048575 ?_
 refine tS 20 31 24 2097151 ?_
 refine pS 21 32 24 4194303 ?_
 refine one_ (i := 22) (N := some 33) (ba 24 8388607) rfl rfl (one_of HT_.out (by kernel_rfl)) (by decide) (fun K hK => ?_)
 refine gC Try.func85 #[.int .i64 (wrap64 ((wrap64 (a0_0 * (wrap64 (Int.tdiv a1_1 t1014)))) + (wrap64 (a1_0 * (wrap64 (Int.tdiv a0_1 t1014)))))), .int .i64 (wrap64 ((wrap64 (Int.tdiv a0_1 t1014)) * a1_1))] ?_
 with_reducible refine (shares_frac.calls k (wrap64 ((wrap64 (a0_0 * (wrap64 (Int.tdiv a1_1 t1014)))) + (wrap64 (a1_0 * (wrap64 (Int.tdiv a0_1 t1014)))))) (wrap64 ((wrap64 (Int.tdiv a0_1 t1014)) * a1_1)) t1015 t1016 _ A5.out).mono ?_
 rintro e w16 ⟨rfl, hb⟩
 refine ⟨_, rfl, ?_⟩
 replace BK1011 := kB BK1011 hb
 replace BK1012 := kB BK1012 hb
 replace BK1013 := kB BK1013 hb
 replace HB := kH _ hb
 (try clear hb)
 (try clear hb2)
 (try clear hk)
 (try clear hi)
 refine hK.out _ _ ⟨bc BK1011 0, bc BK1011 1, bc BK1012 0, bc BK1012 1⟩ (fun hHeld => ?_)
 clear hK K
 refine norm_ (a' := ?_) ?_ ?_
 rotate_left
 ·show Act.put _ (some 33) _ = _
  simp only [Act.put, List.setIfInBounds_toArray, List.set_cons_zero, List.set_cons_succ, i64_w, i32_w]
  rfl
 refine one_ (i := 23) (N := none) (ba 24 16777215) rfl rfl (one_of HT_.out (by kernel_rfl)) (by decide) (fun K hK => ?_)
 have hs17 : w16.cell? ⟨gb1013, 0, none⟩ = some (.int .i64 0) := bc BK1013 0
 have hfs17 := fz BK1013 0
 have hns17_0 := NB1011_1013.out
 have hns17_1 := NB1012_1013.out
 have hms17_0 := NB1013_1011.out
 have hms17_1 := NB1013_1012.out
 have hs18 : w16.cell? ⟨gb1013, 1, none⟩ = some (.int .i64 0) := bc BK1013 1
 have hfs18 := fz BK1013 1
 have hns18_0 := NB1011_1013.out
 have hns18_1 := NB1012_1013.out
 have hms18_0 := NB1013_1011.out
 have hms18_1 := NB1013_1012.out
 refine skip_ (w1 := ?_) (by rfl) rfl ?_ ?_
 rotate_left
 ·go_simp
  rfl
 refine hK.out _ _ ⟨((cell_far (p := ⟨gb1013, _, none⟩) NB1011_1013.out _).trans (((cell_far (p := ⟨gb1013, _, none⟩) NB1011_1013.out _).trans (hHeld.1)))), ((cell_far (p := ⟨gb1013, _, none⟩) NB1011_1013.out _).trans (((cell_far (p := ⟨gb1013, _, none⟩) NB1011_1013.out _).trans (hHeld.2.1)))), ((cell_far (p := ⟨gb1013, _, none⟩) NB1012_1013.out _).trans (((cell_far (p := ⟨gb1013, _, none⟩) NB1012_1013.out _).trans (hHeld.2.2.1)))), ((cell_far (p := ⟨gb1013, _, none⟩) NB1012_1013.out _).trans (((cell_far (p := ⟨gb1013, _, none⟩) NB1012_1013.out _).trans (hHeld.2.2.2))))⟩ (fun hHeld => ?_)
 clear hK K
 refine done_ (done_of HT_.out (by kernel_rfl)) ?_
 try go_wp2
 refine bodyPost_ret (results_cell_row rfl _ _ gb1013 62 #[.int .i64 t1015, .int .i64 t1016] (0, 0) _ rfl (by (with_reducible repeat (first | refine blk_drewN ?_ _ | refine blk_drew ?_ | refine blk_alloc ?_ _)); refine blk_put (cs := #[.int .i64 t1015, .int .i64 0]) ?_ 1 _ rfl; (with_reducible repeat (first | refine blk_drewN ?_ _ | refine blk_drew ?_ | refine blk_alloc ?_ _)); refine blk_put (cs := #[.int .i64 0, .int .i64 0]) ?_ 0 _ rfl; (with_reducible repeat (first | refine blk_drewN ?_ _ | refine blk_drew ?_ | refine blk_alloc ?_ _)); exact BK1013.out) Try.underlying62 rfl (by kernel_rfl)) rfl ?_
 exact ⟨by first | rfl | (simp [errW_none, errW_some] <;> rfl) | (simp [*, errW_none, errW_some] <;> rfl), hbC _⟩

end Go.Proofs.Ytefmafbbnkkpjaa.X
