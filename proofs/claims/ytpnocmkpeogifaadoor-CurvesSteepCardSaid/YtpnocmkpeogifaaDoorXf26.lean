-- Written by a program of this work (wip/xprint.py, over the kit's printer) out of the translation.
import Derived.Test.YtpnocmkpeogifaaDoorX0
import Derived.Test.YtpnocmkpeogifaaDoorXG1a
import Derived.Test.YtpnocmkpeogifaaDoorXG2a
namespace Go.Proofs.YtpnocmkpeogifaaDoor.X
open Go.RowKit Go.Proofs.YtpnocmkpeogifaaDoorW.PrintWords Go.Proofs.YtpnocmkpeogifaaDoorW.PrintLast Go.Proofs.YtpnocmkpeogifaaDoorW.PrintMore
attribute [local go_sem] max2_int min2_int max_two min_two max_three min_three max_four min_four   -- for this text's walks alone
set_option linter.unusedVariables false
set_option linter.unusedSimpArgs false

/-! ### curves_ratio_plus: function 26 -/
def curves_ratio_plus.f (k : Nat) (a0_0 : Int) (a0_1 : Int) (a1_0 : Int) (a1_1 : Int) : Option (Int × Int) := (curves_gcd.f k a0_1 a1_1).bind fun t181 => (if t181 = 0 then (none) else ((curves_of.f k (wrap64 ((wrap64 (a0_0 * (wrap64 (Int.tdiv a1_1 t181)))) + (wrap64 (a1_0 * (wrap64 (Int.tdiv a0_1 t181)))))) (wrap64 ((wrap64 (Int.tdiv a0_1 t181)) * a1_1))).bind fun bt182 => (some (bt182.1, bt182.2))))
theorem curves_ratio_plus.mono : ∀ a0 a1 a2 a3 k, LeO (curves_ratio_plus.f k a0 a1 a2 a3) (curves_ratio_plus.f (k + 1) a0 a1 a2 a3) := by
 intro a0 a1 a2 a3 k
 unfold curves_ratio_plus.f
 repeat' first
   | (with_reducible exact curves_gcd.mono _ _ _)
   | (with_reducible exact curves_of.mono _ _ _)
   | (with_reducible exact LeO.refl _)
   | (with_reducible exact LeO.none _)
   | (with_reducible refine LeO.ite ?_ ?_)
   | (with_reducible refine LeO.bind ?_ (fun _ => ?_))
   | exact curves_gcd.mono _ _ _
   | exact curves_of.mono _ _ _
   | exact LeO.none _
   | refine LeO.ite ?_ ?_
   | refine LeO.bind ?_ (fun _ => ?_)
def curves_ratio_plus.T2 : Bool × List (List Nat × List Nat) := (true, [([], []), ([0], [0]), ([1], [1]), ([], []), ([3], [3]), ([4], [4]), ([], []), ([5, 6], [5, 6]), ([2, 7], [2, 7]), ([], []), ([9], [9]), ([10], [10]), ([], []), ([12], [12]), ([13], [13]), ([], []), ([14, 15], [14, 15]), ([11, 16], [11, 16]), ([8, 17], [8, 17]), ([], []), ([19], [19]), ([20], [20]), ([], []), ([21, 22], [21, 22]), ([], []), ([24], [24]), ([25], [25]), ([23, 26], [23, 26]), ([18, 27], [18, 27]), ([28, 28, 0, 1, 2, 3, 4, 5, 6, 7, 8, 9, 10, 11, 12, 13, 14, 15, 16, 17, 18, 19, 20, 21, 22, 23, 24, 25, 26, 27, 28], [28])])
def curves_ratio_plus.B2 : List Nat := [0, 1, 3, 0, 8, 24, 0, 120, 255, 0, 512, 1536, 0, 4096, 12288, 0, 61440, 130560, 262143, 0, 524288, 1572864, 0, 7864320, 0, 16777216, 50331648, 133693440, 268435455, 536870911]
theorem curves_ratio_plus.tab2 : rtab .any (opsOf Tryd.f26 2) = curves_ratio_plus.T2 := by kernel_rfl
theorem curves_ratio_plus.bits2 : waitsOk curves_ratio_plus.T2.2 curves_ratio_plus.B2 = true := by kernel_rfl
set_option maxHeartbeats 8000000 in
set_option maxRecDepth 100000 in
theorem curves_ratio_plus.calls (k : Nat) (a0_0 : Int) (a0_1 : Int) (a1_0 : Int) (a1_1 : Int) (r1 : Int) (r2 : Int) (w : World) (h : curves_ratio_plus.f k a0_0 a0_1 a1_0 a1_1 = some (r1, r2)) :
  Calls Tryd.prog 26 #[.agg #[.int .i64 a0_0, .int .i64 a0_1], .agg #[.int .i64 a1_0, .int .i64 a1_1]] w fun e w' => e = .returned (.agg #[.int .i64 r1, .int .i64 r2]) ∧ Below w.heap.size w w' := by
 have hu49 := Tryd.underlying49
 have HB := ak (Below.refl w.heap.size w)
 have H : ((curves_gcd.f k a0_1 a1_1).bind fun t181 => (if t181 = 0 then (none) else ((curves_of.f k (wrap64 ((wrap64 (a0_0 * (wrap64 (Int.tdiv a1_1 t181)))) + (wrap64 (a1_0 * (wrap64 (Int.tdiv a0_1 t181)))))) (wrap64 ((wrap64 (Int.tdiv a0_1 t181)) * a1_1))).bind fun bt182 => (some (bt182.1, bt182.2))))) = some (r1, r2) := h
 clear h
 replace H := Option.bind_eq_some_iff.mp H
 obtain ⟨t181, A30, H⟩ := H
 replace H : (if t181 = 0 then (none) else ((curves_of.f k (wrap64 ((wrap64 (a0_0 * (wrap64 (Int.tdiv a1_1 t181)))) + (wrap64 (a1_0 * (wrap64 (Int.tdiv a0_1 t181)))))) (wrap64 ((wrap64 (Int.tdiv a0_1 t181)) * a1_1))).bind fun bt182 => (some (bt182.1, bt182.2)))) = some (r1, r2) := H
 have A3 := Aside0.mk A30
 clear A30
 by_cases c4 : t181 = 0
 ·rw [if_pos c4] at H
  exact absurd H (by simp)
 rw [if_neg c4] at H
 have c4b0 : (t181 == 0) = false := beq_eq_false_iff_ne.mpr c4
 have c4b1 : (t181 != 0) = true := bne_iff_ne.mpr c4
 replace H := Option.bind_eq_some_iff.mp H
 obtain ⟨⟨t182, t183⟩, A50, H⟩ := H
 replace H : (some (t182, t183)) = some (r1, r2) := H
 have A5 := Aside0.mk A50
 clear A50
 simp only [Option.some.injEq, Prod.mk.injEq] at H
 obtain ⟨rfl, rfl⟩ := H
 go_enter Tryd.func26, Tryd.ntmps26
 try go_wp2_with (first | ((with_reducible refine gate_dst (N := 2) rfl ?_); refine bE 2 #[.int .i64 a0_0, .int .i64 a0_1] 49 ?_; intro gb178 hg w6 hbox hb; have BK178 := ak (hbox); have GW178 := kG w hg; have GE178 := kG w hg; replace HB := kH _ hb; clear hb hbox hg) | ((with_reducible refine gate_dst (N := 3) rfl ?_); refine bE 3 #[.int .i64 a1_0, .int .i64 a1_1] 49 ?_; intro gb179 hg w7 hbox hb; have BK179 := ak (hbox); have GW179 := kG w hg; have GE179 := kG w hg; replace HB := kH _ hb; have NB178_179 := kL BK178 hg; have NB179_178 := kR BK178 hg; replace BK178 := kB BK178 hb; clear hb hbox hg) | ((with_reducible refine gate_dst (N := 4) rfl ?_); refine bE 4 #[.int .i64 0, .int .i64 0] 49 ?_; intro gb180 hg w8 hbox hb; have BK180 := ak (hbox); have GW180 := kG w hg; have GE180 := kG w hg; replace HB := kH _ hb; have NB178_180 := kL BK178 hg; have NB180_178 := kR BK178 hg; replace BK178 := kB BK178 hb; have NB179_180 := kL BK179 hg; have NB180_179 := kR BK179 hg; replace BK179 := kB BK179 hb; clear hb hbox hg; have hnb9 := NB178_179.out; have hnc9 := NB179_178.out; have hnb10 := NB178_180.out; have hnc10 := NB180_178.out; have hcz11_0 : w8.cell? ⟨gb178, 0, none⟩ = some (.int .i64 a0_0) := bc BK178 0; have hcz11_1 : w8.cell? ⟨gb178, 1, none⟩ = some (.int .i64 a0_1) := bc BK178 1; have hfz11_0 := fz BK178 0; have hfz11_1 := fz BK178 1; have hnb12 := NB179_180.out; have hnc12 := NB180_179.out; have hcz13_0 : w8.cell? ⟨gb179, 0, none⟩ = some (.int .i64 a1_0) := bc BK179 0; have hcz13_1 : w8.cell? ⟨gb179, 1, none⟩ = some (.int .i64 a1_1) := bc BK179 1; have hfz13_0 := fz BK179 0; have hfz13_1 := fz BK179 1) | ((with_reducible refine gate_callee (f := 29) rfl ?_); refine gL 12 Tryd.func29 #[.int .i64 a0_1, .int .i64 a1_1] ?_; (with_reducible refine (curves_gcd.calls k a0_1 a1_1 t181 _ A3.out).mono ?_); rintro e w14 ⟨rfl, hb⟩; refine ⟨_, rfl, ?_⟩; replace BK178 := kB BK178 hb; replace BK179 := kB BK179 hb; replace BK180 := kB BK180 hb; replace HB := kH _ hb; (try clear hb); (try clear hb2); (try clear hk); (try clear hi)))
 replace BK178 := kd BK178
 replace BK179 := kd BK179
 replace BK180 := kd BK180
 replace HB := ak (below_drew1 HB.out)
 refine sS (n := 30) (S := fun w' => w'.cell? ⟨gb178, 0, none⟩ = some (.int .i64 a0_0) ∧ w'.cell? ⟨gb178, 1, none⟩ = some (.int .i64 a0_1) ∧ w'.cell? ⟨gb179, 0, none⟩ = some (.int .i64 a1_0) ∧ w'.cell? ⟨gb179, 1, none⟩ = some (.int .i64 a1_1)) (ds := []) ⟨bc BK178 0, bc BK178 1, bc BK179 0, bc BK179 1⟩ (fun hHeld => ?_); refine with_tabW curves_ratio_plus.tab2 curves_ratio_plus.bits2 (fun HT_ HW_ => ?_)
 generalize w14.drew = w15 at BK178 BK179 BK180 HB hHeld ⊢
 refine pS 0 13 30 1 ?_
 refine pS 1 14 30 3 ?_
 refine pS 3 16 30 11 ?_
 refine pS 4 17 30 27 ?_
 refine pS 6 19 30 91 ?_
 refine pS 9 22 30 603 ?_
 refine pS 10 23 30 1627 ?_
 refine pS 12 25 30 5723 ?_
 refine pS 13 26 30 13915 ?_
 refine pS 15 28 30 46683 ?_
 refine pS 19 32 30 570971 ?_
 refine pS 20 33 30 1619547 ?_
 refine pS 22 35 30 5813851 ?_
 refine pS 24 37 30 22591067 ?_
 refine pS 25 38 30 56145499 ?_
 refine tS 2 15 30 56145503 ?_
 refine tS 5 18 30 56145535 ?_
 refine pS 7 20 30 56145663 ?_
 refine pS 8 21 30 56145919 ?_
 refine tS 11 24 30 56147967 ?_
 refine tS 14 27 30 56164351 ?_
 refine pS 16 29 30 56229887 ?_
 refine pS 17 30 30 56360959 ?_
 refine pS 18 31 30 56623103 ?_
 refine tS 21 34 30 58720255 ?_
 refine pS 23 36 30 67108863 ?_
 refine tS 26 39 30 134217727 ?_
 refine pS 27 40 30 268435455 ?_
 refine one_ (i := 28) (N := some 41) (ba 30 536870911) rfl rfl (one_of HT_.out (by kernel_rfl)) (by decide) (fun K hK => ?_)
 refine gC Tryd.func24 #[.int .i64 (wrap64 ((wrap64 (a0_0 * (wrap64 (Int.tdiv a1_1 t181)))) + (wrap64 (a1_0 * (wrap64 (Int.tdiv a0_1 t181)))))), .int .i64 (wrap64 ((wrap64 (Int.tdiv a0_1 t181)) * a1_1))] ?_
 with_reducible refine (curves_of.calls k (wrap64 ((wrap64 (a0_0 * (wrap64 (Int.tdiv a1_1 t181)))) + (wrap64 (a1_0 * (wrap64 (Int.tdiv a0_1 t181)))))) (wrap64 ((wrap64 (Int.tdiv a0_1 t181)) * a1_1)) t182 t183 _ A5.out).mono ?_
 rintro e w16 ⟨rfl, hb⟩
 refine ⟨_, rfl, ?_⟩
 replace BK178 := kB BK178 hb
 replace BK179 := kB BK179 hb
 replace BK180 := kB BK180 hb
 replace HB := kH _ hb
 (try clear hb)
 (try clear hb2)
 (try clear hk)
 (try clear hi)
 refine hK.out _ _ ⟨bc BK178 0, bc BK178 1, bc BK179 0, bc BK179 1⟩ (fun hHeld => ?_)
 clear hK K
 refine norm_ (a' := ?_) ?_ ?_
 rotate_left
 ·show Act.put _ (some 41) _ = _
  simp only [Act.put, List.setIfInBounds_toArray, List.set_cons_zero, List.set_cons_succ, i64_w, i32_w]
  rfl
 refine one_ (i := 29) (N := none) (ba 30 1073741823) rfl rfl (one_of HT_.out (by kernel_rfl)) (by decide) (fun K hK => ?_)
 have hs17 : w16.cell? ⟨gb180, 0, none⟩ = some (.int .i64 0) := bc BK180 0
 have hfs17 := fz BK180 0
 have hns17_0 := NB178_180.out
 have hns17_1 := NB179_180.out
 have hms17_0 := NB180_178.out
 have hms17_1 := NB180_179.out
 have hs18 : w16.cell? ⟨gb180, 1, none⟩ = some (.int .i64 0) := bc BK180 1
 have hfs18 := fz BK180 1
 have hns18_0 := NB178_180.out
 have hns18_1 := NB179_180.out
 have hms18_0 := NB180_178.out
 have hms18_1 := NB180_179.out
 refine skip_ (w1 := ?_) (by rfl) rfl ?_ ?_
 rotate_left
 ·go_simp
  rfl
 refine hK.out _ _ ⟨((cell_far (p := ⟨gb180, _, none⟩) NB178_180.out _).trans (((cell_far (p := ⟨gb180, _, none⟩) NB178_180.out _).trans (hHeld.1)))), ((cell_far (p := ⟨gb180, _, none⟩) NB178_180.out _).trans (((cell_far (p := ⟨gb180, _, none⟩) NB178_180.out _).trans (hHeld.2.1)))), ((cell_far (p := ⟨gb180, _, none⟩) NB179_180.out _).trans (((cell_far (p := ⟨gb180, _, none⟩) NB179_180.out _).trans (hHeld.2.2.1)))), ((cell_far (p := ⟨gb180, _, none⟩) NB179_180.out _).trans (((cell_far (p := ⟨gb180, _, none⟩) NB179_180.out _).trans (hHeld.2.2.2))))⟩ (fun hHeld => ?_)
 clear hK K
 refine done_ (done_of HT_.out (by kernel_rfl)) ?_
 try go_wp2
 refine bodyPost_ret (results_cell_row rfl _ _ gb180 49 #[.int .i64 t182, .int .i64 t183] (0, 0) _ rfl (by (with_reducible repeat (first | refine blk_drewN ?_ _ | refine blk_drew ?_ | refine blk_alloc ?_ _)); refine blk_put (cs := #[.int .i64 t182, .int .i64 0]) ?_ 1 _ rfl; (with_reducible repeat (first | refine blk_drewN ?_ _ | refine blk_drew ?_ | refine blk_alloc ?_ _)); refine blk_put (cs := #[.int .i64 0, .int .i64 0]) ?_ 0 _ rfl; (with_reducible repeat (first | refine blk_drewN ?_ _ | refine blk_drew ?_ | refine blk_alloc ?_ _)); exact BK180.out) Tryd.underlying49 rfl (by kernel_rfl)) rfl ?_
 exact ⟨by first | rfl | (simp [errW_none, errW_some] <;> rfl) | (simp [*, errW_none, errW_some] <;> rfl), hbC _⟩

end Go.Proofs.YtpnocmkpeogifaaDoor.X
