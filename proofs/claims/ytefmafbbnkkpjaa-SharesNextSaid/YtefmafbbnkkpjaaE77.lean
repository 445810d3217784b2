/- The walk of Below's closure: a row lies between (printed with the captured slice as a parameter, mended: the slice is read out of its cell). -/
import Derived.Test.YtefmafbbnkkpjaaX0
import Derived.Test.YtefmafbbnkkpjaaXG1a
import Derived.Test.YtefmafbbnkkpjaaXG2a
import Derived.Test.YtefmafbbnkkpjaaXf60
namespace Go.Proofs.Ytefmafbbnkkpjaa.X
open Go.RowKit Go.Proofs.YtefmafbbnkkpjaaW.PrintWords Go.Proofs.YtefmafbbnkkpjaaW.PrintLast Go.Proofs.YtefmafbbnkkpjaaW.PrintMore
attribute [local go_sem] max2_int min2_int max_two min_two max_three min_three max_four min_four   -- for this text's walks alone
set_option linter.unusedVariables false
set_option linter.unusedSimpArgs false

/-! ### shares_Below_1: function 77 -/
def shares_Below_1.f (k : Nat) (l0 : List Int) (l1 : List Int) : Option (Bool) := (slices_Equal_int_int.f k l1 l0).bind fun t370 => (if t370 = true then (some false) else ((shares_padded.f l0).bind fun t371 => ((shares_padded.f l1).bind fun t374 => ((shares_uneven.f k t371 t374).bind fun t377 => (some t377)))))
def shares_Below_1.T1 : Bool × List (List Nat × List Nat) := (true, [([], []), ([], []), ([0, 1], [0, 1]), ([2], [2]), ([3, 2], [3]), ([4], [4]), ([5, 4, 4], [4, 5]), ([4], [4]), ([7, 6, 4], [4, 7]), ([6, 8, 8, 4], [4, 6, 8]), ([4, 9], [4, 9]), ([10, 9, 0, 1, 2, 3, 4, 5, 6, 7, 8, 9, 10], [10])])
def shares_Below_1.B1 : List Nat := [0, 0, 3, 7, 15, 31, 63, 31, 255, 511, 1023, 2047]
theorem shares_Below_1.tab1 : rtab .any (opsOf Try.f77 1) = shares_Below_1.T1 := by kernel_rfl
theorem shares_Below_1.bits1 : waitsOk shares_Below_1.T1.2 shares_Below_1.B1 = true := by kernel_rfl
set_option maxHeartbeats 8000000 in
set_option maxRecDepth 100000 in
theorem between_calls (k : Nat) (A0 : Option Addr) (c0 : Nat) (l0 : List Int) (A1 : Option Addr) (c1 : Nat) (l1 : List Int) (Bb : Nat) (r : Bool) (w : World) (hkb : w.cell? ⟨Bb, 0, none⟩ = some (.slice A1 l1.length c1)) (hr0 : Kd.C (Kd.int .i64) w A0 l0.length l0) (hc0 : l0.length ≤ c0) (hr1 : Kd.C (Kd.int .i64) w A1 l1.length l1) (hc1 : l1.length ≤ c1) (h : shares_Below_1.f k l0 l1 = some r) :
  Calls Try.prog 77 #[.slice A0 l0.length c0, .pointer (some ⟨Bb, 0, none⟩)] w fun e w' => e = .returned (.bool r) ∧ Below w.heap.size w w' := by
 have HKB := Aside0.mk hkb
 clear hkb
 have HR0 := Aside0.mk hr0
 have HC0 := Aside0.mk hc0
 clear hr0 hc0
 have HR1 := Aside0.mk hr1
 have HC1 := Aside0.mk hc1
 clear hr1 hc1
 have HB := ak (Below.refl w.heap.size w)
 have H : ((slices_Equal_int_int.f k l1 l0).bind fun t370 => (if t370 = true then (some false) else ((shares_padded.f l0).bind fun t371 => ((shares_padded.f l1).bind fun t374 => ((shares_uneven.f k t371 t374).bind fun t377 => (some t377)))))) = some r := h
 clear h
 replace H := Option.bind_eq_some_iff.mp H
 obtain ⟨t370, A30, H⟩ := H
 replace H : (if t370 = true then (some false) else ((shares_padded.f l0).bind fun t371 => ((shares_padded.f l1).bind fun t374 => ((shares_uneven.f k t371 t374).bind fun t377 => (some t377))))) = some r := H
 have A3 := Aside0.mk A30
 clear A30
 by_cases c4 : t370 = true
 ·subst c4
  have H1 : (some false) = some r := by rw [if_pos rfl] at H; exact H
  clear H
  have H := H1
  clear H1
  obtain rfl := Option.some.inj H
  go_enter Try.func77, Try.ntmps77
  try go_wp2
  replace HB := ak (below_drew1 HB.out)
  refine sS (n := 12) (S := fun w' => w'.cell? ⟨Bb, 0, none⟩ = some (.slice A1 l1.length c1)) (ds := []) (pw_cell_below HB.out HKB.out) (fun hHeld => ?_); refine with_tabW shares_Below_1.tab1 shares_Below_1.bits1 (fun HT_ HW_ => ?_)
  generalize w.drew = w5 at HB hHeld ⊢
  refine tS 0 4 12 1 ?_
  refine pS 1 5 12 3 ?_
  refine one_ (i := 2) (N := some 6) (ba 12 7) rfl rfl (one_of HT_.out (by kernel_rfl)) (by decide) (fun K hK => ?_)
  refine gC Try.func31 #[.slice A1 l1.length c1, .slice A0 l0.length c0] ?_
  with_reducible refine (slices_Equal_int_int.calls k _ _ l1 _ _ l0 true _ ?side1 ?side2 ?side3 ?side4 A3.out).mono ?_
  (case side1 => exact kC HR1)
  (case side2 => exact HC1.out)
  (case side3 => exact kC HR0)
  (case side4 => exact HC0.out)
  rintro e w' ⟨rfl, ⟨nd, rfl⟩⟩
  refine ⟨_, rfl, ?_⟩
  refine hK.out _ _ (pw_cell_below (hbC w) HKB.out) (fun hHeld => ?_)
  clear hK K
  refine norm_ (a' := ?_) ?_ ?_
  rotate_left
  ·show Act.put _ (some 6) _ = _
   simp only [Act.put, List.setIfInBounds_toArray, List.set_cons_zero, List.set_cons_succ, i64_w, i32_w]
   rfl
  refine pS 3 7 12 15 ?_
  refine pS 4 8 12 31 ?_
  refine uS 5 9 12 63 ?_
  refine uS 6 10 12 127 ?_
  refine uS 7 11 12 255 ?_
  refine uS 8 12 12 511 ?_
  refine uS 9 13 12 1023 ?_
  refine pS 10 14 12 2047 ?_
  refine pS 11 3 12 4095 ?_
  refine done_ (done_of HT_.out (by kernel_rfl)) ?_
  try go_wp2
  go_ret
  exact ⟨by first | rfl | (simp [errW_none, errW_some] <;> rfl) | (simp [*, errW_none, errW_some] <;> rfl), hbC _⟩
 replace c4 := Bool.eq_false_iff.mpr c4
 subst c4
 have H1 : ((shares_padded.f l0).bind fun t371 => ((shares_padded.f l1).bind fun t374 => ((shares_uneven.f k t371 t374).bind fun t377 => (some t377)))) = some r := by rw [if_neg (show ¬ (false = true) by decide)] at H; exact H
 clear H
 have H := H1
 clear H1
 replace H := Option.bind_eq_some_iff.mp H
 obtain ⟨t371, A60, H⟩ := H
 replace H : ((shares_padded.f l1).bind fun t374 => ((shares_uneven.f k t371 t374).bind fun t377 => (some t377))) = some r := H
 have A6 := Aside0.mk A60
 clear A60
 replace H := Option.bind_eq_some_iff.mp H
 obtain ⟨t374, A70, H⟩ := H
 replace H : ((shares_uneven.f k t371 t374).bind fun t377 => (some t377)) = some r := H
 have A7 := Aside0.mk A70
 clear A70
 replace H := Option.bind_eq_some_iff.mp H
 obtain ⟨t377, A80, H⟩ := H
 replace H : (some t377) = some r := H
 have A8 := Aside0.mk A80
 clear A80
 obtain rfl := Option.some.inj H
 go_enter Try.func77, Try.ntmps77
 try go_wp2
 replace HB := ak (below_drew1 HB.out)
 refine sS (n := 12) (S := fun w' => w'.cell? ⟨Bb, 0, none⟩ = some (.slice A1 l1.length c1)) (ds := []) (pw_cell_below HB.out HKB.out) (fun hHeld => ?_); refine with_tabW shares_Below_1.tab1 shares_Below_1.bits1 (fun HT_ HW_ => ?_)
 generalize w.drew = w9 at HB hHeld ⊢
 refine tS 0 4 12 1 ?_
 refine pS 1 5 12 3 ?_
 refine one_ (i := 2) (N := some 6) (ba 12 7) rfl rfl (one_of HT_.out (by kernel_rfl)) (by decide) (fun K hK => ?_)
 refine gC Try.func31 #[.slice A1 l1.length c1, .slice A0 l0.length c0] ?_
 with_reducible refine (slices_Equal_int_int.calls k _ _ l1 _ _ l0 false _ ?side1 ?side2 ?side3 ?side4 A3.out).mono ?_
 (case side1 => exact kC HR1)
 (case side2 => exact HC1.out)
 (case side3 => exact kC HR0)
 (case side4 => exact HC0.out)
 rintro e w' ⟨rfl, ⟨nd, rfl⟩⟩
 refine ⟨_, rfl, ?_⟩
 refine hK.out _ _ (pw_cell_below (hbC w) HKB.out) (fun hHeld => ?_)
 clear hK K
 refine norm_ (a' := ?_) ?_ ?_
 rotate_left
 ·show Act.put _ (some 6) _ = _
  simp only [Act.put, List.setIfInBounds_toArray, List.set_cons_zero, List.set_cons_succ, i64_w, i32_w]
  rfl
 refine pS 3 7 12 15 ?_
 refine pS 4 8 12 31 ?_
 refine pS 5 9 12 63 ?_
 refine tS 7 11 12 191 ?_
 refine one_ (i := 6) (N := some 10) (ba 12 255) rfl rfl (one_of HT_.out (by kernel_rfl)) (by decide) (fun K hK => ?_)
 refine gC Try.func78 #[.slice A0 l0.length c0] ?_
 with_reducible refine (shares_padded.calls _ _ l0 t371 _ ?side1 ?side2 A6.out).mono ?_
 (case side1 => repeat (first | exact (Kd.C_below HR0.out (hbC _)) | (with_reducible refine Kd.C_alloc ?_ _) | (with_reducible refine Kd.C_drewN ?_ _) | (with_reducible refine Kd.C_drew ?_)))
 (case side2 => exact HC0.out)
 rintro e w10 ⟨v372, rfl, ho0, hb⟩
 refine ⟨_, rfl, ?_⟩
 have HO373 := ak (Kd.R_lower ho0 (below_size (hbC _)))
 replace HB := kH _ hb
 (try clear hb)
 (try clear hb2)
 (try clear hk)
 (try clear hi)
 (try clear ho0)
 refine hK.out _ _ (pw_cell_below (hbC w) HKB.out) (fun hHeld => ?_)
 clear hK K
 refine norm_ (a' := ?_) ?_ ?_
 rotate_left
 ·show Act.put _ (some 10) _ = _
  simp only [Act.put, List.setIfInBounds_toArray, List.set_cons_zero, List.set_cons_succ, i64_w, i32_w]
  rfl
 refine one_ (i := 8) (N := some 12) (ba 12 511) rfl rfl (one_of HT_.out (by kernel_rfl)) (by decide) (fun K hK => ?_)
 refine gC Try.func78 #[.slice A1 l1.length c1] ?_
 with_reducible refine (shares_padded.calls _ _ l1 t374 _ ?side1 ?side2 A7.out).mono ?_
 (case side1 => exact kC HR1)
 (case side2 => exact HC1.out)
 rintro e w11 ⟨v375, rfl, ho0, hb⟩
 refine ⟨_, rfl, ?_⟩
 have HO376 := ak (Kd.R_lower (Kd.R_new' ho0 (Kd.R_lt (rC HO373))) (below_size (hbC _)))
 replace HO373 := ak (Kd.R_elder' (rC HO373) (Kd.R_base ho0) hb)
 replace HB := kH _ hb
 (try clear hb)
 (try clear hb2)
 (try clear hk)
 (try clear hi)
 (try clear ho0)
 obtain ⟨Ao12, co12, eo12⟩ := Kd.R_slice HO373.out
 (first | subst eo12 | (injection eo12 with f1_ f2_ f3_; have f4_ := f1_.symm; have f5_ := f3_.symm; clear f1_ f2_ f3_; subst f4_; subst f5_))
 obtain ⟨Ao13, co13, eo13⟩ := Kd.R_slice HO376.out
 (first | subst eo13 | (injection eo13 with f1_ f2_ f3_; have f4_ := f1_.symm; have f5_ := f3_.symm; clear f1_ f2_ f3_; subst f4_; subst f5_))
 refine hK.out _ _ (pw_cell_below (hbC w) HKB.out) (fun hHeld => ?_)
 clear hK K
 refine norm_ (a' := ?_) ?_ ?_
 rotate_left
 ·show Act.put _ (some 12) _ = _
  simp only [Act.put, List.setIfInBounds_toArray, List.set_cons_zero, List.set_cons_succ, i64_w, i32_w]
  rfl
 refine one_ (i := 9) (N := some 13) (ba 12 1023) rfl rfl (one_of HT_.out (by kernel_rfl)) (by decide) (fun K hK => ?_)
 refine gC Try.func60 #[.slice Ao12 t371.length co12, .slice Ao13 t374.length co13] ?_
 with_reducible refine (shares_uneven.calls k _ _ t371 _ _ t374 t377 _ ?side1 ?side2 ?side3 ?side4 A8.out).mono ?_
 (case side1 => exact kD (Kd.R_reads' HO373.out).2.2)
 (case side2 => exact (Kd.R_reads' HO373.out).2.1)
 (case side3 => exact kD (Kd.R_reads' HO376.out).2.2)
 (case side4 => exact (Kd.R_reads' HO376.out).2.1)
 rintro e w14 ⟨rfl, hb⟩
 refine ⟨_, rfl, ?_⟩
 replace HO373 := kO HO373 hb
 replace HO376 := kO HO376 hb
 replace HB := kH _ hb
 (try clear hb)
 (try clear hb2)
 (try clear hk)
 (try clear hi)
 refine hK.out _ _ (pw_cell_below (hbC w) HKB.out) (fun hHeld => ?_)
 clear hK K
 refine norm_ (a' := ?_) ?_ ?_
 rotate_left
 ·show Act.put _ (some 13) _ = _
  simp only [Act.put, List.setIfInBounds_toArray, List.set_cons_zero, List.set_cons_succ, i64_w, i32_w]
  rfl
 refine pS 10 14 12 2047 ?_
 refine pS 11 3 12 4095 ?_
 refine done_ (done_of HT_.out (by kernel_rfl)) ?_
 try go_wp2
 go_ret
 exact ⟨by first | rfl | (simp [errW_none, errW_some] <;> rfl) | (simp [*, errW_none, errW_some] <;> rfl), hbC _⟩

end Go.Proofs.Ytefmafbbnkkpjaa.X
