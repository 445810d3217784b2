-- Written by a program of this work (wip/xprint.py, over the kit's printer) out of the translation.
import Derived.Test.YtkieehjpnjplmaaDoorX0
import Derived.Test.YtkieehjpnjplmaaDoorXf19
import Derived.Test.YtkieehjpnjplmaaDoorE18
import Derived.Test.YtkieehjpnjplmaaDoorEG
namespace Go.Proofs.YtkieehjpnjplmaaDoor.X
open Go.RowKit Go.Proofs.YtkieehjpnjplmaaDoorW.PrintWords Go.Proofs.YtkieehjpnjplmaaDoorW.PrintLast Go.Proofs.YtkieehjpnjplmaaDoorW.PrintMore
attribute [local go_sem] max2_int min2_int max_two min_two max_three min_three max_four min_four   -- for this text's walks alone
set_option linter.unusedVariables false
set_option linter.unusedSimpArgs false

/-! ### squares_Filled: function 8 -/
def squares_Filled.f (k : Nat) (l0_0 : List (List Int)) (l0_1 : List (List Int)) : Option (Int × Int) := (xValid.f k l0_0 l0_1).bind fun t162 => (if t162 = true then ((squares_Filled_1.f k l0_0).bind fun t163 => ((squares_Filled_1.f k l0_1).bind fun t164 => (if t163 = t164 then ((squares_Filled_1.f k l0_0).bind fun t165 => (some (t165, 0))) else (some (0, 4))))) else (some (0, 2)))
theorem squares_Filled.mono : ∀ a0 a1 k, LeO (squares_Filled.f k a0 a1) (squares_Filled.f (k + 1) a0 a1) := by
 intro a0 a1 k
 unfold squares_Filled.f
 repeat' first
   | (with_reducible exact squares_Filled_1.mono _ _)
   | (with_reducible exact xValid.mono _ _ _)
   | (with_reducible exact LeO.refl _)
   | (with_reducible exact LeO.none _)
   | (with_reducible refine LeO.ite ?_ ?_)
   | (with_reducible refine LeO.bind ?_ (fun _ => ?_))
   | exact squares_Filled_1.mono _ _
   | exact xValid.mono _ _ _
   | exact LeO.none _
   | refine LeO.ite ?_ ?_
   | refine LeO.bind ?_ (fun _ => ?_)
def squares_Filled.T4 : Bool × List (List Nat × List Nat) := (true, [([], []), ([], []), ([1], [1]), ([0, 2], [0, 2]), ([], []), ([], []), ([5], [5]), ([4, 6, 3], [4, 6]), ([3, 7], [3, 7])])
def squares_Filled.B4 : List Nat := [0, 0, 2, 7, 0, 0, 32, 127, 255]
theorem squares_Filled.tab4 : rtab .any (opsOf Tryd.f8 4) = squares_Filled.T4 := by kernel_rfl
theorem squares_Filled.bits4 : waitsOk squares_Filled.T4.2 squares_Filled.B4 = true := by kernel_rfl
set_option maxHeartbeats 8000000 in
set_option maxRecDepth 100000 in
theorem squares_Filled.calls (k : Nat) (A0_0 : Option Addr) (c0_0 : Nat) (l0_0 : List (List Int)) (A0_1 : Option Addr) (c0_1 : Nat) (l0_1 : List (List Int)) (r1 : Int) (r2 : Int) (w : World) (hr0_0 : Kd.C (Kd.slice 3 (Kd.int .i64)) w A0_0 l0_0.length l0_0) (hc0_0 : l0_0.length ≤ c0_0) (hr0_1 : Kd.C (Kd.slice 3 (Kd.int .i64)) w A0_1 l0_1.length l0_1) (hc0_1 : l0_1.length ≤ c0_1) (h : squares_Filled.f k l0_0 l0_1 = some (r1, r2)) (hG0 : GL w := by exact GL.to HG.out (hbC _)) :
  Calls Tryd.prog 8 #[.agg #[.slice A0_0 l0_0.length c0_0, .slice A0_1 l0_1.length c0_1]] w fun e w' => e = .returned (.tuple #[.int .i64 r1, .int .i64 r2]) ∧ Below w.heap.size w w' := by
 have HG := Aside0.mk hG0
 clear hG0
 have hu25 := Tryd.underlying25
 have HR0_0 := Aside0.mk hr0_0
 have HC0_0 := Aside0.mk hc0_0
 clear hr0_0 hc0_0
 have HR0_1 := Aside0.mk hr0_1
 have HC0_1 := Aside0.mk hc0_1
 clear hr0_1 hc0_1
 have HB := ak (Below.refl w.heap.size w)
 have H : ((xValid.f k l0_0 l0_1).bind fun t162 => (if t162 = true then ((squares_Filled_1.f k l0_0).bind fun t163 => ((squares_Filled_1.f k l0_1).bind fun t164 => (if t163 = t164 then ((squares_Filled_1.f k l0_0).bind fun t165 => (some (t165, 0))) else (some (0, 4))))) else (some (0, 2)))) = some (r1, r2) := h
 clear h
 replace H := Option.bind_eq_some_iff.mp H
 obtain ⟨t162, A20, H⟩ := H
 replace H : (if t162 = true then ((squares_Filled_1.f k l0_0).bind fun t163 => ((squares_Filled_1.f k l0_1).bind fun t164 => (if t163 = t164 then ((squares_Filled_1.f k l0_0).bind fun t165 => (some (t165, 0))) else (some (0, 4))))) else (some (0, 2))) = some (r1, r2) := H
 have A2 := Aside0.mk A20
 clear A20
 by_cases c3 : t162 = true
 rotate_left
 ·replace c3 := Bool.eq_false_iff.mpr c3
  subst c3
  have H1 : (some (0, 2)) = some (r1, r2) := by rw [if_neg (show ¬ (false = true) by decide)] at H; exact H
  clear H
  have H := H1
  clear H1
  simp only [Option.some.injEq, Prod.mk.injEq] at H
  obtain ⟨rfl, rfl⟩ := H
  go_enter Tryd.func8, Tryd.ntmps8
  go_wp2_with (first | ((with_reducible refine gate_dst (N := 1) rfl ?_); refine bE 1 #[.slice A0_0 l0_0.length c0_0, .slice A0_1 l0_1.length c0_1] 25 ?_; intro gb161 hg w22 hbox hb; have BK161 := ak (hbox); have GW161 := kG w hg; have GE161 := kG w hg; replace HB := kH _ hb; clear hb hbox hg; have hcz23_0 : w22.cell? ⟨gb161, 0, none⟩ = some (.slice A0_0 l0_0.length c0_0) := bc BK161 0; have hcz23_1 : w22.cell? ⟨gb161, 1, none⟩ = some (.slice A0_1 l0_1.length c0_1) := bc BK161 1; have hfz23_0 := fz BK161 0; have hfz23_1 := fz BK161 1) | ((with_reducible refine gate_callee (f := 18) rfl ?_); refine gL 6 Tryd.func18 #[.agg #[.slice A0_0 l0_0.length c0_0, .slice A0_1 l0_1.length c0_1]] ?_; (with_reducible refine (xValid.calls k _ _ l0_0 _ _ l0_1 false _ ?side1 ?side2 ?side3 ?side4 A2.out).mono ?_); (case side1 => exact kC HR0_0); (case side2 => exact HC0_0.out); (case side3 => exact kC HR0_1); (case side4 => exact HC0_1.out); rintro e w24 ⟨rfl, hb⟩; refine ⟨_, rfl, ?_⟩; replace BK161 := kB BK161 hb; replace HB := kH _ hb; (try clear hb); (try clear hb2); (try clear hk); (try clear hi)))
  go_ret2
  exact ⟨by first | rfl | (simp [errW_none, errW_some] <;> rfl) | (simp [*, errW_none, errW_some] <;> rfl), hbC _⟩
 subst c3
 have H1 : ((squares_Filled_1.f k l0_0).bind fun t163 => ((squares_Filled_1.f k l0_1).bind fun t164 => (if t163 = t164 then ((squares_Filled_1.f k l0_0).bind fun t165 => (some (t165, 0))) else (some (0, 4))))) = some (r1, r2) := by rw [if_pos rfl] at H; exact H
 clear H
 have H := H1
 clear H1
 replace H := Option.bind_eq_some_iff.mp H
 obtain ⟨t163, A40, H⟩ := H
 replace H : ((squares_Filled_1.f k l0_1).bind fun t164 => (if t163 = t164 then ((squares_Filled_1.f k l0_0).bind fun t165 => (some (t165, 0))) else (some (0, 4)))) = some (r1, r2) := H
 have A4 := Aside0.mk A40
 clear A40
 replace H := Option.bind_eq_some_iff.mp H
 obtain ⟨t164, A50, H⟩ := H
 replace H : (if t163 = t164 then ((squares_Filled_1.f k l0_0).bind fun t165 => (some (t165, 0))) else (some (0, 4))) = some (r1, r2) := H
 have A5 := Aside0.mk A50
 clear A50
 by_cases c6 : t163 = t164
 rotate_left
 ·rw [if_neg c6] at H
  have c6b0 : (t163 == t164) = false := beq_eq_false_iff_ne.mpr c6
  have c6b1 : (t163 != t164) = true := bne_iff_ne.mpr c6
  simp only [Option.some.injEq, Prod.mk.injEq] at H
  obtain ⟨rfl, rfl⟩ := H
  go_enter Tryd.func8, Tryd.ntmps8
  try go_wp2_with (first | ((with_reducible refine gate_dst (N := 1) rfl ?_); refine bE 1 #[.slice A0_0 l0_0.length c0_0, .slice A0_1 l0_1.length c0_1] 25 ?_; intro gb161 hg w16 hbox hb; have BK161 := ak (hbox); have GW161 := kG w hg; have GE161 := kG w hg; replace HB := kH _ hb; clear hb hbox hg; have hcz17_0 : w16.cell? ⟨gb161, 0, none⟩ = some (.slice A0_0 l0_0.length c0_0) := bc BK161 0; have hcz17_1 : w16.cell? ⟨gb161, 1, none⟩ = some (.slice A0_1 l0_1.length c0_1) := bc BK161 1; have hfz17_0 := fz BK161 0; have hfz17_1 := fz BK161 1) | ((with_reducible refine gate_callee (f := 18) rfl ?_); refine gL 6 Tryd.func18 #[.agg #[.slice A0_0 l0_0.length c0_0, .slice A0_1 l0_1.length c0_1]] ?_; (with_reducible refine (xValid.calls k _ _ l0_0 _ _ l0_1 true _ ?side1 ?side2 ?side3 ?side4 A2.out).mono ?_); (case side1 => exact kC HR0_0); (case side2 => exact HC0_0.out); (case side3 => exact kC HR0_1); (case side4 => exact HC0_1.out); rintro e w18 ⟨rfl, hb⟩; refine ⟨_, rfl, ?_⟩; replace BK161 := kB BK161 hb; replace HB := kH _ hb; (try clear hb); (try clear hb2); (try clear hk); (try clear hi)))
  replace BK161 := kd BK161
  replace HB := ak (below_drew1 HB.out)
  refine sS (n := 9) (S := fun w' => w'.cell? ⟨gb161, 0, none⟩ = some (.slice A0_0 l0_0.length c0_0) ∧ w'.cell? ⟨gb161, 1, none⟩ = some (.slice A0_1 l0_1.length c0_1)) (ds := []) ⟨bc BK161 0, bc BK161 1⟩ (fun hHeld => ?_); refine with_tabW squares_Filled.tab4 squares_Filled.bits4 (fun HT_ HW_ => ?_)
  generalize w18.drew = w19 at BK161 HB hHeld ⊢
  refine pS 0 8 9 1 ?_
  refine pS 1 9 9 3 ?_
  refine pS 4 12 9 19 ?_
  refine pS 5 13 9 51 ?_
  refine tS 2 10 9 55 ?_
  refine tS 6 14 9 119 ?_
  refine one_ (i := 3) (N := some 11) (ba 9 127) rfl rfl (one_of HT_.out (by kernel_rfl)) (by decide) (fun K hK => ?_)
  refine gV (o := .tmp 8) Tryd.func19 #[.slice A0_0 l0_0.length c0_0] ?_
  with_reducible refine (squares_Filled_1.calls k _ _ l0_0 t163 _ ?side1 ?side2 A4.out).mono ?_
  (case side1 => exact kC HR0_0)
  (case side2 => exact HC0_0.out)
  rintro e w20 ⟨rfl, hb⟩
  refine ⟨_, rfl, ?_⟩
  replace BK161 := kB BK161 hb
  replace HB := kH _ hb
  (try clear hb)
  (try clear hb2)
  (try clear hk)
  (try clear hi)
  refine hK.out _ _ ⟨bc BK161 0, bc BK161 1⟩ (fun hHeld => ?_)
  clear hK K
  refine norm_ (a' := ?_) ?_ ?_
  rotate_left
  ·show Act.put _ (some 11) _ = _
   simp only [Act.put, List.setIfInBounds_toArray, List.set_cons_zero, List.set_cons_succ, i64_w, i32_w]
   rfl
  refine one_ (i := 7) (N := some 15) (ba 9 255) rfl rfl (one_of HT_.out (by kernel_rfl)) (by decide) (fun K hK => ?_)
  refine gV (o := .tmp 12) Tryd.func19 #[.slice A0_1 l0_1.length c0_1] ?_
  with_reducible refine (squares_Filled_1.calls k _ _ l0_1 t164 _ ?side1 ?side2 A5.out).mono ?_
  (case side1 => exact kC HR0_1)
  (case side2 => exact HC0_1.out)
  rintro e w21 ⟨rfl, hb⟩
  refine ⟨_, rfl, ?_⟩
  replace BK161 := kB BK161 hb
  replace HB := kH _ hb
  (try clear hb)
  (try clear hb2)
  (try clear hk)
  (try clear hi)
  refine hK.out _ _ ⟨bc BK161 0, bc BK161 1⟩ (fun hHeld => ?_)
  clear hK K
  refine norm_ (a' := ?_) ?_ ?_
  rotate_left
  ·show Act.put _ (some 15) _ = _
   simp only [Act.put, List.setIfInBounds_toArray, List.set_cons_zero, List.set_cons_succ, i64_w, i32_w]
   rfl
  refine pS 8 16 9 511 ?_
  refine done_ (done_of HT_.out (by kernel_rfl)) ?_
  try go_wp2
  go_ret2
  exact ⟨by first | rfl | (simp [errW_none, errW_some] <;> rfl) | (simp [*, errW_none, errW_some] <;> rfl), hbC _⟩
 rw [if_pos c6] at H
 have c6b0 : (t163 == t164) = true := beq_iff_eq.mpr c6
 have c6b1 : (t163 != t164) = false := bne_eq_false_iff_eq.mpr c6
 clear c6
 replace H := Option.bind_eq_some_iff.mp H
 obtain ⟨t165, A70, H⟩ := H
 replace H : (some (t165, 0)) = some (r1, r2) := H
 have A7 := Aside0.mk A70
 clear A70
 simp only [Option.some.injEq, Prod.mk.injEq] at H
 obtain ⟨rfl, rfl⟩ := H
 go_enter Tryd.func8, Tryd.ntmps8
 try go_wp2_with (first | ((with_reducible refine gate_dst (N := 1) rfl ?_); refine bE 1 #[.slice A0_0 l0_0.length c0_0, .slice A0_1 l0_1.length c0_1] 25 ?_; intro gb161 hg w8 hbox hb; have BK161 := ak (hbox); have GW161 := kG w hg; have GE161 := kG w hg; replace HB := kH _ hb; clear hb hbox hg; have hcz9_0 : w8.cell? ⟨gb161, 0, none⟩ = some (.slice A0_0 l0_0.length c0_0) := bc BK161 0; have hcz9_1 : w8.cell? ⟨gb161, 1, none⟩ = some (.slice A0_1 l0_1.length c0_1) := bc BK161 1; have hfz9_0 := fz BK161 0; have hfz9_1 := fz BK161 1) | ((with_reducible refine gate_callee (f := 18) rfl ?_); refine gL 6 Tryd.func18 #[.agg #[.slice A0_0 l0_0.length c0_0, .slice A0_1 l0_1.length c0_1]] ?_; (with_reducible refine (xValid.calls k _ _ l0_0 _ _ l0_1 true _ ?side1 ?side2 ?side3 ?side4 A2.out).mono ?_); (case side1 => exact kC HR0_0); (case side2 => exact HC0_0.out); (case side3 => exact kC HR0_1); (case side4 => exact HC0_1.out); rintro e w10 ⟨rfl, hb⟩; refine ⟨_, rfl, ?_⟩; replace BK161 := kB BK161 hb; replace HB := kH _ hb; (try clear hb); (try clear hb2); (try clear hk); (try clear hi)))
 replace BK161 := kd BK161
 replace HB := ak (below_drew1 HB.out)
 refine sS (n := 9) (S := fun w' => w'.cell? ⟨gb161, 0, none⟩ = some (.slice A0_0 l0_0.length c0_0) ∧ w'.cell? ⟨gb161, 1, none⟩ = some (.slice A0_1 l0_1.length c0_1)) (ds := []) ⟨bc BK161 0, bc BK161 1⟩ (fun hHeld => ?_); refine with_tabW squares_Filled.tab4 squares_Filled.bits4 (fun HT_ HW_ => ?_)
 generalize w10.drew = w11 at BK161 HB hHeld ⊢
 refine pS 0 8 9 1 ?_
 refine pS 1 9 9 3 ?_
 refine pS 4 12 9 19 ?_
 refine pS 5 13 9 51 ?_
 refine tS 2 10 9 55 ?_
 refine tS 6 14 9 119 ?_
 refine one_ (i := 3) (N := some 11) (ba 9 127) rfl rfl (one_of HT_.out (by kernel_rfl)) (by decide) (fun K hK => ?_)
 refine gV (o := .tmp 8) Tryd.func19 #[.slice A0_0 l0_0.length c0_0] ?_
 with_reducible refine (squares_Filled_1.calls k _ _ l0_0 t163 _ ?side1 ?side2 A4.out).mono ?_
 (case side1 => exact kC HR0_0)
 (case side2 => exact HC0_0.out)
 rintro e w12 ⟨rfl, hb⟩
 refine ⟨_, rfl, ?_⟩
 replace BK161 := kB BK161 hb
 replace HB := kH _ hb
 (try clear hb)
 (try clear hb2)
 (try clear hk)
 (try clear hi)
 refine hK.out _ _ ⟨bc BK161 0, bc BK161 1⟩ (fun hHeld => ?_)
 clear hK K
 refine norm_ (a' := ?_) ?_ ?_
 rotate_left
 ·show Act.put _ (some 11) _ = _
  simp only [Act.put, List.setIfInBounds_toArray, List.set_cons_zero, List.set_cons_succ, i64_w, i32_w]
  rfl
 refine one_ (i := 7) (N := some 15) (ba 9 255) rfl rfl (one_of HT_.out (by kernel_rfl)) (by decide) (fun K hK => ?_)
 refine gV (o := .tmp 12) Tryd.func19 #[.slice A0_1 l0_1.length c0_1] ?_
 with_reducible refine (squares_Filled_1.calls k _ _ l0_1 t164 _ ?side1 ?side2 A5.out).mono ?_
 (case side1 => exact kC HR0_1)
 (case side2 => exact HC0_1.out)
 rintro e w13 ⟨rfl, hb⟩
 refine ⟨_, rfl, ?_⟩
 replace BK161 := kB BK161 hb
 replace HB := kH _ hb
 (try clear hb)
 (try clear hb2)
 (try clear hk)
 (try clear hi)
 refine hK.out _ _ ⟨bc BK161 0, bc BK161 1⟩ (fun hHeld => ?_)
 clear hK K
 refine norm_ (a' := ?_) ?_ ?_
 rotate_left
 ·show Act.put _ (some 15) _ = _
  simp only [Act.put, List.setIfInBounds_toArray, List.set_cons_zero, List.set_cons_succ, i64_w, i32_w]
  rfl
 refine pS 8 16 9 511 ?_
 refine done_ (done_of HT_.out (by kernel_rfl)) ?_
 have hcz14_0 : w13.cell? ⟨gb161, 0, none⟩ = some (.slice A0_0 l0_0.length c0_0) := bc BK161 0
 have hcz14_1 : w13.cell? ⟨gb161, 1, none⟩ = some (.slice A0_1 l0_1.length c0_1) := bc BK161 1
 have hfz14_0 := fz BK161 0
 have hfz14_1 := fz BK161 1
 try go_wp2_with (first | (go_at_call 19; (with_reducible refine (squares_Filled_1.calls k _ _ l0_0 t165 _ ?side1 ?side2 A7.out).mono ?_); (case side1 => exact kC HR0_0); (case side2 => exact HC0_0.out); rintro e w15 ⟨rfl, hb⟩; replace BK161 := kB BK161 hb; replace HB := kH _ hb; (try clear hb); (try clear hb2); (try clear hk); (try clear hi)))
 go_ret2
 exact ⟨by first | rfl | (simp [errW_none, errW_some] <;> rfl) | (simp [*, errW_none, errW_some] <;> rfl), hbC _⟩

end Go.Proofs.YtkieehjpnjplmaaDoor.X
