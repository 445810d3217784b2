-- Written by a program of this work (wip/xprint.py, over the kit's printer) out of the translation.
import Derived.Test.YtefmafbbnkkpjaaX0
import Derived.Test.YtefmafbbnkkpjaaXG1a
import Derived.Test.YtefmafbbnkkpjaaXG2a
import Derived.Test.YtefmafbbnkkpjaaXG4a
import Derived.Test.YtefmafbbnkkpjaaXf21
import Derived.Test.YtefmafbbnkkpjaaE43b
import Derived.Test.YtefmafbbnkkpjaaE55
namespace Go.Proofs.Ytefmafbbnkkpjaa.X
open Go.RowKit Go.Proofs.YtefmafbbnkkpjaaW.PrintWords Go.Proofs.YtefmafbbnkkpjaaW.PrintLast Go.Proofs.YtefmafbbnkkpjaaW.PrintMore
attribute [local go_sem] max2_int min2_int max_two min_two max_three min_three max_four min_four   -- for this text's walks alone
set_option linter.unusedVariables false
set_option linter.unusedSimpArgs false

/-! ### congoulaw01_SharesTurns: function 14 -/
def congoulaw01_SharesTurns.f (k : Nat) (l0 : List Int) : Option (Bool) := (congoulaw01_list.f l0).bind fun t337 => ((shares_Turn.f k t337).bind fun bt340 => ((congoulaw01_list.f l0).bind fun t344 => ((xBelow.f t344).bind fun bt347 => ((congouref01_Parts.f k l0).bind fun t351 => (if t351 = 0 then (if (wrap64 ((bt340.1.length : Int) + (bt347.1.length : Int))) = 0 then (if bt340.2 = 2 then (if bt347.2 = 2 then ((congoulaw01_awake.f k).bind fun t352 => (some t352)) else (some false)) else (some false)) else (some false)) else ((congouref01_Turn.f k l0).bind fun t353 => ((slices_Equal_int_int.f k bt340.1 t353).bind fun t356 => (if t356 = true then ((xRBelow.f l0).bind fun t357 => ((slices_EqualFunc_int_int_int_int_with31.f k bt347.1 t357).bind fun t360 => (if t360 = true then (if bt340.2 = 0 then (if bt347.2 = 0 then ((congoulaw01_awake.f k).bind fun t361 => (some t361)) else (some false)) else (some false)) else (some false)))) else (some false)))))))))
theorem congoulaw01_SharesTurns.mono : ∀ a0 k, LeO (congoulaw01_SharesTurns.f k a0) (congoulaw01_SharesTurns.f (k + 1) a0) := by
 intro a0 k
 unfold congoulaw01_SharesTurns.f
 repeat' first
   | (with_reducible exact congoulaw01_awake.mono _)
   | (with_reducible exact congouref01_Parts.mono _ _)
   | (with_reducible exact congouref01_Turn.mono _ _)
   | (with_reducible exact shares_Turn.mono _ _)
   | (with_reducible exact slices_EqualFunc_int_int_int_int_with31.mono _ _ _)
   | (with_reducible exact slices_Equal_int_int.mono _ _ _)
   | (with_reducible exact LeO.refl _)
   | (with_reducible exact LeO.none _)
   | (with_reducible refine LeO.ite ?_ ?_)
   | (with_reducible refine LeO.bind ?_ (fun _ => ?_))
   | exact congoulaw01_awake.mono _
   | exact congouref01_Parts.mono _ _
   | exact congouref01_Turn.mono _ _
   | exact shares_Turn.mono _ _
   | exact slices_EqualFunc_int_int_int_int_with31.mono _ _ _
   | exact slices_Equal_int_int.mono _ _ _
   | exact LeO.none _
   | refine LeO.ite ?_ ?_
   | refine LeO.bind ?_ (fun _ => ?_)
set_option maxHeartbeats 8000000 in
set_option maxRecDepth 100000 in
theorem congoulaw01_SharesTurns.calls (k : Nat) (A0 : Option Addr) (c0 : Nat) (l0 : List Int) (r : Bool) (w : World) (hr0 : Kd.C (Kd.int .i64) w A0 l0.length l0) (hc0 : l0.length ≤ c0) (hrt : r = true) (h : congoulaw01_SharesTurns.f k l0 = some r) :
  Calls Try.prog 14 #[.slice A0 l0.length c0] w fun e w' => e = .returned (.bool r) ∧ Below w.heap.size w w' := by
 have HR0 := Aside0.mk hr0
 have HC0 := Aside0.mk hc0
 clear hr0 hc0
 have HB := ak (Below.refl w.heap.size w)
 have H : ((congoulaw01_list.f l0).bind fun t337 => ((shares_Turn.f k t337).bind fun bt340 => ((congoulaw01_list.f l0).bind fun t344 => ((xBelow.f t344).bind fun bt347 => ((congouref01_Parts.f k l0).bind fun t351 => (if t351 = 0 then (if (wrap64 ((bt340.1.length : Int) + (bt347.1.length : Int))) = 0 then (if bt340.2 = 2 then (if bt347.2 = 2 then ((congoulaw01_awake.f k).bind fun t352 => (some t352)) else (some false)) else (some false)) else (some false)) else ((congouref01_Turn.f k l0).bind fun t353 => ((slices_Equal_int_int.f k bt340.1 t353).bind fun t356 => (if t356 = true then ((xRBelow.f l0).bind fun t357 => ((slices_EqualFunc_int_int_int_int_with31.f k bt347.1 t357).bind fun t360 => (if t360 = true then (if bt340.2 = 0 then (if bt347.2 = 0 then ((congoulaw01_awake.f k).bind fun t361 => (some t361)) else (some false)) else (some false)) else (some false)))) else (some false)))))))))) = some r := h
 clear h
 have HRT := Aside0.mk hrt
 clear hrt
 replace H := Option.bind_eq_some_iff.mp H
 obtain ⟨t337, A20, H⟩ := H
 replace H : ((shares_Turn.f k t337).bind fun bt340 => ((congoulaw01_list.f l0).bind fun t344 => ((xBelow.f t344).bind fun bt347 => ((congouref01_Parts.f k l0).bind fun t351 => (if t351 = 0 then (if (wrap64 ((bt340.1.length : Int) + (bt347.1.length : Int))) = 0 then (if bt340.2 = 2 then (if bt347.2 = 2 then ((congoulaw01_awake.f k).bind fun t352 => (some t352)) else (some false)) else (some false)) else (some false)) else ((congouref01_Turn.f k l0).bind fun t353 => ((slices_Equal_int_int.f k bt340.1 t353).bind fun t356 => (if t356 = true then ((xRBelow.f l0).bind fun t357 => ((slices_EqualFunc_int_int_int_int_with31.f k bt347.1 t357).bind fun t360 => (if t360 = true then (if bt340.2 = 0 then (if bt347.2 = 0 then ((congoulaw01_awake.f k).bind fun t361 => (some t361)) else (some false)) else (some false)) else (some false)))) else (some false))))))))) = some r := H
 have A2 := Aside0.mk A20
 clear A20
 replace H := Option.bind_eq_some_iff.mp H
 obtain ⟨⟨t340, t343⟩, A30, H⟩ := H
 replace H : ((congoulaw01_list.f l0).bind fun t344 => ((xBelow.f t344).bind fun bt347 => ((congouref01_Parts.f k l0).bind fun t351 => (if t351 = 0 then (if (wrap64 ((t340.length : Int) + (bt347.1.length : Int))) = 0 then (if t343 = 2 then (if bt347.2 = 2 then ((congoulaw01_awake.f k).bind fun t352 => (some t352)) else (some false)) else (some false)) else (some false)) else ((congouref01_Turn.f k l0).bind fun t353 => ((slices_Equal_int_int.f k t340 t353).bind fun t356 => (if t356 = true then ((xRBelow.f l0).bind fun t357 => ((slices_EqualFunc_int_int_int_int_with31.f k bt347.1 t357).bind fun t360 => (if t360 = true then (if t343 = 0 then (if bt347.2 = 0 then ((congoulaw01_awake.f k).bind fun t361 => (some t361)) else (some false)) else (some false)) else (some false)))) else (some false)))))))) = some r := H
 have A3 := Aside0.mk A30
 clear A30
 replace H := Option.bind_eq_some_iff.mp H
 obtain ⟨t344, A40, H⟩ := H
 replace H : ((xBelow.f t344).bind fun bt347 => ((congouref01_Parts.f k l0).bind fun t351 => (if t351 = 0 then (if (wrap64 ((t340.length : Int) + (bt347.1.length : Int))) = 0 then (if t343 = 2 then (if bt347.2 = 2 then ((congoulaw01_awake.f k).bind fun t352 => (some t352)) else (some false)) else (some false)) else (some false)) else ((congouref01_Turn.f k l0).bind fun t353 => ((slices_Equal_int_int.f k t340 t353).bind fun t356 => (if t356 = true then ((xRBelow.f l0).bind fun t357 => ((slices_EqualFunc_int_int_int_int_with31.f k bt347.1 t357).bind fun t360 => (if t360 = true then (if t343 = 0 then (if bt347.2 = 0 then ((congoulaw01_awake.f k).bind fun t361 => (some t361)) else (some false)) else (some false)) else (some false)))) else (some false))))))) = some r := H
 have A4 := Aside0.mk A40
 clear A40
 replace H := Option.bind_eq_some_iff.mp H
 obtain ⟨⟨t347, t348⟩, A50, H⟩ := H
 replace H : ((congouref01_Parts.f k l0).bind fun t351 => (if t351 = 0 then (if (wrap64 ((t340.length : Int) + (t347.length : Int))) = 0 then (if t343 = 2 then (if t348 = 2 then ((congoulaw01_awake.f k).bind fun t352 => (some t352)) else (some false)) else (some false)) else (some false)) else ((congouref01_Turn.f k l0).bind fun t353 => ((slices_Equal_int_int.f k t340 t353).bind fun t356 => (if t356 = true then ((xRBelow.f l0).bind fun t357 => ((slices_EqualFunc_int_int_int_int_with31.f k t347 t357).bind fun t360 => (if t360 = true then (if t343 = 0 then (if t348 = 0 then ((congoulaw01_awake.f k).bind fun t361 => (some t361)) else (some false)) else (some false)) else (some false)))) else (some false)))))) = some r := H
 have A5 := Aside0.mk A50
 clear A50
 replace H := Option.bind_eq_some_iff.mp H
 obtain ⟨t351, A60, H⟩ := H
 replace H : (if t351 = 0 then (if (wrap64 ((t340.length : Int) + (t347.length : Int))) = 0 then (if t343 = 2 then (if t348 = 2 then ((congoulaw01_awake.f k).bind fun t352 => (some t352)) else (some false)) else (some false)) else (some false)) else ((congouref01_Turn.f k l0).bind fun t353 => ((slices_Equal_int_int.f k t340 t353).bind fun t356 => (if t356 = true then ((xRBelow.f l0).bind fun t357 => ((slices_EqualFunc_int_int_int_int_with31.f k t347 t357).bind fun t360 => (if t360 = true then (if t343 = 0 then (if t348 = 0 then ((congoulaw01_awake.f k).bind fun t361 => (some t361)) else (some false)) else (some false)) else (some false)))) else (some false))))) = some r := H
 have A6 := Aside0.mk A60
 clear A60
 by_cases c7 : t351 = 0
 ·rw [if_pos c7] at H
  have c7b0 : (t351 == 0) = true := beq_iff_eq.mpr c7
  have c7b1 : (t351 != 0) = false := bne_eq_false_iff_eq.mpr c7
  clear c7
  by_cases c8 : (wrap64 ((t340.length : Int) + (t347.length : Int))) = 0
  rotate_left
  ·rw [if_neg c8] at H
   have c8b0 : ((wrap64 ((t340.length : Int) + (t347.length : Int))) == 0) = false := beq_eq_false_iff_ne.mpr c8
   have c8b1 : ((wrap64 ((t340.length : Int) + (t347.length : Int))) != 0) = true := bne_iff_ne.mpr c8
   exact absurd (H.trans (congrArg some HRT.out)) (by simp)
  rw [if_pos c8] at H
  have c8b0 : ((wrap64 ((t340.length : Int) + (t347.length : Int))) == 0) = true := beq_iff_eq.mpr c8
  have c8b1 : ((wrap64 ((t340.length : Int) + (t347.length : Int))) != 0) = false := bne_eq_false_iff_eq.mpr c8
  clear c8
  by_cases c9 : t343 = 2
  rotate_left
  ·rw [if_neg c9] at H
   have c9b0 : (t343 == 2) = false := beq_eq_false_iff_ne.mpr c9
   have c9b1 : (t343 != 2) = true := bne_iff_ne.mpr c9
   exact absurd (H.trans (congrArg some HRT.out)) (by simp)
  rw [if_pos c9] at H
  have c9b0 : (t343 == 2) = true := beq_iff_eq.mpr c9
  have c9b1 : (t343 != 2) = false := bne_eq_false_iff_eq.mpr c9
  clear c9
  by_cases c10 : t348 = 2
  rotate_left
  ·rw [if_neg c10] at H
   have c10b0 : (t348 == 2) = false := beq_eq_false_iff_ne.mpr c10
   have c10b1 : (t348 != 2) = true := bne_iff_ne.mpr c10
   exact absurd (H.trans (congrArg some HRT.out)) (by simp)
  rw [if_pos c10] at H
  have c10b0 : (t348 == 2) = true := beq_iff_eq.mpr c10
  have c10b1 : (t348 != 2) = false := bne_eq_false_iff_eq.mpr c10
  clear c10
  replace H := Option.bind_eq_some_iff.mp H
  obtain ⟨t352, A110, H⟩ := H
  replace H : (some t352) = some r := H
  have A11 := Aside0.mk A110
  clear A110
  obtain rfl := Option.some.inj H
  go_enter Try.func14, Try.ntmps14
  go_wp2_with (first | ((with_reducible refine gate_callee (f := 18) rfl ?_); refine gL 9 Try.func18 #[.slice A0 l0.length c0] ?_; (with_reducible refine (congoulaw01_list.calls _ _ l0 t337 _ ?side1 ?side2 A2.out).mono ?_); (case side1 => repeat (first | exact HR0.out | (with_reducible refine Kd.C_alloc ?_ _) | (with_reducible refine Kd.C_drewN ?_ _) | (with_reducible refine Kd.C_drew ?_))); (case side2 => exact HC0.out); rintro e w12 ⟨v338, rfl, ho0, hb⟩; refine ⟨_, rfl, ?_⟩; have HO339 := ak (Kd.R_lower ho0 (below_size (hbC _))); replace HB := kH _ hb; (try clear hb); (try clear hb2); (try clear hk); (try clear hi); (try clear ho0); obtain ⟨Ao13, co13, eo13⟩ := Kd.R_slice HO339.out; subst eo13) | ((with_reducible refine gate_callee (f := 40) rfl ?_); refine gL 10 Try.func40 #[.slice Ao13 t337.length co13] ?_; (with_reducible refine (shares_Turn.calls k (fun k_ => some k_ = (.slice Ao13 t337.length co13 : Value).ownBlock) _ _ t337 t340 t343 _ ?side1 A3.out).mono ?_); (case side1 => exact Kd.R_V (Kd.R_tight rfl (HO339.out))); rintro e w14 ⟨v341, rfl, ho0, hb⟩; refine ⟨_, rfl, ?_⟩; have HO342 := ak (Kd.R_lower (Kd.R_new' (Kd.R_mono (ok' := fun k_ => True) ho0 (fun _ hk_ => trivial)) (Kd.R_lt (rC HO339))) (below_size (hbC _))); replace HO339 := ak (Kd.R_elder' (rC HO339) (Kd.R_base ho0) hb); replace HB := kH _ hb; (try clear hb); (try clear hb2); (try clear hk); (try clear hi); (try clear ho0)) | ((with_reducible refine gate_callee (f := 18) rfl ?_); refine gL 15 Try.func18 #[.slice A0 l0.length c0] ?_; (with_reducible refine (congoulaw01_list.calls _ _ l0 t344 _ ?side1 ?side2 A4.out).mono ?_); (case side1 => exact kC HR0); (case side2 => exact HC0.out); rintro e w15 ⟨v345, rfl, ho0, hb⟩; refine ⟨_, rfl, ?_⟩; have HO346 := ak (Kd.R_lower (Kd.R_new' (Kd.R_new' ho0 (Kd.R_lt (rC HO339))) (Kd.R_lt (rC HO342))) (below_size (hbC _))); replace HO339 := ak (Kd.R_elder' (rC HO339) (Kd.R_base ho0) hb); replace HO342 := ak (Kd.R_elder' (rC HO342) (Kd.R_base ho0) hb); replace HB := kH _ hb; (try clear hb); (try clear hb2); (try clear hk); (try clear hi); (try clear ho0); obtain ⟨Ao16, co16, eo16⟩ := Kd.R_slice HO346.out; subst eo16) | ((with_reducible refine gate_callee (f := 43) rfl ?_); refine gL 16 Try.func43 #[.slice Ao16 t344.length co16] ?_; (with_reducible refine (xBelow.calls _ _ t344 t347 t348 _ ?side1 ?side2 A5.out).mono ?_); (case side1 => exact kD (Kd.R_reads' HO346.out).2.2); (case side2 => exact (Kd.R_reads' HO346.out).2.1); rintro e w17 ⟨v349, rfl, ho0, hb⟩; refine ⟨_, rfl, ?_⟩; have HO350 := ak (Kd.R_lower (Kd.R_new' (Kd.R_new' (Kd.R_new' ho0 (Kd.R_lt (rC HO339))) (Kd.R_lt (rC HO342))) (Kd.R_lt (rC HO346))) (below_size (hbC _))); replace HO339 := kO HO339 hb; replace HO342 := kO HO342 hb; replace HO346 := kO HO346 hb; replace HB := kH _ hb; (try clear hb); (try clear hb2); (try clear hk); (try clear hi); (try clear ho0)) | ((with_reducible refine gate_callee (f := 41) rfl ?_); refine gL 20 Try.func41 #[.slice A0 l0.length c0] ?_; (with_reducible refine (congouref01_Parts.calls k _ _ l0 t351 _ ?side1 ?side2 A6.out).mono ?_); (case side1 => exact kC HR0); (case side2 => exact HC0.out); rintro e w' ⟨rfl, ⟨nd, rfl⟩⟩; refine ⟨_, rfl, ?_⟩; obtain ⟨Ao18, co18, eo18⟩ := Kd.R_slice HO342.out; subst eo18; obtain ⟨Ao19, co19, eo19⟩ := Kd.R_slice HO350.out; subst eo19) | (go_at_call 21; (with_reducible refine (congoulaw01_awake.calls k  t352 _ A11.out).mono ?_); rintro e w20 ⟨rfl, hb⟩; replace HO339 := kO HO339 hb; replace HO342 := kO HO342 hb; replace HO346 := kO HO346 hb; replace HO350 := kO HO350 hb; replace HB := kH _ hb; (try clear hb); (try clear hb2); (try clear hk); (try clear hi)))
  go_ret
  exact ⟨by first | rfl | (simp [errW_none, errW_some] <;> rfl) | (simp [*, errW_none, errW_some] <;> rfl), hbC _⟩
 rw [if_neg c7] at H
 have c7b0 : (t351 == 0) = false := beq_eq_false_iff_ne.mpr c7
 have c7b1 : (t351 != 0) = true := bne_iff_ne.mpr c7
 replace H := Option.bind_eq_some_iff.mp H
 obtain ⟨t353, A210, H⟩ := H
 replace H : ((slices_Equal_int_int.f k t340 t353).bind fun t356 => (if t356 = true then ((xRBelow.f l0).bind fun t357 => ((slices_EqualFunc_int_int_int_int_with31.f k t347 t357).bind fun t360 => (if t360 = true then (if t343 = 0 then (if t348 = 0 then ((congoulaw01_awake.f k).bind fun t361 => (some t361)) else (some false)) else (some false)) else (some false)))) else (some false))) = some r := H
 have A21 := Aside0.mk A210
 clear A210
 replace H := Option.bind_eq_some_iff.mp H
 obtain ⟨t356, A220, H⟩ := H
 replace H : (if t356 = true then ((xRBelow.f l0).bind fun t357 => ((slices_EqualFunc_int_int_int_int_with31.f k t347 t357).bind fun t360 => (if t360 = true then (if t343 = 0 then (if t348 = 0 then ((congoulaw01_awake.f k).bind fun t361 => (some t361)) else (some false)) else (some false)) else (some false)))) else (some false)) = some r := H
 have A22 := Aside0.mk A220
 clear A220
 by_cases c23 : t356 = true
 rotate_left
 ·replace c23 := Bool.eq_false_iff.mpr c23
  subst c23
  have H1 : (some false) = some r := by rw [if_neg (show ¬ (false = true) by decide)] at H; exact H
  clear H
  have H := H1
  clear H1
  exact absurd (H.trans (congrArg some HRT.out)) (by simp)
 subst c23
 have H1 : ((xRBelow.f l0).bind fun t357 => ((slices_EqualFunc_int_int_int_int_with31.f k t347 t357).bind fun t360 => (if t360 = true then (if t343 = 0 then (if t348 = 0 then ((congoulaw01_awake.f k).bind fun t361 => (some t361)) else (some false)) else (some false)) else (some false)))) = some r := by rw [if_pos rfl] at H; exact H
 clear H
 have H := H1
 clear H1
 replace H := Option.bind_eq_some_iff.mp H
 obtain ⟨t357, A240, H⟩ := H
 replace H : ((slices_EqualFunc_int_int_int_int_with31.f k t347 t357).bind fun t360 => (if t360 = true then (if t343 = 0 then (if t348 = 0 then ((congoulaw01_awake.f k).bind fun t361 => (some t361)) else (some false)) else (some false)) else (some false))) = some r := H
 have A24 := Aside0.mk A240
 clear A240
 replace H := Option.bind_eq_some_iff.mp H
 obtain ⟨t360, A250, H⟩ := H
 replace H : (if t360 = true then (if t343 = 0 then (if t348 = 0 then ((congoulaw01_awake.f k).bind fun t361 => (some t361)) else (some false)) else (some false)) else (some false)) = some r := H
 have A25 := Aside0.mk A250
 clear A250
 by_cases c26 : t360 = true
 rotate_left
 ·replace c26 := Bool.eq_false_iff.mpr c26
  subst c26
  have H1 : (some false) = some r := by rw [if_neg (show ¬ (false = true) by decide)] at H; exact H
  clear H
  have H := H1
  clear H1
  exact absurd (H.trans (congrArg some HRT.out)) (by simp)
 subst c26
 have H1 : (if t343 = 0 then (if t348 = 0 then ((congoulaw01_awake.f k).bind fun t361 => (some t361)) else (some false)) else (some false)) = some r := by rw [if_pos rfl] at H; exact H
 clear H
 have H := H1
 clear H1
 by_cases c27 : t343 = 0
 rotate_left
 ·rw [if_neg c27] at H
  have c27b0 : (t343 == 0) = false := beq_eq_false_iff_ne.mpr c27
  have c27b1 : (t343 != 0) = true := bne_iff_ne.mpr c27
  exact absurd (H.trans (congrArg some HRT.out)) (by simp)
 rw [if_pos c27] at H
 have c27b0 : (t343 == 0) = true := beq_iff_eq.mpr c27
 have c27b1 : (t343 != 0) = false := bne_eq_false_iff_eq.mpr c27
 clear c27
 by_cases c28 : t348 = 0
 rotate_left
 ·rw [if_neg c28] at H
  have c28b0 : (t348 == 0) = false := beq_eq_false_iff_ne.mpr c28
  have c28b1 : (t348 != 0) = true := bne_iff_ne.mpr c28
  exact absurd (H.trans (congrArg some HRT.out)) (by simp)
 rw [if_pos c28] at H
 have c28b0 : (t348 == 0) = true := beq_iff_eq.mpr c28
 have c28b1 : (t348 != 0) = false := bne_eq_false_iff_eq.mpr c28
 clear c28
 replace H := Option.bind_eq_some_iff.mp H
 obtain ⟨t361, A290, H⟩ := H
 replace H : (some t361) = some r := H
 have A29 := Aside0.mk A290
 clear A290
 obtain rfl := Option.some.inj H
 go_enter Try.func14, Try.ntmps14
 go_wp2_with (first | ((with_reducible refine gate_callee (f := 18) rfl ?_); refine gL 9 Try.func18 #[.slice A0 l0.length c0] ?_; (with_reducible refine (congoulaw01_list.calls _ _ l0 t337 _ ?side1 ?side2 A2.out).mono ?_); (case side1 => repeat (first | exact HR0.out | (with_reducible refine Kd.C_alloc ?_ _) | (with_reducible refine Kd.C_drewN ?_ _) | (with_reducible refine Kd.C_drew ?_))); (case side2 => exact HC0.out); rintro e w30 ⟨v338, rfl, ho0, hb⟩; refine ⟨_, rfl, ?_⟩; have HO339 := ak (Kd.R_lower ho0 (below_size (hbC _))); replace HB := kH _ hb; (try clear hb); (try clear hb2); (try clear hk); (try clear hi); (try clear ho0); obtain ⟨Ao31, co31, eo31⟩ := Kd.R_slice HO339.out; subst eo31) | ((with_reducible refine gate_callee (f := 40) rfl ?_); refine gL 10 Try.func40 #[.slice Ao31 t337.length co31] ?_; (with_reducible refine (shares_Turn.calls k (fun k_ => some k_ = (.slice Ao31 t337.length co31 : Value).ownBlock) _ _ t337 t340 t343 _ ?side1 A3.out).mono ?_); (case side1 => exact Kd.R_V (Kd.R_tight rfl (HO339.out))); rintro e w32 ⟨v341, rfl, ho0, hb⟩; refine ⟨_, rfl, ?_⟩; have HO342 := ak (Kd.R_lower (Kd.R_new' (Kd.R_mono (ok' := fun k_ => True) ho0 (fun _ hk_ => trivial)) (Kd.R_lt (rC HO339))) (below_size (hbC _))); replace HO339 := ak (Kd.R_elder' (rC HO339) (Kd.R_base ho0) hb); replace HB := kH _ hb; (try clear hb); (try clear hb2); (try clear hk); (try clear hi); (try clear ho0)) | ((with_reducible refine gate_callee (f := 18) rfl ?_); refine gL 15 Try.func18 #[.slice A0 l0.length c0] ?_; (with_reducible refine (congoulaw01_list.calls _ _ l0 t344 _ ?side1 ?side2 A4.out).mono ?_); (case side1 => exact kC HR0); (case side2 => exact HC0.out); rintro e w33 ⟨v345, rfl, ho0, hb⟩; refine ⟨_, rfl, ?_⟩; have HO346 := ak (Kd.R_lower (Kd.R_new' (Kd.R_new' ho0 (Kd.R_lt (rC HO339))) (Kd.R_lt (rC HO342))) (below_size (hbC _))); replace HO339 := ak (Kd.R_elder' (rC HO339) (Kd.R_base ho0) hb); replace HO342 := ak (Kd.R_elder' (rC HO342) (Kd.R_base ho0) hb); replace HB := kH _ hb; (try clear hb); (try clear hb2); (try clear hk); (try clear hi); (try clear ho0); obtain ⟨Ao34, co34, eo34⟩ := Kd.R_slice HO346.out; subst eo34) | ((with_reducible refine gate_callee (f := 43) rfl ?_); refine gL 16 Try.func43 #[.slice Ao34 t344.length co34] ?_; (with_reducible refine (xBelow.calls _ _ t344 t347 t348 _ ?side1 ?side2 A5.out).mono ?_); (case side1 => exact kD (Kd.R_reads' HO346.out).2.2); (case side2 => exact (Kd.R_reads' HO346.out).2.1); rintro e w35 ⟨v349, rfl, ho0, hb⟩; refine ⟨_, rfl, ?_⟩; have HO350 := ak (Kd.R_lower (Kd.R_new' (Kd.R_new' (Kd.R_new' ho0 (Kd.R_lt (rC HO339))) (Kd.R_lt (rC HO342))) (Kd.R_lt (rC HO346))) (below_size (hbC _))); replace HO339 := kO HO339 hb; replace HO342 := kO HO342 hb; replace HO346 := kO HO346 hb; replace HB := kH _ hb; (try clear hb); (try clear hb2); (try clear hk); (try clear hi); (try clear ho0)) | ((with_reducible refine gate_callee (f := 41) rfl ?_); refine gL 20 Try.func41 #[.slice A0 l0.length c0] ?_; (with_reducible refine (congouref01_Parts.calls k _ _ l0 t351 _ ?side1 ?side2 A6.out).mono ?_); (case side1 => exact kC HR0); (case side2 => exact HC0.out); rintro e w' ⟨rfl, ⟨nd, rfl⟩⟩; refine ⟨_, rfl, ?_⟩) | ((with_reducible refine gate_callee (f := 53) rfl ?_); refine gL 41 Try.func53 #[.slice A0 l0.length c0] ?_; (with_reducible refine (congouref01_Turn.calls k _ _ l0 t353 _ ?side1 ?side2 A21.out).mono ?_); (case side1 => repeat (first | exact (Kd.C_below HR0.out (hbC _)) | (with_reducible refine Kd.C_alloc ?_ _) | (with_reducible refine Kd.C_drewN ?_ _) | (with_reducible refine Kd.C_drew ?_))); (case side2 => exact HC0.out); rintro e w36 ⟨v354, rfl, ho0, hb⟩; refine ⟨_, rfl, ?_⟩; replace HO350 := ak (Kd.R_elder' (rC HO350) (Kd.R_base ho0) hb); have HO355 := ak (Kd.R_lower (Kd.R_new' (Kd.R_new' (Kd.R_new' ho0 (Kd.R_lt (rC HO339))) (Kd.R_lt (rC HO342))) (Kd.R_lt (rC HO346))) (below_size (hbC _))); replace HO339 := ak (Kd.R_elder' (rC HO339) (Kd.R_base ho0) hb); replace HO342 := ak (Kd.R_elder' (rC HO342) (Kd.R_base ho0) hb); replace HO346 := ak (Kd.R_elder' (rC HO346) (Kd.R_base ho0) hb); replace HB := kH _ hb; (try clear hb); (try clear hb2); (try clear hk); (try clear hi); (try clear ho0); obtain ⟨Ao37, co37, eo37⟩ := Kd.R_slice HO342.out; subst eo37; obtain ⟨Ao38, co38, eo38⟩ := Kd.R_slice HO355.out; subst eo38) | ((with_reducible refine gate_callee (f := 31) rfl ?_); refine gL 42 Try.func31 #[.slice Ao37 t340.length co37, .slice Ao38 t353.length co38] ?_; (with_reducible refine (slices_Equal_int_int.calls k _ _ t340 _ _ t353 true _ ?side1 ?side2 ?side3 ?side4 A22.out).mono ?_); (case side1 => exact kD (Kd.R_reads' HO342.out).2.2); (case side2 => exact (Kd.R_reads' HO342.out).2.1); (case side3 => exact kD (Kd.R_reads' HO355.out).2.2); (case side4 => exact (Kd.R_reads' HO355.out).2.1); rintro e w' ⟨rfl, ⟨nd, rfl⟩⟩; refine ⟨_, rfl, ?_⟩) | (go_at_call 55; (with_reducible refine (xRBelow.calls _ _ l0 t357 _ ?side1 ?side2 A24.out).mono ?_); (case side1 => repeat (first | exact (Kd.C_below HR0.out (hbC _)) | (with_reducible refine Kd.C_alloc ?_ _) | (with_reducible refine Kd.C_drewN ?_ _) | (with_reducible refine Kd.C_drew ?_))); (case side2 => exact HC0.out); rintro e w39 ⟨v358, rfl, ho0, hb⟩; have HO359 := ak (Kd.R_lower (Kd.R_new' (Kd.R_new' (Kd.R_new' (Kd.R_new' (Kd.R_new' ho0 (Kd.R_lt (rC HO339))) (Kd.R_lt (rC HO342))) (Kd.R_lt (rC HO346))) (Kd.R_lt (rC HO350))) (Kd.R_lt (rC HO355))) (below_size (hbC _))); replace HO339 := kO HO339 hb; replace HO342 := kO HO342 hb; replace HO346 := kO HO346 hb; replace HO350 := ak (Kd.R_elder' (rC HO350) (Kd.R_base ho0) hb); replace HO355 := kO HO355 hb; replace HB := kH _ hb; (try clear hb); (try clear hb2); (try clear hk); (try clear hi); (try clear ho0); obtain ⟨Ao40, co40, eo40⟩ := Kd.R_slice HO350.out; subst eo40; obtain ⟨Ao41, co41, eo41⟩ := Kd.R_slice HO359.out; subst eo41) | (go_at_call 54; (with_reducible refine (slices_EqualFunc_int_int_int_int_with31.calls k _ _ t347 _ _ t357 true _ ?side1 ?side2 ?side3 ?side4 A25.out).mono ?_); (case side1 => exact kD (Kd.R_reads' HO350.out).2.2); (case side2 => exact (Kd.R_reads' HO350.out).2.1); (case side3 => exact kD (Kd.R_reads' HO359.out).2.2); (case side4 => exact (Kd.R_reads' HO359.out).2.1); rintro e w' ⟨rfl, ⟨nd, rfl⟩⟩) | (go_at_call 21; (with_reducible refine (congoulaw01_awake.calls k  t361 _ A29.out).mono ?_); rintro e w42 ⟨rfl, hb⟩; replace HO339 := kO HO339 hb; replace HO342 := kO HO342 hb; replace HO346 := kO HO346 hb; replace HO350 := kO HO350 hb; replace HO355 := kO HO355 hb; replace HO359 := kO HO359 hb; replace HB := kH _ hb; (try clear hb); (try clear hb2); (try clear hk); (try clear hi)))
 go_ret
 exact ⟨by first | rfl | (simp [errW_none, errW_some] <;> rfl) | (simp [*, errW_none, errW_some] <;> rfl), hbC _⟩

/-- THE ONE PURE STATEMENT of congoulaw01_SharesTurns: yours. -/
def congoulaw01_SharesTurns.Pure : Prop := ∀ (l0 : List Int), l0.length ≤ maxLen → l0.length * 8 ≤ 140737488351232 → (∀ x ∈ l0, (Lit.int .i64 x).wf = true) → ∃ k, congoulaw01_SharesTurns.f k l0 = some true
theorem congoulaw01_SharesTurns.walk (P : congoulaw01_SharesTurns.Pure) (a0 : Option Addr) (len0 cap0 : Nat) (z0 : List Int) (w : World) (w0 : (a0 = none ∧ len0 = 0 ∧ cap0 = 0 ∧ z0 = []) ∨ ∃ x, a0 = some x ∧ len0 ≤ cap0 ∧ cap0 ≤ maxLen ∧ z0.length = cap0 ∧ (∀ i, i < z0.length → w.cell? (x.add i) = some (.int .i64 (z0.getD i 0))) ∧ ∀ n ∈ z0, (Lit.int .i64 n).wf = true) (y0 : len0 * 8 ≤ 140737488351232) :
  Calls Try.prog 14 #[.slice a0 len0 cap0] w fun e w' => e = .returned (.bool true) ∧ Below w.heap.size w w' := by
 obtain ⟨l0, rfl, hr0, hm0, hw0, hc0⟩ := ReadsInt.ofRowC w0
 obtain ⟨k, h⟩ := P l0 hm0 y0 hw0
 refine (congoulaw01_SharesTurns.calls k _ _ l0 true w (Kd.C_of_reads (d := (0 : Int)) (h1 := fun _ => rfl) hr0) hc0 rfl h).mono ?_
 rintro e w' ⟨rfl, hd⟩
 exact ⟨rfl, hd⟩

end Go.Proofs.Ytefmafbbnkkpjaa.X
