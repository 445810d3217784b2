-- Written by a program of this work (wip/xprint.py, over the kit's printer) out of the translation.
import Derived.Test.YtefmafbbnkkpjaaX0
import Derived.Test.YtefmafbbnkkpjaaXG1a
import Derived.Test.YtefmafbbnkkpjaaXG2a
import Derived.Test.YtefmafbbnkkpjaaXG3a
import Derived.Test.YtefmafbbnkkpjaaXG4a
import Derived.Test.YtefmafbbnkkpjaaXf21
import Derived.Test.YtefmafbbnkkpjaaXf29
import Derived.Test.YtefmafbbnkkpjaaXf32
import Derived.Test.YtefmafbbnkkpjaaXf33
namespace Go.Proofs.Ytefmafbbnkkpjaa.X
open Go.RowKit Go.Proofs.YtefmafbbnkkpjaaW.PrintWords Go.Proofs.YtefmafbbnkkpjaaW.PrintLast Go.Proofs.YtefmafbbnkkpjaaW.PrintMore
attribute [local go_sem] max2_int min2_int max_two min_two max_three min_three max_four min_four   -- for this text's walks alone
set_option linter.unusedVariables false
set_option linter.unusedSimpArgs false

/-! ### congoulaw01_SharesMeets: function 6 -/
def congoulaw01_SharesMeets.f (k : Nat) (l0 : List Int) (l1 : List Int) : Option (Bool) := (congoulaw01_list.f l0).bind fun t610 => ((congoulaw01_list.f l1).bind fun t613 => ((shares_Meet.f k t610 t613).bind fun bt616 => ((congoulaw01_list.f l0).bind fun t620 => ((congoulaw01_list.f l1).bind fun t623 => ((shares_Join.f k t620 t623).bind fun bt626 => ((congoulaw01_parts.f k l0 l1).bind fun t630 => (if t630 = true then ((congouref01_Meet.f k l0 l1).bind fun t632 => ((slices_Equal_int_int.f k bt616.1 t632).bind fun t635 => (if t635 = true then ((congouref01_Join.f k l0 l1).bind fun t636 => ((slices_Equal_int_int.f k bt626.1 t636).bind fun t639 => (if t639 = true then (if bt616.2 = 0 then (if bt626.2 = 0 then ((congoulaw01_awake.f k).bind fun t640 => (some t640)) else (some false)) else (some false)) else (some false)))) else (some false)))) else (if (wrap64 ((bt616.1.length : Int) + (bt626.1.length : Int))) = 0 then (if bt616.2 = 2 then (if bt626.2 = 2 then ((congoulaw01_awake.f k).bind fun t631 => (some t631)) else (some false)) else (some false)) else (some false)))))))))
theorem congoulaw01_SharesMeets.mono : ∀ a0 a1 k, LeO (congoulaw01_SharesMeets.f k a0 a1) (congoulaw01_SharesMeets.f (k + 1) a0 a1) := by
 intro a0 a1 k
 unfold congoulaw01_SharesMeets.f
 repeat' first
   | (with_reducible exact congoulaw01_awake.mono _)
   | (with_reducible exact congoulaw01_parts.mono _ _ _)
   | (with_reducible exact congouref01_Join.mono _ _ _)
   | (with_reducible exact congouref01_Meet.mono _ _ _)
   | (with_reducible exact shares_Join.mono _ _ _)
   | (with_reducible exact shares_Meet.mono _ _ _)
   | (with_reducible exact slices_Equal_int_int.mono _ _ _)
   | (with_reducible exact LeO.refl _)
   | (with_reducible exact LeO.none _)
   | (with_reducible refine LeO.ite ?_ ?_)
   | (with_reducible refine LeO.bind ?_ (fun _ => ?_))
   | exact congoulaw01_awake.mono _
   | exact congoulaw01_parts.mono _ _ _
   | exact congouref01_Join.mono _ _ _
   | exact congouref01_Meet.mono _ _ _
   | exact shares_Join.mono _ _ _
   | exact shares_Meet.mono _ _ _
   | exact slices_Equal_int_int.mono _ _ _
   | exact LeO.none _
   | refine LeO.ite ?_ ?_
   | refine LeO.bind ?_ (fun _ => ?_)
set_option maxHeartbeats 8000000 in
set_option maxRecDepth 100000 in
theorem congoulaw01_SharesMeets.calls (k : Nat) (A0 : Option Addr) (c0 : Nat) (l0 : List Int) (A1 : Option Addr) (c1 : Nat) (l1 : List Int) (r : Bool) (w : World) (hr0 : Kd.C (Kd.int .i64) w A0 l0.length l0) (hc0 : l0.length ≤ c0) (hr1 : Kd.C (Kd.int .i64) w A1 l1.length l1) (hc1 : l1.length ≤ c1) (hrt : r = true) (h : congoulaw01_SharesMeets.f k l0 l1 = some r) :
  Calls Try.prog 6 #[.slice A0 l0.length c0, .slice A1 l1.length c1] w fun e w' => e = .returned (.bool r) ∧ Below w.heap.size w w' := by
 have HR0 := Aside0.mk hr0
 have HC0 := Aside0.mk hc0
 clear hr0 hc0
 have HR1 := Aside0.mk hr1
 have HC1 := Aside0.mk hc1
 clear hr1 hc1
 have HB := ak (Below.refl w.heap.size w)
 have H : ((congoulaw01_list.f l0).bind fun t610 => ((congoulaw01_list.f l1).bind fun t613 => ((shares_Meet.f k t610 t613).bind fun bt616 => ((congoulaw01_list.f l0).bind fun t620 => ((congoulaw01_list.f l1).bind fun t623 => ((shares_Join.f k t620 t623).bind fun bt626 => ((congoulaw01_parts.f k l0 l1).bind fun t630 => (if t630 = true then ((congouref01_Meet.f k l0 l1).bind fun t632 => ((slices_Equal_int_int.f k bt616.1 t632).bind fun t635 => (if t635 = true then ((congouref01_Join.f k l0 l1).bind fun t636 => ((slices_Equal_int_int.f k bt626.1 t636).bind fun t639 => (if t639 = true then (if bt616.2 = 0 then (if bt626.2 = 0 then ((congoulaw01_awake.f k).bind fun t640 => (some t640)) else (some false)) else (some false)) else (some false)))) else (some false)))) else (if (wrap64 ((bt616.1.length : Int) + (bt626.1.length : Int))) = 0 then (if bt616.2 = 2 then (if bt626.2 = 2 then ((congoulaw01_awake.f k).bind fun t631 => (some t631)) else (some false)) else (some false)) else (some false)))))))))) = some r := h
 clear h
 have HRT := Aside0.mk hrt
 clear hrt
 replace H := Option.bind_eq_some_iff.mp H
 obtain ⟨t610, A30, H⟩ := H
 replace H : ((congoulaw01_list.f l1).bind fun t613 => ((shares_Meet.f k t610 t613).bind fun bt616 => ((congoulaw01_list.f l0).bind fun t620 => ((congoulaw01_list.f l1).bind fun t623 => ((shares_Join.f k t620 t623).bind fun bt626 => ((congoulaw01_parts.f k l0 l1).bind fun t630 => (if t630 = true then ((congouref01_Meet.f k l0 l1).bind fun t632 => ((slices_Equal_int_int.f k bt616.1 t632).bind fun t635 => (if t635 = true then ((congouref01_Join.f k l0 l1).bind fun t636 => ((slices_Equal_int_int.f k bt626.1 t636).bind fun t639 => (if t639 = true then (if bt616.2 = 0 then (if bt626.2 = 0 then ((congoulaw01_awake.f k).bind fun t640 => (some t640)) else (some false)) else (some false)) else (some false)))) else (some false)))) else (if (wrap64 ((bt616.1.length : Int) + (bt626.1.length : Int))) = 0 then (if bt616.2 = 2 then (if bt626.2 = 2 then ((congoulaw01_awake.f k).bind fun t631 => (some t631)) else (some false)) else (some false)) else (some false))))))))) = some r := H
 have A3 := Aside0.mk A30
 clear A30
 replace H := Option.bind_eq_some_iff.mp H
 obtain ⟨t613, A40, H⟩ := H
 replace H : ((shares_Meet.f k t610 t613).bind fun bt616 => ((congoulaw01_list.f l0).bind fun t620 => ((congoulaw01_list.f l1).bind fun t623 => ((shares_Join.f k t620 t623).bind fun bt626 => ((congoulaw01_parts.f k l0 l1).bind fun t630 => (if t630 = true then ((congouref01_Meet.f k l0 l1).bind fun t632 => ((slices_Equal_int_int.f k bt616.1 t632).bind fun t635 => (if t635 = true then ((congouref01_Join.f k l0 l1).bind fun t636 => ((slices_Equal_int_int.f k bt626.1 t636).bind fun t639 => (if t639 = true then (if bt616.2 = 0 then (if bt626.2 = 0 then ((congoulaw01_awake.f k).bind fun t640 => (some t640)) else (some false)) else (some false)) else (some false)))) else (some false)))) else (if (wrap64 ((bt616.1.length : Int) + (bt626.1.length : Int))) = 0 then (if bt616.2 = 2 then (if bt626.2 = 2 then ((congoulaw01_awake.f k).bind fun t631 => (some t631)) else (some false)) else (some false)) else (some false)))))))) = some r := H
 have A4 := Aside0.mk A40
 clear A40
 replace H := Option.bind_eq_some_iff.mp H
 obtain ⟨⟨t616, t619⟩, A50, H⟩ := H
 replace H : ((congoulaw01_list.f l0).bind fun t620 => ((congoulaw01_list.f l1).bind fun t623 => ((shares_Join.f k t620 t623).bind fun bt626 => ((congoulaw01_parts.f k l0 l1).bind fun t630 => (if t630 = true then ((congouref01_Meet.f k l0 l1).bind fun t632 => ((slices_Equal_int_int.f k t616 t632).bind fun t635 => (if t635 = true then ((congouref01_Join.f k l0 l1).bind fun t636 => ((slices_Equal_int_int.f k bt626.1 t636).bind fun t639 => (if t639 = true then (if t619 = 0 then (if bt626.2 = 0 then ((congoulaw01_awake.f k).bind fun t640 => (some t640)) else (some false)) else (some false)) else (some false)))) else (some false)))) else (if (wrap64 ((t616.length : Int) + (bt626.1.length : Int))) = 0 then (if t619 = 2 then (if bt626.2 = 2 then ((congoulaw01_awake.f k).bind fun t631 => (some t631)) else (some false)) else (some false)) else (some false))))))) = some r := H
 have A5 := Aside0.mk A50
 clear A50
 replace H := Option.bind_eq_some_iff.mp H
 obtain ⟨t620, A60, H⟩ := H
 replace H : ((congoulaw01_list.f l1).bind fun t623 => ((shares_Join.f k t620 t623).bind fun bt626 => ((congoulaw01_parts.f k l0 l1).bind fun t630 => (if t630 = true then ((congouref01_Meet.f k l0 l1).bind fun t632 => ((slices_Equal_int_int.f k t616 t632).bind fun t635 => (if t635 = true then ((congouref01_Join.f k l0 l1).bind fun t636 => ((slices_Equal_int_int.f k bt626.1 t636).bind fun t639 => (if t639 = true then (if t619 = 0 then (if bt626.2 = 0 then ((congoulaw01_awake.f k).bind fun t640 => (some t640)) else (some false)) else (some false)) else (some false)))) else (some false)))) else (if (wrap64 ((t616.length : Int) + (bt626.1.length : Int))) = 0 then (if t619 = 2 then (if bt626.2 = 2 then ((congoulaw01_awake.f k).bind fun t631 => (some t631)) else (some false)) else (some false)) else (some false)))))) = some r := H
 have A6 := Aside0.mk A60
 clear A60
 replace H := Option.bind_eq_some_iff.mp H
 obtain ⟨t623, A70, H⟩ := H
 replace H : ((shares_Join.f k t620 t623).bind fun bt626 => ((congoulaw01_parts.f k l0 l1).bind fun t630 => (if t630 = true then ((congouref01_Meet.f k l0 l1).bind fun t632 => ((slices_Equal_int_int.f k t616 t632).bind fun t635 => (if t635 = true then ((congouref01_Join.f k l0 l1).bind fun t636 => ((slices_Equal_int_int.f k bt626.1 t636).bind fun t639 => (if t639 = true then (if t619 = 0 then (if bt626.2 = 0 then ((congoulaw01_awake.f k).bind fun t640 => (some t640)) else (some false)) else (some false)) else (some false)))) else (some false)))) else (if (wrap64 ((t616.length : Int) + (bt626.1.length : Int))) = 0 then (if t619 = 2 then (if bt626.2 = 2 then ((congoulaw01_awake.f k).bind fun t631 => (some t631)) else (some false)) else (some false)) else (some false))))) = some r := H
 have A7 := Aside0.mk A70
 clear A70
 replace H := Option.bind_eq_some_iff.mp H
 obtain ⟨⟨t626, t629⟩, A80, H⟩ := H
 replace H : ((congoulaw01_parts.f k l0 l1).bind fun t630 => (if t630 = true then ((congouref01_Meet.f k l0 l1).bind fun t632 => ((slices_Equal_int_int.f k t616 t632).bind fun t635 => (if t635 = true then ((congouref01_Join.f k l0 l1).bind fun t636 => ((slices_Equal_int_int.f k t626 t636).bind fun t639 => (if t639 = true then (if t619 = 0 then (if t629 = 0 then ((congoulaw01_awake.f k).bind fun t640 => (some t640)) else (some false)) else (some false)) else (some false)))) else (some false)))) else (if (wrap64 ((t616.length : Int) + (t626.length : Int))) = 0 then (if t619 = 2 then (if t629 = 2 then ((congoulaw01_awake.f k).bind fun t631 => (some t631)) else (some false)) else (some false)) else (some false)))) = some r := H
 have A8 := Aside0.mk A80
 clear A80
 replace H := Option.bind_eq_some_iff.mp H
 obtain ⟨t630, A90, H⟩ := H
 replace H : (if t630 = true then ((congouref01_Meet.f k l0 l1).bind fun t632 => ((slices_Equal_int_int.f k t616 t632).bind fun t635 => (if t635 = true then ((congouref01_Join.f k l0 l1).bind fun t636 => ((slices_Equal_int_int.f k t626 t636).bind fun t639 => (if t639 = true then (if t619 = 0 then (if t629 = 0 then ((congoulaw01_awake.f k).bind fun t640 => (some t640)) else (some false)) else (some false)) else (some false)))) else (some false)))) else (if (wrap64 ((t616.length : Int) + (t626.length : Int))) = 0 then (if t619 = 2 then (if t629 = 2 then ((congoulaw01_awake.f k).bind fun t631 => (some t631)) else (some false)) else (some false)) else (some false))) = some r := H
 have A9 := Aside0.mk A90
 clear A90
 by_cases c10 : t630 = true
 rotate_left
 ·replace c10 := Bool.eq_false_iff.mpr c10
  subst c10
  have H1 : (if (wrap64 ((t616.length : Int) + (t626.length : Int))) = 0 then (if t619 = 2 then (if t629 = 2 then ((congoulaw01_awake.f k).bind fun t631 => (some t631)) else (some false)) else (some false)) else (some false)) = some r := by rw [if_neg (show ¬ (false = true) by decide)] at H; exact H
  clear H
  have H := H1
  clear H1
  by_cases c37 : (wrap64 ((t616.length : Int) + (t626.length : Int))) = 0
  rotate_left
  ·rw [if_neg c37] at H
   have c37b0 : ((wrap64 ((t616.length : Int) + (t626.length : Int))) == 0) = false := beq_eq_false_iff_ne.mpr c37
   have c37b1 : ((wrap64 ((t616.length : Int) + (t626.length : Int))) != 0) = true := bne_iff_ne.mpr c37
   exact absurd (H.trans (congrArg some HRT.out)) (by simp)
  rw [if_pos c37] at H
  have c37b0 : ((wrap64 ((t616.length : Int) + (t626.length : Int))) == 0) = true := beq_iff_eq.mpr c37
  have c37b1 : ((wrap64 ((t616.length : Int) + (t626.length : Int))) != 0) = false := bne_eq_false_iff_eq.mpr c37
  clear c37
  by_cases c38 : t619 = 2
  rotate_left
  ·rw [if_neg c38] at H
   have c38b0 : (t619 == 2) = false := beq_eq_false_iff_ne.mpr c38
   have c38b1 : (t619 != 2) = true := bne_iff_ne.mpr c38
   exact absurd (H.trans (congrArg some HRT.out)) (by simp)
  rw [if_pos c38] at H
  have c38b0 : (t619 == 2) = true := beq_iff_eq.mpr c38
  have c38b1 : (t619 != 2) = false := bne_eq_false_iff_eq.mpr c38
  clear c38
  by_cases c39 : t629 = 2
  rotate_left
  ·rw [if_neg c39] at H
   have c39b0 : (t629 == 2) = false := beq_eq_false_iff_ne.mpr c39
   have c39b1 : (t629 != 2) = true := bne_iff_ne.mpr c39
   exact absurd (H.trans (congrArg some HRT.out)) (by simp)
  rw [if_pos c39] at H
  have c39b0 : (t629 == 2) = true := beq_iff_eq.mpr c39
  have c39b1 : (t629 != 2) = false := bne_eq_false_iff_eq.mpr c39
  clear c39
  replace H := Option.bind_eq_some_iff.mp H
  obtain ⟨t631, A400, H⟩ := H
  replace H : (some t631) = some r := H
  have A40 := Aside0.mk A400
  clear A400
  obtain rfl := Option.some.inj H
  go_enter Try.func6, Try.ntmps6
  go_wp2_with (first | ((with_reducible refine gate_callee (f := 18) rfl ?_); refine gL 11 Try.func18 #[.slice A0 l0.length c0] ?_; (with_reducible refine (congoulaw01_list.calls _ _ l0 t610 _ ?side1 ?side2 A3.out).mono ?_); (case side1 => repeat (first | exact HR0.out | (with_reducible refine Kd.C_alloc ?_ _) | (with_reducible refine Kd.C_drewN ?_ _) | (with_reducible refine Kd.C_drew ?_))); (case side2 => exact HC0.out); rintro e w41 ⟨v611, rfl, ho0, hb⟩; refine ⟨_, rfl, ?_⟩; have HO612 := ak (Kd.R_lower ho0 (below_size (hbC _))); replace HB := kH _ hb; (try clear hb); (try clear hb2); (try clear hk); (try clear hi); (try clear ho0)) | ((with_reducible refine gate_callee (f := 18) rfl ?_); refine gL 13 Try.func18 #[.slice A1 l1.length c1] ?_; (with_reducible refine (congoulaw01_list.calls _ _ l1 t613 _ ?side1 ?side2 A4.out).mono ?_); (case side1 => exact kC HR1); (case side2 => exact HC1.out); rintro e w42 ⟨v614, rfl, ho0, hb⟩; refine ⟨_, rfl, ?_⟩; have HO615 := ak (Kd.R_lower (Kd.R_new' ho0 (Kd.R_lt (rC HO612))) (below_size (hbC _))); replace HO612 := ak (Kd.R_elder' (rC HO612) (Kd.R_base ho0) hb); replace HB := kH _ hb; (try clear hb); (try clear hb2); (try clear hk); (try clear hi); (try clear ho0); obtain ⟨Ao43, co43, eo43⟩ := Kd.R_slice HO612.out; subst eo43; obtain ⟨Ao44, co44, eo44⟩ := Kd.R_slice HO615.out; subst eo44) | ((with_reducible refine gate_callee (f := 28) rfl ?_); refine gL 14 Try.func28 #[.slice Ao43 t610.length co43, .slice Ao44 t613.length co44] ?_; (with_reducible refine (shares_Meet.calls k (fun k_ => some k_ = (.slice Ao43 t610.length co43 : Value).ownBlock) _ _ t610 (fun k_ => some k_ = (.slice Ao44 t613.length co44 : Value).ownBlock) _ _ t613 t616 t619 _ ?side1 ?side2 A5.out).mono ?_); (case side1 => exact Kd.R_V (Kd.R_tight rfl (HO612.out))); (case side2 => exact Kd.R_V (Kd.R_tight rfl (HO615.out))); rintro e w45 ⟨v617, rfl, ho0, hb⟩; refine ⟨_, rfl, ?_⟩; have HO618 := ak (Kd.R_lower (Kd.R_new' (Kd.R_new' (Kd.R_mono (ok' := fun k_ => True) ho0 (fun _ hk_ => trivial)) (Kd.R_lt (rC HO612))) (Kd.R_lt (rC HO615))) (below_size (hbC _))); replace HO612 := ak (Kd.R_elder' (rC HO612) (Kd.R_base ho0) hb); replace HO615 := ak (Kd.R_elder' (rC HO615) (Kd.R_base ho0) hb); replace HB := kH _ hb; (try clear hb); (try clear hb2); (try clear hk); (try clear hi); (try clear ho0)) | ((with_reducible refine gate_callee (f := 18) rfl ?_); refine gL 19 Try.func18 #[.slice A0 l0.length c0] ?_; (with_reducible refine (congoulaw01_list.calls _ _ l0 t620 _ ?side1 ?side2 A6.out).mono ?_); (case side1 => exact kC HR0); (case side2 => exact HC0.out); rintro e w46 ⟨v621, rfl, ho0, hb⟩; refine ⟨_, rfl, ?_⟩; have HO622 := ak (Kd.R_lower (Kd.R_new' (Kd.R_new' (Kd.R_new' ho0 (Kd.R_lt (rC HO612))) (Kd.R_lt (rC HO615))) (Kd.R_lt (rC HO618))) (below_size (hbC _))); replace HO612 := ak (Kd.R_elder' (rC HO612) (Kd.R_base ho0) hb); replace HO615 := ak (Kd.R_elder' (rC HO615) (Kd.R_base ho0) hb); replace HO618 := ak (Kd.R_elder' (rC HO618) (Kd.R_base ho0) hb); replace HB := kH _ hb; (try clear hb); (try clear hb2); (try clear hk); (try clear hi); (try clear ho0)) | ((with_reducible refine gate_callee (f := 18) rfl ?_); refine gL 21 Try.func18 #[.slice A1 l1.length c1] ?_; (with_reducible refine (congoulaw01_list.calls _ _ l1 t623 _ ?side1 ?side2 A7.out).mono ?_); (case side1 => exact kC HR1); (case side2 => exact HC1.out); rintro e w47 ⟨v624, rfl, ho0, hb⟩; refine ⟨_, rfl, ?_⟩; have HO625 := ak (Kd.R_lower (Kd.R_new' (Kd.R_new' (Kd.R_new' (Kd.R_new' ho0 (Kd.R_lt (rC HO612))) (Kd.R_lt (rC HO615))) (Kd.R_lt (rC HO618))) (Kd.R_lt (rC HO622))) (below_size (hbC _))); replace HO612 := ak (Kd.R_elder' (rC HO612) (Kd.R_base ho0) hb); replace HO615 := ak (Kd.R_elder' (rC HO615) (Kd.R_base ho0) hb); replace HO618 := ak (Kd.R_elder' (rC HO618) (Kd.R_base ho0) hb); replace HO622 := ak (Kd.R_elder' (rC HO622) (Kd.R_base ho0) hb); replace HB := kH _ hb; (try clear hb); (try clear hb2); (try clear hk); (try clear hi); (try clear ho0); obtain ⟨Ao48, co48, eo48⟩ := Kd.R_slice HO622.out; subst eo48; obtain ⟨Ao49, co49, eo49⟩ := Kd.R_slice HO625.out; subst eo49) | ((with_reducible refine gate_callee (f := 29) rfl ?_); refine gL 22 Try.func29 #[.slice Ao48 t620.length co48, .slice Ao49 t623.length co49] ?_; (with_reducible refine (shares_Join.calls k (fun k_ => some k_ = (.slice Ao48 t620.length co48 : Value).ownBlock) _ _ t620 (fun k_ => some k_ = (.slice Ao49 t623.length co49 : Value).ownBlock) _ _ t623 t626 t629 _ ?side1 ?side2 A8.out).mono ?_); (case side1 => exact Kd.R_V (Kd.R_tight rfl (HO622.out))); (case side2 => exact Kd.R_V (Kd.R_tight rfl (HO625.out))); rintro e w50 ⟨v627, rfl, ho0, hb⟩; refine ⟨_, rfl, ?_⟩; have HO628 := ak (Kd.R_lower (Kd.R_new' (Kd.R_new' (Kd.R_new' (Kd.R_new' (Kd.R_new' (Kd.R_mono (ok' := fun k_ => True) ho0 (fun _ hk_ => trivial)) (Kd.R_lt (rC HO612))) (Kd.R_lt (rC HO615))) (Kd.R_lt (rC HO618))) (Kd.R_lt (rC HO622))) (Kd.R_lt (rC HO625))) (below_size (hbC _))); replace HO612 := ak (Kd.R_elder' (rC HO612) (Kd.R_base ho0) hb); replace HO615 := ak (Kd.R_elder' (rC HO615) (Kd.R_base ho0) hb); replace HO618 := ak (Kd.R_elder' (rC HO618) (Kd.R_base ho0) hb); replace HO622 := ak (Kd.R_elder' (rC HO622) (Kd.R_base ho0) hb); replace HO625 := ak (Kd.R_elder' (rC HO625) (Kd.R_base ho0) hb); replace HB := kH _ hb; (try clear hb); (try clear hb2); (try clear hk); (try clear hi); (try clear ho0)) | ((with_reducible refine gate_callee (f := 30) rfl ?_); refine gL 27 Try.func30 #[.slice A0 l0.length c0, .slice A1 l1.length c1] ?_; (with_reducible refine (congoulaw01_parts.calls k _ _ l0 _ _ l1 false _ ?side1 ?side2 ?side3 ?side4 A9.out).mono ?_); (case side1 => exact kC HR0); (case side2 => exact HC0.out); (case side3 => exact kC HR1); (case side4 => exact HC1.out); rintro e w' ⟨rfl, ⟨nd, rfl⟩⟩; refine ⟨_, rfl, ?_⟩; obtain ⟨Ao51, co51, eo51⟩ := Kd.R_slice HO618.out; subst eo51; obtain ⟨Ao52, co52, eo52⟩ := Kd.R_slice HO628.out; subst eo52) | (go_at_call 21; (with_reducible refine (congoulaw01_awake.calls k  t631 _ A40.out).mono ?_); rintro e w53 ⟨rfl, hb⟩; replace HO612 := kO HO612 hb; replace HO615 := kO HO615 hb; replace HO618 := kO HO618 hb; replace HO622 := kO HO622 hb; replace HO625 := kO HO625 hb; replace HO628 := kO HO628 hb; replace HB := kH _ hb; (try clear hb); (try clear hb2); (try clear hk); (try clear hi)))
  go_ret
  exact ⟨by first | rfl | (simp [errW_none, errW_some] <;> rfl) | (simp [*, errW_none, errW_some] <;> rfl), hbC _⟩
 subst c10
 have H1 : ((congouref01_Meet.f k l0 l1).bind fun t632 => ((slices_Equal_int_int.f k t616 t632).bind fun t635 => (if t635 = true then ((congouref01_Join.f k l0 l1).bind fun t636 => ((slices_Equal_int_int.f k t626 t636).bind fun t639 => (if t639 = true then (if t619 = 0 then (if t629 = 0 then ((congoulaw01_awake.f k).bind fun t640 => (some t640)) else (some false)) else (some false)) else (some false)))) else (some false)))) = some r := by rw [if_pos rfl] at H; exact H
 clear H
 have H := H1
 clear H1
 replace H := Option.bind_eq_some_iff.mp H
 obtain ⟨t632, A110, H⟩ := H
 replace H : ((slices_Equal_int_int.f k t616 t632).bind fun t635 => (if t635 = true then ((congouref01_Join.f k l0 l1).bind fun t636 => ((slices_Equal_int_int.f k t626 t636).bind fun t639 => (if t639 = true then (if t619 = 0 then (if t629 = 0 then ((congoulaw01_awake.f k).bind fun t640 => (some t640)) else (some false)) else (some false)) else (some false)))) else (some false))) = some r := H
 have A11 := Aside0.mk A110
 clear A110
 replace H := Option.bind_eq_some_iff.mp H
 obtain ⟨t635, A120, H⟩ := H
 replace H : (if t635 = true then ((congouref01_Join.f k l0 l1).bind fun t636 => ((slices_Equal_int_int.f k t626 t636).bind fun t639 => (if t639 = true then (if t619 = 0 then (if t629 = 0 then ((congoulaw01_awake.f k).bind fun t640 => (some t640)) else (some false)) else (some false)) else (some false)))) else (some false)) = some r := H
 have A12 := Aside0.mk A120
 clear A120
 by_cases c13 : t635 = true
 rotate_left
 ·replace c13 := Bool.eq_false_iff.mpr c13
  subst c13
  have H1 : (some false) = some r := by rw [if_neg (show ¬ (false = true) by decide)] at H; exact H
  clear H
  have H := H1
  clear H1
  exact absurd (H.trans (congrArg some HRT.out)) (by simp)
 subst c13
 have H1 : ((congouref01_Join.f k l0 l1).bind fun t636 => ((slices_Equal_int_int.f k t626 t636).bind fun t639 => (if t639 = true then (if t619 = 0 then (if t629 = 0 then ((congoulaw01_awake.f k).bind fun t640 => (some t640)) else (some false)) else (some false)) else (some false)))) = some r := by rw [if_pos rfl] at H; exact H
 clear H
 have H := H1
 clear H1
 replace H := Option.bind_eq_some_iff.mp H
 obtain ⟨t636, A140, H⟩ := H
 replace H : ((slices_Equal_int_int.f k t626 t636).bind fun t639 => (if t639 = true then (if t619 = 0 then (if t629 = 0 then ((congoulaw01_awake.f k).bind fun t640 => (some t640)) else (some false)) else (some false)) else (some false))) = some r := H
 have A14 := Aside0.mk A140
 clear A140
 replace H := Option.bind_eq_some_iff.mp H
 obtain ⟨t639, A150, H⟩ := H
 replace H : (if t639 = true then (if t619 = 0 then (if t629 = 0 then ((congoulaw01_awake.f k).bind fun t640 => (some t640)) else (some false)) else (some false)) else (some false)) = some r := H
 have A15 := Aside0.mk A150
 clear A150
 by_cases c16 : t639 = true
 rotate_left
 ·replace c16 := Bool.eq_false_iff.mpr c16
  subst c16
  have H1 : (some false) = some r := by rw [if_neg (show ¬ (false = true) by decide)] at H; exact H
  clear H
  have H := H1
  clear H1
  exact absurd (H.trans (congrArg some HRT.out)) (by simp)
 subst c16
 have H1 : (if t619 = 0 then (if t629 = 0 then ((congoulaw01_awake.f k).bind fun t640 => (some t640)) else (some false)) else (some false)) = some r := by rw [if_pos rfl] at H; exact H
 clear H
 have H := H1
 clear H1
 by_cases c17 : t619 = 0
 rotate_left
 ·rw [if_neg c17] at H
  have c17b0 : (t619 == 0) = false := beq_eq_false_iff_ne.mpr c17
  have c17b1 : (t619 != 0) = true := bne_iff_ne.mpr c17
  exact absurd (H.trans (congrArg some HRT.out)) (by simp)
 rw [if_pos c17] at H
 have c17b0 : (t619 == 0) = true := beq_iff_eq.mpr c17
 have c17b1 : (t619 != 0) = false := bne_eq_false_iff_eq.mpr c17
 clear c17
 by_cases c18 : t629 = 0
 rotate_left
 ·rw [if_neg c18] at H
  have c18b0 : (t629 == 0) = false := beq_eq_false_iff_ne.mpr c18
  have c18b1 : (t629 != 0) = true := bne_iff_ne.mpr c18
  exact absurd (H.trans (congrArg some HRT.out)) (by simp)
 rw [if_pos c18] at H
 have c18b0 : (t629 == 0) = true := beq_iff_eq.mpr c18
 have c18b1 : (t629 != 0) = false := bne_eq_false_iff_eq.mpr c18
 clear c18
 replace H := Option.bind_eq_some_iff.mp H
 obtain ⟨t640, A190, H⟩ := H
 replace H : (some t640) = some r := H
 have A19 := Aside0.mk A190
 clear A190
 obtain rfl := Option.some.inj H
 go_enter Try.func6, Try.ntmps6
 go_wp2_with (first | ((with_reducible refine gate_callee (f := 18) rfl ?_); refine gL 11 Try.func18 #[.slice A0 l0.length c0] ?_; (with_reducible refine (congoulaw01_list.calls _ _ l0 t610 _ ?side1 ?side2 A3.out).mono ?_); (case side1 => repeat (first | exact HR0.out | (with_reducible refine Kd.C_alloc ?_ _) | (with_reducible refine Kd.C_drewN ?_ _) | (with_reducible refine Kd.C_drew ?_))); (case side2 => exact HC0.out); rintro e w20 ⟨v611, rfl, ho0, hb⟩; refine ⟨_, rfl, ?_⟩; have HO612 := ak (Kd.R_lower ho0 (below_size (hbC _))); replace HB := kH _ hb; (try clear hb); (try clear hb2); (try clear hk); (try clear hi); (try clear ho0)) | ((with_reducible refine gate_callee (f := 18) rfl ?_); refine gL 13 Try.func18 #[.slice A1 l1.length c1] ?_; (with_reducible refine (congoulaw01_list.calls _ _ l1 t613 _ ?side1 ?side2 A4.out).mono ?_); (case side1 => exact kC HR1); (case side2 => exact HC1.out); rintro e w21 ⟨v614, rfl, ho0, hb⟩; refine ⟨_, rfl, ?_⟩; have HO615 := ak (Kd.R_lower (Kd.R_new' ho0 (Kd.R_lt (rC HO612))) (below_size (hbC _))); replace HO612 := ak (Kd.R_elder' (rC HO612) (Kd.R_base ho0) hb); replace HB := kH _ hb; (try clear hb); (try clear hb2); (try clear hk); (try clear hi); (try clear ho0); obtain ⟨Ao22, co22, eo22⟩ := Kd.R_slice HO612.out; subst eo22; obtain ⟨Ao23, co23, eo23⟩ := Kd.R_slice HO615.out; subst eo23) | ((with_reducible refine gate_callee (f := 28) rfl ?_); refine gL 14 Try.func28 #[.slice Ao22 t610.length co22, .slice Ao23 t613.length co23] ?_; (with_reducible refine (shares_Meet.calls k (fun k_ => some k_ = (.slice Ao22 t610.length co22 : Value).ownBlock) _ _ t610 (fun k_ => some k_ = (.slice Ao23 t613.length co23 : Value).ownBlock) _ _ t613 t616 t619 _ ?side1 ?side2 A5.out).mono ?_); (case side1 => exact Kd.R_V (Kd.R_tight rfl (HO612.out))); (case side2 => exact Kd.R_V (Kd.R_tight rfl (HO615.out))); rintro e w24 ⟨v617, rfl, ho0, hb⟩; refine ⟨_, rfl, ?_⟩; have HO618 := ak (Kd.R_lower (Kd.R_new' (Kd.R_new' (Kd.R_mono (ok' := fun k_ => True) ho0 (fun _ hk_ => trivial)) (Kd.R_lt (rC HO612))) (Kd.R_lt (rC HO615))) (below_size (hbC _))); replace HO612 := ak (Kd.R_elder' (rC HO612) (Kd.R_base ho0) hb); replace HO615 := ak (Kd.R_elder' (rC HO615) (Kd.R_base ho0) hb); replace HB := kH _ hb; (try clear hb); (try clear hb2); (try clear hk); (try clear hi); (try clear ho0)) | ((with_reducible refine gate_callee (f := 18) rfl ?_); refine gL 19 Try.func18 #[.slice A0 l0.length c0] ?_; (with_reducible refine (congoulaw01_list.calls _ _ l0 t620 _ ?side1 ?side2 A6.out).mono ?_); (case side1 => exact kC HR0); (case side2 => exact HC0.out); rintro e w25 ⟨v621, rfl, ho0, hb⟩; refine ⟨_, rfl, ?_⟩; have HO622 := ak (Kd.R_lower (Kd.R_new' (Kd.R_new' (Kd.R_new' ho0 (Kd.R_lt (rC HO612))) (Kd.R_lt (rC HO615))) (Kd.R_lt (rC HO618))) (below_size (hbC _))); replace HO612 := ak (Kd.R_elder' (rC HO612) (Kd.R_base ho0) hb); replace HO615 := ak (Kd.R_elder' (rC HO615) (Kd.R_base ho0) hb); replace HO618 := ak (Kd.R_elder' (rC HO618) (Kd.R_base ho0) hb); replace HB := kH _ hb; (try clear hb); (try clear hb2); (try clear hk); (try clear hi); (try clear ho0)) | ((with_reducible refine gate_callee (f := 18) rfl ?_); refine gL 21 Try.func18 #[.slice A1 l1.length c1] ?_; (with_reducible refine (congoulaw01_list.calls _ _ l1 t623 _ ?side1 ?side2 A7.out).mono ?_); (case side1 => exact kC HR1); (case side2 => exact HC1.out); rintro e w26 ⟨v624, rfl, ho0, hb⟩; refine ⟨_, rfl, ?_⟩; have HO625 := ak (Kd.R_lower (Kd.R_new' (Kd.R_new' (Kd.R_new' (Kd.R_new' ho0 (Kd.R_lt (rC HO612))) (Kd.R_lt (rC HO615))) (Kd.R_lt (rC HO618))) (Kd.R_lt (rC HO622))) (below_size (hbC _))); replace HO612 := ak (Kd.R_elder' (rC HO612) (Kd.R_base ho0) hb); replace HO615 := ak (Kd.R_elder' (rC HO615) (Kd.R_base ho0) hb); replace HO618 := ak (Kd.R_elder' (rC HO618) (Kd.R_base ho0) hb); replace HO622 := ak (Kd.R_elder' (rC HO622) (Kd.R_base ho0) hb); replace HB := kH _ hb; (try clear hb); (try clear hb2); (try clear hk); (try clear hi); (try clear ho0); obtain ⟨Ao27, co27, eo27⟩ := Kd.R_slice HO622.out; subst eo27; obtain ⟨Ao28, co28, eo28⟩ := Kd.R_slice HO625.out; subst eo28) | ((with_reducible refine gate_callee (f := 29) rfl ?_); refine gL 22 Try.func29 #[.slice Ao27 t620.length co27, .slice Ao28 t623.length co28] ?_; (with_reducible refine (shares_Join.calls k (fun k_ => some k_ = (.slice Ao27 t620.length co27 : Value).ownBlock) _ _ t620 (fun k_ => some k_ = (.slice Ao28 t623.length co28 : Value).ownBlock) _ _ t623 t626 t629 _ ?side1 ?side2 A8.out).mono ?_); (case side1 => exact Kd.R_V (Kd.R_tight rfl (HO622.out))); (case side2 => exact Kd.R_V (Kd.R_tight rfl (HO625.out))); rintro e w29 ⟨v627, rfl, ho0, hb⟩; refine ⟨_, rfl, ?_⟩; have HO628 := ak (Kd.R_lower (Kd.R_new' (Kd.R_new' (Kd.R_new' (Kd.R_new' (Kd.R_new' (Kd.R_mono (ok' := fun k_ => True) ho0 (fun _ hk_ => trivial)) (Kd.R_lt (rC HO612))) (Kd.R_lt (rC HO615))) (Kd.R_lt (rC HO618))) (Kd.R_lt (rC HO622))) (Kd.R_lt (rC HO625))) (below_size (hbC _))); replace HO612 := ak (Kd.R_elder' (rC HO612) (Kd.R_base ho0) hb); replace HO615 := ak (Kd.R_elder' (rC HO615) (Kd.R_base ho0) hb); replace HO618 := ak (Kd.R_elder' (rC HO618) (Kd.R_base ho0) hb); replace HO622 := ak (Kd.R_elder' (rC HO622) (Kd.R_base ho0) hb); replace HO625 := ak (Kd.R_elder' (rC HO625) (Kd.R_base ho0) hb); replace HB := kH _ hb; (try clear hb); (try clear hb2); (try clear hk); (try clear hi); (try clear ho0)) | ((with_reducible refine gate_callee (f := 30) rfl ?_); refine gL 27 Try.func30 #[.slice A0 l0.length c0, .slice A1 l1.length c1] ?_; (with_reducible refine (congoulaw01_parts.calls k _ _ l0 _ _ l1 true _ ?side1 ?side2 ?side3 ?side4 A9.out).mono ?_); (case side1 => exact kC HR0); (case side2 => exact HC0.out); (case side3 => exact kC HR1); (case side4 => exact HC1.out); rintro e w' ⟨rfl, ⟨nd, rfl⟩⟩; refine ⟨_, rfl, ?_⟩) | ((with_reducible refine gate_callee (f := 32) rfl ?_); refine gL 49 Try.func32 #[.slice A0 l0.length c0, .slice A1 l1.length c1] ?_; (with_reducible refine (congouref01_Meet.calls k (fun k_ => k_ < w.heap.size) _ _ l0 _ _ l1 t632 _ ?side1 ?side2 ?side3 A11.out).mono ?_); (case side1 => exact Kd.V_mk HC0.out (Kd.F_below (Kd.C_F (Kd.heap_int .i64) HR0.out) (hbC _))); (case side2 => repeat (first | exact (Kd.C_below HR1.out (hbC _)) | (with_reducible refine Kd.C_alloc ?_ _) | (with_reducible refine Kd.C_drewN ?_ _) | (with_reducible refine Kd.C_drew ?_))); (case side3 => exact HC1.out); rintro e w30 ⟨v633, rfl, ho0, hb⟩; refine ⟨_, rfl, ?_⟩; have HO634 := ak (Kd.V_lower (Kd.V_mono (ok' := fun k_ => nb k_ (.slice Ao22 t610.length co22) ∧ nb k_ (.slice Ao23 t613.length co23) ∧ nb k_ v617 ∧ nb k_ (.slice Ao27 t620.length co27) ∧ nb k_ (.slice Ao28 t623.length co28) ∧ nb k_ v627) ho0 (fun k_ hk_ => ⟨Or.elim hk_ (fun hs_ => fun e_ => Nat.not_le.2 hs_ (Kd.R_base HO612.out k_ e_.symm)) (fun hn_ => (Kd.fresh' (Kd.R_lt (rC HO612)) k_ hn_)), Or.elim hk_ (fun hs_ => fun e_ => Nat.not_le.2 hs_ (Kd.R_base HO615.out k_ e_.symm)) (fun hn_ => (Kd.fresh' (Kd.R_lt (rC HO615)) k_ hn_)), Or.elim hk_ (fun hs_ => fun e_ => Nat.not_le.2 hs_ (Kd.R_base HO618.out k_ e_.symm)) (fun hn_ => (Kd.fresh' (Kd.R_lt (rC HO618)) k_ hn_)), Or.elim hk_ (fun hs_ => fun e_ => Nat.not_le.2 hs_ (Kd.R_base HO622.out k_ e_.symm)) (fun hn_ => (Kd.fresh' (Kd.R_lt (rC HO622)) k_ hn_)), Or.elim hk_ (fun hs_ => fun e_ => Nat.not_le.2 hs_ (Kd.R_base HO625.out k_ e_.symm)) (fun hn_ => (Kd.fresh' (Kd.R_lt (rC HO625)) k_ hn_)), Or.elim hk_ (fun hs_ => fun e_ => Nat.not_le.2 hs_ (Kd.R_base HO628.out k_ e_.symm)) (fun hn_ => (Kd.fresh' (Kd.R_lt (rC HO628)) k_ hn_))⟩)) (below_size (hbC _))); replace HO612 := kO HO612 hb; replace HO615 := kO HO615 hb; replace HO618 := kO HO618 hb; replace HO622 := kO HO622 hb; replace HO625 := kO HO625 hb; replace HO628 := kO HO628 hb; replace HB := kH _ hb; (try clear hb); (try clear hb2); (try clear hk); (try clear hi); (try clear ho0); obtain ⟨Ao31, co31, eo31⟩ := Kd.R_slice HO618.out; subst eo31; obtain ⟨Ao32, co32, eo32⟩ := Kd.V_slice HO634.out; subst eo32) | ((with_reducible refine gate_callee (f := 31) rfl ?_); refine gL 50 Try.func31 #[.slice Ao31 t616.length co31, .slice Ao32 t632.length co32] ?_; (with_reducible refine (slices_Equal_int_int.calls k _ _ t616 _ _ t632 true _ ?side1 ?side2 ?side3 ?side4 A12.out).mono ?_); (case side1 => exact kD (Kd.R_reads' HO618.out).2.2); (case side2 => exact (Kd.R_reads' HO618.out).2.1); (case side3 => repeat (first | exact (Kd.V_reads' HO634.out).2.2 | (with_reducible refine Kd.C_alloc ?_ _) | (with_reducible refine Kd.C_drewN ?_ _) | (with_reducible refine Kd.C_drew ?_))); (case side4 => exact (Kd.V_reads' HO634.out).2.1); rintro e w' ⟨rfl, ⟨nd, rfl⟩⟩; refine ⟨_, rfl, ?_⟩) | (go_at_call 33; (with_reducible refine (congouref01_Join.calls k (fun k_ => k_ < w.heap.size) _ _ l0 _ _ l1 t636 _ ?side1 ?side2 ?side3 A14.out).mono ?_); (case side1 => exact Kd.V_mk HC0.out (Kd.F_below (Kd.C_F (Kd.heap_int .i64) HR0.out) (hbC _))); (case side2 => repeat (first | exact (Kd.C_below HR1.out (hbC _)) | (with_reducible refine Kd.C_alloc ?_ _) | (with_reducible refine Kd.C_drewN ?_ _) | (with_reducible refine Kd.C_drew ?_))); (case side3 => exact HC1.out); rintro e w33 ⟨v637, rfl, ho0, hb⟩; replace HO634 := ak (Kd.V_below (by (with_reducible repeat (first | apply Kd.V_alloc | apply Kd.V_drewN | apply Kd.V_drew)); exact HO634.out) hb); have HO638 := ak (Kd.V_lower (Kd.V_mono (ok' := fun k_ => nb k_ (.slice Ao22 t610.length co22) ∧ nb k_ (.slice Ao23 t613.length co23) ∧ nb k_ (.slice Ao31 t616.length co31) ∧ nb k_ (.slice Ao27 t620.length co27) ∧ nb k_ (.slice Ao28 t623.length co28) ∧ nb k_ v627) ho0 (fun k_ hk_ => ⟨Or.elim hk_ (fun hs_ => fun e_ => Nat.not_le.2 hs_ (Kd.R_base HO612.out k_ e_.symm)) (fun hn_ => (Kd.fresh' (Kd.R_lt (rC HO612)) k_ hn_)), Or.elim hk_ (fun hs_ => fun e_ => Nat.not_le.2 hs_ (Kd.R_base HO615.out k_ e_.symm)) (fun hn_ => (Kd.fresh' (Kd.R_lt (rC HO615)) k_ hn_)), Or.elim hk_ (fun hs_ => fun e_ => Nat.not_le.2 hs_ (Kd.R_base HO618.out k_ e_.symm)) (fun hn_ => (Kd.fresh' (Kd.R_lt (rC HO618)) k_ hn_)), Or.elim hk_ (fun hs_ => fun e_ => Nat.not_le.2 hs_ (Kd.R_base HO622.out k_ e_.symm)) (fun hn_ => (Kd.fresh' (Kd.R_lt (rC HO622)) k_ hn_)), Or.elim hk_ (fun hs_ => fun e_ => Nat.not_le.2 hs_ (Kd.R_base HO625.out k_ e_.symm)) (fun hn_ => (Kd.fresh' (Kd.R_lt (rC HO625)) k_ hn_)), Or.elim hk_ (fun hs_ => fun e_ => Nat.not_le.2 hs_ (Kd.R_base HO628.out k_ e_.symm)) (fun hn_ => (Kd.fresh' (Kd.R_lt (rC HO628)) k_ hn_))⟩)) (below_size (hbC _))); replace HO612 := kO HO612 hb; replace HO615 := kO HO615 hb; replace HO618 := kO HO618 hb; replace HO622 := kO HO622 hb; replace HO625 := kO HO625 hb; replace HO628 := kO HO628 hb; replace HB := kH _ hb; (try clear hb); (try clear hb2); (try clear hk); (try clear hi); (try clear ho0); obtain ⟨Ao34, co34, eo34⟩ := Kd.R_slice HO628.out; subst eo34; obtain ⟨Ao35, co35, eo35⟩ := Kd.V_slice HO638.out; subst eo35) | (go_at_call 31; (with_reducible refine (slices_Equal_int_int.calls k _ _ t626 _ _ t636 true _ ?side1 ?side2 ?side3 ?side4 A15.out).mono ?_); (case side1 => exact kD (Kd.R_reads' HO628.out).2.2); (case side2 => exact (Kd.R_reads' HO628.out).2.1); (case side3 => repeat (first | exact (Kd.V_reads' HO638.out).2.2 | (with_reducible refine Kd.C_alloc ?_ _) | (with_reducible refine Kd.C_drewN ?_ _) | (with_reducible refine Kd.C_drew ?_))); (case side4 => exact (Kd.V_reads' HO638.out).2.1); rintro e w' ⟨rfl, ⟨nd, rfl⟩⟩) | (go_at_call 21; (with_reducible refine (congoulaw01_awake.calls k  t640 _ A19.out).mono ?_); rintro e w36 ⟨rfl, hb⟩; replace HO612 := kO HO612 hb; replace HO615 := kO HO615 hb; replace HO618 := kO HO618 hb; replace HO622 := kO HO622 hb; replace HO625 := kO HO625 hb; replace HO628 := kO HO628 hb; replace HO634 := ak (Kd.V_below (by (with_reducible repeat (first | apply Kd.V_alloc | apply Kd.V_drewN | apply Kd.V_drew)); exact HO634.out) hb); replace HO638 := ak (Kd.V_below (by (with_reducible repeat (first | apply Kd.V_alloc | apply Kd.V_drewN | apply Kd.V_drew)); exact HO638.out) hb); replace HB := kH _ hb; (try clear hb); (try clear hb2); (try clear hk); (try clear hi)))
 go_ret
 exact ⟨by first | rfl | (simp [errW_none, errW_some] <;> rfl) | (simp [*, errW_none, errW_some] <;> rfl), hbC _⟩

/-- THE ONE PURE STATEMENT of congoulaw01_SharesMeets: yours. -/
def congoulaw01_SharesMeets.Pure : Prop := ∀ (l0 : List Int) (l1 : List Int), l0.length ≤ maxLen → l0.length * 8 ≤ 140737488351232 → (∀ x ∈ l0, (Lit.int .i64 x).wf = true) → l1.length ≤ maxLen → l1.length * 8 ≤ 140737488351232 → (∀ x ∈ l1, (Lit.int .i64 x).wf = true) → ∃ k, congoulaw01_SharesMeets.f k l0 l1 = some true
theorem congoulaw01_SharesMeets.walk (P : congoulaw01_SharesMeets.Pure) (a0 : Option Addr) (len0 cap0 : Nat) (z0 : List Int) (a1 : Option Addr) (len1 cap1 : Nat) (z1 : List Int) (w : World) (w0 : (a0 = none ∧ len0 = 0 ∧ cap0 = 0 ∧ z0 = []) ∨ ∃ x, a0 = some x ∧ len0 ≤ cap0 ∧ cap0 ≤ maxLen ∧ z0.length = cap0 ∧ (∀ i, i < z0.length → w.cell? (x.add i) = some (.int .i64 (z0.getD i 0))) ∧ ∀ n ∈ z0, (Lit.int .i64 n).wf = true) (y0 : len0 * 8 ≤ 140737488351232) (w1 : (a1 = none ∧ len1 = 0 ∧ cap1 = 0 ∧ z1 = []) ∨ ∃ x, a1 = some x ∧ len1 ≤ cap1 ∧ cap1 ≤ maxLen ∧ z1.length = cap1 ∧ (∀ i, i < z1.length → w.cell? (x.add i) = some (.int .i64 (z1.getD i 0))) ∧ ∀ n ∈ z1, (Lit.int .i64 n).wf = true) (y1 : len1 * 8 ≤ 140737488351232) :
  Calls Try.prog 6 #[.slice a0 len0 cap0, .slice a1 len1 cap1] w fun e w' => e = .returned (.bool true) ∧ Below w.heap.size w w' := by
 obtain ⟨l0, rfl, hr0, hm0, hw0, hc0⟩ := ReadsInt.ofRowC w0
 obtain ⟨l1, rfl, hr1, hm1, hw1, hc1⟩ := ReadsInt.ofRowC w1
 obtain ⟨k, h⟩ := P l0 l1 hm0 y0 hw0 hm1 y1 hw1
 refine (congoulaw01_SharesMeets.calls k _ _ l0 _ _ l1 true w (Kd.C_of_reads (d := (0 : Int)) (h1 := fun _ => rfl) hr0) hc0 (Kd.C_of_reads (d := (0 : Int)) (h1 := fun _ => rfl) hr1) hc1 rfl h).mono ?_
 rintro e w' ⟨rfl, hd⟩
 exact ⟨rfl, hd⟩

end Go.Proofs.Ytefmafbbnkkpjaa.X
