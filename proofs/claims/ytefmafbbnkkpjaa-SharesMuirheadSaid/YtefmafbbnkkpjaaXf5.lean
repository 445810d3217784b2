-- Written by a program of this work (wip/xprint.py, over the kit's printer) out of the translation.
import Derived.Test.YtefmafbbnkkpjaaX0
import Derived.Test.YtefmafbbnkkpjaaXG2a
import Derived.Test.YtefmafbbnkkpjaaXf17
import Derived.Test.YtefmafbbnkkpjaaXf21
import Derived.Test.YtefmafbbnkkpjaaXf25
namespace Go.Proofs.Ytefmafbbnkkpjaa.X
open Go.RowKit Go.Proofs.YtefmafbbnkkpjaaW.PrintWords Go.Proofs.YtefmafbbnkkpjaaW.PrintLast Go.Proofs.YtefmafbbnkkpjaaW.PrintMore
attribute [local go_sem] max2_int min2_int max_two min_two max_three min_three max_four min_four   -- for this text's walks alone
set_option linter.unusedVariables false
set_option linter.unusedSimpArgs false

/-! ### congoulaw01_SharesMuirhead: function 5 -/
def congoulaw01_SharesMuirhead.j0 : Nat → List Int → List Int → Int → Int → Int → Int → Bool → Option (Bool)
 | 0, _, _, _, _, _, _, _ => none
 | k + 1, x0, x1, x7, x8, x9, x10, x48 => if x48 = true then (if x8 = 2 then ((congoulaw01_awake.f k).bind fun t701 => (some t701)) else (if x10 = 2 then ((congoulaw01_awake.f k).bind fun t702 => (some t702)) else (some false))) else ((congoulaw01_list.f x0).bind fun t703 => ((congoulaw01_list.f x1).bind fun t706 => ((shares_Uneven.f k t703 t706).bind fun bt709 => ((congoulaw01_list.f x1).bind fun t711 => ((congoulaw01_list.f x0).bind fun t714 => ((shares_Uneven.f k t711 t714).bind fun bt717 => (if bt709.2 = 0 then (if bt717.2 = 0 then (if bt709.1 = true then (if x7 ≥ x9 then (if bt717.1 = true then (if x7 ≤ x9 then ((congoulaw01_awake.f k).bind fun t719 => (some t719)) else (some false)) else ((congoulaw01_awake.f k).bind fun t720 => (some t720))) else (some false)) else (if bt717.1 = true then (if x7 ≤ x9 then ((congoulaw01_awake.f k).bind fun t721 => (some t721)) else (some false)) else ((congoulaw01_awake.f k).bind fun t722 => (some t722)))) else (some false)) else (some false))))))))
def congoulaw01_SharesMuirhead.f (k : Nat) (l0 : List Int) (l1 : List Int) (l2 : List Int) : Option (Bool) := (congoulaw01_list.f l0).bind fun t683 => ((congoulaw01_list.f l2).bind fun t686 => ((shares_Power.f k t683 t686).bind fun bt689 => ((congoulaw01_list.f l1).bind fun t691 => ((congoulaw01_list.f l2).bind fun t694 => ((shares_Power.f k t691 t694).bind fun bt697 => (if bt689.2 = 0 then (if bt697.2 = 0 then ((congouref01_Few.f k l0 l2).bind fun t699 => (if t699 = true then ((congouref01_Few.f k l1 l2).bind fun t700 => (congoulaw01_SharesMuirhead.j0 k l0 l1 bt689.1 bt689.2 bt697.1 bt697.2 (!t700))) else (congoulaw01_SharesMuirhead.j0 k l0 l1 bt689.1 bt689.2 bt697.1 bt697.2 true))) else (congoulaw01_SharesMuirhead.j0 k l0 l1 bt689.1 bt689.2 bt697.1 bt697.2 true)) else (congoulaw01_SharesMuirhead.j0 k l0 l1 bt689.1 bt689.2 bt697.1 bt697.2 true)))))))
theorem congoulaw01_SharesMuirhead.mono_l : ∀ k, (∀ y0 y1 y2 y3 y4 y5 y6, LeO (congoulaw01_SharesMuirhead.j0 k y0 y1 y2 y3 y4 y5 y6) (congoulaw01_SharesMuirhead.j0 (k + 1) y0 y1 y2 y3 y4 y5 y6))
 | 0 => fun _ _ _ _ _ _ _ r h => by simp [congoulaw01_SharesMuirhead.j0] at h
 | k + 1 => by
  have ih0 := congoulaw01_SharesMuirhead.mono_l k
  ·intro y0 y1 y2 y3 y4 y5 y6
   unfold congoulaw01_SharesMuirhead.j0
   repeat' first
   | (with_reducible exact ih0 _ _ _ _ _ _ _)
   | (with_reducible exact congoulaw01_awake.mono _)
   | (with_reducible exact congouref01_Few.mono _ _ _)
   | (with_reducible exact shares_Power.mono _ _ _)
   | (with_reducible exact shares_Uneven.mono _ _ _)
   | (with_reducible exact LeO.refl _)
   | (with_reducible exact LeO.none _)
   | (with_reducible refine LeO.ite ?_ ?_)
   | (with_reducible refine LeO.bind ?_ (fun _ => ?_))
   | exact ih0 _ _ _ _ _ _ _
   | exact congoulaw01_awake.mono _
   | exact congouref01_Few.mono _ _ _
   | exact shares_Power.mono _ _ _
   | exact shares_Uneven.mono _ _ _
   | exact LeO.none _
   | refine LeO.ite ?_ ?_
   | refine LeO.bind ?_ (fun _ => ?_)
theorem congoulaw01_SharesMuirhead.mono : ∀ a0 a1 a2 k, LeO (congoulaw01_SharesMuirhead.f k a0 a1 a2) (congoulaw01_SharesMuirhead.f (k + 1) a0 a1 a2) := by
 intro a0 a1 a2 k
 have ih0 := congoulaw01_SharesMuirhead.mono_l k
 unfold congoulaw01_SharesMuirhead.f
 repeat' first
   | (with_reducible exact ih0 _ _ _ _ _ _ _)
   | (with_reducible exact congoulaw01_awake.mono _)
   | (with_reducible exact congouref01_Few.mono _ _ _)
   | (with_reducible exact shares_Power.mono _ _ _)
   | (with_reducible exact shares_Uneven.mono _ _ _)
   | (with_reducible exact LeO.refl _)
   | (with_reducible exact LeO.none _)
   | (with_reducible refine LeO.ite ?_ ?_)
   | (with_reducible refine LeO.bind ?_ (fun _ => ?_))
   | exact ih0 _ _ _ _ _ _ _
   | exact congoulaw01_awake.mono _
   | exact congouref01_Few.mono _ _ _
   | exact shares_Power.mono _ _ _
   | exact shares_Uneven.mono _ _ _
   | exact LeO.none _
   | refine LeO.ite ?_ ?_
   | refine LeO.bind ?_ (fun _ => ?_)
set_option maxHeartbeats 8000000 in
set_option maxRecDepth 100000 in
theorem congoulaw01_SharesMuirhead.calls (k : Nat) (A0 : Option Addr) (c0 : Nat) (l0 : List Int) (A1 : Option Addr) (c1 : Nat) (l1 : List Int) (A2 : Option Addr) (c2 : Nat) (l2 : List Int) (r : Bool) (w : World) (hr0 : Kd.C (Kd.int .i64) w A0 l0.length l0) (hc0 : l0.length ≤ c0) (hr1 : Kd.C (Kd.int .i64) w A1 l1.length l1) (hc1 : l1.length ≤ c1) (hr2 : Kd.C (Kd.int .i64) w A2 l2.length l2) (hc2 : l2.length ≤ c2) (hrt : r = true) (h : congoulaw01_SharesMuirhead.f k l0 l1 l2 = some r) :
  Calls Try.prog 5 #[.slice A0 l0.length c0, .slice A1 l1.length c1, .slice A2 l2.length c2] w fun e w' => e = .returned (.bool r) ∧ Below w.heap.size w w' := by
 have HR0 := Aside0.mk hr0
 have HC0 := Aside0.mk hc0
 clear hr0 hc0
 have HR1 := Aside0.mk hr1
 have HC1 := Aside0.mk hc1
 clear hr1 hc1
 have HR2 := Aside0.mk hr2
 have HC2 := Aside0.mk hc2
 clear hr2 hc2
 have HB := ak (Below.refl w.heap.size w)
 have H : ((congoulaw01_list.f l0).bind fun t683 => ((congoulaw01_list.f l2).bind fun t686 => ((shares_Power.f k t683 t686).bind fun bt689 => ((congoulaw01_list.f l1).bind fun t691 => ((congoulaw01_list.f l2).bind fun t694 => ((shares_Power.f k t691 t694).bind fun bt697 => (if bt689.2 = 0 then (if bt697.2 = 0 then ((congouref01_Few.f k l0 l2).bind fun t699 => (if t699 = true then ((congouref01_Few.f k l1 l2).bind fun t700 => (congoulaw01_SharesMuirhead.j0 k l0 l1 bt689.1 bt689.2 bt697.1 bt697.2 (!t700))) else (congoulaw01_SharesMuirhead.j0 k l0 l1 bt689.1 bt689.2 bt697.1 bt697.2 true))) else (congoulaw01_SharesMuirhead.j0 k l0 l1 bt689.1 bt689.2 bt697.1 bt697.2 true)) else (congoulaw01_SharesMuirhead.j0 k l0 l1 bt689.1 bt689.2 bt697.1 bt697.2 true)))))))) = some r := h
 clear h
 have HRT := Aside0.mk hrt
 clear hrt
 replace H := Option.bind_eq_some_iff.mp H
 obtain ⟨t683, A40, H⟩ := H
 replace H : ((congoulaw01_list.f l2).bind fun t686 => ((shares_Power.f k t683 t686).bind fun bt689 => ((congoulaw01_list.f l1).bind fun t691 => ((congoulaw01_list.f l2).bind fun t694 => ((shares_Power.f k t691 t694).bind fun bt697 => (if bt689.2 = 0 then (if bt697.2 = 0 then ((congouref01_Few.f k l0 l2).bind fun t699 => (if t699 = true then ((congouref01_Few.f k l1 l2).bind fun t700 => (congoulaw01_SharesMuirhead.j0 k l0 l1 bt689.1 bt689.2 bt697.1 bt697.2 (!t700))) else (congoulaw01_SharesMuirhead.j0 k l0 l1 bt689.1 bt689.2 bt697.1 bt697.2 true))) else (congoulaw01_SharesMuirhead.j0 k l0 l1 bt689.1 bt689.2 bt697.1 bt697.2 true)) else (congoulaw01_SharesMuirhead.j0 k l0 l1 bt689.1 bt689.2 bt697.1 bt697.2 true))))))) = some r := H
 have A4 := Aside0.mk A40
 clear A40
 replace H := Option.bind_eq_some_iff.mp H
 obtain ⟨t686, A50, H⟩ := H
 replace H : ((shares_Power.f k t683 t686).bind fun bt689 => ((congoulaw01_list.f l1).bind fun t691 => ((congoulaw01_list.f l2).bind fun t694 => ((shares_Power.f k t691 t694).bind fun bt697 => (if bt689.2 = 0 then (if bt697.2 = 0 then ((congouref01_Few.f k l0 l2).bind fun t699 => (if t699 = true then ((congouref01_Few.f k l1 l2).bind fun t700 => (congoulaw01_SharesMuirhead.j0 k l0 l1 bt689.1 bt689.2 bt697.1 bt697.2 (!t700))) else (congoulaw01_SharesMuirhead.j0 k l0 l1 bt689.1 bt689.2 bt697.1 bt697.2 true))) else (congoulaw01_SharesMuirhead.j0 k l0 l1 bt689.1 bt689.2 bt697.1 bt697.2 true)) else (congoulaw01_SharesMuirhead.j0 k l0 l1 bt689.1 bt689.2 bt697.1 bt697.2 true)))))) = some r := H
 have A5 := Aside0.mk A50
 clear A50
 replace H := Option.bind_eq_some_iff.mp H
 obtain ⟨⟨t689, t690⟩, A60, H⟩ := H
 replace H : ((congoulaw01_list.f l1).bind fun t691 => ((congoulaw01_list.f l2).bind fun t694 => ((shares_Power.f k t691 t694).bind fun bt697 => (if t690 = 0 then (if bt697.2 = 0 then ((congouref01_Few.f k l0 l2).bind fun t699 => (if t699 = true then ((congouref01_Few.f k l1 l2).bind fun t700 => (congoulaw01_SharesMuirhead.j0 k l0 l1 t689 t690 bt697.1 bt697.2 (!t700))) else (congoulaw01_SharesMuirhead.j0 k l0 l1 t689 t690 bt697.1 bt697.2 true))) else (congoulaw01_SharesMuirhead.j0 k l0 l1 t689 t690 bt697.1 bt697.2 true)) else (congoulaw01_SharesMuirhead.j0 k l0 l1 t689 t690 bt697.1 bt697.2 true))))) = some r := H
 have A6 := Aside0.mk A60
 clear A60
 replace H := Option.bind_eq_some_iff.mp H
 obtain ⟨t691, A70, H⟩ := H
 replace H : ((congoulaw01_list.f l2).bind fun t694 => ((shares_Power.f k t691 t694).bind fun bt697 => (if t690 = 0 then (if bt697.2 = 0 then ((congouref01_Few.f k l0 l2).bind fun t699 => (if t699 = true then ((congouref01_Few.f k l1 l2).bind fun t700 => (congoulaw01_SharesMuirhead.j0 k l0 l1 t689 t690 bt697.1 bt697.2 (!t700))) else (congoulaw01_SharesMuirhead.j0 k l0 l1 t689 t690 bt697.1 bt697.2 true))) else (congoulaw01_SharesMuirhead.j0 k l0 l1 t689 t690 bt697.1 bt697.2 true)) else (congoulaw01_SharesMuirhead.j0 k l0 l1 t689 t690 bt697.1 bt697.2 true)))) = some r := H
 have A7 := Aside0.mk A70
 clear A70
 replace H := Option.bind_eq_some_iff.mp H
 obtain ⟨t694, A80, H⟩ := H
 replace H : ((shares_Power.f k t691 t694).bind fun bt697 => (if t690 = 0 then (if bt697.2 = 0 then ((congouref01_Few.f k l0 l2).bind fun t699 => (if t699 = true then ((congouref01_Few.f k l1 l2).bind fun t700 => (congoulaw01_SharesMuirhead.j0 k l0 l1 t689 t690 bt697.1 bt697.2 (!t700))) else (congoulaw01_SharesMuirhead.j0 k l0 l1 t689 t690 bt697.1 bt697.2 true))) else (congoulaw01_SharesMuirhead.j0 k l0 l1 t689 t690 bt697.1 bt697.2 true)) else (congoulaw01_SharesMuirhead.j0 k l0 l1 t689 t690 bt697.1 bt697.2 true))) = some r := H
 have A8 := Aside0.mk A80
 clear A80
 replace H := Option.bind_eq_some_iff.mp H
 obtain ⟨⟨t697, t698⟩, A90, H⟩ := H
 replace H : (if t690 = 0 then (if t698 = 0 then ((congouref01_Few.f k l0 l2).bind fun t699 => (if t699 = true then ((congouref01_Few.f k l1 l2).bind fun t700 => (congoulaw01_SharesMuirhead.j0 k l0 l1 t689 t690 t697 t698 (!t700))) else (congoulaw01_SharesMuirhead.j0 k l0 l1 t689 t690 t697 t698 true))) else (congoulaw01_SharesMuirhead.j0 k l0 l1 t689 t690 t697 t698 true)) else (congoulaw01_SharesMuirhead.j0 k l0 l1 t689 t690 t697 t698 true)) = some r := H
 have A9 := Aside0.mk A90
 clear A90
 have HC10 := Aside0.mk H
 clear H
 go_enter Try.func5, Try.ntmps5
 go_upto_region 3 with (first | ((with_reducible refine gate_callee (f := 18) rfl ?_); refine gL 17 Try.func18 #[.slice A0 l0.length c0] ?_; (with_reducible refine (congoulaw01_list.calls _ _ l0 t683 _ ?side1 ?side2 A4.out).mono ?_); (case side1 => repeat (first | exact HR0.out | (with_reducible refine Kd.C_alloc ?_ _) | (with_reducible refine Kd.C_drewN ?_ _) | (with_reducible refine Kd.C_drew ?_))); (case side2 => exact HC0.out); rintro e w11 ⟨v684, rfl, ho0, hb⟩; refine ⟨_, rfl, ?_⟩; have HO685 := ak (Kd.R_lower ho0 (below_size (hbC _))); replace HB := kH _ hb; (try clear hb); (try clear hb2); (try clear hk); (try clear hi); (try clear ho0)) | ((with_reducible refine gate_callee (f := 18) rfl ?_); refine gL 19 Try.func18 #[.slice A2 l2.length c2] ?_; (with_reducible refine (congoulaw01_list.calls _ _ l2 t686 _ ?side1 ?side2 A5.out).mono ?_); (case side1 => exact kC HR2); (case side2 => exact HC2.out); rintro e w12 ⟨v687, rfl, ho0, hb⟩; refine ⟨_, rfl, ?_⟩; have HO688 := ak (Kd.R_lower (Kd.R_new' ho0 (Kd.R_lt (rC HO685))) (below_size (hbC _))); replace HO685 := ak (Kd.R_elder' (rC HO685) (Kd.R_base ho0) hb); replace HB := kH _ hb; (try clear hb); (try clear hb2); (try clear hk); (try clear hi); (try clear ho0); obtain ⟨Ao13, co13, eo13⟩ := Kd.R_slice HO685.out; subst eo13; obtain ⟨Ao14, co14, eo14⟩ := Kd.R_slice HO688.out; subst eo14) | ((with_reducible refine gate_callee (f := 25) rfl ?_); refine gL 20 Try.func25 #[.slice Ao13 t683.length co13, .slice Ao14 t686.length co14] ?_; (with_reducible refine (shares_Power.calls k (fun k_ => some k_ = (.slice Ao13 t683.length co13 : Value).ownBlock) _ _ t683 (fun k_ => some k_ = (.slice Ao14 t686.length co14 : Value).ownBlock) _ _ t686 t689 t690 _ ?side1 ?side2 A6.out).mono ?_); (case side1 => exact Kd.R_V (Kd.R_tight rfl (HO685.out))); (case side2 => exact Kd.R_V (Kd.R_tight rfl (HO688.out))); rintro e w15 ⟨rfl, hb⟩; refine ⟨_, rfl, ?_⟩; replace HO685 := kO HO685 hb; replace HO688 := kO HO688 hb; replace HB := kH _ hb; (try clear hb); (try clear hb2); (try clear hk); (try clear hi)) | ((with_reducible refine gate_callee (f := 18) rfl ?_); refine gL 25 Try.func18 #[.slice A1 l1.length c1] ?_; (with_reducible refine (congoulaw01_list.calls _ _ l1 t691 _ ?side1 ?side2 A7.out).mono ?_); (case side1 => exact kC HR1); (case side2 => exact HC1.out); rintro e w16 ⟨v692, rfl, ho0, hb⟩; refine ⟨_, rfl, ?_⟩; have HO693 := ak (Kd.R_lower (Kd.R_new' (Kd.R_new' ho0 (Kd.R_lt (rC HO685))) (Kd.R_lt (rC HO688))) (below_size (hbC _))); replace HO685 := ak (Kd.R_elder' (rC HO685) (Kd.R_base ho0) hb); replace HO688 := ak (Kd.R_elder' (rC HO688) (Kd.R_base ho0) hb); replace HB := kH _ hb; (try clear hb); (try clear hb2); (try clear hk); (try clear hi); (try clear ho0)) | ((with_reducible refine gate_callee (f := 18) rfl ?_); refine gL 27 Try.func18 #[.slice A2 l2.length c2] ?_; (with_reducible refine (congoulaw01_list.calls _ _ l2 t694 _ ?side1 ?side2 A8.out).mono ?_); (case side1 => exact kC HR2); (case side2 => exact HC2.out); rintro e w17 ⟨v695, rfl, ho0, hb⟩; refine ⟨_, rfl, ?_⟩; have HO696 := ak (Kd.R_lower (Kd.R_new' (Kd.R_new' (Kd.R_new' ho0 (Kd.R_lt (rC HO685))) (Kd.R_lt (rC HO688))) (Kd.R_lt (rC HO693))) (below_size (hbC _))); replace HO685 := ak (Kd.R_elder' (rC HO685) (Kd.R_base ho0) hb); replace HO688 := ak (Kd.R_elder' (rC HO688) (Kd.R_base ho0) hb); replace HO693 := ak (Kd.R_elder' (rC HO693) (Kd.R_base ho0) hb); replace HB := kH _ hb; (try clear hb); (try clear hb2); (try clear hk); (try clear hi); (try clear ho0); obtain ⟨Ao18, co18, eo18⟩ := Kd.R_slice HO693.out; subst eo18; obtain ⟨Ao19, co19, eo19⟩ := Kd.R_slice HO696.out; subst eo19) | ((with_reducible refine gate_callee (f := 25) rfl ?_); refine gL 28 Try.func25 #[.slice Ao18 t691.length co18, .slice Ao19 t694.length co19] ?_; (with_reducible refine (shares_Power.calls k (fun k_ => some k_ = (.slice Ao18 t691.length co18 : Value).ownBlock) _ _ t691 (fun k_ => some k_ = (.slice Ao19 t694.length co19 : Value).ownBlock) _ _ t694 t697 t698 _ ?side1 ?side2 A9.out).mono ?_); (case side1 => exact Kd.R_V (Kd.R_tight rfl (HO693.out))); (case side2 => exact Kd.R_V (Kd.R_tight rfl (HO696.out))); rintro e w20 ⟨rfl, hb⟩; refine ⟨_, rfl, ?_⟩; replace HO685 := kO HO685 hb; replace HO688 := kO HO688 hb; replace HO693 := kO HO693 hb; replace HO696 := kO HO696 hb; replace HB := kH _ hb; (try clear hb); (try clear hb2); (try clear hk); (try clear hi)))
 (try simp only [Act.put, List.setIfInBounds_toArray, List.set_cons_zero, List.set_cons_succ])
 go_cut [48] (fun v48 wc => ∃ (kq : Nat) (x48_9 : Bool), v48 = .bool x48_9 ∧ Aside0 (congoulaw01_SharesMuirhead.j0 kq l0 l1 t689 t690 t697 t698 x48_9 = some r) ∧ Aside0 (kq ≤ k) ∧ Aside0 (Below w.heap.size w wc))
 case first =>
  have H := HC10.out
  clear HC10
  by_cases c21 : t690 = 0
  rotate_left
  ·rw [if_neg c21] at H
   have c21b0 : (t690 == 0) = false := beq_eq_false_iff_ne.mpr c21
   have c21b1 : (t690 != 0) = true := bne_iff_ne.mpr c21
   (first | rw [c21b0] | (simp only [i64_w, i32_w]; rw [c21b0]) | skip)
   have H' := Aside0.mk H
   clear H
   go_wp2
   go_meet
   case rel => exact ⟨_, (true), (by first | rfl | (simp; done) | (simp [*]; done)), H', ⟨by first | omega | exact Nat.le_refl _⟩, ⟨hbC _⟩⟩
  rw [if_pos c21] at H
  have c21b0 : (t690 == 0) = true := beq_iff_eq.mpr c21
  have c21b1 : (t690 != 0) = false := bne_eq_false_iff_eq.mpr c21
  clear c21
  (first | rw [c21b0] | (simp only [i64_w, i32_w]; rw [c21b0]) | skip)
  by_cases c22 : t698 = 0
  rotate_left
  ·rw [if_neg c22] at H
   have c22b0 : (t698 == 0) = false := beq_eq_false_iff_ne.mpr c22
   have c22b1 : (t698 != 0) = true := bne_iff_ne.mpr c22
   have H' := Aside0.mk H
   clear H
   go_wp2
   go_meet
   case rel => exact ⟨_, (true), (by first | rfl | (simp; done) | (simp [*]; done)), H', ⟨by first | omega | exact Nat.le_refl _⟩, ⟨hbC _⟩⟩
  rw [if_pos c22] at H
  have c22b0 : (t698 == 0) = true := beq_iff_eq.mpr c22
  have c22b1 : (t698 != 0) = false := bne_eq_false_iff_eq.mpr c22
  clear c22
  replace H := Option.bind_eq_some_iff.mp H
  obtain ⟨t699, A230, H⟩ := H
  replace H : (if t699 = true then ((congouref01_Few.f k l1 l2).bind fun t700 => (congoulaw01_SharesMuirhead.j0 k l0 l1 t689 t690 t697 t698 (!t700))) else (congoulaw01_SharesMuirhead.j0 k l0 l1 t689 t690 t697 t698 true)) = some r := H
  have A23 := Aside0.mk A230
  clear A230
  by_cases c24 : t699 = true
  rotate_left
  ·replace c24 := Bool.eq_false_iff.mpr c24
   subst c24
   have H1 : (congoulaw01_SharesMuirhead.j0 k l0 l1 t689 t690 t697 t698 true) = some r := by rw [if_neg (show ¬ (false = true) by decide)] at H; exact H
   clear H
   have H := H1
   clear H1
   have H' := Aside0.mk H
   clear H
   go_wp2_with (first | (go_at_call 26; (with_reducible refine (congouref01_Few.calls k _ _ l0 _ _ l2 false _ ?side1 ?side2 ?side3 ?side4 A23.out).mono ?_); (case side1 => exact kC HR0); (case side2 => exact HC0.out); (case side3 => exact kC HR2); (case side4 => exact HC2.out); rintro e w' ⟨rfl, ⟨nd, rfl⟩⟩))
   go_meet
   case rel => exact ⟨_, (true), (by first | rfl | (simp; done) | (simp [*]; done)), H', ⟨by first | omega | exact Nat.le_refl _⟩, ⟨hbC _⟩⟩
  subst c24
  have H1 : ((congouref01_Few.f k l1 l2).bind fun t700 => (congoulaw01_SharesMuirhead.j0 k l0 l1 t689 t690 t697 t698 (!t700))) = some r := by rw [if_pos rfl] at H; exact H
  clear H
  have H := H1
  clear H1
  replace H := Option.bind_eq_some_iff.mp H
  obtain ⟨t700, A250, H⟩ := H
  replace H : (congoulaw01_SharesMuirhead.j0 k l0 l1 t689 t690 t697 t698 (!t700)) = some r := H
  have A25 := Aside0.mk A250
  clear A250
  have H' := Aside0.mk H
  clear H
  go_wp2_with (first | (go_at_call 26; (with_reducible refine (congouref01_Few.calls k _ _ l0 _ _ l2 true _ ?side1 ?side2 ?side3 ?side4 A23.out).mono ?_); (case side1 => exact kC HR0); (case side2 => exact HC0.out); (case side3 => exact kC HR2); (case side4 => exact HC2.out); rintro e w' ⟨rfl, ⟨nd, rfl⟩⟩) | (go_at_call 26; (with_reducible refine (congouref01_Few.calls k _ _ l1 _ _ l2 t700 _ ?side1 ?side2 ?side3 ?side4 A25.out).mono ?_); (case side1 => repeat (first | exact (Kd.C_below HR1.out (hbC _)) | (with_reducible refine Kd.C_alloc ?_ _) | (with_reducible refine Kd.C_drewN ?_ _) | (with_reducible refine Kd.C_drew ?_))); (case side2 => exact HC1.out); (case side3 => repeat (first | exact (Kd.C_below HR2.out (hbC _)) | (with_reducible refine Kd.C_alloc ?_ _) | (with_reducible refine Kd.C_drewN ?_ _) | (with_reducible refine Kd.C_drew ?_))); (case side4 => exact HC2.out); rintro e w' ⟨rfl, ⟨nd, rfl⟩⟩))
  go_meet
  case rel => exact ⟨_, (!t700), (by first | rfl | (simp; done) | (simp [*]; done)), H', ⟨by first | omega | exact Nat.le_refl _⟩, ⟨hbC _⟩⟩
 case rest =>
  clear HC10
  try clear c1
  try clear c2
  try clear p2
  try clear c5
  try clear c18
  try clear c21
  try clear c21b0
  try clear c21b1
  try clear c22
  try clear c22b0
  try clear c22b1
  try clear c24
  try clear c25
  obtain ⟨kq, x48_9, rfl, HA, HJ9, HB⟩ := hcut
  cases kq with
  | zero => exact absurd HA.out (by simp [congoulaw01_SharesMuirhead.j0])
  | succ kj9 =>
   have H := HA.out
   clear HA
   simp only [congoulaw01_SharesMuirhead.j0] at H
   by_cases c26 : x48_9 = true
   ·subst c26
    have H1 : (if t690 = 2 then ((congoulaw01_awake.f kj9).bind fun t701 => (some t701)) else (if t698 = 2 then ((congoulaw01_awake.f kj9).bind fun t702 => (some t702)) else (some false))) = some r := by rw [if_pos rfl] at H; exact H
    clear H
    have H := H1
    clear H1
    by_cases c27 : t690 = 2
    ·rw [if_pos c27] at H
     have c27b0 : (t690 == 2) = true := beq_iff_eq.mpr c27
     have c27b1 : (t690 != 2) = false := bne_eq_false_iff_eq.mpr c27
     clear c27
     replace H := Option.bind_eq_some_iff.mp H
     obtain ⟨t701, A280, H⟩ := H
     replace H : (some t701) = some r := H
     have A28 := Aside0.mk A280
     clear A280
     obtain rfl := Option.some.inj H
     go_wp2_with (first | (go_at_call 21; (with_reducible refine (congoulaw01_awake.calls kj9  t701 _ A28.out).mono ?_); rintro e w29 ⟨rfl, hb⟩; replace HB := kH _ hb; (try clear hb); (try clear hb2); (try clear hk); (try clear hi)))
     go_ret
     exact ⟨by first | rfl | (simp [errW_none, errW_some] <;> rfl) | (simp [*, errW_none, errW_some] <;> rfl), hbC _⟩
    rw [if_neg c27] at H
    have c27b0 : (t690 == 2) = false := beq_eq_false_iff_ne.mpr c27
    have c27b1 : (t690 != 2) = true := bne_iff_ne.mpr c27
    by_cases c30 : t698 = 2
    rotate_left
    ·rw [if_neg c30] at H
     have c30b0 : (t698 == 2) = false := beq_eq_false_iff_ne.mpr c30
     have c30b1 : (t698 != 2) = true := bne_iff_ne.mpr c30
     exact absurd (H.trans (congrArg some HRT.out)) (by simp)
    rw [if_pos c30] at H
    have c30b0 : (t698 == 2) = true := beq_iff_eq.mpr c30
    have c30b1 : (t698 != 2) = false := bne_eq_false_iff_eq.mpr c30
    clear c30
    replace H := Option.bind_eq_some_iff.mp H
    obtain ⟨t702, A310, H⟩ := H
    replace H : (some t702) = some r := H
    have A31 := Aside0.mk A310
    clear A310
    obtain rfl := Option.some.inj H
    go_wp2_with (first | (go_at_call 21; (with_reducible refine (congoulaw01_awake.calls kj9  t702 _ A31.out).mono ?_); rintro e w32 ⟨rfl, hb⟩; replace HB := kH _ hb; (try clear hb); (try clear hb2); (try clear hk); (try clear hi)))
    go_ret
    exact ⟨by first | rfl | (simp [errW_none, errW_some] <;> rfl) | (simp [*, errW_none, errW_some] <;> rfl), hbC _⟩
   replace c26 := Bool.eq_false_iff.mpr c26
   subst c26
   have H1 : ((congoulaw01_list.f l0).bind fun t703 => ((congoulaw01_list.f l1).bind fun t706 => ((shares_Uneven.f kj9 t703 t706).bind fun bt709 => ((congoulaw01_list.f l1).bind fun t711 => ((congoulaw01_list.f l0).bind fun t714 => ((shares_Uneven.f kj9 t711 t714).bind fun bt717 => (if bt709.2 = 0 then (if bt717.2 = 0 then (if bt709.1 = true then (if t689 ≥ t697 then (if bt717.1 = true then (if t689 ≤ t697 then ((congoulaw01_awake.f kj9).bind fun t719 => (some t719)) else (some false)) else ((congoulaw01_awake.f kj9).bind fun t720 => (some t720))) else (some false)) else (if bt717.1 = true then (if t689 ≤ t697 then ((congoulaw01_awake.f kj9).bind fun t721 => (some t721)) else (some false)) else ((congoulaw01_awake.f kj9).bind fun t722 => (some t722)))) else (some false)) else (some false)))))))) = some r := by rw [if_neg (show ¬ (false = true) by decide)] at H; exact H
   clear H
   have H := H1
   clear H1
   replace H := Option.bind_eq_some_iff.mp H
   obtain ⟨t703, A330, H⟩ := H
   replace H : ((congoulaw01_list.f l1).bind fun t706 => ((shares_Uneven.f kj9 t703 t706).bind fun bt709 => ((congoulaw01_list.f l1).bind fun t711 => ((congoulaw01_list.f l0).bind fun t714 => ((shares_Uneven.f kj9 t711 t714).bind fun bt717 => (if bt709.2 = 0 then (if bt717.2 = 0 then (if bt709.1 = true then (if t689 ≥ t697 then (if bt717.1 = true then (if t689 ≤ t697 then ((congoulaw01_awake.f kj9).bind fun t719 => (some t719)) else (some false)) else ((congoulaw01_awake.f kj9).bind fun t720 => (some t720))) else (some false)) else (if bt717.1 = true then (if t689 ≤ t697 then ((congoulaw01_awake.f kj9).bind fun t721 => (some t721)) else (some false)) else ((congoulaw01_awake.f kj9).bind fun t722 => (some t722)))) else (some false)) else (some false))))))) = some r := H
   have A33 := Aside0.mk A330
   clear A330
   replace H := Option.bind_eq_some_iff.mp H
   obtain ⟨t706, A340, H⟩ := H
   replace H : ((shares_Uneven.f kj9 t703 t706).bind fun bt709 => ((congoulaw01_list.f l1).bind fun t711 => ((congoulaw01_list.f l0).bind fun t714 => ((shares_Uneven.f kj9 t711 t714).bind fun bt717 => (if bt709.2 = 0 then (if bt717.2 = 0 then (if bt709.1 = true then (if t689 ≥ t697 then (if bt717.1 = true then (if t689 ≤ t697 then ((congoulaw01_awake.f kj9).bind fun t719 => (some t719)) else (some false)) else ((congoulaw01_awake.f kj9).bind fun t720 => (some t720))) else (some false)) else (if bt717.1 = true then (if t689 ≤ t697 then ((congoulaw01_awake.f kj9).bind fun t721 => (some t721)) else (some false)) else ((congoulaw01_awake.f kj9).bind fun t722 => (some t722)))) else (some false)) else (some false)))))) = some r := H
   have A34 := Aside0.mk A340
   clear A340
   replace H := Option.bind_eq_some_iff.mp H
   obtain ⟨⟨t709, t710⟩, A350, H⟩ := H
   replace H : ((congoulaw01_list.f l1).bind fun t711 => ((congoulaw01_list.f l0).bind fun t714 => ((shares_Uneven.f kj9 t711 t714).bind fun bt717 => (if t710 = 0 then (if bt717.2 = 0 then (if t709 = true then (if t689 ≥ t697 then (if bt717.1 = true then (if t689 ≤ t697 then ((congoulaw01_awake.f kj9).bind fun t719 => (some t719)) else (some false)) else ((congoulaw01_awake.f kj9).bind fun t720 => (some t720))) else (some false)) else (if bt717.1 = true then (if t689 ≤ t697 then ((congoulaw01_awake.f kj9).bind fun t721 => (some t721)) else (some false)) else ((congoulaw01_awake.f kj9).bind fun t722 => (some t722)))) else (some false)) else (some false))))) = some r := H
   have A35 := Aside0.mk A350
   clear A350
   replace H := Option.bind_eq_some_iff.mp H
   obtain ⟨t711, A360, H⟩ := H
   replace H : ((congoulaw01_list.f l0).bind fun t714 => ((shares_Uneven.f kj9 t711 t714).bind fun bt717 => (if t710 = 0 then (if bt717.2 = 0 then (if t709 = true then (if t689 ≥ t697 then (if bt717.1 = true then (if t689 ≤ t697 then ((congoulaw01_awake.f kj9).bind fun t719 => (some t719)) else (some false)) else ((congoulaw01_awake.f kj9).bind fun t720 => (some t720))) else (some false)) else (if bt717.1 = true then (if t689 ≤ t697 then ((congoulaw01_awake.f kj9).bind fun t721 => (some t721)) else (some false)) else ((congoulaw01_awake.f kj9).bind fun t722 => (some t722)))) else (some false)) else (some false)))) = some r := H
   have A36 := Aside0.mk A360
   clear A360
   replace H := Option.bind_eq_some_iff.mp H
   obtain ⟨t714, A370, H⟩ := H
   replace H : ((shares_Uneven.f kj9 t711 t714).bind fun bt717 => (if t710 = 0 then (if bt717.2 = 0 then (if t709 = true then (if t689 ≥ t697 then (if bt717.1 = true then (if t689 ≤ t697 then ((congoulaw01_awake.f kj9).bind fun t719 => (some t719)) else (some false)) else ((congoulaw01_awake.f kj9).bind fun t720 => (some t720))) else (some false)) else (if bt717.1 = true then (if t689 ≤ t697 then ((congoulaw01_awake.f kj9).bind fun t721 => (some t721)) else (some false)) else ((congoulaw01_awake.f kj9).bind fun t722 => (some t722)))) else (some false)) else (some false))) = some r := H
   have A37 := Aside0.mk A370
   clear A370
   replace H := Option.bind_eq_some_iff.mp H
   obtain ⟨⟨t717, t718⟩, A380, H⟩ := H
   replace H : (if t710 = 0 then (if t718 = 0 then (if t709 = true then (if t689 ≥ t697 then (if t717 = true then (if t689 ≤ t697 then ((congoulaw01_awake.f kj9).bind fun t719 => (some t719)) else (some false)) else ((congoulaw01_awake.f kj9).bind fun t720 => (some t720))) else (some false)) else (if t717 = true then (if t689 ≤ t697 then ((congoulaw01_awake.f kj9).bind fun t721 => (some t721)) else (some false)) else ((congoulaw01_awake.f kj9).bind fun t722 => (some t722)))) else (some false)) else (some false)) = some r := H
   have A38 := Aside0.mk A380
   clear A380
   by_cases c39 : t710 = 0
   rotate_left
   ·rw [if_neg c39] at H
    have c39b0 : (t710 == 0) = false := beq_eq_false_iff_ne.mpr c39
    have c39b1 : (t710 != 0) = true := bne_iff_ne.mpr c39
    exact absurd (H.trans (congrArg some HRT.out)) (by simp)
   rw [if_pos c39] at H
   have c39b0 : (t710 == 0) = true := beq_iff_eq.mpr c39
   have c39b1 : (t710 != 0) = false := bne_eq_false_iff_eq.mpr c39
   clear c39
   by_cases c40 : t718 = 0
   rotate_left
   ·rw [if_neg c40] at H
    have c40b0 : (t718 == 0) = false := beq_eq_false_iff_ne.mpr c40
    have c40b1 : (t718 != 0) = true := bne_iff_ne.mpr c40
    exact absurd (H.trans (congrArg some HRT.out)) (by simp)
   rw [if_pos c40] at H
   have c40b0 : (t718 == 0) = true := beq_iff_eq.mpr c40
   have c40b1 : (t718 != 0) = false := bne_eq_false_iff_eq.mpr c40
   clear c40
   by_cases c41 : t709 = true
   rotate_left
   ·replace c41 := Bool.eq_false_iff.mpr c41
    subst c41
    have H1 : (if t717 = true then (if t689 ≤ t697 then ((congoulaw01_awake.f kj9).bind fun t721 => (some t721)) else (some false)) else ((congoulaw01_awake.f kj9).bind fun t722 => (some t722))) = some r := by rw [if_neg (show ¬ (false = true) by decide)] at H; exact H
    clear H
    have H := H1
    clear H1
    by_cases c69 : t717 = true
    rotate_left
    ·replace c69 := Bool.eq_false_iff.mpr c69
     subst c69
     have H1 : ((congoulaw01_awake.f kj9).bind fun t722 => (some t722)) = some r := by rw [if_neg (show ¬ (false = true) by decide)] at H; exact H
     clear H
     have H := H1
     clear H1
     replace H := Option.bind_eq_some_iff.mp H
     obtain ⟨t722, A830, H⟩ := H
     replace H : (some t722) = some r := H
     have A83 := Aside0.mk A830
     clear A830
     obtain rfl := Option.some.inj H
     go_wp2_with (first | ((with_reducible refine gate_callee (f := 18) rfl ?_); refine gL 60 Try.func18 #[.slice A0 l0.length c0] ?_; (with_reducible refine (congoulaw01_list.calls _ _ l0 t703 _ ?side1 ?side2 A33.out).mono ?_); (case side1 => exact kC HR0); (case side2 => exact HC0.out); rintro e w84 ⟨v704, rfl, ho0, hb⟩; refine ⟨_, rfl, ?_⟩; have HO705 := ak (Kd.R_lower ho0 (below_size (hbC _))); replace HB := kH _ hb; (try clear hb); (try clear hb2); (try clear hk); (try clear hi); (try clear ho0)) | ((with_reducible refine gate_callee (f := 18) rfl ?_); refine gL 62 Try.func18 #[.slice A1 l1.length c1] ?_; (with_reducible refine (congoulaw01_list.calls _ _ l1 t706 _ ?side1 ?side2 A34.out).mono ?_); (case side1 => exact kC HR1); (case side2 => exact HC1.out); rintro e w85 ⟨v707, rfl, ho0, hb⟩; refine ⟨_, rfl, ?_⟩; have HO708 := ak (Kd.R_lower (Kd.R_new' ho0 (Kd.R_lt (rC HO705))) (below_size (hbC _))); replace HO705 := ak (Kd.R_elder' (rC HO705) (Kd.R_base ho0) hb); replace HB := kH _ hb; (try clear hb); (try clear hb2); (try clear hk); (try clear hi); (try clear ho0); obtain ⟨Ao86, co86, eo86⟩ := Kd.R_slice HO705.out; subst eo86; obtain ⟨Ao87, co87, eo87⟩ := Kd.R_slice HO708.out; subst eo87) | ((with_reducible refine gate_callee (f := 17) rfl ?_); refine gL 63 Try.func17 #[.slice Ao86 t703.length co86, .slice Ao87 t706.length co87] ?_; (with_reducible refine (shares_Uneven.calls kj9 (fun k_ => some k_ = (.slice Ao86 t703.length co86 : Value).ownBlock) _ _ t703 (fun k_ => some k_ = (.slice Ao87 t706.length co87 : Value).ownBlock) _ _ t706 false t710 _ ?side1 ?side2 A35.out).mono ?_); (case side1 => exact Kd.R_V (Kd.R_tight rfl (HO705.out))); (case side2 => exact Kd.R_V (Kd.R_tight rfl (HO708.out))); rintro e w88 ⟨rfl, hb⟩; refine ⟨_, rfl, ?_⟩; replace HO705 := kO HO705 hb; replace HO708 := kO HO708 hb; replace HB := kH _ hb; (try clear hb); (try clear hb2); (try clear hk); (try clear hi)) | ((with_reducible refine gate_callee (f := 18) rfl ?_); refine gL 68 Try.func18 #[.slice A1 l1.length c1] ?_; (with_reducible refine (congoulaw01_list.calls _ _ l1 t711 _ ?side1 ?side2 A36.out).mono ?_); (case side1 => exact kC HR1); (case side2 => exact HC1.out); rintro e w89 ⟨v712, rfl, ho0, hb⟩; refine ⟨_, rfl, ?_⟩; have HO713 := ak (Kd.R_lower (Kd.R_new' (Kd.R_new' ho0 (Kd.R_lt (rC HO705))) (Kd.R_lt (rC HO708))) (below_size (hbC _))); replace HO705 := ak (Kd.R_elder' (rC HO705) (Kd.R_base ho0) hb); replace HO708 := ak (Kd.R_elder' (rC HO708) (Kd.R_base ho0) hb); replace HB := kH _ hb; (try clear hb); (try clear hb2); (try clear hk); (try clear hi); (try clear ho0)) | ((with_reducible refine gate_callee (f := 18) rfl ?_); refine gL 70 Try.func18 #[.slice A0 l0.length c0] ?_; (with_reducible refine (congoulaw01_list.calls _ _ l0 t714 _ ?side1 ?side2 A37.out).mono ?_); (case side1 => exact kC HR0); (case side2 => exact HC0.out); rintro e w90 ⟨v715, rfl, ho0, hb⟩; refine ⟨_, rfl, ?_⟩; have HO716 := ak (Kd.R_lower (Kd.R_new' (Kd.R_new' (Kd.R_new' ho0 (Kd.R_lt (rC HO705))) (Kd.R_lt (rC HO708))) (Kd.R_lt (rC HO713))) (below_size (hbC _))); replace HO705 := ak (Kd.R_elder' (rC HO705) (Kd.R_base ho0) hb); replace HO708 := ak (Kd.R_elder' (rC HO708) (Kd.R_base ho0) hb); replace HO713 := ak (Kd.R_elder' (rC HO713) (Kd.R_base ho0) hb); replace HB := kH _ hb; (try clear hb); (try clear hb2); (try clear hk); (try clear hi); (try clear ho0); obtain ⟨Ao91, co91, eo91⟩ := Kd.R_slice HO713.out; subst eo91; obtain ⟨Ao92, co92, eo92⟩ := Kd.R_slice HO716.out; subst eo92) | ((with_reducible refine gate_callee (f := 17) rfl ?_); refine gL 71 Try.func17 #[.slice Ao91 t711.length co91, .slice Ao92 t714.length co92] ?_; (with_reducible refine (shares_Uneven.calls kj9 (fun k_ => some k_ = (.slice Ao91 t711.length co91 : Value).ownBlock) _ _ t711 (fun k_ => some k_ = (.slice Ao92 t714.length co92 : Value).ownBlock) _ _ t714 false t718 _ ?side1 ?side2 A38.out).mono ?_); (case side1 => exact Kd.R_V (Kd.R_tight rfl (HO713.out))); (case side2 => exact Kd.R_V (Kd.R_tight rfl (HO716.out))); rintro e w93 ⟨rfl, hb⟩; refine ⟨_, rfl, ?_⟩; replace HO705 := kO HO705 hb; replace HO708 := kO HO708 hb; replace HO713 := kO HO713 hb; replace HO716 := kO HO716 hb; replace HB := kH _ hb; (try clear hb); (try clear hb2); (try clear hk); (try clear hi)) | (go_at_call 21; (with_reducible refine (congoulaw01_awake.calls kj9  t722 _ A83.out).mono ?_); rintro e w94 ⟨rfl, hb⟩; replace HO705 := kO HO705 hb; replace HO708 := kO HO708 hb; replace HO713 := kO HO713 hb; replace HO716 := kO HO716 hb; replace HB := kH _ hb; (try clear hb); (try clear hb2); (try clear hk); (try clear hi)))
     go_ret
     exact ⟨by first | rfl | (simp [errW_none, errW_some] <;> rfl) | (simp [*, errW_none, errW_some] <;> rfl), hbC _⟩
    subst c69
    have H1 : (if t689 ≤ t697 then ((congoulaw01_awake.f kj9).bind fun t721 => (some t721)) else (some false)) = some r := by rw [if_pos rfl] at H; exact H
    clear H
    have H := H1
    clear H1
    by_cases c70 : t689 ≤ t697
    rotate_left
    ·rw [if_neg c70] at H
     have c70b0 : decide (t689 ≤ t697) = false := decide_eq_false c70
     clear c70
     exact absurd (H.trans (congrArg some HRT.out)) (by simp)
    rw [if_pos c70] at H
    have c70b0 : decide (t689 ≤ t697) = true := decide_eq_true c70
    clear c70
    replace H := Option.bind_eq_some_iff.mp H
    obtain ⟨t721, A710, H⟩ := H
    replace H : (some t721) = some r := H
    have A71 := Aside0.mk A710
    clear A710
    obtain rfl := Option.some.inj H
    go_wp2_with (first | ((with_reducible refine gate_callee (f := 18) rfl ?_); refine gL 60 Try.func18 #[.slice A0 l0.length c0] ?_; (with_reducible refine (congoulaw01_list.calls _ _ l0 t703 _ ?side1 ?side2 A33.out).mono ?_); (case side1 => exact kC HR0); (case side2 => exact HC0.out); rintro e w72 ⟨v704, rfl, ho0, hb⟩; refine ⟨_, rfl, ?_⟩; have HO705 := ak (Kd.R_lower ho0 (below_size (hbC _))); replace HB := kH _ hb; (try clear hb); (try clear hb2); (try clear hk); (try clear hi); (try clear ho0)) | ((with_reducible refine gate_callee (f := 18) rfl ?_); refine gL 62 Try.func18 #[.slice A1 l1.length c1] ?_; (with_reducible refine (congoulaw01_list.calls _ _ l1 t706 _ ?side1 ?side2 A34.out).mono ?_); (case side1 => exact kC HR1); (case side2 => exact HC1.out); rintro e w73 ⟨v707, rfl, ho0, hb⟩; refine ⟨_, rfl, ?_⟩; have HO708 := ak (Kd.R_lower (Kd.R_new' ho0 (Kd.R_lt (rC HO705))) (below_size (hbC _))); replace HO705 := ak (Kd.R_elder' (rC HO705) (Kd.R_base ho0) hb); replace HB := kH _ hb; (try clear hb); (try clear hb2); (try clear hk); (try clear hi); (try clear ho0); obtain ⟨Ao74, co74, eo74⟩ := Kd.R_slice HO705.out; subst eo74; obtain ⟨Ao75, co75, eo75⟩ := Kd.R_slice HO708.out; subst eo75) | ((with_reducible refine gate_callee (f := 17) rfl ?_); refine gL 63 Try.func17 #[.slice Ao74 t703.length co74, .slice Ao75 t706.length co75] ?_; (with_reducible refine (shares_Uneven.calls kj9 (fun k_ => some k_ = (.slice Ao74 t703.length co74 : Value).ownBlock) _ _ t703 (fun k_ => some k_ = (.slice Ao75 t706.length co75 : Value).ownBlock) _ _ t706 false t710 _ ?side1 ?side2 A35.out).mono ?_); (case side1 => exact Kd.R_V (Kd.R_tight rfl (HO705.out))); (case side2 => exact Kd.R_V (Kd.R_tight rfl (HO708.out))); rintro e w76 ⟨rfl, hb⟩; refine ⟨_, rfl, ?_⟩; replace HO705 := kO HO705 hb; replace HO708 := kO HO708 hb; replace HB := kH _ hb; (try clear hb); (try clear hb2); (try clear hk); (try clear hi)) | ((with_reducible refine gate_callee (f := 18) rfl ?_); refine gL 68 Try.func18 #[.slice A1 l1.length c1] ?_; (with_reducible refine (congoulaw01_list.calls _ _ l1 t711 _ ?side1 ?side2 A36.out).mono ?_); (case side1 => exact kC HR1); (case side2 => exact HC1.out); rintro e w77 ⟨v712, rfl, ho0, hb⟩; refine ⟨_, rfl, ?_⟩; have HO713 := ak (Kd.R_lower (Kd.R_new' (Kd.R_new' ho0 (Kd.R_lt (rC HO705))) (Kd.R_lt (rC HO708))) (below_size (hbC _))); replace HO705 := ak (Kd.R_elder' (rC HO705) (Kd.R_base ho0) hb); replace HO708 := ak (Kd.R_elder' (rC HO708) (Kd.R_base ho0) hb); replace HB := kH _ hb; (try clear hb); (try clear hb2); (try clear hk); (try clear hi); (try clear ho0)) | ((with_reducible refine gate_callee (f := 18) rfl ?_); refine gL 70 Try.func18 #[.slice A0 l0.length c0] ?_; (with_reducible refine (congoulaw01_list.calls _ _ l0 t714 _ ?side1 ?side2 A37.out).mono ?_); (case side1 => exact kC HR0); (case side2 => exact HC0.out); rintro e w78 ⟨v715, rfl, ho0, hb⟩; refine ⟨_, rfl, ?_⟩; have HO716 := ak (Kd.R_lower (Kd.R_new' (Kd.R_new' (Kd.R_new' ho0 (Kd.R_lt (rC HO705))) (Kd.R_lt (rC HO708))) (Kd.R_lt (rC HO713))) (below_size (hbC _))); replace HO705 := ak (Kd.R_elder' (rC HO705) (Kd.R_base ho0) hb); replace HO708 := ak (Kd.R_elder' (rC HO708) (Kd.R_base ho0) hb); replace HO713 := ak (Kd.R_elder' (rC HO713) (Kd.R_base ho0) hb); replace HB := kH _ hb; (try clear hb); (try clear hb2); (try clear hk); (try clear hi); (try clear ho0); obtain ⟨Ao79, co79, eo79⟩ := Kd.R_slice HO713.out; subst eo79; obtain ⟨Ao80, co80, eo80⟩ := Kd.R_slice HO716.out; subst eo80) | ((with_reducible refine gate_callee (f := 17) rfl ?_); refine gL 71 Try.func17 #[.slice Ao79 t711.length co79, .slice Ao80 t714.length co80] ?_; (with_reducible refine (shares_Uneven.calls kj9 (fun k_ => some k_ = (.slice Ao79 t711.length co79 : Value).ownBlock) _ _ t711 (fun k_ => some k_ = (.slice Ao80 t714.length co80 : Value).ownBlock) _ _ t714 true t718 _ ?side1 ?side2 A38.out).mono ?_); (case side1 => exact Kd.R_V (Kd.R_tight rfl (HO713.out))); (case side2 => exact Kd.R_V (Kd.R_tight rfl (HO716.out))); rintro e w81 ⟨rfl, hb⟩; refine ⟨_, rfl, ?_⟩; replace HO705 := kO HO705 hb; replace HO708 := kO HO708 hb; replace HO713 := kO HO713 hb; replace HO716 := kO HO716 hb; replace HB := kH _ hb; (try clear hb); (try clear hb2); (try clear hk); (try clear hi)) | (go_at_call 21; (with_reducible refine (congoulaw01_awake.calls kj9  t721 _ A71.out).mono ?_); rintro e w82 ⟨rfl, hb⟩; replace HO705 := kO HO705 hb; replace HO708 := kO HO708 hb; replace HO713 := kO HO713 hb; replace HO716 := kO HO716 hb; replace HB := kH _ hb; (try clear hb); (try clear hb2); (try clear hk); (try clear hi)))
    go_ret
    exact ⟨by first | rfl | (simp [errW_none, errW_some] <;> rfl) | (simp [*, errW_none, errW_some] <;> rfl), hbC _⟩
   subst c41
   have H1 : (if t689 ≥ t697 then (if t717 = true then (if t689 ≤ t697 then ((congoulaw01_awake.f kj9).bind fun t719 => (some t719)) else (some false)) else ((congoulaw01_awake.f kj9).bind fun t720 => (some t720))) else (some false)) = some r := by rw [if_pos rfl] at H; exact H
   clear H
   have H := H1
   clear H1
   by_cases c42 : t689 ≥ t697
   rotate_left
   ·rw [if_neg c42] at H
    have c42b0 : decide (t697 ≤ t689) = false := decide_eq_false c42
    clear c42
    exact absurd (H.trans (congrArg some HRT.out)) (by simp)
   rw [if_pos c42] at H
   have c42b0 : decide (t697 ≤ t689) = true := decide_eq_true c42
   clear c42
   by_cases c43 : t717 = true
   rotate_left
   ·replace c43 := Bool.eq_false_iff.mpr c43
    subst c43
    have H1 : ((congoulaw01_awake.f kj9).bind fun t720 => (some t720)) = some r := by rw [if_neg (show ¬ (false = true) by decide)] at H; exact H
    clear H
    have H := H1
    clear H1
    replace H := Option.bind_eq_some_iff.mp H
    obtain ⟨t720, A570, H⟩ := H
    replace H : (some t720) = some r := H
    have A57 := Aside0.mk A570
    clear A570
    obtain rfl := Option.some.inj H
    go_wp2_with (first | ((with_reducible refine gate_callee (f := 18) rfl ?_); refine gL 60 Try.func18 #[.slice A0 l0.length c0] ?_; (with_reducible refine (congoulaw01_list.calls _ _ l0 t703 _ ?side1 ?side2 A33.out).mono ?_); (case side1 => exact kC HR0); (case side2 => exact HC0.out); rintro e w58 ⟨v704, rfl, ho0, hb⟩; refine ⟨_, rfl, ?_⟩; have HO705 := ak (Kd.R_lower ho0 (below_size (hbC _))); replace HB := kH _ hb; (try clear hb); (try clear hb2); (try clear hk); (try clear hi); (try clear ho0)) | ((with_reducible refine gate_callee (f := 18) rfl ?_); refine gL 62 Try.func18 #[.slice A1 l1.length c1] ?_; (with_reducible refine (congoulaw01_list.calls _ _ l1 t706 _ ?side1 ?side2 A34.out).mono ?_); (case side1 => exact kC HR1); (case side2 => exact HC1.out); rintro e w59 ⟨v707, rfl, ho0, hb⟩; refine ⟨_, rfl, ?_⟩; have HO708 := ak (Kd.R_lower (Kd.R_new' ho0 (Kd.R_lt (rC HO705))) (below_size (hbC _))); replace HO705 := ak (Kd.R_elder' (rC HO705) (Kd.R_base ho0) hb); replace HB := kH _ hb; (try clear hb); (try clear hb2); (try clear hk); (try clear hi); (try clear ho0); obtain ⟨Ao60, co60, eo60⟩ := Kd.R_slice HO705.out; subst eo60; obtain ⟨Ao61, co61, eo61⟩ := Kd.R_slice HO708.out; subst eo61) | ((with_reducible refine gate_callee (f := 17) rfl ?_); refine gL 63 Try.func17 #[.slice Ao60 t703.length co60, .slice Ao61 t706.length co61] ?_; (with_reducible refine (shares_Uneven.calls kj9 (fun k_ => some k_ = (.slice Ao60 t703.length co60 : Value).ownBlock) _ _ t703 (fun k_ => some k_ = (.slice Ao61 t706.length co61 : Value).ownBlock) _ _ t706 true t710 _ ?side1 ?side2 A35.out).mono ?_); (case side1 => exact Kd.R_V (Kd.R_tight rfl (HO705.out))); (case side2 => exact Kd.R_V (Kd.R_tight rfl (HO708.out))); rintro e w62 ⟨rfl, hb⟩; refine ⟨_, rfl, ?_⟩; replace HO705 := kO HO705 hb; replace HO708 := kO HO708 hb; replace HB := kH _ hb; (try clear hb); (try clear hb2); (try clear hk); (try clear hi)) | ((with_reducible refine gate_callee (f := 18) rfl ?_); refine gL 68 Try.func18 #[.slice A1 l1.length c1] ?_; (with_reducible refine (congoulaw01_list.calls _ _ l1 t711 _ ?side1 ?side2 A36.out).mono ?_); (case side1 => exact kC HR1); (case side2 => exact HC1.out); rintro e w63 ⟨v712, rfl, ho0, hb⟩; refine ⟨_, rfl, ?_⟩; have HO713 := ak (Kd.R_lower (Kd.R_new' (Kd.R_new' ho0 (Kd.R_lt (rC HO705))) (Kd.R_lt (rC HO708))) (below_size (hbC _))); replace HO705 := ak (Kd.R_elder' (rC HO705) (Kd.R_base ho0) hb); replace HO708 := ak (Kd.R_elder' (rC HO708) (Kd.R_base ho0) hb); replace HB := kH _ hb; (try clear hb); (try clear hb2); (try clear hk); (try clear hi); (try clear ho0)) | ((with_reducible refine gate_callee (f := 18) rfl ?_); refine gL 70 Try.func18 #[.slice A0 l0.length c0] ?_; (with_reducible refine (congoulaw01_list.calls _ _ l0 t714 _ ?side1 ?side2 A37.out).mono ?_); (case side1 => exact kC HR0); (case side2 => exact HC0.out); rintro e w64 ⟨v715, rfl, ho0, hb⟩; refine ⟨_, rfl, ?_⟩; have HO716 := ak (Kd.R_lower (Kd.R_new' (Kd.R_new' (Kd.R_new' ho0 (Kd.R_lt (rC HO705))) (Kd.R_lt (rC HO708))) (Kd.R_lt (rC HO713))) (below_size (hbC _))); replace HO705 := ak (Kd.R_elder' (rC HO705) (Kd.R_base ho0) hb); replace HO708 := ak (Kd.R_elder' (rC HO708) (Kd.R_base ho0) hb); replace HO713 := ak (Kd.R_elder' (rC HO713) (Kd.R_base ho0) hb); replace HB := kH _ hb; (try clear hb); (try clear hb2); (try clear hk); (try clear hi); (try clear ho0); obtain ⟨Ao65, co65, eo65⟩ := Kd.R_slice HO713.out; subst eo65; obtain ⟨Ao66, co66, eo66⟩ := Kd.R_slice HO716.out; subst eo66) | ((with_reducible refine gate_callee (f := 17) rfl ?_); refine gL 71 Try.func17 #[.slice Ao65 t711.length co65, .slice Ao66 t714.length co66] ?_; (with_reducible refine (shares_Uneven.calls kj9 (fun k_ => some k_ = (.slice Ao65 t711.length co65 : Value).ownBlock) _ _ t711 (fun k_ => some k_ = (.slice Ao66 t714.length co66 : Value).ownBlock) _ _ t714 false t718 _ ?side1 ?side2 A38.out).mono ?_); (case side1 => exact Kd.R_V (Kd.R_tight rfl (HO713.out))); (case side2 => exact Kd.R_V (Kd.R_tight rfl (HO716.out))); rintro e w67 ⟨rfl, hb⟩; refine ⟨_, rfl, ?_⟩; replace HO705 := kO HO705 hb; replace HO708 := kO HO708 hb; replace HO713 := kO HO713 hb; replace HO716 := kO HO716 hb; replace HB := kH _ hb; (try clear hb); (try clear hb2); (try clear hk); (try clear hi)) | (go_at_call 21; (with_reducible refine (congoulaw01_awake.calls kj9  t720 _ A57.out).mono ?_); rintro e w68 ⟨rfl, hb⟩; replace HO705 := kO HO705 hb; replace HO708 := kO HO708 hb; replace HO713 := kO HO713 hb; replace HO716 := kO HO716 hb; replace HB := kH _ hb; (try clear hb); (try clear hb2); (try clear hk); (try clear hi)))
    go_ret
    exact ⟨by first | rfl | (simp [errW_none, errW_some] <;> rfl) | (simp [*, errW_none, errW_some] <;> rfl), hbC _⟩
   subst c43
   have H1 : (if t689 ≤ t697 then ((congoulaw01_awake.f kj9).bind fun t719 => (some t719)) else (some false)) = some r := by rw [if_pos rfl] at H; exact H
   clear H
   have H := H1
   clear H1
   by_cases c44 : t689 ≤ t697
   rotate_left
   ·rw [if_neg c44] at H
    have c44b0 : decide (t689 ≤ t697) = false := decide_eq_false c44
    clear c44
    exact absurd (H.trans (congrArg some HRT.out)) (by simp)
   rw [if_pos c44] at H
   have c44b0 : decide (t689 ≤ t697) = true := decide_eq_true c44
   clear c44
   replace H := Option.bind_eq_some_iff.mp H
   obtain ⟨t719, A450, H⟩ := H
   replace H : (some t719) = some r := H
   have A45 := Aside0.mk A450
   clear A450
   obtain rfl := Option.some.inj H
   go_wp2_with (first | ((with_reducible refine gate_callee (f := 18) rfl ?_); refine gL 60 Try.func18 #[.slice A0 l0.length c0] ?_; (with_reducible refine (congoulaw01_list.calls _ _ l0 t703 _ ?side1 ?side2 A33.out).mono ?_); (case side1 => exact kC HR0); (case side2 => exact HC0.out); rintro e w46 ⟨v704, rfl, ho0, hb⟩; refine ⟨_, rfl, ?_⟩; have HO705 := ak (Kd.R_lower ho0 (below_size (hbC _))); replace HB := kH _ hb; (try clear hb); (try clear hb2); (try clear hk); (try clear hi); (try clear ho0)) | ((with_reducible refine gate_callee (f := 18) rfl ?_); refine gL 62 Try.func18 #[.slice A1 l1.length c1] ?_; (with_reducible refine (congoulaw01_list.calls _ _ l1 t706 _ ?side1 ?side2 A34.out).mono ?_); (case side1 => exact kC HR1); (case side2 => exact HC1.out); rintro e w47 ⟨v707, rfl, ho0, hb⟩; refine ⟨_, rfl, ?_⟩; have HO708 := ak (Kd.R_lower (Kd.R_new' ho0 (Kd.R_lt (rC HO705))) (below_size (hbC _))); replace HO705 := ak (Kd.R_elder' (rC HO705) (Kd.R_base ho0) hb); replace HB := kH _ hb; (try clear hb); (try clear hb2); (try clear hk); (try clear hi); (try clear ho0); obtain ⟨Ao48, co48, eo48⟩ := Kd.R_slice HO705.out; subst eo48; obtain ⟨Ao49, co49, eo49⟩ := Kd.R_slice HO708.out; subst eo49) | ((with_reducible refine gate_callee (f := 17) rfl ?_); refine gL 63 Try.func17 #[.slice Ao48 t703.length co48, .slice Ao49 t706.length co49] ?_; (with_reducible refine (shares_Uneven.calls kj9 (fun k_ => some k_ = (.slice Ao48 t703.length co48 : Value).ownBlock) _ _ t703 (fun k_ => some k_ = (.slice Ao49 t706.length co49 : Value).ownBlock) _ _ t706 true t710 _ ?side1 ?side2 A35.out).mono ?_); (case side1 => exact Kd.R_V (Kd.R_tight rfl (HO705.out))); (case side2 => exact Kd.R_V (Kd.R_tight rfl (HO708.out))); rintro e w50 ⟨rfl, hb⟩; refine ⟨_, rfl, ?_⟩; replace HO705 := kO HO705 hb; replace HO708 := kO HO708 hb; replace HB := kH _ hb; (try clear hb); (try clear hb2); (try clear hk); (try clear hi)) | ((with_reducible refine gate_callee (f := 18) rfl ?_); refine gL 68 Try.func18 #[.slice A1 l1.length c1] ?_; (with_reducible refine (congoulaw01_list.calls _ _ l1 t711 _ ?side1 ?side2 A36.out).mono ?_); (case side1 => exact kC HR1); (case side2 => exact HC1.out); rintro e w51 ⟨v712, rfl, ho0, hb⟩; refine ⟨_, rfl, ?_⟩; have HO713 := ak (Kd.R_lower (Kd.R_new' (Kd.R_new' ho0 (Kd.R_lt (rC HO705))) (Kd.R_lt (rC HO708))) (below_size (hbC _))); replace HO705 := ak (Kd.R_elder' (rC HO705) (Kd.R_base ho0) hb); replace HO708 := ak (Kd.R_elder' (rC HO708) (Kd.R_base ho0) hb); replace HB := kH _ hb; (try clear hb); (try clear hb2); (try clear hk); (try clear hi); (try clear ho0)) | ((with_reducible refine gate_callee (f := 18) rfl ?_); refine gL 70 Try.func18 #[.slice A0 l0.length c0] ?_; (with_reducible refine (congoulaw01_list.calls _ _ l0 t714 _ ?side1 ?side2 A37.out).mono ?_); (case side1 => exact kC HR0); (case side2 => exact HC0.out); rintro e w52 ⟨v715, rfl, ho0, hb⟩; refine ⟨_, rfl, ?_⟩; have HO716 := ak (Kd.R_lower (Kd.R_new' (Kd.R_new' (Kd.R_new' ho0 (Kd.R_lt (rC HO705))) (Kd.R_lt (rC HO708))) (Kd.R_lt (rC HO713))) (below_size (hbC _))); replace HO705 := ak (Kd.R_elder' (rC HO705) (Kd.R_base ho0) hb); replace HO708 := ak (Kd.R_elder' (rC HO708) (Kd.R_base ho0) hb); replace HO713 := ak (Kd.R_elder' (rC HO713) (Kd.R_base ho0) hb); replace HB := kH _ hb; (try clear hb); (try clear hb2); (try clear hk); (try clear hi); (try clear ho0); obtain ⟨Ao53, co53, eo53⟩ := Kd.R_slice HO713.out; subst eo53; obtain ⟨Ao54, co54, eo54⟩ := Kd.R_slice HO716.out; subst eo54) | ((with_reducible refine gate_callee (f := 17) rfl ?_); refine gL 71 Try.func17 #[.slice Ao53 t711.length co53, .slice Ao54 t714.length co54] ?_; (with_reducible refine (shares_Uneven.calls kj9 (fun k_ => some k_ = (.slice Ao53 t711.length co53 : Value).ownBlock) _ _ t711 (fun k_ => some k_ = (.slice Ao54 t714.length co54 : Value).ownBlock) _ _ t714 true t718 _ ?side1 ?side2 A38.out).mono ?_); (case side1 => exact Kd.R_V (Kd.R_tight rfl (HO713.out))); (case side2 => exact Kd.R_V (Kd.R_tight rfl (HO716.out))); rintro e w55 ⟨rfl, hb⟩; refine ⟨_, rfl, ?_⟩; replace HO705 := kO HO705 hb; replace HO708 := kO HO708 hb; replace HO713 := kO HO713 hb; replace HO716 := kO HO716 hb; replace HB := kH _ hb; (try clear hb); (try clear hb2); (try clear hk); (try clear hi)) | (go_at_call 21; (with_reducible refine (congoulaw01_awake.calls kj9  t719 _ A45.out).mono ?_); rintro e w56 ⟨rfl, hb⟩; replace HO705 := kO HO705 hb; replace HO708 := kO HO708 hb; replace HO713 := kO HO713 hb; replace HO716 := kO HO716 hb; replace HB := kH _ hb; (try clear hb); (try clear hb2); (try clear hk); (try clear hi)))
   go_ret
   exact ⟨by first | rfl | (simp [errW_none, errW_some] <;> rfl) | (simp [*, errW_none, errW_some] <;> rfl), hbC _⟩

/-- THE ONE PURE STATEMENT of congoulaw01_SharesMuirhead: yours. -/
def congoulaw01_SharesMuirhead.Pure : Prop := ∀ (l0 : List Int) (l1 : List Int) (l2 : List Int), l0.length ≤ maxLen → l0.length * 8 ≤ 140737488351232 → (∀ x ∈ l0, (Lit.int .i64 x).wf = true) → l1.length ≤ maxLen → l1.length * 8 ≤ 140737488351232 → (∀ x ∈ l1, (Lit.int .i64 x).wf = true) → l2.length ≤ maxLen → l2.length * 8 ≤ 140737488351232 → (∀ x ∈ l2, (Lit.int .i64 x).wf = true) → ∃ k, congoulaw01_SharesMuirhead.f k l0 l1 l2 = some true
theorem congoulaw01_SharesMuirhead.walk (P : congoulaw01_SharesMuirhead.Pure) (a0 : Option Addr) (len0 cap0 : Nat) (z0 : List Int) (a1 : Option Addr) (len1 cap1 : Nat) (z1 : List Int) (a2 : Option Addr) (len2 cap2 : Nat) (z2 : List Int) (w : World) (w0 : (a0 = none ∧ len0 = 0 ∧ cap0 = 0 ∧ z0 = []) ∨ ∃ x, a0 = some x ∧ len0 ≤ cap0 ∧ cap0 ≤ maxLen ∧ z0.length = cap0 ∧ (∀ i, i < z0.length → w.cell? (x.add i) = some (.int .i64 (z0.getD i 0))) ∧ ∀ n ∈ z0, (Lit.int .i64 n).wf = true) (y0 : len0 * 8 ≤ 140737488351232) (w1 : (a1 = none ∧ len1 = 0 ∧ cap1 = 0 ∧ z1 = []) ∨ ∃ x, a1 = some x ∧ len1 ≤ cap1 ∧ cap1 ≤ maxLen ∧ z1.length = cap1 ∧ (∀ i, i < z1.length → w.cell? (x.add i) = some (.int .i64 (z1.getD i 0))) ∧ ∀ n ∈ z1, (Lit.int .i64 n).wf = true) (y1 : len1 * 8 ≤ 140737488351232) (w2 : (a2 = none ∧ len2 = 0 ∧ cap2 = 0 ∧ z2 = []) ∨ ∃ x, a2 = some x ∧ len2 ≤ cap2 ∧ cap2 ≤ maxLen ∧ z2.length = cap2 ∧ (∀ i, i < z2.length → w.cell? (x.add i) = some (.int .i64 (z2.getD i 0))) ∧ ∀ n ∈ z2, (Lit.int .i64 n).wf = true) (y2 : len2 * 8 ≤ 140737488351232) :
  Calls Try.prog 5 #[.slice a0 len0 cap0, .slice a1 len1 cap1, .slice a2 len2 cap2] w fun e w' => e = .returned (.bool true) ∧ Below w.heap.size w w' := by
 obtain ⟨l0, rfl, hr0, hm0, hw0, hc0⟩ := ReadsInt.ofRowC w0
 obtain ⟨l1, rfl, hr1, hm1, hw1, hc1⟩ := ReadsInt.ofRowC w1
 obtain ⟨l2, rfl, hr2, hm2, hw2, hc2⟩ := ReadsInt.ofRowC w2
 obtain ⟨k, h⟩ := P l0 l1 l2 hm0 y0 hw0 hm1 y1 hw1 hm2 y2 hw2
 refine (congoulaw01_SharesMuirhead.calls k _ _ l0 _ _ l1 _ _ l2 true w (Kd.C_of_reads (d := (0 : Int)) (h1 := fun _ => rfl) hr0) hc0 (Kd.C_of_reads (d := (0 : Int)) (h1 := fun _ => rfl) hr1) hc1 (Kd.C_of_reads (d := (0 : Int)) (h1 := fun _ => rfl) hr2) hc2 rfl h).mono ?_
 rintro e w' ⟨rfl, hd⟩
 exact ⟨rfl, hd⟩

end Go.Proofs.Ytefmafbbnkkpjaa.X
