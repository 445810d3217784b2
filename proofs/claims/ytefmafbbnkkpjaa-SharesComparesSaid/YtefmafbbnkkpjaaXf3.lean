-- Written by a program of this work (wip/xprint.py, over the kit's printer) out of the translation.
import Derived.Test.YtefmafbbnkkpjaaX0
import Derived.Test.YtefmafbbnkkpjaaXG1a
import Derived.Test.YtefmafbbnkkpjaaXG2a
import Derived.Test.YtefmafbbnkkpjaaXf17
import Derived.Test.YtefmafbbnkkpjaaXf19
import Derived.Test.YtefmafbbnkkpjaaXf21
import Derived.Test.YtefmafbbnkkpjaaXf24
namespace Go.Proofs.Ytefmafbbnkkpjaa.X
open Go.RowKit Go.Proofs.YtefmafbbnkkpjaaW.PrintWords Go.Proofs.YtefmafbbnkkpjaaW.PrintLast Go.Proofs.YtefmafbbnkkpjaaW.PrintMore
attribute [local go_sem] max2_int min2_int max_two min_two max_three min_three max_four min_four   -- for this text's walks alone
set_option linter.unusedVariables false
set_option linter.unusedSimpArgs false

/-! ### congoulaw01_SharesCompares: function 3 -/
def congoulaw01_SharesCompares.j0 : Nat → List Int → List Int → Bool → Int → Bool → Option (Bool)
 | 0, _, _, _, _, _ => none
 | k + 1, x0, x1, x5, x6, x54 => if x54 = true then (some false) else ((congouref01_Two.f k x0 x1).bind fun t197 => (if t197 = true then ((congouref01_Uneven.f k x0 x1).bind fun t198 => (if (x5 == t198) = true then (some (x6 == 0)) else (some false))) else (if x5 = true then (some false) else (some (x6 == 2)))))
def congoulaw01_SharesCompares.f (k : Nat) (l0 : List Int) (l1 : List Int) : Option (Bool) := (congoulaw01_list.f l0).bind fun t180 => ((congoulaw01_list.f l1).bind fun t183 => ((shares_Uneven.f k t180 t183).bind fun bt186 => ((congoulaw01_list.f l0).bind fun t188 => ((shares_Gap.f k t188).bind fun bt191 => ((congouref01_Shares.f k l0).bind fun t193 => (if t193 = true then ((congouref01_Gap.f k l0).bind fun t195 => (if bt191.1 = t195 then (if bt191.2 = 0 then ((congoulaw01_awake.f k).bind fun t196 => (congoulaw01_SharesCompares.j0 k l0 l1 bt186.1 bt186.2 (!t196))) else (congoulaw01_SharesCompares.j0 k l0 l1 bt186.1 bt186.2 true)) else (congoulaw01_SharesCompares.j0 k l0 l1 bt186.1 bt186.2 true))) else (if bt186.1 = true then (some false) else (if bt191.1 = 0 then (if bt186.2 = 2 then (if bt191.2 = 2 then ((congoulaw01_awake.f k).bind fun t194 => (some t194)) else (some false)) else (some false)) else (some false)))))))))
theorem congoulaw01_SharesCompares.mono_l : ∀ k, (∀ y0 y1 y2 y3 y4, LeO (congoulaw01_SharesCompares.j0 k y0 y1 y2 y3 y4) (congoulaw01_SharesCompares.j0 (k + 1) y0 y1 y2 y3 y4))
 | 0 => fun _ _ _ _ _ r h => by simp [congoulaw01_SharesCompares.j0] at h
 | k + 1 => by
  have ih0 := congoulaw01_SharesCompares.mono_l k
  ·intro y0 y1 y2 y3 y4
   unfold congoulaw01_SharesCompares.j0
   repeat' first
   | (with_reducible exact ih0 _ _ _ _ _)
   | (with_reducible exact congoulaw01_awake.mono _)
   | (with_reducible exact congouref01_Gap.mono _ _)
   | (with_reducible exact congouref01_Shares.mono _ _)
   | (with_reducible exact congouref01_Two.mono _ _ _)
   | (with_reducible exact congouref01_Uneven.mono _ _ _)
   | (with_reducible exact shares_Gap.mono _ _)
   | (with_reducible exact shares_Uneven.mono _ _ _)
   | (with_reducible exact LeO.refl _)
   | (with_reducible exact LeO.none _)
   | (with_reducible refine LeO.ite ?_ ?_)
   | (with_reducible refine LeO.bind ?_ (fun _ => ?_))
   | exact ih0 _ _ _ _ _
   | exact congoulaw01_awake.mono _
   | exact congouref01_Gap.mono _ _
   | exact congouref01_Shares.mono _ _
   | exact congouref01_Two.mono _ _ _
   | exact congouref01_Uneven.mono _ _ _
   | exact shares_Gap.mono _ _
   | exact shares_Uneven.mono _ _ _
   | exact LeO.none _
   | refine LeO.ite ?_ ?_
   | refine LeO.bind ?_ (fun _ => ?_)
theorem congoulaw01_SharesCompares.mono : ∀ a0 a1 k, LeO (congoulaw01_SharesCompares.f k a0 a1) (congoulaw01_SharesCompares.f (k + 1) a0 a1) := by
 intro a0 a1 k
 have ih0 := congoulaw01_SharesCompares.mono_l k
 unfold congoulaw01_SharesCompares.f
 repeat' first
   | (with_reducible exact ih0 _ _ _ _ _)
   | (with_reducible exact congoulaw01_awake.mono _)
   | (with_reducible exact congouref01_Gap.mono _ _)
   | (with_reducible exact congouref01_Shares.mono _ _)
   | (with_reducible exact congouref01_Two.mono _ _ _)
   | (with_reducible exact congouref01_Uneven.mono _ _ _)
   | (with_reducible exact shares_Gap.mono _ _)
   | (with_reducible exact shares_Uneven.mono _ _ _)
   | (with_reducible exact LeO.refl _)
   | (with_reducible exact LeO.none _)
   | (with_reducible refine LeO.ite ?_ ?_)
   | (with_reducible refine LeO.bind ?_ (fun _ => ?_))
   | exact ih0 _ _ _ _ _
   | exact congoulaw01_awake.mono _
   | exact congouref01_Gap.mono _ _
   | exact congouref01_Shares.mono _ _
   | exact congouref01_Two.mono _ _ _
   | exact congouref01_Uneven.mono _ _ _
   | exact shares_Gap.mono _ _
   | exact shares_Uneven.mono _ _ _
   | exact LeO.none _
   | refine LeO.ite ?_ ?_
   | refine LeO.bind ?_ (fun _ => ?_)
set_option maxHeartbeats 8000000 in
set_option maxRecDepth 100000 in
theorem congoulaw01_SharesCompares.calls (k : Nat) (A0 : Option Addr) (c0 : Nat) (l0 : List Int) (A1 : Option Addr) (c1 : Nat) (l1 : List Int) (r : Bool) (w : World) (hr0 : Kd.C (Kd.int .i64) w A0 l0.length l0) (hc0 : l0.length ≤ c0) (hr1 : Kd.C (Kd.int .i64) w A1 l1.length l1) (hc1 : l1.length ≤ c1) (hrt : r = true) (h : congoulaw01_SharesCompares.f k l0 l1 = some r) :
  Calls Try.prog 3 #[.slice A0 l0.length c0, .slice A1 l1.length c1] w fun e w' => e = .returned (.bool r) ∧ Below w.heap.size w w' := by
 have HR0 := Aside0.mk hr0
 have HC0 := Aside0.mk hc0
 clear hr0 hc0
 have HR1 := Aside0.mk hr1
 have HC1 := Aside0.mk hc1
 clear hr1 hc1
 have HB := ak (Below.refl w.heap.size w)
 have H : ((congoulaw01_list.f l0).bind fun t180 => ((congoulaw01_list.f l1).bind fun t183 => ((shares_Uneven.f k t180 t183).bind fun bt186 => ((congoulaw01_list.f l0).bind fun t188 => ((shares_Gap.f k t188).bind fun bt191 => ((congouref01_Shares.f k l0).bind fun t193 => (if t193 = true then ((congouref01_Gap.f k l0).bind fun t195 => (if bt191.1 = t195 then (if bt191.2 = 0 then ((congoulaw01_awake.f k).bind fun t196 => (congoulaw01_SharesCompares.j0 k l0 l1 bt186.1 bt186.2 (!t196))) else (congoulaw01_SharesCompares.j0 k l0 l1 bt186.1 bt186.2 true)) else (congoulaw01_SharesCompares.j0 k l0 l1 bt186.1 bt186.2 true))) else (if bt186.1 = true then (some false) else (if bt191.1 = 0 then (if bt186.2 = 2 then (if bt191.2 = 2 then ((congoulaw01_awake.f k).bind fun t194 => (some t194)) else (some false)) else (some false)) else (some false)))))))))) = some r := h
 clear h
 have HRT := Aside0.mk hrt
 clear hrt
 replace H := Option.bind_eq_some_iff.mp H
 obtain ⟨t180, A30, H⟩ := H
 replace H : ((congoulaw01_list.f l1).bind fun t183 => ((shares_Uneven.f k t180 t183).bind fun bt186 => ((congoulaw01_list.f l0).bind fun t188 => ((shares_Gap.f k t188).bind fun bt191 => ((congouref01_Shares.f k l0).bind fun t193 => (if t193 = true then ((congouref01_Gap.f k l0).bind fun t195 => (if bt191.1 = t195 then (if bt191.2 = 0 then ((congoulaw01_awake.f k).bind fun t196 => (congoulaw01_SharesCompares.j0 k l0 l1 bt186.1 bt186.2 (!t196))) else (congoulaw01_SharesCompares.j0 k l0 l1 bt186.1 bt186.2 true)) else (congoulaw01_SharesCompares.j0 k l0 l1 bt186.1 bt186.2 true))) else (if bt186.1 = true then (some false) else (if bt191.1 = 0 then (if bt186.2 = 2 then (if bt191.2 = 2 then ((congoulaw01_awake.f k).bind fun t194 => (some t194)) else (some false)) else (some false)) else (some false))))))))) = some r := H
 have A3 := Aside0.mk A30
 clear A30
 replace H := Option.bind_eq_some_iff.mp H
 obtain ⟨t183, A40, H⟩ := H
 replace H : ((shares_Uneven.f k t180 t183).bind fun bt186 => ((congoulaw01_list.f l0).bind fun t188 => ((shares_Gap.f k t188).bind fun bt191 => ((congouref01_Shares.f k l0).bind fun t193 => (if t193 = true then ((congouref01_Gap.f k l0).bind fun t195 => (if bt191.1 = t195 then (if bt191.2 = 0 then ((congoulaw01_awake.f k).bind fun t196 => (congoulaw01_SharesCompares.j0 k l0 l1 bt186.1 bt186.2 (!t196))) else (congoulaw01_SharesCompares.j0 k l0 l1 bt186.1 bt186.2 true)) else (congoulaw01_SharesCompares.j0 k l0 l1 bt186.1 bt186.2 true))) else (if bt186.1 = true then (some false) else (if bt191.1 = 0 then (if bt186.2 = 2 then (if bt191.2 = 2 then ((congoulaw01_awake.f k).bind fun t194 => (some t194)) else (some false)) else (some false)) else (some false)))))))) = some r := H
 have A4 := Aside0.mk A40
 clear A40
 replace H := Option.bind_eq_some_iff.mp H
 obtain ⟨⟨t186, t187⟩, A50, H⟩ := H
 replace H : ((congoulaw01_list.f l0).bind fun t188 => ((shares_Gap.f k t188).bind fun bt191 => ((congouref01_Shares.f k l0).bind fun t193 => (if t193 = true then ((congouref01_Gap.f k l0).bind fun t195 => (if bt191.1 = t195 then (if bt191.2 = 0 then ((congoulaw01_awake.f k).bind fun t196 => (congoulaw01_SharesCompares.j0 k l0 l1 t186 t187 (!t196))) else (congoulaw01_SharesCompares.j0 k l0 l1 t186 t187 true)) else (congoulaw01_SharesCompares.j0 k l0 l1 t186 t187 true))) else (if t186 = true then (some false) else (if bt191.1 = 0 then (if t187 = 2 then (if bt191.2 = 2 then ((congoulaw01_awake.f k).bind fun t194 => (some t194)) else (some false)) else (some false)) else (some false))))))) = some r := H
 have A5 := Aside0.mk A50
 clear A50
 replace H := Option.bind_eq_some_iff.mp H
 obtain ⟨t188, A60, H⟩ := H
 replace H : ((shares_Gap.f k t188).bind fun bt191 => ((congouref01_Shares.f k l0).bind fun t193 => (if t193 = true then ((congouref01_Gap.f k l0).bind fun t195 => (if bt191.1 = t195 then (if bt191.2 = 0 then ((congoulaw01_awake.f k).bind fun t196 => (congoulaw01_SharesCompares.j0 k l0 l1 t186 t187 (!t196))) else (congoulaw01_SharesCompares.j0 k l0 l1 t186 t187 true)) else (congoulaw01_SharesCompares.j0 k l0 l1 t186 t187 true))) else (if t186 = true then (some false) else (if bt191.1 = 0 then (if t187 = 2 then (if bt191.2 = 2 then ((congoulaw01_awake.f k).bind fun t194 => (some t194)) else (some false)) else (some false)) else (some false)))))) = some r := H
 have A6 := Aside0.mk A60
 clear A60
 replace H := Option.bind_eq_some_iff.mp H
 obtain ⟨⟨t191, t192⟩, A70, H⟩ := H
 replace H : ((congouref01_Shares.f k l0).bind fun t193 => (if t193 = true then ((congouref01_Gap.f k l0).bind fun t195 => (if t191 = t195 then (if t192 = 0 then ((congoulaw01_awake.f k).bind fun t196 => (congoulaw01_SharesCompares.j0 k l0 l1 t186 t187 (!t196))) else (congoulaw01_SharesCompares.j0 k l0 l1 t186 t187 true)) else (congoulaw01_SharesCompares.j0 k l0 l1 t186 t187 true))) else (if t186 = true then (some false) else (if t191 = 0 then (if t187 = 2 then (if t192 = 2 then ((congoulaw01_awake.f k).bind fun t194 => (some t194)) else (some false)) else (some false)) else (some false))))) = some r := H
 have A7 := Aside0.mk A70
 clear A70
 replace H := Option.bind_eq_some_iff.mp H
 obtain ⟨t193, A80, H⟩ := H
 replace H : (if t193 = true then ((congouref01_Gap.f k l0).bind fun t195 => (if t191 = t195 then (if t192 = 0 then ((congoulaw01_awake.f k).bind fun t196 => (congoulaw01_SharesCompares.j0 k l0 l1 t186 t187 (!t196))) else (congoulaw01_SharesCompares.j0 k l0 l1 t186 t187 true)) else (congoulaw01_SharesCompares.j0 k l0 l1 t186 t187 true))) else (if t186 = true then (some false) else (if t191 = 0 then (if t187 = 2 then (if t192 = 2 then ((congoulaw01_awake.f k).bind fun t194 => (some t194)) else (some false)) else (some false)) else (some false)))) = some r := H
 have A8 := Aside0.mk A80
 clear A80
 by_cases c9 : t193 = true
 rotate_left
 ·replace c9 := Bool.eq_false_iff.mpr c9
  subst c9
  have H1 : (if t186 = true then (some false) else (if t191 = 0 then (if t187 = 2 then (if t192 = 2 then ((congoulaw01_awake.f k).bind fun t194 => (some t194)) else (some false)) else (some false)) else (some false))) = some r := by rw [if_neg (show ¬ (false = true) by decide)] at H; exact H
  clear H
  have H := H1
  clear H1
  by_cases c34 : t186 = true
  ·subst c34
   have H1 : (some false) = some r := by rw [if_pos rfl] at H; exact H
   clear H
   have H := H1
   clear H1
   exact absurd (H.trans (congrArg some HRT.out)) (by simp)
  replace c34 := Bool.eq_false_iff.mpr c34
  subst c34
  have H1 : (if t191 = 0 then (if t187 = 2 then (if t192 = 2 then ((congoulaw01_awake.f k).bind fun t194 => (some t194)) else (some false)) else (some false)) else (some false)) = some r := by rw [if_neg (show ¬ (false = true) by decide)] at H; exact H
  clear H
  have H := H1
  clear H1
  by_cases c35 : t191 = 0
  rotate_left
  ·rw [if_neg c35] at H
   have c35b0 : (t191 == 0) = false := beq_eq_false_iff_ne.mpr c35
   have c35b1 : (t191 != 0) = true := bne_iff_ne.mpr c35
   exact absurd (H.trans (congrArg some HRT.out)) (by simp)
  rw [if_pos c35] at H
  have c35b0 : (t191 == 0) = true := beq_iff_eq.mpr c35
  have c35b1 : (t191 != 0) = false := bne_eq_false_iff_eq.mpr c35
  clear c35
  by_cases c36 : t187 = 2
  rotate_left
  ·rw [if_neg c36] at H
   have c36b0 : (t187 == 2) = false := beq_eq_false_iff_ne.mpr c36
   have c36b1 : (t187 != 2) = true := bne_iff_ne.mpr c36
   exact absurd (H.trans (congrArg some HRT.out)) (by simp)
  rw [if_pos c36] at H
  have c36b0 : (t187 == 2) = true := beq_iff_eq.mpr c36
  have c36b1 : (t187 != 2) = false := bne_eq_false_iff_eq.mpr c36
  clear c36
  by_cases c37 : t192 = 2
  rotate_left
  ·rw [if_neg c37] at H
   have c37b0 : (t192 == 2) = false := beq_eq_false_iff_ne.mpr c37
   have c37b1 : (t192 != 2) = true := bne_iff_ne.mpr c37
   exact absurd (H.trans (congrArg some HRT.out)) (by simp)
  rw [if_pos c37] at H
  have c37b0 : (t192 == 2) = true := beq_iff_eq.mpr c37
  have c37b1 : (t192 != 2) = false := bne_eq_false_iff_eq.mpr c37
  clear c37
  replace H := Option.bind_eq_some_iff.mp H
  obtain ⟨t194, A380, H⟩ := H
  replace H : (some t194) = some r := H
  have A38 := Aside0.mk A380
  clear A380
  obtain rfl := Option.some.inj H
  go_enter Try.func3, Try.ntmps3
  go_wp2_with (first | ((with_reducible refine gate_callee (f := 18) rfl ?_); refine gL 11 Try.func18 #[.slice A0 l0.length c0] ?_; (with_reducible refine (congoulaw01_list.calls _ _ l0 t180 _ ?side1 ?side2 A3.out).mono ?_); (case side1 => repeat (first | exact HR0.out | (with_reducible refine Kd.C_alloc ?_ _) | (with_reducible refine Kd.C_drewN ?_ _) | (with_reducible refine Kd.C_drew ?_))); (case side2 => exact HC0.out); rintro e w39 ⟨v181, rfl, ho0, hb⟩; refine ⟨_, rfl, ?_⟩; have HO182 := ak (Kd.R_lower ho0 (below_size (hbC _))); replace HB := kH _ hb; (try clear hb); (try clear hb2); (try clear hk); (try clear hi); (try clear ho0)) | ((with_reducible refine gate_callee (f := 18) rfl ?_); refine gL 13 Try.func18 #[.slice A1 l1.length c1] ?_; (with_reducible refine (congoulaw01_list.calls _ _ l1 t183 _ ?side1 ?side2 A4.out).mono ?_); (case side1 => exact kC HR1); (case side2 => exact HC1.out); rintro e w40 ⟨v184, rfl, ho0, hb⟩; refine ⟨_, rfl, ?_⟩; have HO185 := ak (Kd.R_lower (Kd.R_new' ho0 (Kd.R_lt (rC HO182))) (below_size (hbC _))); replace HO182 := ak (Kd.R_elder' (rC HO182) (Kd.R_base ho0) hb); replace HB := kH _ hb; (try clear hb); (try clear hb2); (try clear hk); (try clear hi); (try clear ho0); obtain ⟨Ao41, co41, eo41⟩ := Kd.R_slice HO182.out; subst eo41; obtain ⟨Ao42, co42, eo42⟩ := Kd.R_slice HO185.out; subst eo42) | ((with_reducible refine gate_callee (f := 17) rfl ?_); refine gL 14 Try.func17 #[.slice Ao41 t180.length co41, .slice Ao42 t183.length co42] ?_; (with_reducible refine (shares_Uneven.calls k (fun k_ => some k_ = (.slice Ao41 t180.length co41 : Value).ownBlock) _ _ t180 (fun k_ => some k_ = (.slice Ao42 t183.length co42 : Value).ownBlock) _ _ t183 false t187 _ ?side1 ?side2 A5.out).mono ?_); (case side1 => exact Kd.R_V (Kd.R_tight rfl (HO182.out))); (case side2 => exact Kd.R_V (Kd.R_tight rfl (HO185.out))); rintro e w43 ⟨rfl, hb⟩; refine ⟨_, rfl, ?_⟩; replace HO182 := kO HO182 hb; replace HO185 := kO HO185 hb; replace HB := kH _ hb; (try clear hb); (try clear hb2); (try clear hk); (try clear hi)) | ((with_reducible refine gate_callee (f := 18) rfl ?_); refine gL 19 Try.func18 #[.slice A0 l0.length c0] ?_; (with_reducible refine (congoulaw01_list.calls _ _ l0 t188 _ ?side1 ?side2 A6.out).mono ?_); (case side1 => exact kC HR0); (case side2 => exact HC0.out); rintro e w44 ⟨v189, rfl, ho0, hb⟩; refine ⟨_, rfl, ?_⟩; have HO190 := ak (Kd.R_lower (Kd.R_new' (Kd.R_new' ho0 (Kd.R_lt (rC HO182))) (Kd.R_lt (rC HO185))) (below_size (hbC _))); replace HO182 := ak (Kd.R_elder' (rC HO182) (Kd.R_base ho0) hb); replace HO185 := ak (Kd.R_elder' (rC HO185) (Kd.R_base ho0) hb); replace HB := kH _ hb; (try clear hb); (try clear hb2); (try clear hk); (try clear hi); (try clear ho0); obtain ⟨Ao45, co45, eo45⟩ := Kd.R_slice HO190.out; subst eo45) | ((with_reducible refine gate_callee (f := 19) rfl ?_); refine gL 20 Try.func19 #[.slice Ao45 t188.length co45] ?_; (with_reducible refine (shares_Gap.calls k (fun k_ => some k_ = (.slice Ao45 t188.length co45 : Value).ownBlock) _ _ t188 t191 t192 _ ?side1 A7.out).mono ?_); (case side1 => exact Kd.R_V (Kd.R_tight rfl (HO190.out))); rintro e w46 ⟨rfl, hb⟩; refine ⟨_, rfl, ?_⟩; replace HO182 := kO HO182 hb; replace HO185 := kO HO185 hb; replace HO190 := kO HO190 hb; replace HB := kH _ hb; (try clear hb); (try clear hb2); (try clear hk); (try clear hi)) | ((with_reducible refine gate_callee (f := 20) rfl ?_); refine gL 24 Try.func20 #[.slice A0 l0.length c0] ?_; (with_reducible refine (congouref01_Shares.calls k _ _ l0 false _ ?side1 ?side2 A8.out).mono ?_); (case side1 => exact kC HR0); (case side2 => exact HC0.out); rintro e w' ⟨rfl, ⟨nd, rfl⟩⟩; refine ⟨_, rfl, ?_⟩) | (go_at_call 21; (with_reducible refine (congoulaw01_awake.calls k  t194 _ A38.out).mono ?_); rintro e w47 ⟨rfl, hb⟩; replace HO182 := kO HO182 hb; replace HO185 := kO HO185 hb; replace HO190 := kO HO190 hb; replace HB := kH _ hb; (try clear hb); (try clear hb2); (try clear hk); (try clear hi)))
  go_ret
  exact ⟨by first | rfl | (simp [errW_none, errW_some] <;> rfl) | (simp [*, errW_none, errW_some] <;> rfl), hbC _⟩
 subst c9
 have H1 : ((congouref01_Gap.f k l0).bind fun t195 => (if t191 = t195 then (if t192 = 0 then ((congoulaw01_awake.f k).bind fun t196 => (congoulaw01_SharesCompares.j0 k l0 l1 t186 t187 (!t196))) else (congoulaw01_SharesCompares.j0 k l0 l1 t186 t187 true)) else (congoulaw01_SharesCompares.j0 k l0 l1 t186 t187 true))) = some r := by rw [if_pos rfl] at H; exact H
 clear H
 have H := H1
 clear H1
 have HC10 := Aside0.mk H
 clear H
 go_enter Try.func3, Try.ntmps3
 go_upto_region 5 with (first | ((with_reducible refine gate_callee (f := 18) rfl ?_); refine gL 11 Try.func18 #[.slice A0 l0.length c0] ?_; (with_reducible refine (congoulaw01_list.calls _ _ l0 t180 _ ?side1 ?side2 A3.out).mono ?_); (case side1 => repeat (first | exact HR0.out | (with_reducible refine Kd.C_alloc ?_ _) | (with_reducible refine Kd.C_drewN ?_ _) | (with_reducible refine Kd.C_drew ?_))); (case side2 => exact HC0.out); rintro e w11 ⟨v181, rfl, ho0, hb⟩; refine ⟨_, rfl, ?_⟩; have HO182 := ak (Kd.R_lower ho0 (below_size (hbC _))); replace HB := kH _ hb; (try clear hb); (try clear hb2); (try clear hk); (try clear hi); (try clear ho0)) | ((with_reducible refine gate_callee (f := 18) rfl ?_); refine gL 13 Try.func18 #[.slice A1 l1.length c1] ?_; (with_reducible refine (congoulaw01_list.calls _ _ l1 t183 _ ?side1 ?side2 A4.out).mono ?_); (case side1 => exact kC HR1); (case side2 => exact HC1.out); rintro e w12 ⟨v184, rfl, ho0, hb⟩; refine ⟨_, rfl, ?_⟩; have HO185 := ak (Kd.R_lower (Kd.R_new' ho0 (Kd.R_lt (rC HO182))) (below_size (hbC _))); replace HO182 := ak (Kd.R_elder' (rC HO182) (Kd.R_base ho0) hb); replace HB := kH _ hb; (try clear hb); (try clear hb2); (try clear hk); (try clear hi); (try clear ho0); obtain ⟨Ao13, co13, eo13⟩ := Kd.R_slice HO182.out; subst eo13; obtain ⟨Ao14, co14, eo14⟩ := Kd.R_slice HO185.out; subst eo14) | ((with_reducible refine gate_callee (f := 17) rfl ?_); refine gL 14 Try.func17 #[.slice Ao13 t180.length co13, .slice Ao14 t183.length co14] ?_; (with_reducible refine (shares_Uneven.calls k (fun k_ => some k_ = (.slice Ao13 t180.length co13 : Value).ownBlock) _ _ t180 (fun k_ => some k_ = (.slice Ao14 t183.length co14 : Value).ownBlock) _ _ t183 t186 t187 _ ?side1 ?side2 A5.out).mono ?_); (case side1 => exact Kd.R_V (Kd.R_tight rfl (HO182.out))); (case side2 => exact Kd.R_V (Kd.R_tight rfl (HO185.out))); rintro e w15 ⟨rfl, hb⟩; refine ⟨_, rfl, ?_⟩; replace HO182 := kO HO182 hb; replace HO185 := kO HO185 hb; replace HB := kH _ hb; (try clear hb); (try clear hb2); (try clear hk); (try clear hi)) | ((with_reducible refine gate_callee (f := 18) rfl ?_); refine gL 19 Try.func18 #[.slice A0 l0.length c0] ?_; (with_reducible refine (congoulaw01_list.calls _ _ l0 t188 _ ?side1 ?side2 A6.out).mono ?_); (case side1 => exact kC HR0); (case side2 => exact HC0.out); rintro e w16 ⟨v189, rfl, ho0, hb⟩; refine ⟨_, rfl, ?_⟩; have HO190 := ak (Kd.R_lower (Kd.R_new' (Kd.R_new' ho0 (Kd.R_lt (rC HO182))) (Kd.R_lt (rC HO185))) (below_size (hbC _))); replace HO182 := ak (Kd.R_elder' (rC HO182) (Kd.R_base ho0) hb); replace HO185 := ak (Kd.R_elder' (rC HO185) (Kd.R_base ho0) hb); replace HB := kH _ hb; (try clear hb); (try clear hb2); (try clear hk); (try clear hi); (try clear ho0); obtain ⟨Ao17, co17, eo17⟩ := Kd.R_slice HO190.out; subst eo17) | ((with_reducible refine gate_callee (f := 19) rfl ?_); refine gL 20 Try.func19 #[.slice Ao17 t188.length co17] ?_; (with_reducible refine (shares_Gap.calls k (fun k_ => some k_ = (.slice Ao17 t188.length co17 : Value).ownBlock) _ _ t188 t191 t192 _ ?side1 A7.out).mono ?_); (case side1 => exact Kd.R_V (Kd.R_tight rfl (HO190.out))); rintro e w18 ⟨rfl, hb⟩; refine ⟨_, rfl, ?_⟩; replace HO182 := kO HO182 hb; replace HO185 := kO HO185 hb; replace HO190 := kO HO190 hb; replace HB := kH _ hb; (try clear hb); (try clear hb2); (try clear hk); (try clear hi)) | ((with_reducible refine gate_callee (f := 20) rfl ?_); refine gL 24 Try.func20 #[.slice A0 l0.length c0] ?_; (with_reducible refine (congouref01_Shares.calls k _ _ l0 true _ ?side1 ?side2 A8.out).mono ?_); (case side1 => exact kC HR0); (case side2 => exact HC0.out); rintro e w' ⟨rfl, ⟨nd, rfl⟩⟩; refine ⟨_, rfl, ?_⟩))
 (try simp only [Act.put, List.setIfInBounds_toArray, List.set_cons_zero, List.set_cons_succ])
 go_cut [54] (fun v54 wc => ∃ (kq : Nat) (x54_9 : Bool), v54 = .bool x54_9 ∧ Aside0 (congoulaw01_SharesCompares.j0 kq l0 l1 t186 t187 x54_9 = some r) ∧ Aside0 (kq ≤ k) ∧ Aside0 (Below w.heap.size w wc))
 case first =>
  have H := HC10.out
  clear HC10
  replace H := Option.bind_eq_some_iff.mp H
  obtain ⟨t195, A190, H⟩ := H
  replace H : (if t191 = t195 then (if t192 = 0 then ((congoulaw01_awake.f k).bind fun t196 => (congoulaw01_SharesCompares.j0 k l0 l1 t186 t187 (!t196))) else (congoulaw01_SharesCompares.j0 k l0 l1 t186 t187 true)) else (congoulaw01_SharesCompares.j0 k l0 l1 t186 t187 true)) = some r := H
  have A19 := Aside0.mk A190
  clear A190
  by_cases c20 : t191 = t195
  rotate_left
  ·rw [if_neg c20] at H
   have c20b0 : (t191 == t195) = false := beq_eq_false_iff_ne.mpr c20
   have c20b1 : (t191 != t195) = true := bne_iff_ne.mpr c20
   (first | rw [c20b0] | (simp only [i64_w, i32_w]; rw [c20b0]) | skip)
   have H' := Aside0.mk H
   clear H
   go_wp2_with (first | ((with_reducible refine gate_callee (f := 22) rfl ?_); refine gL 45 Try.func22 #[.slice A0 l0.length c0] ?_; (with_reducible refine (congouref01_Gap.calls k _ _ l0 t195 _ ?side1 ?side2 A19.out).mono ?_); (case side1 => exact kC HR0); (case side2 => exact HC0.out); rintro e w26 ⟨rfl, hb⟩; refine ⟨_, rfl, ?_⟩; replace HO182 := kO HO182 hb; replace HO185 := kO HO185 hb; replace HO190 := kO HO190 hb; replace HB := kH _ hb; (try clear hb); (try clear hb2); (try clear hk); (try clear hi)))
   go_meet
   case rel => exact ⟨_, (true), (by first | rfl | (simp; done) | (simp [*]; done)), H', ⟨by first | omega | exact Nat.le_refl _⟩, ⟨hbC _⟩⟩
  rw [if_pos c20] at H
  have c20b0 : (t191 == t195) = true := beq_iff_eq.mpr c20
  have c20b1 : (t191 != t195) = false := bne_eq_false_iff_eq.mpr c20
  clear c20
  (first | rw [c20b0] | (simp only [i64_w, i32_w]; rw [c20b0]) | skip)
  by_cases c21 : t192 = 0
  rotate_left
  ·rw [if_neg c21] at H
   have c21b0 : (t192 == 0) = false := beq_eq_false_iff_ne.mpr c21
   have c21b1 : (t192 != 0) = true := bne_iff_ne.mpr c21
   have H' := Aside0.mk H
   clear H
   go_wp2_with (first | ((with_reducible refine gate_callee (f := 22) rfl ?_); refine gL 45 Try.func22 #[.slice A0 l0.length c0] ?_; (with_reducible refine (congouref01_Gap.calls k _ _ l0 t195 _ ?side1 ?side2 A19.out).mono ?_); (case side1 => exact kC HR0); (case side2 => exact HC0.out); rintro e w25 ⟨rfl, hb⟩; refine ⟨_, rfl, ?_⟩; replace HO182 := kO HO182 hb; replace HO185 := kO HO185 hb; replace HO190 := kO HO190 hb; replace HB := kH _ hb; (try clear hb); (try clear hb2); (try clear hk); (try clear hi)))
   go_meet
   case rel => exact ⟨_, (true), (by first | rfl | (simp; done) | (simp [*]; done)), H', ⟨by first | omega | exact Nat.le_refl _⟩, ⟨hbC _⟩⟩
  rw [if_pos c21] at H
  have c21b0 : (t192 == 0) = true := beq_iff_eq.mpr c21
  have c21b1 : (t192 != 0) = false := bne_eq_false_iff_eq.mpr c21
  clear c21
  replace H := Option.bind_eq_some_iff.mp H
  obtain ⟨t196, A220, H⟩ := H
  replace H : (congoulaw01_SharesCompares.j0 k l0 l1 t186 t187 (!t196)) = some r := H
  have A22 := Aside0.mk A220
  clear A220
  have H' := Aside0.mk H
  clear H
  go_wp2_with (first | ((with_reducible refine gate_callee (f := 22) rfl ?_); refine gL 45 Try.func22 #[.slice A0 l0.length c0] ?_; (with_reducible refine (congouref01_Gap.calls k _ _ l0 t195 _ ?side1 ?side2 A19.out).mono ?_); (case side1 => exact kC HR0); (case side2 => exact HC0.out); rintro e w23 ⟨rfl, hb⟩; refine ⟨_, rfl, ?_⟩; replace HO182 := kO HO182 hb; replace HO185 := kO HO185 hb; replace HO190 := kO HO190 hb; replace HB := kH _ hb; (try clear hb); (try clear hb2); (try clear hk); (try clear hi)) | (go_at_call 21; (with_reducible refine (congoulaw01_awake.calls k  t196 _ A22.out).mono ?_); rintro e w24 ⟨rfl, hb⟩; replace HO182 := kO HO182 hb; replace HO185 := kO HO185 hb; replace HO190 := kO HO190 hb; replace HB := kH _ hb; (try clear hb); (try clear hb2); (try clear hk); (try clear hi)))
  go_meet
  case rel => exact ⟨_, (!t196), (by first | rfl | (simp; done) | (simp [*]; done)), H', ⟨by first | omega | exact Nat.le_refl _⟩, ⟨hbC _⟩⟩
 case rest =>
  clear HC10
  try clear c1
  try clear c2
  try clear p2
  try clear c3
  try clear c9
  try clear c17
  try clear c18
  try clear c19
  try clear c20
  try clear c20b0
  try clear c20b1
  try clear c21
  try clear c21b0
  try clear c21b1
  try clear c22
  obtain ⟨kq, x54_9, rfl, HA, HJ9, HB⟩ := hcut
  cases kq with
  | zero => exact absurd HA.out (by simp [congoulaw01_SharesCompares.j0])
  | succ kj9 =>
   have H := HA.out
   clear HA
   simp only [congoulaw01_SharesCompares.j0] at H
   by_cases c27 : x54_9 = true
   ·subst c27
    have H1 : (some false) = some r := by rw [if_pos rfl] at H; exact H
    clear H
    have H := H1
    clear H1
    exact absurd (H.trans (congrArg some HRT.out)) (by simp)
   replace c27 := Bool.eq_false_iff.mpr c27
   subst c27
   have H1 : ((congouref01_Two.f kj9 l0 l1).bind fun t197 => (if t197 = true then ((congouref01_Uneven.f kj9 l0 l1).bind fun t198 => (if (t186 == t198) = true then (some (t187 == 0)) else (some false))) else (if t186 = true then (some false) else (some (t187 == 2))))) = some r := by rw [if_neg (show ¬ (false = true) by decide)] at H; exact H
   clear H
   have H := H1
   clear H1
   replace H := Option.bind_eq_some_iff.mp H
   obtain ⟨t197, A280, H⟩ := H
   replace H : (if t197 = true then ((congouref01_Uneven.f kj9 l0 l1).bind fun t198 => (if (t186 == t198) = true then (some (t187 == 0)) else (some false))) else (if t186 = true then (some false) else (some (t187 == 2)))) = some r := H
   have A28 := Aside0.mk A280
   clear A280
   by_cases c29 : t197 = true
   rotate_left
   ·replace c29 := Bool.eq_false_iff.mpr c29
    subst c29
    have H1 : (if t186 = true then (some false) else (some (t187 == 2))) = some r := by rw [if_neg (show ¬ (false = true) by decide)] at H; exact H
    clear H
    have H := H1
    clear H1
    by_cases c33 : t186 = true
    ·subst c33
     have H1 : (some false) = some r := by rw [if_pos rfl] at H; exact H
     clear H
     have H := H1
     clear H1
     exact absurd (H.trans (congrArg some HRT.out)) (by simp)
    replace c33 := Bool.eq_false_iff.mpr c33
    subst c33
    have H1 : (some (t187 == 2)) = some r := by rw [if_neg (show ¬ (false = true) by decide)] at H; exact H
    clear H
    have H := H1
    clear H1
    obtain rfl := Option.some.inj H
    go_wp2_with (first | ((with_reducible refine gate_callee (f := 23) rfl ?_); refine gL 57 Try.func23 #[.slice A0 l0.length c0, .slice A1 l1.length c1] ?_; (with_reducible refine (congouref01_Two.calls kj9 _ _ l0 _ _ l1 false _ ?side1 ?side2 ?side3 ?side4 A28.out).mono ?_); (case side1 => exact kC HR0); (case side2 => exact HC0.out); (case side3 => exact kC HR1); (case side4 => exact HC1.out); rintro e w' ⟨rfl, ⟨nd, rfl⟩⟩; refine ⟨_, rfl, ?_⟩))
    go_ret
    exact ⟨by first | rfl | (simp [errW_none, errW_some] <;> rfl) | (simp [*, errW_none, errW_some] <;> rfl), hbC _⟩
   subst c29
   have H1 : ((congouref01_Uneven.f kj9 l0 l1).bind fun t198 => (if (t186 == t198) = true then (some (t187 == 0)) else (some false))) = some r := by rw [if_pos rfl] at H; exact H
   clear H
   have H := H1
   clear H1
   replace H := Option.bind_eq_some_iff.mp H
   obtain ⟨t198, A300, H⟩ := H
   replace H : (if (t186 == t198) = true then (some (t187 == 0)) else (some false)) = some r := H
   have A30 := Aside0.mk A300
   clear A300
   by_cases c31 : (t186 == t198) = true
   rotate_left
   ·rw [if_neg c31] at H
    have c31b0 : (t186 == t198) = false := by simpa using c31
    (try (have c31b1 : decide (t186 = t198) = false := by simpa using c31))
    (try (have c31b2 : (t186 == t198) = false := by simpa using c31))
    (try (have c31b3 : ¬ (t186 = t198) := by simpa using c31))
    clear c31
    exact absurd (H.trans (congrArg some HRT.out)) (by simp)
   rw [if_pos c31] at H
   have c31b0 : (t186 == t198) = true := c31
   (try (have c31b1 : decide (t186 = t198) = true := by simpa using c31))
   (try (have c31b2 : (t186 == t198) = true := by simpa using c31))
   clear c31
   obtain rfl := Option.some.inj H
   go_wp2_with (first | ((with_reducible refine gate_callee (f := 23) rfl ?_); refine gL 57 Try.func23 #[.slice A0 l0.length c0, .slice A1 l1.length c1] ?_; (with_reducible refine (congouref01_Two.calls kj9 _ _ l0 _ _ l1 true _ ?side1 ?side2 ?side3 ?side4 A28.out).mono ?_); (case side1 => exact kC HR0); (case side2 => exact HC0.out); (case side3 => exact kC HR1); (case side4 => exact HC1.out); rintro e w' ⟨rfl, ⟨nd, rfl⟩⟩; refine ⟨_, rfl, ?_⟩) | ((with_reducible refine gate_callee (f := 24) rfl ?_); refine gL 68 Try.func24 #[.slice A0 l0.length c0, .slice A1 l1.length c1] ?_; (with_reducible refine (congouref01_Uneven.calls kj9 _ _ l0 _ _ l1 t198 _ ?side1 ?side2 ?side3 ?side4 A30.out).mono ?_); (case side1 => repeat (first | exact (Kd.C_below HR0.out (hbC _)) | (with_reducible refine Kd.C_alloc ?_ _) | (with_reducible refine Kd.C_drewN ?_ _) | (with_reducible refine Kd.C_drew ?_))); (case side2 => exact HC0.out); (case side3 => repeat (first | exact (Kd.C_below HR1.out (hbC _)) | (with_reducible refine Kd.C_alloc ?_ _) | (with_reducible refine Kd.C_drewN ?_ _) | (with_reducible refine Kd.C_drew ?_))); (case side4 => exact HC1.out); rintro e w32 ⟨rfl, hb⟩; refine ⟨_, rfl, ?_⟩; replace HB := kH _ hb; (try clear hb); (try clear hb2); (try clear hk); (try clear hi)))
   go_ret
   exact ⟨by first | rfl | (simp [errW_none, errW_some] <;> rfl) | (simp [*, errW_none, errW_some] <;> rfl), hbC _⟩

/-- THE ONE PURE STATEMENT of congoulaw01_SharesCompares: yours. -/
def congoulaw01_SharesCompares.Pure : Prop := ∀ (l0 : List Int) (l1 : List Int), l0.length ≤ maxLen → l0.length * 8 ≤ 140737488351232 → (∀ x ∈ l0, (Lit.int .i64 x).wf = true) → l1.length ≤ maxLen → l1.length * 8 ≤ 140737488351232 → (∀ x ∈ l1, (Lit.int .i64 x).wf = true) → ∃ k, congoulaw01_SharesCompares.f k l0 l1 = some true
theorem congoulaw01_SharesCompares.walk (P : congoulaw01_SharesCompares.Pure) (a0 : Option Addr) (len0 cap0 : Nat) (z0 : List Int) (a1 : Option Addr) (len1 cap1 : Nat) (z1 : List Int) (w : World) (w0 : (a0 = none ∧ len0 = 0 ∧ cap0 = 0 ∧ z0 = []) ∨ ∃ x, a0 = some x ∧ len0 ≤ cap0 ∧ cap0 ≤ maxLen ∧ z0.length = cap0 ∧ (∀ i, i < z0.length → w.cell? (x.add i) = some (.int .i64 (z0.getD i 0))) ∧ ∀ n ∈ z0, (Lit.int .i64 n).wf = true) (y0 : len0 * 8 ≤ 140737488351232) (w1 : (a1 = none ∧ len1 = 0 ∧ cap1 = 0 ∧ z1 = []) ∨ ∃ x, a1 = some x ∧ len1 ≤ cap1 ∧ cap1 ≤ maxLen ∧ z1.length = cap1 ∧ (∀ i, i < z1.length → w.cell? (x.add i) = some (.int .i64 (z1.getD i 0))) ∧ ∀ n ∈ z1, (Lit.int .i64 n).wf = true) (y1 : len1 * 8 ≤ 140737488351232) :
  Calls Try.prog 3 #[.slice a0 len0 cap0, .slice a1 len1 cap1] w fun e w' => e = .returned (.bool true) ∧ Below w.heap.size w w' := by
 obtain ⟨l0, rfl, hr0, hm0, hw0, hc0⟩ := ReadsInt.ofRowC w0
 obtain ⟨l1, rfl, hr1, hm1, hw1, hc1⟩ := ReadsInt.ofRowC w1
 obtain ⟨k, h⟩ := P l0 l1 hm0 y0 hw0 hm1 y1 hw1
 refine (congoulaw01_SharesCompares.calls k _ _ l0 _ _ l1 true w (Kd.C_of_reads (d := (0 : Int)) (h1 := fun _ => rfl) hr0) hc0 (Kd.C_of_reads (d := (0 : Int)) (h1 := fun _ => rfl) hr1) hc1 rfl h).mono ?_
 rintro e w' ⟨rfl, hd⟩
 exact ⟨rfl, hd⟩

end Go.Proofs.Ytefmafbbnkkpjaa.X
