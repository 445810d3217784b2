-- Written by a program of this work (wip/xprint.py, over the kit's printer) out of the translation.
import Derived.Test.YtefmafbbnkkpjaaX0
import Derived.Test.YtefmafbbnkkpjaaXG1a
import Derived.Test.YtefmafbbnkkpjaaXG2a
import Derived.Test.YtefmafbbnkkpjaaXf17
import Derived.Test.YtefmafbbnkkpjaaXf19
import Derived.Test.YtefmafbbnkkpjaaXf21
import Derived.Test.YtefmafbbnkkpjaaXf34
import Derived.Test.YtefmafbbnkkpjaaXf35
import Derived.Test.YtefmafbbnkkpjaaXf36
namespace Go.Proofs.Ytefmafbbnkkpjaa.X
open Go.RowKit Go.Proofs.YtefmafbbnkkpjaaW.PrintWords Go.Proofs.YtefmafbbnkkpjaaW.PrintLast Go.Proofs.YtefmafbbnkkpjaaW.PrintMore
attribute [local go_sem] max2_int min2_int max_two min_two max_three min_three max_four min_four   -- for this text's walks alone
set_option linter.unusedVariables false
set_option linter.unusedSimpArgs false

/-! ### congoulaw01_SharesLess: function 10 -/
mutual
def congoulaw01_SharesLess.j0 : Nat → List Int → List Int → Bool → Int → Bool → Option (Bool)
 | 0, _, _, _, _, _ => none
 | k + 1, x0, x1, x7, x8, x33 => if x33 = true then (if x8 = 2 then ((congoulaw01_awake.f k).bind fun t338 => (some t338)) else (some false)) else ((congoulaw01_list.f x0).bind fun t339 => ((congoulaw01_list.f x1).bind fun t342 => ((shares_Uneven.f k t339 t342).bind fun bt345 => ((congoulaw01_list.f x0).bind fun t347 => ((shares_Gap.f k t347).bind fun bt350 => ((congoulaw01_list.f x1).bind fun t352 => ((shares_Gap.f k t352).bind fun bt355 => (if bt345.2 = 0 then (if bt350.2 = 0 then (if bt355.2 = 0 then (if x7 = true then (if bt345.1 = true then (congoulaw01_SharesLess.j1 k x0 x1 bt345.1 (decide (bt355.1 > bt350.1))) else (congoulaw01_SharesLess.j1 k x0 x1 bt345.1 true)) else (congoulaw01_SharesLess.j1 k x0 x1 bt345.1 false)) else (congoulaw01_SharesLess.j1 k x0 x1 bt345.1 true)) else (congoulaw01_SharesLess.j1 k x0 x1 bt345.1 true)) else (congoulaw01_SharesLess.j1 k x0 x1 bt345.1 true)))))))))
def congoulaw01_SharesLess.j1 : Nat → List Int → List Int → Bool → Bool → Option (Bool)
 | 0, _, _, _, _ => none
 | k + 1, x0, x1, x9, x80 => if x80 = true then (some false) else ((congoulaw01_list.f x0).bind fun t357 => ((congoulaw01_list.f x1).bind fun t360 => ((shares_Gives.f k t357 t360).bind fun bt363 => (if bt363.2 = 0 then ((congoulaw01_list.f x0).bind fun t373 => ((congoulaw01_list.f x1).bind fun t376 => ((shares_CheckGives.f k t373 t376 bt363.1).bind fun bt379 => (if bt379.1 = true then (if x9 = true then (if bt379.2 = 0 then ((congoulaw01_awake.f k).bind fun t381 => (some t381)) else (some false)) else (some false)) else (some false))))) else (if bt363.2 = 2 then ((congouref01_Falling.f k x0).bind fun t367 => (if t367 = true then ((congouref01_Falling.f k x1).bind fun t368 => (if t368 = true then (if bt363.2 = 4 then (if x9 = true then (some false) else ((congoulaw01_awake.f k).bind fun t369 => (some t369))) else (some false)) else ((congoulaw01_awake.f k).bind fun t370 => (some t370)))) else ((congoulaw01_awake.f k).bind fun t371 => (some t371)))) else (if bt363.2 = 4 then (if x9 = true then (some false) else ((congoulaw01_awake.f k).bind fun t372 => (some t372))) else (some false)))))))
end
def congoulaw01_SharesLess.f (k : Nat) (l0 : List Int) (l1 : List Int) (l2 : List (S78)) : Option (Bool) := (congoulaw01_list.f l0).bind fun t326 => ((congoulaw01_list.f l1).bind fun t329 => ((congoulaw01_Of.f k l2).bind fun t332 => ((shares_CheckGives.f k t326 t329 t332).bind fun bt335 => (if bt335.2 = 0 then ((congouref01_Two.f k l0 l1).bind fun t337 => (congoulaw01_SharesLess.j0 k l0 l1 bt335.1 bt335.2 (!t337))) else (congoulaw01_SharesLess.j0 k l0 l1 bt335.1 bt335.2 true)))))
theorem congoulaw01_SharesLess.mono_l : ∀ k, (∀ y0 y1 y2 y3 y4, LeO (congoulaw01_SharesLess.j0 k y0 y1 y2 y3 y4) (congoulaw01_SharesLess.j0 (k + 1) y0 y1 y2 y3 y4)) ∧ (∀ y0 y1 y2 y3, LeO (congoulaw01_SharesLess.j1 k y0 y1 y2 y3) (congoulaw01_SharesLess.j1 (k + 1) y0 y1 y2 y3))
 | 0 => ⟨fun _ _ _ _ _ r h => by simp [congoulaw01_SharesLess.j0] at h, fun _ _ _ _ r h => by simp [congoulaw01_SharesLess.j1] at h⟩
 | k + 1 => by
  obtain ⟨ih0, ih1⟩ := congoulaw01_SharesLess.mono_l k
  refine ⟨?_, ?_⟩
  ·intro y0 y1 y2 y3 y4
   unfold congoulaw01_SharesLess.j0
   repeat' first
   | (with_reducible exact ih0 _ _ _ _ _)
   | (with_reducible exact ih1 _ _ _ _)
   | (with_reducible exact congoulaw01_Of.mono _ _)
   | (with_reducible exact congoulaw01_awake.mono _)
   | (with_reducible exact congouref01_Falling.mono _ _)
   | (with_reducible exact congouref01_Two.mono _ _ _)
   | (with_reducible exact shares_CheckGives.mono _ _ _ _)
   | (with_reducible exact shares_Gap.mono _ _)
   | (with_reducible exact shares_Gives.mono _ _ _)
   | (with_reducible exact shares_Uneven.mono _ _ _)
   | (with_reducible exact LeO.refl _)
   | (with_reducible exact LeO.none _)
   | (with_reducible refine LeO.ite ?_ ?_)
   | (with_reducible refine LeO.bind ?_ (fun _ => ?_))
   | exact ih0 _ _ _ _ _
   | exact ih1 _ _ _ _
   | exact congoulaw01_Of.mono _ _
   | exact congoulaw01_awake.mono _
   | exact congouref01_Falling.mono _ _
   | exact congouref01_Two.mono _ _ _
   | exact shares_CheckGives.mono _ _ _ _
   | exact shares_Gap.mono _ _
   | exact shares_Gives.mono _ _ _
   | exact shares_Uneven.mono _ _ _
   | exact LeO.none _
   | refine LeO.ite ?_ ?_
   | refine LeO.bind ?_ (fun _ => ?_)
  ·intro y0 y1 y2 y3
   unfold congoulaw01_SharesLess.j1
   repeat' first
   | (with_reducible exact ih0 _ _ _ _ _)
   | (with_reducible exact ih1 _ _ _ _)
   | (with_reducible exact congoulaw01_Of.mono _ _)
   | (with_reducible exact congoulaw01_awake.mono _)
   | (with_reducible exact congouref01_Falling.mono _ _)
   | (with_reducible exact congouref01_Two.mono _ _ _)
   | (with_reducible exact shares_CheckGives.mono _ _ _ _)
   | (with_reducible exact shares_Gap.mono _ _)
   | (with_reducible exact shares_Gives.mono _ _ _)
   | (with_reducible exact shares_Uneven.mono _ _ _)
   | (with_reducible exact LeO.refl _)
   | (with_reducible exact LeO.none _)
   | (with_reducible refine LeO.ite ?_ ?_)
   | (with_reducible refine LeO.bind ?_ (fun _ => ?_))
   | exact ih0 _ _ _ _ _
   | exact ih1 _ _ _ _
   | exact congoulaw01_Of.mono _ _
   | exact congoulaw01_awake.mono _
   | exact congouref01_Falling.mono _ _
   | exact congouref01_Two.mono _ _ _
   | exact shares_CheckGives.mono _ _ _ _
   | exact shares_Gap.mono _ _
   | exact shares_Gives.mono _ _ _
   | exact shares_Uneven.mono _ _ _
   | exact LeO.none _
   | refine LeO.ite ?_ ?_
   | refine LeO.bind ?_ (fun _ => ?_)
theorem congoulaw01_SharesLess.mono : ∀ a0 a1 a2 k, LeO (congoulaw01_SharesLess.f k a0 a1 a2) (congoulaw01_SharesLess.f (k + 1) a0 a1 a2) := by
 intro a0 a1 a2 k
 obtain ⟨ih0, ih1⟩ := congoulaw01_SharesLess.mono_l k
 unfold congoulaw01_SharesLess.f
 repeat' first
   | (with_reducible exact ih0 _ _ _ _ _)
   | (with_reducible exact ih1 _ _ _ _)
   | (with_reducible exact congoulaw01_Of.mono _ _)
   | (with_reducible exact congoulaw01_awake.mono _)
   | (with_reducible exact congouref01_Falling.mono _ _)
   | (with_reducible exact congouref01_Two.mono _ _ _)
   | (with_reducible exact shares_CheckGives.mono _ _ _ _)
   | (with_reducible exact shares_Gap.mono _ _)
   | (with_reducible exact shares_Gives.mono _ _ _)
   | (with_reducible exact shares_Uneven.mono _ _ _)
   | (with_reducible exact LeO.refl _)
   | (with_reducible exact LeO.none _)
   | (with_reducible refine LeO.ite ?_ ?_)
   | (with_reducible refine LeO.bind ?_ (fun _ => ?_))
   | exact ih0 _ _ _ _ _
   | exact ih1 _ _ _ _
   | exact congoulaw01_Of.mono _ _
   | exact congoulaw01_awake.mono _
   | exact congouref01_Falling.mono _ _
   | exact congouref01_Two.mono _ _ _
   | exact shares_CheckGives.mono _ _ _ _
   | exact shares_Gap.mono _ _
   | exact shares_Gives.mono _ _ _
   | exact shares_Uneven.mono _ _ _
   | exact LeO.none _
   | refine LeO.ite ?_ ?_
   | refine LeO.bind ?_ (fun _ => ?_)
set_option maxHeartbeats 8000000 in
set_option maxRecDepth 100000 in
theorem congoulaw01_SharesLess.calls (k : Nat) (A0 : Option Addr) (c0 : Nat) (l0 : List Int) (A1 : Option Addr) (c1 : Nat) (l1 : List Int) (A2 : Option Addr) (c2 : Nat) (l2 : List (S78)) (r : Bool) (w : World) (hr0 : Kd.C (Kd.int .i64) w A0 l0.length l0) (hc0 : l0.length ≤ c0) (hr1 : Kd.C (Kd.int .i64) w A1 l1.length l1) (hc1 : l1.length ≤ c1) (hr2 : Kd.C k78 w A2 l2.length l2) (hc2 : l2.length ≤ c2) (hrt : r = true) (h : congoulaw01_SharesLess.f k l0 l1 l2 = some r) :
  Calls Try.prog 10 #[.slice A0 l0.length c0, .slice A1 l1.length c1, .slice A2 l2.length c2] w fun e w' => e = .returned (.bool r) ∧ Below w.heap.size w w' := by
 have HR0 := Aside0.mk hr0
 have HC0 := Aside0.mk hc0
 clear hr0 hc0
 have HR1 := Aside0.mk hr1
 have HC1 := Aside0.mk hc1
 clear hr1 hc1
 have HR2 := Aside0.mk hr2
 have HC2 := Aside0.mk hc2
 clear hr2 hc2
 have HB := ak (Below.refl w.heap.size w)
 have H : ((congoulaw01_list.f l0).bind fun t326 => ((congoulaw01_list.f l1).bind fun t329 => ((congoulaw01_Of.f k l2).bind fun t332 => ((shares_CheckGives.f k t326 t329 t332).bind fun bt335 => (if bt335.2 = 0 then ((congouref01_Two.f k l0 l1).bind fun t337 => (congoulaw01_SharesLess.j0 k l0 l1 bt335.1 bt335.2 (!t337))) else (congoulaw01_SharesLess.j0 k l0 l1 bt335.1 bt335.2 true)))))) = some r := h
 clear h
 have HRT := Aside0.mk hrt
 clear hrt
 replace H := Option.bind_eq_some_iff.mp H
 obtain ⟨t326, A40, H⟩ := H
 replace H : ((congoulaw01_list.f l1).bind fun t329 => ((congoulaw01_Of.f k l2).bind fun t332 => ((shares_CheckGives.f k t326 t329 t332).bind fun bt335 => (if bt335.2 = 0 then ((congouref01_Two.f k l0 l1).bind fun t337 => (congoulaw01_SharesLess.j0 k l0 l1 bt335.1 bt335.2 (!t337))) else (congoulaw01_SharesLess.j0 k l0 l1 bt335.1 bt335.2 true))))) = some r := H
 have A4 := Aside0.mk A40
 clear A40
 replace H := Option.bind_eq_some_iff.mp H
 obtain ⟨t329, A50, H⟩ := H
 replace H : ((congoulaw01_Of.f k l2).bind fun t332 => ((shares_CheckGives.f k t326 t329 t332).bind fun bt335 => (if bt335.2 = 0 then ((congouref01_Two.f k l0 l1).bind fun t337 => (congoulaw01_SharesLess.j0 k l0 l1 bt335.1 bt335.2 (!t337))) else (congoulaw01_SharesLess.j0 k l0 l1 bt335.1 bt335.2 true)))) = some r := H
 have A5 := Aside0.mk A50
 clear A50
 replace H := Option.bind_eq_some_iff.mp H
 obtain ⟨t332, A60, H⟩ := H
 replace H : ((shares_CheckGives.f k t326 t329 t332).bind fun bt335 => (if bt335.2 = 0 then ((congouref01_Two.f k l0 l1).bind fun t337 => (congoulaw01_SharesLess.j0 k l0 l1 bt335.1 bt335.2 (!t337))) else (congoulaw01_SharesLess.j0 k l0 l1 bt335.1 bt335.2 true))) = some r := H
 have A6 := Aside0.mk A60
 clear A60
 replace H := Option.bind_eq_some_iff.mp H
 obtain ⟨⟨t335, t336⟩, A70, H⟩ := H
 replace H : (if t336 = 0 then ((congouref01_Two.f k l0 l1).bind fun t337 => (congoulaw01_SharesLess.j0 k l0 l1 t335 t336 (!t337))) else (congoulaw01_SharesLess.j0 k l0 l1 t335 t336 true)) = some r := H
 have A7 := Aside0.mk A70
 clear A70
 have HC8 := Aside0.mk H
 clear H
 go_enter Try.func10, Try.ntmps10
 go_upto_region 2 with (first | ((with_reducible refine gate_callee (f := 18) rfl ?_); refine gL 18 Try.func18 #[.slice A0 l0.length c0] ?_; (with_reducible refine (congoulaw01_list.calls _ _ l0 t326 _ ?side1 ?side2 A4.out).mono ?_); (case side1 => repeat (first | exact HR0.out | (with_reducible refine Kd.C_alloc ?_ _) | (with_reducible refine Kd.C_drewN ?_ _) | (with_reducible refine Kd.C_drew ?_))); (case side2 => exact HC0.out); rintro e w9 ⟨v327, rfl, ho0, hb⟩; refine ⟨_, rfl, ?_⟩; have HO328 := ak (Kd.R_lower ho0 (below_size (hbC _))); replace HB := kH _ hb; (try clear hb); (try clear hb2); (try clear hk); (try clear hi); (try clear ho0)) | ((with_reducible refine gate_callee (f := 18) rfl ?_); refine gL 20 Try.func18 #[.slice A1 l1.length c1] ?_; (with_reducible refine (congoulaw01_list.calls _ _ l1 t329 _ ?side1 ?side2 A5.out).mono ?_); (case side1 => exact kC HR1); (case side2 => exact HC1.out); rintro e w10 ⟨v330, rfl, ho0, hb⟩; refine ⟨_, rfl, ?_⟩; have HO331 := ak (Kd.R_lower (Kd.R_new' ho0 (Kd.R_lt (rC HO328))) (below_size (hbC _))); replace HO328 := ak (Kd.R_elder' (rC HO328) (Kd.R_base ho0) hb); replace HB := kH _ hb; (try clear hb); (try clear hb2); (try clear hk); (try clear hi); (try clear ho0)) | ((with_reducible refine gate_callee (f := 36) rfl ?_); refine gL 22 Try.func36 #[.slice A2 l2.length c2] ?_; (with_reducible refine (congoulaw01_Of.calls k _ _ l2 t332 _ ?side1 ?side2 A6.out).mono ?_); (case side1 => exact kC HR2); (case side2 => exact HC2.out); rintro e w11 ⟨v333, rfl, ho0, hb⟩; refine ⟨_, rfl, ?_⟩; replace HO328 := kO HO328 hb; replace HO331 := kO HO331 hb; have HO334 := ak (Kd.R_lower ho0 (below_size (hbC _))); replace HB := kH _ hb; (try clear hb); (try clear hb2); (try clear hk); (try clear hi); (try clear ho0); obtain ⟨Ao12, co12, eo12⟩ := Kd.R_slice HO328.out; subst eo12; obtain ⟨Ao13, co13, eo13⟩ := Kd.R_slice HO331.out; subst eo13; obtain ⟨Ao14, co14, eo14⟩ := Kd.R_slice HO334.out; subst eo14) | ((with_reducible refine gate_callee (f := 35) rfl ?_); refine gL 23 Try.func35 #[.slice Ao12 t326.length co12, .slice Ao13 t329.length co13, .slice Ao14 t332.length co14] ?_; (with_reducible refine (shares_CheckGives.calls k (fun k_ => some k_ = (.slice Ao12 t326.length co12 : Value).ownBlock) _ _ t326 (fun k_ => some k_ = (.slice Ao13 t329.length co13 : Value).ownBlock) _ _ t329 _ _ t332 t335 t336 _ ?side1 ?side2 ?side3 ?side4 A7.out).mono ?_); (case side1 => exact Kd.R_V (Kd.R_tight rfl (Kd.R_apart' (HO328.out) (Kd.R_typed HO334.out) (by decide)))); (case side2 => exact Kd.R_V (Kd.R_tight rfl (Kd.R_apart' (HO331.out) (Kd.R_typed HO334.out) (by decide)))); (case side3 => exact kD (Kd.R_reads' HO334.out).2.2); (case side4 => exact (Kd.R_reads' HO334.out).2.1); rintro e w15 ⟨rfl, hb⟩; refine ⟨_, rfl, ?_⟩; replace HO328 := kO HO328 hb; replace HO331 := kO HO331 hb; replace HO334 := kO HO334 hb; replace HB := kH _ hb; (try clear hb); (try clear hb2); (try clear hk); (try clear hi)))
 (try simp only [Act.put, List.setIfInBounds_toArray, List.set_cons_zero, List.set_cons_succ])
 go_cut [33] (fun v33 wc => ∃ (kq : Nat) (x33_7 : Bool), v33 = .bool x33_7 ∧ Aside0 (congoulaw01_SharesLess.j0 kq l0 l1 t335 t336 x33_7 = some r) ∧ Aside0 (kq ≤ k) ∧ Aside0 (Below w.heap.size w wc))
 case first =>
  have H := HC8.out
  clear HC8
  by_cases c16 : t336 = 0
  rotate_left
  ·rw [if_neg c16] at H
   have c16b0 : (t336 == 0) = false := beq_eq_false_iff_ne.mpr c16
   have c16b1 : (t336 != 0) = true := bne_iff_ne.mpr c16
   (first | rw [c16b0] | (simp only [i64_w, i32_w]; rw [c16b0]) | skip)
   have H' := Aside0.mk H
   clear H
   go_wp2
   go_meet
   case rel => exact ⟨_, (true), (by first | rfl | (simp; done) | (simp [*]; done)), H', ⟨by first | omega | exact Nat.le_refl _⟩, ⟨hbC _⟩⟩
  rw [if_pos c16] at H
  have c16b0 : (t336 == 0) = true := beq_iff_eq.mpr c16
  have c16b1 : (t336 != 0) = false := bne_eq_false_iff_eq.mpr c16
  clear c16
  (first | rw [c16b0] | (simp only [i64_w, i32_w]; rw [c16b0]) | skip)
  replace H := Option.bind_eq_some_iff.mp H
  obtain ⟨t337, A170, H⟩ := H
  replace H : (congoulaw01_SharesLess.j0 k l0 l1 t335 t336 (!t337)) = some r := H
  have A17 := Aside0.mk A170
  clear A170
  have H' := Aside0.mk H
  clear H
  go_wp2_with (first | (go_at_call 23; (with_reducible refine (congouref01_Two.calls k _ _ l0 _ _ l1 t337 _ ?side1 ?side2 ?side3 ?side4 A17.out).mono ?_); (case side1 => exact kC HR0); (case side2 => exact HC0.out); (case side3 => exact kC HR1); (case side4 => exact HC1.out); rintro e w' ⟨rfl, ⟨nd, rfl⟩⟩))
  go_meet
  case rel => exact ⟨_, (!t337), (by first | rfl | (simp; done) | (simp [*]; done)), H', ⟨by first | omega | exact Nat.le_refl _⟩, ⟨hbC _⟩⟩
 case rest =>
  clear HC8
  try clear c1
  try clear c2
  try clear p2
  try clear c3
  try clear c10
  try clear c16
  try clear c16b0
  try clear c16b1
  obtain ⟨kq, x33_7, rfl, HA, HJ7, HB⟩ := hcut
  cases kq with
  | zero => exact absurd HA.out (by simp [congoulaw01_SharesLess.j0])
  | succ kj7 =>
   have H := HA.out
   clear HA
   simp only [congoulaw01_SharesLess.j0] at H
   by_cases c18 : x33_7 = true
   ·subst c18
    have H1 : (if t336 = 2 then ((congoulaw01_awake.f kj7).bind fun t338 => (some t338)) else (some false)) = some r := by rw [if_pos rfl] at H; exact H
    clear H
    have H := H1
    clear H1
    by_cases c19 : t336 = 2
    rotate_left
    ·rw [if_neg c19] at H
     have c19b0 : (t336 == 2) = false := beq_eq_false_iff_ne.mpr c19
     have c19b1 : (t336 != 2) = true := bne_iff_ne.mpr c19
     exact absurd (H.trans (congrArg some HRT.out)) (by simp)
    rw [if_pos c19] at H
    have c19b0 : (t336 == 2) = true := beq_iff_eq.mpr c19
    have c19b1 : (t336 != 2) = false := bne_eq_false_iff_eq.mpr c19
    clear c19
    replace H := Option.bind_eq_some_iff.mp H
    obtain ⟨t338, A200, H⟩ := H
    replace H : (some t338) = some r := H
    have A20 := Aside0.mk A200
    clear A200
    obtain rfl := Option.some.inj H
    go_wp2_with (first | (go_at_call 21; (with_reducible refine (congoulaw01_awake.calls kj7  t338 _ A20.out).mono ?_); rintro e w21 ⟨rfl, hb⟩; replace HB := kH _ hb; (try clear hb); (try clear hb2); (try clear hk); (try clear hi)))
    go_ret
    exact ⟨by first | rfl | (simp [errW_none, errW_some] <;> rfl) | (simp [*, errW_none, errW_some] <;> rfl), hbC _⟩
   replace c18 := Bool.eq_false_iff.mpr c18
   subst c18
   have H1 : ((congoulaw01_list.f l0).bind fun t339 => ((congoulaw01_list.f l1).bind fun t342 => ((shares_Uneven.f kj7 t339 t342).bind fun bt345 => ((congoulaw01_list.f l0).bind fun t347 => ((shares_Gap.f kj7 t347).bind fun bt350 => ((congoulaw01_list.f l1).bind fun t352 => ((shares_Gap.f kj7 t352).bind fun bt355 => (if bt345.2 = 0 then (if bt350.2 = 0 then (if bt355.2 = 0 then (if t335 = true then (if bt345.1 = true then (congoulaw01_SharesLess.j1 kj7 l0 l1 bt345.1 (decide (bt355.1 > bt350.1))) else (congoulaw01_SharesLess.j1 kj7 l0 l1 bt345.1 true)) else (congoulaw01_SharesLess.j1 kj7 l0 l1 bt345.1 false)) else (congoulaw01_SharesLess.j1 kj7 l0 l1 bt345.1 true)) else (congoulaw01_SharesLess.j1 kj7 l0 l1 bt345.1 true)) else (congoulaw01_SharesLess.j1 kj7 l0 l1 bt345.1 true))))))))) = some r := by rw [if_neg (show ¬ (false = true) by decide)] at H; exact H
   clear H
   have H := H1
   clear H1
   replace H := Option.bind_eq_some_iff.mp H
   obtain ⟨t339, A220, H⟩ := H
   replace H : ((congoulaw01_list.f l1).bind fun t342 => ((shares_Uneven.f kj7 t339 t342).bind fun bt345 => ((congoulaw01_list.f l0).bind fun t347 => ((shares_Gap.f kj7 t347).bind fun bt350 => ((congoulaw01_list.f l1).bind fun t352 => ((shares_Gap.f kj7 t352).bind fun bt355 => (if bt345.2 = 0 then (if bt350.2 = 0 then (if bt355.2 = 0 then (if t335 = true then (if bt345.1 = true then (congoulaw01_SharesLess.j1 kj7 l0 l1 bt345.1 (decide (bt355.1 > bt350.1))) else (congoulaw01_SharesLess.j1 kj7 l0 l1 bt345.1 true)) else (congoulaw01_SharesLess.j1 kj7 l0 l1 bt345.1 false)) else (congoulaw01_SharesLess.j1 kj7 l0 l1 bt345.1 true)) else (congoulaw01_SharesLess.j1 kj7 l0 l1 bt345.1 true)) else (congoulaw01_SharesLess.j1 kj7 l0 l1 bt345.1 true)))))))) = some r := H
   have A22 := Aside0.mk A220
   clear A220
   replace H := Option.bind_eq_some_iff.mp H
   obtain ⟨t342, A230, H⟩ := H
   replace H : ((shares_Uneven.f kj7 t339 t342).bind fun bt345 => ((congoulaw01_list.f l0).bind fun t347 => ((shares_Gap.f kj7 t347).bind fun bt350 => ((congoulaw01_list.f l1).bind fun t352 => ((shares_Gap.f kj7 t352).bind fun bt355 => (if bt345.2 = 0 then (if bt350.2 = 0 then (if bt355.2 = 0 then (if t335 = true then (if bt345.1 = true then (congoulaw01_SharesLess.j1 kj7 l0 l1 bt345.1 (decide (bt355.1 > bt350.1))) else (congoulaw01_SharesLess.j1 kj7 l0 l1 bt345.1 true)) else (congoulaw01_SharesLess.j1 kj7 l0 l1 bt345.1 false)) else (congoulaw01_SharesLess.j1 kj7 l0 l1 bt345.1 true)) else (congoulaw01_SharesLess.j1 kj7 l0 l1 bt345.1 true)) else (congoulaw01_SharesLess.j1 kj7 l0 l1 bt345.1 true))))))) = some r := H
   have A23 := Aside0.mk A230
   clear A230
   replace H := Option.bind_eq_some_iff.mp H
   obtain ⟨⟨t345, t346⟩, A240, H⟩ := H
   replace H : ((congoulaw01_list.f l0).bind fun t347 => ((shares_Gap.f kj7 t347).bind fun bt350 => ((congoulaw01_list.f l1).bind fun t352 => ((shares_Gap.f kj7 t352).bind fun bt355 => (if t346 = 0 then (if bt350.2 = 0 then (if bt355.2 = 0 then (if t335 = true then (if t345 = true then (congoulaw01_SharesLess.j1 kj7 l0 l1 t345 (decide (bt355.1 > bt350.1))) else (congoulaw01_SharesLess.j1 kj7 l0 l1 t345 true)) else (congoulaw01_SharesLess.j1 kj7 l0 l1 t345 false)) else (congoulaw01_SharesLess.j1 kj7 l0 l1 t345 true)) else (congoulaw01_SharesLess.j1 kj7 l0 l1 t345 true)) else (congoulaw01_SharesLess.j1 kj7 l0 l1 t345 true)))))) = some r := H
   have A24 := Aside0.mk A240
   clear A240
   replace H := Option.bind_eq_some_iff.mp H
   obtain ⟨t347, A250, H⟩ := H
   replace H : ((shares_Gap.f kj7 t347).bind fun bt350 => ((congoulaw01_list.f l1).bind fun t352 => ((shares_Gap.f kj7 t352).bind fun bt355 => (if t346 = 0 then (if bt350.2 = 0 then (if bt355.2 = 0 then (if t335 = true then (if t345 = true then (congoulaw01_SharesLess.j1 kj7 l0 l1 t345 (decide (bt355.1 > bt350.1))) else (congoulaw01_SharesLess.j1 kj7 l0 l1 t345 true)) else (congoulaw01_SharesLess.j1 kj7 l0 l1 t345 false)) else (congoulaw01_SharesLess.j1 kj7 l0 l1 t345 true)) else (congoulaw01_SharesLess.j1 kj7 l0 l1 t345 true)) else (congoulaw01_SharesLess.j1 kj7 l0 l1 t345 true))))) = some r := H
   have A25 := Aside0.mk A250
   clear A250
   replace H := Option.bind_eq_some_iff.mp H
   obtain ⟨⟨t350, t351⟩, A260, H⟩ := H
   replace H : ((congoulaw01_list.f l1).bind fun t352 => ((shares_Gap.f kj7 t352).bind fun bt355 => (if t346 = 0 then (if t351 = 0 then (if bt355.2 = 0 then (if t335 = true then (if t345 = true then (congoulaw01_SharesLess.j1 kj7 l0 l1 t345 (decide (bt355.1 > t350))) else (congoulaw01_SharesLess.j1 kj7 l0 l1 t345 true)) else (congoulaw01_SharesLess.j1 kj7 l0 l1 t345 false)) else (congoulaw01_SharesLess.j1 kj7 l0 l1 t345 true)) else (congoulaw01_SharesLess.j1 kj7 l0 l1 t345 true)) else (congoulaw01_SharesLess.j1 kj7 l0 l1 t345 true)))) = some r := H
   have A26 := Aside0.mk A260
   clear A260
   replace H := Option.bind_eq_some_iff.mp H
   obtain ⟨t352, A270, H⟩ := H
   replace H : ((shares_Gap.f kj7 t352).bind fun bt355 => (if t346 = 0 then (if t351 = 0 then (if bt355.2 = 0 then (if t335 = true then (if t345 = true then (congoulaw01_SharesLess.j1 kj7 l0 l1 t345 (decide (bt355.1 > t350))) else (congoulaw01_SharesLess.j1 kj7 l0 l1 t345 true)) else (congoulaw01_SharesLess.j1 kj7 l0 l1 t345 false)) else (congoulaw01_SharesLess.j1 kj7 l0 l1 t345 true)) else (congoulaw01_SharesLess.j1 kj7 l0 l1 t345 true)) else (congoulaw01_SharesLess.j1 kj7 l0 l1 t345 true))) = some r := H
   have A27 := Aside0.mk A270
   clear A270
   replace H := Option.bind_eq_some_iff.mp H
   obtain ⟨⟨t355, t356⟩, A280, H⟩ := H
   replace H : (if t346 = 0 then (if t351 = 0 then (if t356 = 0 then (if t335 = true then (if t345 = true then (congoulaw01_SharesLess.j1 kj7 l0 l1 t345 (decide (t355 > t350))) else (congoulaw01_SharesLess.j1 kj7 l0 l1 t345 true)) else (congoulaw01_SharesLess.j1 kj7 l0 l1 t345 false)) else (congoulaw01_SharesLess.j1 kj7 l0 l1 t345 true)) else (congoulaw01_SharesLess.j1 kj7 l0 l1 t345 true)) else (congoulaw01_SharesLess.j1 kj7 l0 l1 t345 true)) = some r := H
   have A28 := Aside0.mk A280
   clear A280
   have HC29 := Aside0.mk H
   clear H
   go_upto_region 7 with (first | ((with_reducible refine gate_callee (f := 18) rfl ?_); refine gL 41 Try.func18 #[.slice A0 l0.length c0] ?_; (with_reducible refine (congoulaw01_list.calls _ _ l0 t339 _ ?side1 ?side2 A22.out).mono ?_); (case side1 => exact kC HR0); (case side2 => exact HC0.out); rintro e w30 ⟨v340, rfl, ho0, hb⟩; refine ⟨_, rfl, ?_⟩; have HO341 := ak (Kd.R_lower ho0 (below_size (hbC _))); replace HB := kH _ hb; (try clear hb); (try clear hb2); (try clear hk); (try clear hi); (try clear ho0)) | ((with_reducible refine gate_callee (f := 18) rfl ?_); refine gL 43 Try.func18 #[.slice A1 l1.length c1] ?_; (with_reducible refine (congoulaw01_list.calls _ _ l1 t342 _ ?side1 ?side2 A23.out).mono ?_); (case side1 => exact kC HR1); (case side2 => exact HC1.out); rintro e w31 ⟨v343, rfl, ho0, hb⟩; refine ⟨_, rfl, ?_⟩; have HO344 := ak (Kd.R_lower (Kd.R_new' ho0 (Kd.R_lt (rC HO341))) (below_size (hbC _))); replace HO341 := ak (Kd.R_elder' (rC HO341) (Kd.R_base ho0) hb); replace HB := kH _ hb; (try clear hb); (try clear hb2); (try clear hk); (try clear hi); (try clear ho0); obtain ⟨Ao32, co32, eo32⟩ := Kd.R_slice HO341.out; subst eo32; obtain ⟨Ao33, co33, eo33⟩ := Kd.R_slice HO344.out; subst eo33) | ((with_reducible refine gate_callee (f := 17) rfl ?_); refine gL 44 Try.func17 #[.slice Ao32 t339.length co32, .slice Ao33 t342.length co33] ?_; (with_reducible refine (shares_Uneven.calls kj7 (fun k_ => some k_ = (.slice Ao32 t339.length co32 : Value).ownBlock) _ _ t339 (fun k_ => some k_ = (.slice Ao33 t342.length co33 : Value).ownBlock) _ _ t342 t345 t346 _ ?side1 ?side2 A24.out).mono ?_); (case side1 => exact Kd.R_V (Kd.R_tight rfl (HO341.out))); (case side2 => exact Kd.R_V (Kd.R_tight rfl (HO344.out))); rintro e w34 ⟨rfl, hb⟩; refine ⟨_, rfl, ?_⟩; replace HO341 := kO HO341 hb; replace HO344 := kO HO344 hb; replace HB := kH _ hb; (try clear hb); (try clear hb2); (try clear hk); (try clear hi)) | ((with_reducible refine gate_callee (f := 18) rfl ?_); refine gL 49 Try.func18 #[.slice A0 l0.length c0] ?_; (with_reducible refine (congoulaw01_list.calls _ _ l0 t347 _ ?side1 ?side2 A25.out).mono ?_); (case side1 => exact kC HR0); (case side2 => exact HC0.out); rintro e w35 ⟨v348, rfl, ho0, hb⟩; refine ⟨_, rfl, ?_⟩; have HO349 := ak (Kd.R_lower (Kd.R_new' (Kd.R_new' ho0 (Kd.R_lt (rC HO341))) (Kd.R_lt (rC HO344))) (below_size (hbC _))); replace HO341 := ak (Kd.R_elder' (rC HO341) (Kd.R_base ho0) hb); replace HO344 := ak (Kd.R_elder' (rC HO344) (Kd.R_base ho0) hb); replace HB := kH _ hb; (try clear hb); (try clear hb2); (try clear hk); (try clear hi); (try clear ho0); obtain ⟨Ao36, co36, eo36⟩ := Kd.R_slice HO349.out; subst eo36) | ((with_reducible refine gate_callee (f := 19) rfl ?_); refine gL 50 Try.func19 #[.slice Ao36 t347.length co36] ?_; (with_reducible refine (shares_Gap.calls kj7 (fun k_ => some k_ = (.slice Ao36 t347.length co36 : Value).ownBlock) _ _ t347 t350 t351 _ ?side1 A26.out).mono ?_); (case side1 => exact Kd.R_V (Kd.R_tight rfl (HO349.out))); rintro e w37 ⟨rfl, hb⟩; refine ⟨_, rfl, ?_⟩; replace HO341 := kO HO341 hb; replace HO344 := kO HO344 hb; replace HO349 := kO HO349 hb; replace HB := kH _ hb; (try clear hb); (try clear hb2); (try clear hk); (try clear hi)) | ((with_reducible refine gate_callee (f := 18) rfl ?_); refine gL 55 Try.func18 #[.slice A1 l1.length c1] ?_; (with_reducible refine (congoulaw01_list.calls _ _ l1 t352 _ ?side1 ?side2 A27.out).mono ?_); (case side1 => exact kC HR1); (case side2 => exact HC1.out); rintro e w38 ⟨v353, rfl, ho0, hb⟩; refine ⟨_, rfl, ?_⟩; have HO354 := ak (Kd.R_lower (Kd.R_new' (Kd.R_new' (Kd.R_new' ho0 (Kd.R_lt (rC HO341))) (Kd.R_lt (rC HO344))) (Kd.R_lt (rC HO349))) (below_size (hbC _))); replace HO341 := ak (Kd.R_elder' (rC HO341) (Kd.R_base ho0) hb); replace HO344 := ak (Kd.R_elder' (rC HO344) (Kd.R_base ho0) hb); replace HO349 := ak (Kd.R_elder' (rC HO349) (Kd.R_base ho0) hb); replace HB := kH _ hb; (try clear hb); (try clear hb2); (try clear hk); (try clear hi); (try clear ho0); obtain ⟨Ao39, co39, eo39⟩ := Kd.R_slice HO354.out; subst eo39) | ((with_reducible refine gate_callee (f := 19) rfl ?_); refine gL 56 Try.func19 #[.slice Ao39 t352.length co39] ?_; (with_reducible refine (shares_Gap.calls kj7 (fun k_ => some k_ = (.slice Ao39 t352.length co39 : Value).ownBlock) _ _ t352 t355 t356 _ ?side1 A28.out).mono ?_); (case side1 => exact Kd.R_V (Kd.R_tight rfl (HO354.out))); rintro e w40 ⟨rfl, hb⟩; refine ⟨_, rfl, ?_⟩; replace HO341 := kO HO341 hb; replace HO344 := kO HO344 hb; replace HO349 := kO HO349 hb; replace HO354 := kO HO354 hb; replace HB := kH _ hb; (try clear hb); (try clear hb2); (try clear hk); (try clear hi)))
   (try simp only [Act.put, List.setIfInBounds_toArray, List.set_cons_zero, List.set_cons_succ])
   go_cut [80] (fun v80 wc => ∃ (kq : Nat) (x80_28 : Bool), v80 = .bool x80_28 ∧ Aside0 (congoulaw01_SharesLess.j1 kq l0 l1 t345 x80_28 = some r) ∧ Aside0 (kq ≤ kj7) ∧ Aside0 (Below w.heap.size w wc))
   case first =>
    have H := HC29.out
    clear HC29
    by_cases c41 : t346 = 0
    rotate_left
    ·rw [if_neg c41] at H
     have c41b0 : (t346 == 0) = false := beq_eq_false_iff_ne.mpr c41
     have c41b1 : (t346 != 0) = true := bne_iff_ne.mpr c41
     (first | rw [c41b0] | (simp only [i64_w, i32_w]; rw [c41b0]) | skip)
     have H' := Aside0.mk H
     clear H
     go_wp2
     go_meet
     case rel => exact ⟨_, (true), (by first | rfl | (simp; done) | (simp [*]; done)), H', ⟨by have := HJ7.out; first | omega | exact Nat.le_refl _⟩, ⟨hbC _⟩⟩
    rw [if_pos c41] at H
    have c41b0 : (t346 == 0) = true := beq_iff_eq.mpr c41
    have c41b1 : (t346 != 0) = false := bne_eq_false_iff_eq.mpr c41
    clear c41
    (first | rw [c41b0] | (simp only [i64_w, i32_w]; rw [c41b0]) | skip)
    by_cases c42 : t351 = 0
    rotate_left
    ·rw [if_neg c42] at H
     have c42b0 : (t351 == 0) = false := beq_eq_false_iff_ne.mpr c42
     have c42b1 : (t351 != 0) = true := bne_iff_ne.mpr c42
     have H' := Aside0.mk H
     clear H
     go_wp2
     go_meet
     case rel => exact ⟨_, (true), (by first | rfl | (simp; done) | (simp [*]; done)), H', ⟨by have := HJ7.out; first | omega | exact Nat.le_refl _⟩, ⟨hbC _⟩⟩
    rw [if_pos c42] at H
    have c42b0 : (t351 == 0) = true := beq_iff_eq.mpr c42
    have c42b1 : (t351 != 0) = false := bne_eq_false_iff_eq.mpr c42
    clear c42
    by_cases c43 : t356 = 0
    rotate_left
    ·rw [if_neg c43] at H
     have c43b0 : (t356 == 0) = false := beq_eq_false_iff_ne.mpr c43
     have c43b1 : (t356 != 0) = true := bne_iff_ne.mpr c43
     have H' := Aside0.mk H
     clear H
     go_wp2
     go_meet
     case rel => exact ⟨_, (true), (by first | rfl | (simp; done) | (simp [*]; done)), H', ⟨by have := HJ7.out; first | omega | exact Nat.le_refl _⟩, ⟨hbC _⟩⟩
    rw [if_pos c43] at H
    have c43b0 : (t356 == 0) = true := beq_iff_eq.mpr c43
    have c43b1 : (t356 != 0) = false := bne_eq_false_iff_eq.mpr c43
    clear c43
    by_cases c44 : t335 = true
    rotate_left
    ·replace c44 := Bool.eq_false_iff.mpr c44
     subst c44
     have H1 : (congoulaw01_SharesLess.j1 kj7 l0 l1 t345 false) = some r := by rw [if_neg (show ¬ (false = true) by decide)] at H; exact H
     clear H
     have H := H1
     clear H1
     have H' := Aside0.mk H
     clear H
     go_wp2
     go_meet
     case rel => exact ⟨_, (false), (by first | rfl | (simp; done) | (simp [*]; done)), H', ⟨by have := HJ7.out; first | omega | exact Nat.le_refl _⟩, ⟨hbC _⟩⟩
    subst c44
    have H1 : (if t345 = true then (congoulaw01_SharesLess.j1 kj7 l0 l1 t345 (decide (t355 > t350))) else (congoulaw01_SharesLess.j1 kj7 l0 l1 t345 true)) = some r := by rw [if_pos rfl] at H; exact H
    clear H
    have H := H1
    clear H1
    by_cases c45 : t345 = true
    ·subst c45
     have H1 : (congoulaw01_SharesLess.j1 kj7 l0 l1 true (decide (t355 > t350))) = some r := by rw [if_pos rfl] at H; exact H
     clear H
     have H := H1
     clear H1
     have H' := Aside0.mk H
     clear H
     go_wp2
     go_meet
     case rel => exact ⟨_, (decide (t355 > t350)), (by first | rfl | (simp; done) | (simp [*]; done)), H', ⟨by have := HJ7.out; first | omega | exact Nat.le_refl _⟩, ⟨hbC _⟩⟩
    replace c45 := Bool.eq_false_iff.mpr c45
    subst c45
    have H1 : (congoulaw01_SharesLess.j1 kj7 l0 l1 false true) = some r := by rw [if_neg (show ¬ (false = true) by decide)] at H; exact H
    clear H
    have H := H1
    clear H1
    have H' := Aside0.mk H
    clear H
    go_wp2
    go_meet
    case rel => exact ⟨_, (true), (by first | rfl | (simp; done) | (simp [*]; done)), H', ⟨by have := HJ7.out; first | omega | exact Nat.le_refl _⟩, ⟨hbC _⟩⟩
   case rest =>
    clear HC29
    try clear c1
    try clear c2
    try clear p2
    try clear c3
    try clear c4
    try clear c10
    try clear c16
    try clear c16b0
    try clear c16b1
    try clear c17
    try clear c18
    try clear c19
    try clear c19b0
    try clear c19b1
    try clear c35
    try clear c36
    try clear c41
    try clear c41b0
    try clear c41b1
    try clear c42
    try clear c42b0
    try clear c42b1
    try clear c43
    try clear c43b0
    try clear c43b1
    try clear c44
    try clear c45
    try clear p2
    obtain ⟨kq, x80_28, rfl, HA, HJ28, HB⟩ := hcut
    cases kq with
    | zero => exact absurd HA.out (by simp [congoulaw01_SharesLess.j1])
    | succ kj28 =>
     have H := HA.out
     clear HA
     simp only [congoulaw01_SharesLess.j1] at H
     by_cases c46 : x80_28 = true
     ·subst c46
      have H1 : (some false) = some r := by rw [if_pos rfl] at H; exact H
      clear H
      have H := H1
      clear H1
      exact absurd (H.trans (congrArg some HRT.out)) (by simp)
     replace c46 := Bool.eq_false_iff.mpr c46
     subst c46
     have H1 : ((congoulaw01_list.f l0).bind fun t357 => ((congoulaw01_list.f l1).bind fun t360 => ((shares_Gives.f kj28 t357 t360).bind fun bt363 => (if bt363.2 = 0 then ((congoulaw01_list.f l0).bind fun t373 => ((congoulaw01_list.f l1).bind fun t376 => ((shares_CheckGives.f kj28 t373 t376 bt363.1).bind fun bt379 => (if bt379.1 = true then (if t345 = true then (if bt379.2 = 0 then ((congoulaw01_awake.f kj28).bind fun t381 => (some t381)) else (some false)) else (some false)) else (some false))))) else (if bt363.2 = 2 then ((congouref01_Falling.f kj28 l0).bind fun t367 => (if t367 = true then ((congouref01_Falling.f kj28 l1).bind fun t368 => (if t368 = true then (if bt363.2 = 4 then (if t345 = true then (some false) else ((congoulaw01_awake.f kj28).bind fun t369 => (some t369))) else (some false)) else ((congoulaw01_awake.f kj28).bind fun t370 => (some t370)))) else ((congoulaw01_awake.f kj28).bind fun t371 => (some t371)))) else (if bt363.2 = 4 then (if t345 = true then (some false) else ((congoulaw01_awake.f kj28).bind fun t372 => (some t372))) else (some false))))))) = some r := by rw [if_neg (show ¬ (false = true) by decide)] at H; exact H
     clear H
     have H := H1
     clear H1
     replace H := Option.bind_eq_some_iff.mp H
     obtain ⟨t357, A470, H⟩ := H
     replace H : ((congoulaw01_list.f l1).bind fun t360 => ((shares_Gives.f kj28 t357 t360).bind fun bt363 => (if bt363.2 = 0 then ((congoulaw01_list.f l0).bind fun t373 => ((congoulaw01_list.f l1).bind fun t376 => ((shares_CheckGives.f kj28 t373 t376 bt363.1).bind fun bt379 => (if bt379.1 = true then (if t345 = true then (if bt379.2 = 0 then ((congoulaw01_awake.f kj28).bind fun t381 => (some t381)) else (some false)) else (some false)) else (some false))))) else (if bt363.2 = 2 then ((congouref01_Falling.f kj28 l0).bind fun t367 => (if t367 = true then ((congouref01_Falling.f kj28 l1).bind fun t368 => (if t368 = true then (if bt363.2 = 4 then (if t345 = true then (some false) else ((congoulaw01_awake.f kj28).bind fun t369 => (some t369))) else (some false)) else ((congoulaw01_awake.f kj28).bind fun t370 => (some t370)))) else ((congoulaw01_awake.f kj28).bind fun t371 => (some t371)))) else (if bt363.2 = 4 then (if t345 = true then (some false) else ((congoulaw01_awake.f kj28).bind fun t372 => (some t372))) else (some false)))))) = some r := H
     have A47 := Aside0.mk A470
     clear A470
     replace H := Option.bind_eq_some_iff.mp H
     obtain ⟨t360, A480, H⟩ := H
     replace H : ((shares_Gives.f kj28 t357 t360).bind fun bt363 => (if bt363.2 = 0 then ((congoulaw01_list.f l0).bind fun t373 => ((congoulaw01_list.f l1).bind fun t376 => ((shares_CheckGives.f kj28 t373 t376 bt363.1).bind fun bt379 => (if bt379.1 = true then (if t345 = true then (if bt379.2 = 0 then ((congoulaw01_awake.f kj28).bind fun t381 => (some t381)) else (some false)) else (some false)) else (some false))))) else (if bt363.2 = 2 then ((congouref01_Falling.f kj28 l0).bind fun t367 => (if t367 = true then ((congouref01_Falling.f kj28 l1).bind fun t368 => (if t368 = true then (if bt363.2 = 4 then (if t345 = true then (some false) else ((congoulaw01_awake.f kj28).bind fun t369 => (some t369))) else (some false)) else ((congoulaw01_awake.f kj28).bind fun t370 => (some t370)))) else ((congoulaw01_awake.f kj28).bind fun t371 => (some t371)))) else (if bt363.2 = 4 then (if t345 = true then (some false) else ((congoulaw01_awake.f kj28).bind fun t372 => (some t372))) else (some false))))) = some r := H
     have A48 := Aside0.mk A480
     clear A480
     replace H := Option.bind_eq_some_iff.mp H
     obtain ⟨⟨t363, t366⟩, A490, H⟩ := H
     replace H : (if t366 = 0 then ((congoulaw01_list.f l0).bind fun t373 => ((congoulaw01_list.f l1).bind fun t376 => ((shares_CheckGives.f kj28 t373 t376 t363).bind fun bt379 => (if bt379.1 = true then (if t345 = true then (if bt379.2 = 0 then ((congoulaw01_awake.f kj28).bind fun t381 => (some t381)) else (some false)) else (some false)) else (some false))))) else (if t366 = 2 then ((congouref01_Falling.f kj28 l0).bind fun t367 => (if t367 = true then ((congouref01_Falling.f kj28 l1).bind fun t368 => (if t368 = true then (if t366 = 4 then (if t345 = true then (some false) else ((congoulaw01_awake.f kj28).bind fun t369 => (some t369))) else (some false)) else ((congoulaw01_awake.f kj28).bind fun t370 => (some t370)))) else ((congoulaw01_awake.f kj28).bind fun t371 => (some t371)))) else (if t366 = 4 then (if t345 = true then (some false) else ((congoulaw01_awake.f kj28).bind fun t372 => (some t372))) else (some false)))) = some r := H
     have A49 := Aside0.mk A490
     clear A490
     by_cases c50 : t366 = 0
     ·rw [if_pos c50] at H
      have c50b0 : (t366 == 0) = true := beq_iff_eq.mpr c50
      have c50b1 : (t366 != 0) = false := bne_eq_false_iff_eq.mpr c50
      clear c50
      replace H := Option.bind_eq_some_iff.mp H
      obtain ⟨t373, A510, H⟩ := H
      replace H : ((congoulaw01_list.f l1).bind fun t376 => ((shares_CheckGives.f kj28 t373 t376 t363).bind fun bt379 => (if bt379.1 = true then (if t345 = true then (if bt379.2 = 0 then ((congoulaw01_awake.f kj28).bind fun t381 => (some t381)) else (some false)) else (some false)) else (some false)))) = some r := H
      have A51 := Aside0.mk A510
      clear A510
      replace H := Option.bind_eq_some_iff.mp H
      obtain ⟨t376, A520, H⟩ := H
      replace H : ((shares_CheckGives.f kj28 t373 t376 t363).bind fun bt379 => (if bt379.1 = true then (if t345 = true then (if bt379.2 = 0 then ((congoulaw01_awake.f kj28).bind fun t381 => (some t381)) else (some false)) else (some false)) else (some false))) = some r := H
      have A52 := Aside0.mk A520
      clear A520
      replace H := Option.bind_eq_some_iff.mp H
      obtain ⟨⟨t379, t380⟩, A530, H⟩ := H
      replace H : (if t379 = true then (if t345 = true then (if t380 = 0 then ((congoulaw01_awake.f kj28).bind fun t381 => (some t381)) else (some false)) else (some false)) else (some false)) = some r := H
      have A53 := Aside0.mk A530
      clear A530
      by_cases c54 : t379 = true
      rotate_left
      ·replace c54 := Bool.eq_false_iff.mpr c54
       subst c54
       have H1 : (some false) = some r := by rw [if_neg (show ¬ (false = true) by decide)] at H; exact H
       clear H
       have H := H1
       clear H1
       exact absurd (H.trans (congrArg some HRT.out)) (by simp)
      subst c54
      have H1 : (if t345 = true then (if t380 = 0 then ((congoulaw01_awake.f kj28).bind fun t381 => (some t381)) else (some false)) else (some false)) = some r := by rw [if_pos rfl] at H; exact H
      clear H
      have H := H1
      clear H1
      by_cases c55 : t345 = true
      rotate_left
      ·replace c55 := Bool.eq_false_iff.mpr c55
       subst c55
       have H1 : (some false) = some r := by rw [if_neg (show ¬ (false = true) by decide)] at H; exact H
       clear H
       have H := H1
       clear H1
       exact absurd (H.trans (congrArg some HRT.out)) (by simp)
      subst c55
      have H1 : (if t380 = 0 then ((congoulaw01_awake.f kj28).bind fun t381 => (some t381)) else (some false)) = some r := by rw [if_pos rfl] at H; exact H
      clear H
      have H := H1
      clear H1
      by_cases c56 : t380 = 0
      rotate_left
      ·rw [if_neg c56] at H
       have c56b0 : (t380 == 0) = false := beq_eq_false_iff_ne.mpr c56
       have c56b1 : (t380 != 0) = true := bne_iff_ne.mpr c56
       exact absurd (H.trans (congrArg some HRT.out)) (by simp)
      rw [if_pos c56] at H
      have c56b0 : (t380 == 0) = true := beq_iff_eq.mpr c56
      have c56b1 : (t380 != 0) = false := bne_eq_false_iff_eq.mpr c56
      clear c56
      replace H := Option.bind_eq_some_iff.mp H
      obtain ⟨t381, A570, H⟩ := H
      replace H : (some t381) = some r := H
      have A57 := Aside0.mk A570
      clear A570
      obtain rfl := Option.some.inj H
      go_wp2_with (first | ((with_reducible refine gate_callee (f := 18) rfl ?_); refine gL 83 Try.func18 #[.slice A0 l0.length c0] ?_; (with_reducible refine (congoulaw01_list.calls _ _ l0 t357 _ ?side1 ?side2 A47.out).mono ?_); (case side1 => exact kC HR0); (case side2 => exact HC0.out); rintro e w58 ⟨v358, rfl, ho0, hb⟩; refine ⟨_, rfl, ?_⟩; have HO359 := ak (Kd.R_lower ho0 (below_size (hbC _))); replace HB := kH _ hb; (try clear hb); (try clear hb2); (try clear hk); (try clear hi); (try clear ho0)) | ((with_reducible refine gate_callee (f := 18) rfl ?_); refine gL 85 Try.func18 #[.slice A1 l1.length c1] ?_; (with_reducible refine (congoulaw01_list.calls _ _ l1 t360 _ ?side1 ?side2 A48.out).mono ?_); (case side1 => exact kC HR1); (case side2 => exact HC1.out); rintro e w59 ⟨v361, rfl, ho0, hb⟩; refine ⟨_, rfl, ?_⟩; have HO362 := ak (Kd.R_lower (Kd.R_new' ho0 (Kd.R_lt (rC HO359))) (below_size (hbC _))); replace HO359 := ak (Kd.R_elder' (rC HO359) (Kd.R_base ho0) hb); replace HB := kH _ hb; (try clear hb); (try clear hb2); (try clear hk); (try clear hi); (try clear ho0); obtain ⟨Ao60, co60, eo60⟩ := Kd.R_slice HO359.out; subst eo60; obtain ⟨Ao61, co61, eo61⟩ := Kd.R_slice HO362.out; subst eo61) | ((with_reducible refine gate_callee (f := 34) rfl ?_); refine gL 86 Try.func34 #[.slice Ao60 t357.length co60, .slice Ao61 t360.length co61] ?_; (with_reducible refine (shares_Gives.calls kj28 (fun k_ => some k_ = (.slice Ao60 t357.length co60 : Value).ownBlock) _ _ t357 (fun k_ => some k_ = (.slice Ao61 t360.length co61 : Value).ownBlock) _ _ t360 t363 t366 _ ?side1 ?side2 A49.out).mono ?_); (case side1 => exact Kd.R_V (Kd.R_tight rfl (HO359.out))); (case side2 => exact Kd.R_V (Kd.R_tight rfl (HO362.out))); rintro e w62 ⟨v364, rfl, ho0, hb⟩; refine ⟨_, rfl, ?_⟩; replace HO359 := kO HO359 hb; replace HO362 := kO HO362 hb; have HO365 := ak (Kd.R_lower (Kd.R_mono (ok' := fun k_ => True) ho0 (fun _ hk_ => trivial)) (below_size (hbC _))); replace HB := kH _ hb; (try clear hb); (try clear hb2); (try clear hk); (try clear hi); (try clear ho0)) | ((with_reducible refine gate_callee (f := 18) rfl ?_); refine gL 116 Try.func18 #[.slice A0 l0.length c0] ?_; (with_reducible refine (congoulaw01_list.calls _ _ l0 t373 _ ?side1 ?side2 A51.out).mono ?_); (case side1 => exact kC HR0); (case side2 => exact HC0.out); rintro e w63 ⟨v374, rfl, ho0, hb⟩; refine ⟨_, rfl, ?_⟩; replace HO365 := kO HO365 hb; have HO375 := ak (Kd.R_lower (Kd.R_new' (Kd.R_new' ho0 (Kd.R_lt (rC HO359))) (Kd.R_lt (rC HO362))) (below_size (hbC _))); replace HO359 := ak (Kd.R_elder' (rC HO359) (Kd.R_base ho0) hb); replace HO362 := ak (Kd.R_elder' (rC HO362) (Kd.R_base ho0) hb); replace HB := kH _ hb; (try clear hb); (try clear hb2); (try clear hk); (try clear hi); (try clear ho0)) | ((with_reducible refine gate_callee (f := 18) rfl ?_); refine gL 118 Try.func18 #[.slice A1 l1.length c1] ?_; (with_reducible refine (congoulaw01_list.calls _ _ l1 t376 _ ?side1 ?side2 A52.out).mono ?_); (case side1 => exact kC HR1); (case side2 => exact HC1.out); rintro e w64 ⟨v377, rfl, ho0, hb⟩; refine ⟨_, rfl, ?_⟩; replace HO365 := kO HO365 hb; have HO378 := ak (Kd.R_lower (Kd.R_new' (Kd.R_new' (Kd.R_new' ho0 (Kd.R_lt (rC HO359))) (Kd.R_lt (rC HO362))) (Kd.R_lt (rC HO375))) (below_size (hbC _))); replace HO359 := ak (Kd.R_elder' (rC HO359) (Kd.R_base ho0) hb); replace HO362 := ak (Kd.R_elder' (rC HO362) (Kd.R_base ho0) hb); replace HO375 := ak (Kd.R_elder' (rC HO375) (Kd.R_base ho0) hb); replace HB := kH _ hb; (try clear hb); (try clear hb2); (try clear hk); (try clear hi); (try clear ho0); obtain ⟨Ao65, co65, eo65⟩ := Kd.R_slice HO375.out; subst eo65; obtain ⟨Ao66, co66, eo66⟩ := Kd.R_slice HO378.out; subst eo66; obtain ⟨Ao67, co67, eo67⟩ := Kd.R_slice HO365.out; subst eo67) | ((with_reducible refine gate_callee (f := 35) rfl ?_); refine gL 120 Try.func35 #[.slice Ao65 t373.length co65, .slice Ao66 t376.length co66, .slice Ao67 t363.length co67] ?_; (with_reducible refine (shares_CheckGives.calls kj28 (fun k_ => some k_ = (.slice Ao65 t373.length co65 : Value).ownBlock) _ _ t373 (fun k_ => some k_ = (.slice Ao66 t376.length co66 : Value).ownBlock) _ _ t376 _ _ t363 true t380 _ ?side1 ?side2 ?side3 ?side4 A53.out).mono ?_); (case side1 => exact Kd.R_V (Kd.R_tight rfl (Kd.R_apart' (HO375.out) (Kd.R_typed HO365.out) (by decide)))); (case side2 => exact Kd.R_V (Kd.R_tight rfl (Kd.R_apart' (HO378.out) (Kd.R_typed HO365.out) (by decide)))); (case side3 => exact kD (Kd.R_reads' HO365.out).2.2); (case side4 => exact (Kd.R_reads' HO365.out).2.1); rintro e w68 ⟨rfl, hb⟩; refine ⟨_, rfl, ?_⟩; replace HO359 := kO HO359 hb; replace HO362 := kO HO362 hb; replace HO365 := kO HO365 hb; replace HO375 := kO HO375 hb; replace HO378 := kO HO378 hb; replace HB := kH _ hb; (try clear hb); (try clear hb2); (try clear hk); (try clear hi)) | (go_at_call 21; (with_reducible refine (congoulaw01_awake.calls kj28  t381 _ A57.out).mono ?_); rintro e w69 ⟨rfl, hb⟩; replace HO359 := kO HO359 hb; replace HO362 := kO HO362 hb; replace HO365 := kO HO365 hb; replace HO375 := kO HO375 hb; replace HO378 := kO HO378 hb; replace HB := kH _ hb; (try clear hb); (try clear hb2); (try clear hk); (try clear hi)))
      go_ret
      exact ⟨by first | rfl | (simp [errW_none, errW_some] <;> rfl) | (simp [*, errW_none, errW_some] <;> rfl), hbC _⟩
     rw [if_neg c50] at H
     have c50b0 : (t366 == 0) = false := beq_eq_false_iff_ne.mpr c50
     have c50b1 : (t366 != 0) = true := bne_iff_ne.mpr c50
     by_cases c70 : t366 = 2
     rotate_left
     ·rw [if_neg c70] at H
      have c70b0 : (t366 == 2) = false := beq_eq_false_iff_ne.mpr c70
      have c70b1 : (t366 != 2) = true := bne_iff_ne.mpr c70
      by_cases c98 : t366 = 4
      rotate_left
      ·rw [if_neg c98] at H
       have c98b0 : (t366 == 4) = false := beq_eq_false_iff_ne.mpr c98
       have c98b1 : (t366 != 4) = true := bne_iff_ne.mpr c98
       exact absurd (H.trans (congrArg some HRT.out)) (by simp)
      rw [if_pos c98] at H
      have c98b0 : (t366 == 4) = true := beq_iff_eq.mpr c98
      have c98b1 : (t366 != 4) = false := bne_eq_false_iff_eq.mpr c98
      clear c98
      by_cases c99 : t345 = true
      ·subst c99
       have H1 : (some false) = some r := by rw [if_pos rfl] at H; exact H
       clear H
       have H := H1
       clear H1
       exact absurd (H.trans (congrArg some HRT.out)) (by simp)
      replace c99 := Bool.eq_false_iff.mpr c99
      subst c99
      have H1 : ((congoulaw01_awake.f kj28).bind fun t372 => (some t372)) = some r := by rw [if_neg (show ¬ (false = true) by decide)] at H; exact H
      clear H
      have H := H1
      clear H1
      replace H := Option.bind_eq_some_iff.mp H
      obtain ⟨t372, A1000, H⟩ := H
      replace H : (some t372) = some r := H
      have A100 := Aside0.mk A1000
      clear A1000
      obtain rfl := Option.some.inj H
      go_wp2_with (first | ((with_reducible refine gate_callee (f := 18) rfl ?_); refine gL 83 Try.func18 #[.slice A0 l0.length c0] ?_; (with_reducible refine (congoulaw01_list.calls _ _ l0 t357 _ ?side1 ?side2 A47.out).mono ?_); (case side1 => exact kC HR0); (case side2 => exact HC0.out); rintro e w101 ⟨v358, rfl, ho0, hb⟩; refine ⟨_, rfl, ?_⟩; have HO359 := ak (Kd.R_lower ho0 (below_size (hbC _))); replace HB := kH _ hb; (try clear hb); (try clear hb2); (try clear hk); (try clear hi); (try clear ho0)) | ((with_reducible refine gate_callee (f := 18) rfl ?_); refine gL 85 Try.func18 #[.slice A1 l1.length c1] ?_; (with_reducible refine (congoulaw01_list.calls _ _ l1 t360 _ ?side1 ?side2 A48.out).mono ?_); (case side1 => exact kC HR1); (case side2 => exact HC1.out); rintro e w102 ⟨v361, rfl, ho0, hb⟩; refine ⟨_, rfl, ?_⟩; have HO362 := ak (Kd.R_lower (Kd.R_new' ho0 (Kd.R_lt (rC HO359))) (below_size (hbC _))); replace HO359 := ak (Kd.R_elder' (rC HO359) (Kd.R_base ho0) hb); replace HB := kH _ hb; (try clear hb); (try clear hb2); (try clear hk); (try clear hi); (try clear ho0); obtain ⟨Ao103, co103, eo103⟩ := Kd.R_slice HO359.out; subst eo103; obtain ⟨Ao104, co104, eo104⟩ := Kd.R_slice HO362.out; subst eo104) | ((with_reducible refine gate_callee (f := 34) rfl ?_); refine gL 86 Try.func34 #[.slice Ao103 t357.length co103, .slice Ao104 t360.length co104] ?_; (with_reducible refine (shares_Gives.calls kj28 (fun k_ => some k_ = (.slice Ao103 t357.length co103 : Value).ownBlock) _ _ t357 (fun k_ => some k_ = (.slice Ao104 t360.length co104 : Value).ownBlock) _ _ t360 t363 t366 _ ?side1 ?side2 A49.out).mono ?_); (case side1 => exact Kd.R_V (Kd.R_tight rfl (HO359.out))); (case side2 => exact Kd.R_V (Kd.R_tight rfl (HO362.out))); rintro e w105 ⟨v364, rfl, ho0, hb⟩; refine ⟨_, rfl, ?_⟩; replace HO359 := kO HO359 hb; replace HO362 := kO HO362 hb; have HO365 := ak (Kd.R_lower (Kd.R_mono (ok' := fun k_ => True) ho0 (fun _ hk_ => trivial)) (below_size (hbC _))); replace HB := kH _ hb; (try clear hb); (try clear hb2); (try clear hk); (try clear hi); (try clear ho0)) | (go_at_call 21; (with_reducible refine (congoulaw01_awake.calls kj28  t372 _ A100.out).mono ?_); rintro e w106 ⟨rfl, hb⟩; replace HO359 := kO HO359 hb; replace HO362 := kO HO362 hb; replace HO365 := kO HO365 hb; replace HB := kH _ hb; (try clear hb); (try clear hb2); (try clear hk); (try clear hi)))
      go_ret
      exact ⟨by first | rfl | (simp [errW_none, errW_some] <;> rfl) | (simp [*, errW_none, errW_some] <;> rfl), hbC _⟩
     rw [if_pos c70] at H
     have c70b0 : (t366 == 2) = true := beq_iff_eq.mpr c70
     have c70b1 : (t366 != 2) = false := bne_eq_false_iff_eq.mpr c70
     clear c70
     replace H := Option.bind_eq_some_iff.mp H
     obtain ⟨t367, A710, H⟩ := H
     replace H : (if t367 = true then ((congouref01_Falling.f kj28 l1).bind fun t368 => (if t368 = true then (if t366 = 4 then (if t345 = true then (some false) else ((congoulaw01_awake.f kj28).bind fun t369 => (some t369))) else (some false)) else ((congoulaw01_awake.f kj28).bind fun t370 => (some t370)))) else ((congoulaw01_awake.f kj28).bind fun t371 => (some t371))) = some r := H
     have A71 := Aside0.mk A710
     clear A710
     by_cases c72 : t367 = true
     rotate_left
     ·replace c72 := Bool.eq_false_iff.mpr c72
      subst c72
      have H1 : ((congoulaw01_awake.f kj28).bind fun t371 => (some t371)) = some r := by rw [if_neg (show ¬ (false = true) by decide)] at H; exact H
      clear H
      have H := H1
      clear H1
      replace H := Option.bind_eq_some_iff.mp H
      obtain ⟨t371, A910, H⟩ := H
      replace H : (some t371) = some r := H
      have A91 := Aside0.mk A910
      clear A910
      obtain rfl := Option.some.inj H
      go_wp2_with (first | ((with_reducible refine gate_callee (f := 18) rfl ?_); refine gL 83 Try.func18 #[.slice A0 l0.length c0] ?_; (with_reducible refine (congoulaw01_list.calls _ _ l0 t357 _ ?side1 ?side2 A47.out).mono ?_); (case side1 => exact kC HR0); (case side2 => exact HC0.out); rintro e w92 ⟨v358, rfl, ho0, hb⟩; refine ⟨_, rfl, ?_⟩; have HO359 := ak (Kd.R_lower ho0 (below_size (hbC _))); replace HB := kH _ hb; (try clear hb); (try clear hb2); (try clear hk); (try clear hi); (try clear ho0)) | ((with_reducible refine gate_callee (f := 18) rfl ?_); refine gL 85 Try.func18 #[.slice A1 l1.length c1] ?_; (with_reducible refine (congoulaw01_list.calls _ _ l1 t360 _ ?side1 ?side2 A48.out).mono ?_); (case side1 => exact kC HR1); (case side2 => exact HC1.out); rintro e w93 ⟨v361, rfl, ho0, hb⟩; refine ⟨_, rfl, ?_⟩; have HO362 := ak (Kd.R_lower (Kd.R_new' ho0 (Kd.R_lt (rC HO359))) (below_size (hbC _))); replace HO359 := ak (Kd.R_elder' (rC HO359) (Kd.R_base ho0) hb); replace HB := kH _ hb; (try clear hb); (try clear hb2); (try clear hk); (try clear hi); (try clear ho0); obtain ⟨Ao94, co94, eo94⟩ := Kd.R_slice HO359.out; subst eo94; obtain ⟨Ao95, co95, eo95⟩ := Kd.R_slice HO362.out; subst eo95) | ((with_reducible refine gate_callee (f := 34) rfl ?_); refine gL 86 Try.func34 #[.slice Ao94 t357.length co94, .slice Ao95 t360.length co95] ?_; (with_reducible refine (shares_Gives.calls kj28 (fun k_ => some k_ = (.slice Ao94 t357.length co94 : Value).ownBlock) _ _ t357 (fun k_ => some k_ = (.slice Ao95 t360.length co95 : Value).ownBlock) _ _ t360 t363 t366 _ ?side1 ?side2 A49.out).mono ?_); (case side1 => exact Kd.R_V (Kd.R_tight rfl (HO359.out))); (case side2 => exact Kd.R_V (Kd.R_tight rfl (HO362.out))); rintro e w96 ⟨v364, rfl, ho0, hb⟩; refine ⟨_, rfl, ?_⟩; replace HO359 := kO HO359 hb; replace HO362 := kO HO362 hb; have HO365 := ak (Kd.R_lower (Kd.R_mono (ok' := fun k_ => True) ho0 (fun _ hk_ => trivial)) (below_size (hbC _))); replace HB := kH _ hb; (try clear hb); (try clear hb2); (try clear hk); (try clear hi); (try clear ho0)) | (go_at_call 37; (with_reducible refine (congouref01_Falling.calls kj28 _ _ l0 false _ ?side1 ?side2 A71.out).mono ?_); (case side1 => exact kC HR0); (case side2 => exact HC0.out); rintro e w' ⟨rfl, ⟨nd, rfl⟩⟩) | (go_at_call 21; (with_reducible refine (congoulaw01_awake.calls kj28  t371 _ A91.out).mono ?_); rintro e w97 ⟨rfl, hb⟩; replace HO359 := kO HO359 hb; replace HO362 := kO HO362 hb; replace HO365 := kO HO365 hb; replace HB := kH _ hb; (try clear hb); (try clear hb2); (try clear hk); (try clear hi)))
      go_ret
      exact ⟨by first | rfl | (simp [errW_none, errW_some] <;> rfl) | (simp [*, errW_none, errW_some] <;> rfl), hbC _⟩
     subst c72
     have H1 : ((congouref01_Falling.f kj28 l1).bind fun t368 => (if t368 = true then (if t366 = 4 then (if t345 = true then (some false) else ((congoulaw01_awake.f kj28).bind fun t369 => (some t369))) else (some false)) else ((congoulaw01_awake.f kj28).bind fun t370 => (some t370)))) = some r := by rw [if_pos rfl] at H; exact H
     clear H
     have H := H1
     clear H1
     replace H := Option.bind_eq_some_iff.mp H
     obtain ⟨t368, A730, H⟩ := H
     replace H : (if t368 = true then (if t366 = 4 then (if t345 = true then (some false) else ((congoulaw01_awake.f kj28).bind fun t369 => (some t369))) else (some false)) else ((congoulaw01_awake.f kj28).bind fun t370 => (some t370))) = some r := H
     have A73 := Aside0.mk A730
     clear A730
     by_cases c74 : t368 = true
     rotate_left
     ·replace c74 := Bool.eq_false_iff.mpr c74
      subst c74
      have H1 : ((congoulaw01_awake.f kj28).bind fun t370 => (some t370)) = some r := by rw [if_neg (show ¬ (false = true) by decide)] at H; exact H
      clear H
      have H := H1
      clear H1
      replace H := Option.bind_eq_some_iff.mp H
      obtain ⟨t370, A840, H⟩ := H
      replace H : (some t370) = some r := H
      have A84 := Aside0.mk A840
      clear A840
      obtain rfl := Option.some.inj H
      go_wp2_with (first | ((with_reducible refine gate_callee (f := 18) rfl ?_); refine gL 83 Try.func18 #[.slice A0 l0.length c0] ?_; (with_reducible refine (congoulaw01_list.calls _ _ l0 t357 _ ?side1 ?side2 A47.out).mono ?_); (case side1 => exact kC HR0); (case side2 => exact HC0.out); rintro e w85 ⟨v358, rfl, ho0, hb⟩; refine ⟨_, rfl, ?_⟩; have HO359 := ak (Kd.R_lower ho0 (below_size (hbC _))); replace HB := kH _ hb; (try clear hb); (try clear hb2); (try clear hk); (try clear hi); (try clear ho0)) | ((with_reducible refine gate_callee (f := 18) rfl ?_); refine gL 85 Try.func18 #[.slice A1 l1.length c1] ?_; (with_reducible refine (congoulaw01_list.calls _ _ l1 t360 _ ?side1 ?side2 A48.out).mono ?_); (case side1 => exact kC HR1); (case side2 => exact HC1.out); rintro e w86 ⟨v361, rfl, ho0, hb⟩; refine ⟨_, rfl, ?_⟩; have HO362 := ak (Kd.R_lower (Kd.R_new' ho0 (Kd.R_lt (rC HO359))) (below_size (hbC _))); replace HO359 := ak (Kd.R_elder' (rC HO359) (Kd.R_base ho0) hb); replace HB := kH _ hb; (try clear hb); (try clear hb2); (try clear hk); (try clear hi); (try clear ho0); obtain ⟨Ao87, co87, eo87⟩ := Kd.R_slice HO359.out; subst eo87; obtain ⟨Ao88, co88, eo88⟩ := Kd.R_slice HO362.out; subst eo88) | ((with_reducible refine gate_callee (f := 34) rfl ?_); refine gL 86 Try.func34 #[.slice Ao87 t357.length co87, .slice Ao88 t360.length co88] ?_; (with_reducible refine (shares_Gives.calls kj28 (fun k_ => some k_ = (.slice Ao87 t357.length co87 : Value).ownBlock) _ _ t357 (fun k_ => some k_ = (.slice Ao88 t360.length co88 : Value).ownBlock) _ _ t360 t363 t366 _ ?side1 ?side2 A49.out).mono ?_); (case side1 => exact Kd.R_V (Kd.R_tight rfl (HO359.out))); (case side2 => exact Kd.R_V (Kd.R_tight rfl (HO362.out))); rintro e w89 ⟨v364, rfl, ho0, hb⟩; refine ⟨_, rfl, ?_⟩; replace HO359 := kO HO359 hb; replace HO362 := kO HO362 hb; have HO365 := ak (Kd.R_lower (Kd.R_mono (ok' := fun k_ => True) ho0 (fun _ hk_ => trivial)) (below_size (hbC _))); replace HB := kH _ hb; (try clear hb); (try clear hb2); (try clear hk); (try clear hi); (try clear ho0)) | (go_at_call 37; (with_reducible refine (congouref01_Falling.calls kj28 _ _ l0 true _ ?side1 ?side2 A71.out).mono ?_); (case side1 => exact kC HR0); (case side2 => exact HC0.out); rintro e w' ⟨rfl, ⟨nd, rfl⟩⟩) | (go_at_call 37; (with_reducible refine (congouref01_Falling.calls kj28 _ _ l1 false _ ?side1 ?side2 A73.out).mono ?_); (case side1 => repeat (first | exact (Kd.C_below HR1.out (hbC _)) | (with_reducible refine Kd.C_alloc ?_ _) | (with_reducible refine Kd.C_drewN ?_ _) | (with_reducible refine Kd.C_drew ?_))); (case side2 => exact HC1.out); rintro e w' ⟨rfl, ⟨nd, rfl⟩⟩) | (go_at_call 21; (with_reducible refine (congoulaw01_awake.calls kj28  t370 _ A84.out).mono ?_); rintro e w90 ⟨rfl, hb⟩; replace HO359 := kO HO359 hb; replace HO362 := kO HO362 hb; replace HO365 := kO HO365 hb; replace HB := kH _ hb; (try clear hb); (try clear hb2); (try clear hk); (try clear hi)))
      go_ret
      exact ⟨by first | rfl | (simp [errW_none, errW_some] <;> rfl) | (simp [*, errW_none, errW_some] <;> rfl), hbC _⟩
     subst c74
     have H1 : (if t366 = 4 then (if t345 = true then (some false) else ((congoulaw01_awake.f kj28).bind fun t369 => (some t369))) else (some false)) = some r := by rw [if_pos rfl] at H; exact H
     clear H
     have H := H1
     clear H1
     by_cases c75 : t366 = 4
     rotate_left
     ·rw [if_neg c75] at H
      have c75b0 : (t366 == 4) = false := beq_eq_false_iff_ne.mpr c75
      have c75b1 : (t366 != 4) = true := bne_iff_ne.mpr c75
      exact absurd (H.trans (congrArg some HRT.out)) (by simp)
     rw [if_pos c75] at H
     have c75b0 : (t366 == 4) = true := beq_iff_eq.mpr c75
     have c75b1 : (t366 != 4) = false := bne_eq_false_iff_eq.mpr c75
     clear c75
     by_cases c76 : t345 = true
     ·subst c76
      have H1 : (some false) = some r := by rw [if_pos rfl] at H; exact H
      clear H
      have H := H1
      clear H1
      exact absurd (H.trans (congrArg some HRT.out)) (by simp)
     replace c76 := Bool.eq_false_iff.mpr c76
     subst c76
     have H1 : ((congoulaw01_awake.f kj28).bind fun t369 => (some t369)) = some r := by rw [if_neg (show ¬ (false = true) by decide)] at H; exact H
     clear H
     have H := H1
     clear H1
     replace H := Option.bind_eq_some_iff.mp H
     obtain ⟨t369, A770, H⟩ := H
     replace H : (some t369) = some r := H
     have A77 := Aside0.mk A770
     clear A770
     obtain rfl := Option.some.inj H
     go_wp2_with (first | ((with_reducible refine gate_callee (f := 18) rfl ?_); refine gL 83 Try.func18 #[.slice A0 l0.length c0] ?_; (with_reducible refine (congoulaw01_list.calls _ _ l0 t357 _ ?side1 ?side2 A47.out).mono ?_); (case side1 => exact kC HR0); (case side2 => exact HC0.out); rintro e w78 ⟨v358, rfl, ho0, hb⟩; refine ⟨_, rfl, ?_⟩; have HO359 := ak (Kd.R_lower ho0 (below_size (hbC _))); replace HB := kH _ hb; (try clear hb); (try clear hb2); (try clear hk); (try clear hi); (try clear ho0)) | ((with_reducible refine gate_callee (f := 18) rfl ?_); refine gL 85 Try.func18 #[.slice A1 l1.length c1] ?_; (with_reducible refine (congoulaw01_list.calls _ _ l1 t360 _ ?side1 ?side2 A48.out).mono ?_); (case side1 => exact kC HR1); (case side2 => exact HC1.out); rintro e w79 ⟨v361, rfl, ho0, hb⟩; refine ⟨_, rfl, ?_⟩; have HO362 := ak (Kd.R_lower (Kd.R_new' ho0 (Kd.R_lt (rC HO359))) (below_size (hbC _))); replace HO359 := ak (Kd.R_elder' (rC HO359) (Kd.R_base ho0) hb); replace HB := kH _ hb; (try clear hb); (try clear hb2); (try clear hk); (try clear hi); (try clear ho0); obtain ⟨Ao80, co80, eo80⟩ := Kd.R_slice HO359.out; subst eo80; obtain ⟨Ao81, co81, eo81⟩ := Kd.R_slice HO362.out; subst eo81) | ((with_reducible refine gate_callee (f := 34) rfl ?_); refine gL 86 Try.func34 #[.slice Ao80 t357.length co80, .slice Ao81 t360.length co81] ?_; (with_reducible refine (shares_Gives.calls kj28 (fun k_ => some k_ = (.slice Ao80 t357.length co80 : Value).ownBlock) _ _ t357 (fun k_ => some k_ = (.slice Ao81 t360.length co81 : Value).ownBlock) _ _ t360 t363 t366 _ ?side1 ?side2 A49.out).mono ?_); (case side1 => exact Kd.R_V (Kd.R_tight rfl (HO359.out))); (case side2 => exact Kd.R_V (Kd.R_tight rfl (HO362.out))); rintro e w82 ⟨v364, rfl, ho0, hb⟩; refine ⟨_, rfl, ?_⟩; replace HO359 := kO HO359 hb; replace HO362 := kO HO362 hb; have HO365 := ak (Kd.R_lower (Kd.R_mono (ok' := fun k_ => True) ho0 (fun _ hk_ => trivial)) (below_size (hbC _))); replace HB := kH _ hb; (try clear hb); (try clear hb2); (try clear hk); (try clear hi); (try clear ho0)) | (go_at_call 37; (with_reducible refine (congouref01_Falling.calls kj28 _ _ l0 true _ ?side1 ?side2 A71.out).mono ?_); (case side1 => exact kC HR0); (case side2 => exact HC0.out); rintro e w' ⟨rfl, ⟨nd, rfl⟩⟩) | (go_at_call 37; (with_reducible refine (congouref01_Falling.calls kj28 _ _ l1 true _ ?side1 ?side2 A73.out).mono ?_); (case side1 => repeat (first | exact (Kd.C_below HR1.out (hbC _)) | (with_reducible refine Kd.C_alloc ?_ _) | (with_reducible refine Kd.C_drewN ?_ _) | (with_reducible refine Kd.C_drew ?_))); (case side2 => exact HC1.out); rintro e w' ⟨rfl, ⟨nd, rfl⟩⟩) | (go_at_call 21; (with_reducible refine (congoulaw01_awake.calls kj28  t369 _ A77.out).mono ?_); rintro e w83 ⟨rfl, hb⟩; replace HO359 := kO HO359 hb; replace HO362 := kO HO362 hb; replace HO365 := kO HO365 hb; replace HB := kH _ hb; (try clear hb); (try clear hb2); (try clear hk); (try clear hi)))
     go_ret
     exact ⟨by first | rfl | (simp [errW_none, errW_some] <;> rfl) | (simp [*, errW_none, errW_some] <;> rfl), hbC _⟩

end Go.Proofs.Ytefmafbbnkkpjaa.X
