-- Written by a program of this work (wip/xprint.py, over the kit's printer) out of the translation.
import Derived.Test.YtefmafbbnkkpjaaX0
import Derived.Test.YtefmafbbnkkpjaaXG1a
import Derived.Test.YtefmafbbnkkpjaaXG2a
import Derived.Test.YtefmafbbnkkpjaaXG3a
import Derived.Test.YtefmafbbnkkpjaaXG4a
import Derived.Test.YtefmafbbnkkpjaaXf21
import Derived.Test.YtefmafbbnkkpjaaXf24
import Derived.Test.YtefmafbbnkkpjaaXf29
namespace Go.Proofs.Ytefmafbbnkkpjaa.X
open Go.RowKit Go.Proofs.YtefmafbbnkkpjaaW.PrintWords Go.Proofs.YtefmafbbnkkpjaaW.PrintLast Go.Proofs.YtefmafbbnkkpjaaW.PrintMore
attribute [local go_sem] max2_int min2_int max_two min_two max_three min_three max_four min_four   -- for this text's walks alone
set_option linter.unusedVariables false
set_option linter.unusedSimpArgs false

/-! ### congoulaw01_SharesOver: function 9 -/
mutual
def congoulaw01_SharesOver.j0 : Nat → List Int → List Int → List Int → Int → List Int → Int → Bool → Option (Bool)
 | 0, _, _, _, _, _, _, _ => none
 | k + 1, x0, x1, x5, x6, x7, x8, x39 => if x39 = true then (if x6 = 2 then ((congoulaw01_awake.f k).bind fun t541 => (some t541)) else (if x8 = 2 then ((congoulaw01_awake.f k).bind fun t542 => (some t542)) else (if x6 = 0 then (if x8 = 0 then ((congouref01_Parts.f k x0).bind fun t543 => ((congouref01_Parts.f k x1).bind fun t544 => (if t543 = t544 then (some false) else ((congoulaw01_awake.f k).bind fun t545 => (some t545))))) else (some false)) else (some false)))) else ((slices_Clone_int_int.f x5).bind fun t546 => ((shares_Turn.f k t546).bind fun bt549 => (if bt549.2 = 0 then ((slices_Equal_int_int.f k bt549.1 x0).bind fun t553 => (if t553 = true then ((congoulaw01_parts.f k x5 x0).bind fun t554 => (if t554 = true then ((congoulaw01_parts.f k x7 x0).bind fun t555 => (if t555 = true then ((congouref01_Uneven.f k x0 x1).bind fun t556 => ((congouref01_Uneven.f k x7 x5).bind fun t557 => (congoulaw01_SharesOver.j1 k x0 x1 x5 x7 (t556 != t557)))) else (congoulaw01_SharesOver.j1 k x0 x1 x5 x7 true))) else (congoulaw01_SharesOver.j1 k x0 x1 x5 x7 true))) else (congoulaw01_SharesOver.j1 k x0 x1 x5 x7 true))) else (congoulaw01_SharesOver.j1 k x0 x1 x5 x7 true))))
def congoulaw01_SharesOver.j1 : Nat → List Int → List Int → List Int → List Int → Bool → Option (Bool)
 | 0, _, _, _, _, _ => none
 | k + 1, x0, x1, x5, x7, x98 => if x98 = true then (some false) else ((congoulaw01_list.f x0).bind fun t558 => ((congoulaw01_list.f x1).bind fun t561 => ((shares_Meet.f k t558 t561).bind fun bt564 => ((shares_Turn.f k bt564.1).bind fun bt568 => ((shares_Join.f k x5 x7).bind fun bt572 => (if bt564.2 = 0 then (if bt568.2 = 0 then (if bt572.2 = 0 then ((slices_Equal_int_int.f k bt568.1 bt572.1).bind fun t576 => (if t576 = true then ((congoulaw01_awake.f k).bind fun t577 => (some t577)) else (some false))) else (some false)) else (some false)) else (some false)))))))
end
def congoulaw01_SharesOver.f (k : Nat) (l0 : List Int) (l1 : List Int) : Option (Bool) := (congoulaw01_list.f l0).bind fun t526 => ((shares_Turn.f k t526).bind fun bt529 => ((congoulaw01_list.f l1).bind fun t533 => ((shares_Turn.f k t533).bind fun bt536 => (if bt529.2 = 0 then (if bt536.2 = 0 then ((congoulaw01_parts.f k l0 l1).bind fun t540 => (congoulaw01_SharesOver.j0 k l0 l1 bt529.1 bt529.2 bt536.1 bt536.2 (!t540))) else (congoulaw01_SharesOver.j0 k l0 l1 bt529.1 bt529.2 bt536.1 bt536.2 true)) else (congoulaw01_SharesOver.j0 k l0 l1 bt529.1 bt529.2 bt536.1 bt536.2 true)))))
theorem congoulaw01_SharesOver.mono_l : ∀ k, (∀ y0 y1 y2 y3 y4 y5 y6, LeO (congoulaw01_SharesOver.j0 k y0 y1 y2 y3 y4 y5 y6) (congoulaw01_SharesOver.j0 (k + 1) y0 y1 y2 y3 y4 y5 y6)) ∧ (∀ y0 y1 y2 y3 y4, LeO (congoulaw01_SharesOver.j1 k y0 y1 y2 y3 y4) (congoulaw01_SharesOver.j1 (k + 1) y0 y1 y2 y3 y4))
 | 0 => ⟨fun _ _ _ _ _ _ _ r h => by simp [congoulaw01_SharesOver.j0] at h, fun _ _ _ _ _ r h => by simp [congoulaw01_SharesOver.j1] at h⟩
 | k + 1 => by
  obtain ⟨ih0, ih1⟩ := congoulaw01_SharesOver.mono_l k
  refine ⟨?_, ?_⟩
  ·intro y0 y1 y2 y3 y4 y5 y6
   unfold congoulaw01_SharesOver.j0
   repeat' first
   | (with_reducible exact ih0 _ _ _ _ _ _ _)
   | (with_reducible exact ih1 _ _ _ _ _)
   | (with_reducible exact congoulaw01_awake.mono _)
   | (with_reducible exact congoulaw01_parts.mono _ _ _)
   | (with_reducible exact congouref01_Parts.mono _ _)
   | (with_reducible exact congouref01_Uneven.mono _ _ _)
   | (with_reducible exact shares_Join.mono _ _ _)
   | (with_reducible exact shares_Meet.mono _ _ _)
   | (with_reducible exact shares_Turn.mono _ _)
   | (with_reducible exact slices_Equal_int_int.mono _ _ _)
   | (with_reducible exact LeO.refl _)
   | (with_reducible exact LeO.none _)
   | (with_reducible refine LeO.ite ?_ ?_)
   | (with_reducible refine LeO.bind ?_ (fun _ => ?_))
   | exact ih0 _ _ _ _ _ _ _
   | exact ih1 _ _ _ _ _
   | exact congoulaw01_awake.mono _
   | exact congoulaw01_parts.mono _ _ _
   | exact congouref01_Parts.mono _ _
   | exact congouref01_Uneven.mono _ _ _
   | exact shares_Join.mono _ _ _
   | exact shares_Meet.mono _ _ _
   | exact shares_Turn.mono _ _
   | exact slices_Equal_int_int.mono _ _ _
   | exact LeO.none _
   | refine LeO.ite ?_ ?_
   | refine LeO.bind ?_ (fun _ => ?_)
  ·intro y0 y1 y2 y3 y4
   unfold congoulaw01_SharesOver.j1
   repeat' first
   | (with_reducible exact ih0 _ _ _ _ _ _ _)
   | (with_reducible exact ih1 _ _ _ _ _)
   | (with_reducible exact congoulaw01_awake.mono _)
   | (with_reducible exact congoulaw01_parts.mono _ _ _)
   | (with_reducible exact congouref01_Parts.mono _ _)
   | (with_reducible exact congouref01_Uneven.mono _ _ _)
   | (with_reducible exact shares_Join.mono _ _ _)
   | (with_reducible exact shares_Meet.mono _ _ _)
   | (with_reducible exact shares_Turn.mono _ _)
   | (with_reducible exact slices_Equal_int_int.mono _ _ _)
   | (with_reducible exact LeO.refl _)
   | (with_reducible exact LeO.none _)
   | (with_reducible refine LeO.ite ?_ ?_)
   | (with_reducible refine LeO.bind ?_ (fun _ => ?_))
   | exact ih0 _ _ _ _ _ _ _
   | exact ih1 _ _ _ _ _
   | exact congoulaw01_awake.mono _
   | exact congoulaw01_parts.mono _ _ _
   | exact congouref01_Parts.mono _ _
   | exact congouref01_Uneven.mono _ _ _
   | exact shares_Join.mono _ _ _
   | exact shares_Meet.mono _ _ _
   | exact shares_Turn.mono _ _
   | exact slices_Equal_int_int.mono _ _ _
   | exact LeO.none _
   | refine LeO.ite ?_ ?_
   | refine LeO.bind ?_ (fun _ => ?_)
theorem congoulaw01_SharesOver.mono : ∀ a0 a1 k, LeO (congoulaw01_SharesOver.f k a0 a1) (congoulaw01_SharesOver.f (k + 1) a0 a1) := by
 intro a0 a1 k
 obtain ⟨ih0, ih1⟩ := congoulaw01_SharesOver.mono_l k
 unfold congoulaw01_SharesOver.f
 repeat' first
   | (with_reducible exact ih0 _ _ _ _ _ _ _)
   | (with_reducible exact ih1 _ _ _ _ _)
   | (with_reducible exact congoulaw01_awake.mono _)
   | (with_reducible exact congoulaw01_parts.mono _ _ _)
   | (with_reducible exact congouref01_Parts.mono _ _)
   | (with_reducible exact congouref01_Uneven.mono _ _ _)
   | (with_reducible exact shares_Join.mono _ _ _)
   | (with_reducible exact shares_Meet.mono _ _ _)
   | (with_reducible exact shares_Turn.mono _ _)
   | (with_reducible exact slices_Equal_int_int.mono _ _ _)
   | (with_reducible exact LeO.refl _)
   | (with_reducible exact LeO.none _)
   | (with_reducible refine LeO.ite ?_ ?_)
   | (with_reducible refine LeO.bind ?_ (fun _ => ?_))
   | exact ih0 _ _ _ _ _ _ _
   | exact ih1 _ _ _ _ _
   | exact congoulaw01_awake.mono _
   | exact congoulaw01_parts.mono _ _ _
   | exact congouref01_Parts.mono _ _
   | exact congouref01_Uneven.mono _ _ _
   | exact shares_Join.mono _ _ _
   | exact shares_Meet.mono _ _ _
   | exact shares_Turn.mono _ _
   | exact slices_Equal_int_int.mono _ _ _
   | exact LeO.none _
   | refine LeO.ite ?_ ?_
   | refine LeO.bind ?_ (fun _ => ?_)
set_option maxHeartbeats 8000000 in
set_option maxRecDepth 100000 in
theorem congoulaw01_SharesOver.calls (k : Nat) (A0 : Option Addr) (c0 : Nat) (l0 : List Int) (A1 : Option Addr) (c1 : Nat) (l1 : List Int) (r : Bool) (w : World) (hr0 : Kd.C (Kd.int .i64) w A0 l0.length l0) (hc0 : l0.length ≤ c0) (hr1 : Kd.C (Kd.int .i64) w A1 l1.length l1) (hc1 : l1.length ≤ c1) (hrt : r = true) (h : congoulaw01_SharesOver.f k l0 l1 = some r) :
  Calls Try.prog 9 #[.slice A0 l0.length c0, .slice A1 l1.length c1] w fun e w' => e = .returned (.bool r) ∧ Below w.heap.size w w' := by
 have HR0 := Aside0.mk hr0
 have HC0 := Aside0.mk hc0
 clear hr0 hc0
 have HR1 := Aside0.mk hr1
 have HC1 := Aside0.mk hc1
 clear hr1 hc1
 have HB := ak (Below.refl w.heap.size w)
 have H : ((congoulaw01_list.f l0).bind fun t526 => ((shares_Turn.f k t526).bind fun bt529 => ((congoulaw01_list.f l1).bind fun t533 => ((shares_Turn.f k t533).bind fun bt536 => (if bt529.2 = 0 then (if bt536.2 = 0 then ((congoulaw01_parts.f k l0 l1).bind fun t540 => (congoulaw01_SharesOver.j0 k l0 l1 bt529.1 bt529.2 bt536.1 bt536.2 (!t540))) else (congoulaw01_SharesOver.j0 k l0 l1 bt529.1 bt529.2 bt536.1 bt536.2 true)) else (congoulaw01_SharesOver.j0 k l0 l1 bt529.1 bt529.2 bt536.1 bt536.2 true)))))) = some r := h
 clear h
 have HRT := Aside0.mk hrt
 clear hrt
 replace H := Option.bind_eq_some_iff.mp H
 obtain ⟨t526, A30, H⟩ := H
 replace H : ((shares_Turn.f k t526).bind fun bt529 => ((congoulaw01_list.f l1).bind fun t533 => ((shares_Turn.f k t533).bind fun bt536 => (if bt529.2 = 0 then (if bt536.2 = 0 then ((congoulaw01_parts.f k l0 l1).bind fun t540 => (congoulaw01_SharesOver.j0 k l0 l1 bt529.1 bt529.2 bt536.1 bt536.2 (!t540))) else (congoulaw01_SharesOver.j0 k l0 l1 bt529.1 bt529.2 bt536.1 bt536.2 true)) else (congoulaw01_SharesOver.j0 k l0 l1 bt529.1 bt529.2 bt536.1 bt536.2 true))))) = some r := H
 have A3 := Aside0.mk A30
 clear A30
 replace H := Option.bind_eq_some_iff.mp H
 obtain ⟨⟨t529, t532⟩, A40, H⟩ := H
 replace H : ((congoulaw01_list.f l1).bind fun t533 => ((shares_Turn.f k t533).bind fun bt536 => (if t532 = 0 then (if bt536.2 = 0 then ((congoulaw01_parts.f k l0 l1).bind fun t540 => (congoulaw01_SharesOver.j0 k l0 l1 t529 t532 bt536.1 bt536.2 (!t540))) else (congoulaw01_SharesOver.j0 k l0 l1 t529 t532 bt536.1 bt536.2 true)) else (congoulaw01_SharesOver.j0 k l0 l1 t529 t532 bt536.1 bt536.2 true)))) = some r := H
 have A4 := Aside0.mk A40
 clear A40
 replace H := Option.bind_eq_some_iff.mp H
 obtain ⟨t533, A50, H⟩ := H
 replace H : ((shares_Turn.f k t533).bind fun bt536 => (if t532 = 0 then (if bt536.2 = 0 then ((congoulaw01_parts.f k l0 l1).bind fun t540 => (congoulaw01_SharesOver.j0 k l0 l1 t529 t532 bt536.1 bt536.2 (!t540))) else (congoulaw01_SharesOver.j0 k l0 l1 t529 t532 bt536.1 bt536.2 true)) else (congoulaw01_SharesOver.j0 k l0 l1 t529 t532 bt536.1 bt536.2 true))) = some r := H
 have A5 := Aside0.mk A50
 clear A50
 replace H := Option.bind_eq_some_iff.mp H
 obtain ⟨⟨t536, t539⟩, A60, H⟩ := H
 replace H : (if t532 = 0 then (if t539 = 0 then ((congoulaw01_parts.f k l0 l1).bind fun t540 => (congoulaw01_SharesOver.j0 k l0 l1 t529 t532 t536 t539 (!t540))) else (congoulaw01_SharesOver.j0 k l0 l1 t529 t532 t536 t539 true)) else (congoulaw01_SharesOver.j0 k l0 l1 t529 t532 t536 t539 true)) = some r := H
 have A6 := Aside0.mk A60
 clear A60
 have HC7 := Aside0.mk H
 clear H
 go_enter Try.func9, Try.ntmps9
 go_upto_region 3 with (first | ((with_reducible refine gate_callee (f := 18) rfl ?_); refine gL 18 Try.func18 #[.slice A0 l0.length c0] ?_; (with_reducible refine (congoulaw01_list.calls _ _ l0 t526 _ ?side1 ?side2 A3.out).mono ?_); (case side1 => repeat (first | exact HR0.out | (with_reducible refine Kd.C_alloc ?_ _) | (with_reducible refine Kd.C_drewN ?_ _) | (with_reducible refine Kd.C_drew ?_))); (case side2 => exact HC0.out); rintro e w8 ⟨v527, rfl, ho0, hb⟩; refine ⟨_, rfl, ?_⟩; have HO528 := ak (Kd.R_lower ho0 (below_size (hbC _))); replace HB := kH _ hb; (try clear hb); (try clear hb2); (try clear hk); (try clear hi); (try clear ho0); obtain ⟨Ao9, co9, eo9⟩ := Kd.R_slice HO528.out; subst eo9) | ((with_reducible refine gate_callee (f := 40) rfl ?_); refine gL 19 Try.func40 #[.slice Ao9 t526.length co9] ?_; (with_reducible refine (shares_Turn.calls k (fun k_ => some k_ = (.slice Ao9 t526.length co9 : Value).ownBlock) _ _ t526 t529 t532 _ ?side1 A4.out).mono ?_); (case side1 => exact Kd.R_V (Kd.R_tight rfl (HO528.out))); rintro e w10 ⟨v530, rfl, ho0, hb⟩; refine ⟨_, rfl, ?_⟩; have HO531 := ak (Kd.R_lower (Kd.R_new' (Kd.R_mono (ok' := fun k_ => True) ho0 (fun _ hk_ => trivial)) (Kd.R_lt (rC HO528))) (below_size (hbC _))); replace HO528 := ak (Kd.R_elder' (rC HO528) (Kd.R_base ho0) hb); replace HB := kH _ hb; (try clear hb); (try clear hb2); (try clear hk); (try clear hi); (try clear ho0)) | ((with_reducible refine gate_callee (f := 18) rfl ?_); refine gL 24 Try.func18 #[.slice A1 l1.length c1] ?_; (with_reducible refine (congoulaw01_list.calls _ _ l1 t533 _ ?side1 ?side2 A5.out).mono ?_); (case side1 => exact kC HR1); (case side2 => exact HC1.out); rintro e w11 ⟨v534, rfl, ho0, hb⟩; refine ⟨_, rfl, ?_⟩; have HO535 := ak (Kd.R_lower (Kd.R_new' (Kd.R_new' ho0 (Kd.R_lt (rC HO528))) (Kd.R_lt (rC HO531))) (below_size (hbC _))); replace HO528 := ak (Kd.R_elder' (rC HO528) (Kd.R_base ho0) hb); replace HO531 := ak (Kd.R_elder' (rC HO531) (Kd.R_base ho0) hb); replace HB := kH _ hb; (try clear hb); (try clear hb2); (try clear hk); (try clear hi); (try clear ho0); obtain ⟨Ao12, co12, eo12⟩ := Kd.R_slice HO535.out; subst eo12) | ((with_reducible refine gate_callee (f := 40) rfl ?_); refine gL 25 Try.func40 #[.slice Ao12 t533.length co12] ?_; (with_reducible refine (shares_Turn.calls k (fun k_ => some k_ = (.slice Ao12 t533.length co12 : Value).ownBlock) _ _ t533 t536 t539 _ ?side1 A6.out).mono ?_); (case side1 => exact Kd.R_V (Kd.R_tight rfl (HO535.out))); rintro e w13 ⟨v537, rfl, ho0, hb⟩; refine ⟨_, rfl, ?_⟩; have HO538 := ak (Kd.R_lower (Kd.R_new' (Kd.R_new' (Kd.R_new' (Kd.R_mono (ok' := fun k_ => True) ho0 (fun _ hk_ => trivial)) (Kd.R_lt (rC HO528))) (Kd.R_lt (rC HO531))) (Kd.R_lt (rC HO535))) (below_size (hbC _))); replace HO528 := ak (Kd.R_elder' (rC HO528) (Kd.R_base ho0) hb); replace HO531 := ak (Kd.R_elder' (rC HO531) (Kd.R_base ho0) hb); replace HO535 := ak (Kd.R_elder' (rC HO535) (Kd.R_base ho0) hb); replace HB := kH _ hb; (try clear hb); (try clear hb2); (try clear hk); (try clear hi); (try clear ho0)))
 (try simp only [Act.put, List.setIfInBounds_toArray, List.set_cons_zero, List.set_cons_succ])
 go_cut [39] (fun v39 wc => ∃ (kq : Nat) (x39_6 : Bool), v39 = .bool x39_6 ∧ Aside0 (congoulaw01_SharesOver.j0 kq l0 l1 t529 t532 t536 t539 x39_6 = some r) ∧ Aside0 (kq ≤ k) ∧ Aside0 (Kd.R (Kd.int .i64) 3 wc w.heap.size (fun k_ => nb k_ v537) v530 t529) ∧ Aside0 (Kd.R (Kd.int .i64) 3 wc w.heap.size (fun k_ => nb k_ v530) v537 t536) ∧ Aside0 (Below w.heap.size w wc))
 case first =>
  have H := HC7.out
  clear HC7
  by_cases c14 : t532 = 0
  rotate_left
  ·rw [if_neg c14] at H
   have c14b0 : (t532 == 0) = false := beq_eq_false_iff_ne.mpr c14
   have c14b1 : (t532 != 0) = true := bne_iff_ne.mpr c14
   (first | rw [c14b0] | (simp only [i64_w, i32_w]; rw [c14b0]) | skip)
   have H' := Aside0.mk H
   clear H
   go_wp2
   go_meet
   case rel => exact ⟨_, (true), (by first | rfl | (simp; done) | (simp [*]; done)), H', ⟨by first | omega | exact Nat.le_refl _⟩, ⟨rD (Kd.R_mono HO531.out (fun _ hk => hk.2))⟩, ⟨rD (Kd.R_mono HO538.out (fun _ hk => hk.1.2))⟩, ⟨hbC _⟩⟩
  rw [if_pos c14] at H
  have c14b0 : (t532 == 0) = true := beq_iff_eq.mpr c14
  have c14b1 : (t532 != 0) = false := bne_eq_false_iff_eq.mpr c14
  clear c14
  (first | rw [c14b0] | (simp only [i64_w, i32_w]; rw [c14b0]) | skip)
  by_cases c15 : t539 = 0
  rotate_left
  ·rw [if_neg c15] at H
   have c15b0 : (t539 == 0) = false := beq_eq_false_iff_ne.mpr c15
   have c15b1 : (t539 != 0) = true := bne_iff_ne.mpr c15
   have H' := Aside0.mk H
   clear H
   go_wp2
   go_meet
   case rel => exact ⟨_, (true), (by first | rfl | (simp; done) | (simp [*]; done)), H', ⟨by first | omega | exact Nat.le_refl _⟩, ⟨rD (Kd.R_mono HO531.out (fun _ hk => hk.2))⟩, ⟨rD (Kd.R_mono HO538.out (fun _ hk => hk.1.2))⟩, ⟨hbC _⟩⟩
  rw [if_pos c15] at H
  have c15b0 : (t539 == 0) = true := beq_iff_eq.mpr c15
  have c15b1 : (t539 != 0) = false := bne_eq_false_iff_eq.mpr c15
  clear c15
  replace H := Option.bind_eq_some_iff.mp H
  obtain ⟨t540, A160, H⟩ := H
  replace H : (congoulaw01_SharesOver.j0 k l0 l1 t529 t532 t536 t539 (!t540)) = some r := H
  have A16 := Aside0.mk A160
  clear A160
  have H' := Aside0.mk H
  clear H
  go_wp2_with (first | (go_at_call 30; (with_reducible refine (congoulaw01_parts.calls k _ _ l0 _ _ l1 t540 _ ?side1 ?side2 ?side3 ?side4 A16.out).mono ?_); (case side1 => exact kC HR0); (case side2 => exact HC0.out); (case side3 => exact kC HR1); (case side4 => exact HC1.out); rintro e w' ⟨rfl, ⟨nd, rfl⟩⟩))
  go_meet
  case rel => exact ⟨_, (!t540), (by first | rfl | (simp; done) | (simp [*]; done)), H', ⟨by first | omega | exact Nat.le_refl _⟩, ⟨rD (Kd.R_mono HO531.out (fun _ hk => hk.2))⟩, ⟨rD (Kd.R_mono HO538.out (fun _ hk => hk.1.2))⟩, ⟨hbC _⟩⟩
 case rest =>
  clear HC7
  try clear c1
  try clear p2
  try clear c4
  try clear c9
  try clear c14
  try clear c14b0
  try clear c14b1
  try clear c15
  try clear c15b0
  try clear c15b1
  obtain ⟨kq, x39_6, rfl, HA, HJ6, HO_5, HO_7, HB⟩ := hcut
  cases kq with
  | zero => exact absurd HA.out (by simp [congoulaw01_SharesOver.j0])
  | succ kj6 =>
   have H := HA.out
   clear HA
   simp only [congoulaw01_SharesOver.j0] at H
   by_cases c17 : x39_6 = true
   ·subst c17
    have H1 : (if t532 = 2 then ((congoulaw01_awake.f kj6).bind fun t541 => (some t541)) else (if t539 = 2 then ((congoulaw01_awake.f kj6).bind fun t542 => (some t542)) else (if t532 = 0 then (if t539 = 0 then ((congouref01_Parts.f kj6 l0).bind fun t543 => ((congouref01_Parts.f kj6 l1).bind fun t544 => (if t543 = t544 then (some false) else ((congoulaw01_awake.f kj6).bind fun t545 => (some t545))))) else (some false)) else (some false)))) = some r := by rw [if_pos rfl] at H; exact H
    clear H
    have H := H1
    clear H1
    by_cases c18 : t532 = 2
    ·rw [if_pos c18] at H
     have c18b0 : (t532 == 2) = true := beq_iff_eq.mpr c18
     have c18b1 : (t532 != 2) = false := bne_eq_false_iff_eq.mpr c18
     clear c18
     replace H := Option.bind_eq_some_iff.mp H
     obtain ⟨t541, A190, H⟩ := H
     replace H : (some t541) = some r := H
     have A19 := Aside0.mk A190
     clear A190
     obtain rfl := Option.some.inj H
     go_wp2_with (first | (go_at_call 21; (with_reducible refine (congoulaw01_awake.calls kj6  t541 _ A19.out).mono ?_); rintro e w20 ⟨rfl, hb⟩; replace HO_5 := kO HO_5 hb; replace HO_7 := kO HO_7 hb; replace HB := kH _ hb; (try clear hb); (try clear hb2); (try clear hk); (try clear hi)))
     go_ret
     exact ⟨by first | rfl | (simp [errW_none, errW_some] <;> rfl) | (simp [*, errW_none, errW_some] <;> rfl), hbC _⟩
    rw [if_neg c18] at H
    have c18b0 : (t532 == 2) = false := beq_eq_false_iff_ne.mpr c18
    have c18b1 : (t532 != 2) = true := bne_iff_ne.mpr c18
    by_cases c21 : t539 = 2
    ·rw [if_pos c21] at H
     have c21b0 : (t539 == 2) = true := beq_iff_eq.mpr c21
     have c21b1 : (t539 != 2) = false := bne_eq_false_iff_eq.mpr c21
     clear c21
     replace H := Option.bind_eq_some_iff.mp H
     obtain ⟨t542, A220, H⟩ := H
     replace H : (some t542) = some r := H
     have A22 := Aside0.mk A220
     clear A220
     obtain rfl := Option.some.inj H
     go_wp2_with (first | (go_at_call 21; (with_reducible refine (congoulaw01_awake.calls kj6  t542 _ A22.out).mono ?_); rintro e w23 ⟨rfl, hb⟩; replace HO_5 := kO HO_5 hb; replace HO_7 := kO HO_7 hb; replace HB := kH _ hb; (try clear hb); (try clear hb2); (try clear hk); (try clear hi)))
     go_ret
     exact ⟨by first | rfl | (simp [errW_none, errW_some] <;> rfl) | (simp [*, errW_none, errW_some] <;> rfl), hbC _⟩
    rw [if_neg c21] at H
    have c21b0 : (t539 == 2) = false := beq_eq_false_iff_ne.mpr c21
    have c21b1 : (t539 != 2) = true := bne_iff_ne.mpr c21
    by_cases c24 : t532 = 0
    rotate_left
    ·rw [if_neg c24] at H
     have c24b0 : (t532 == 0) = false := beq_eq_false_iff_ne.mpr c24
     have c24b1 : (t532 != 0) = true := bne_iff_ne.mpr c24
     exact absurd (H.trans (congrArg some HRT.out)) (by simp)
    rw [if_pos c24] at H
    have c24b0 : (t532 == 0) = true := beq_iff_eq.mpr c24
    have c24b1 : (t532 != 0) = false := bne_eq_false_iff_eq.mpr c24
    clear c24
    by_cases c25 : t539 = 0
    rotate_left
    ·rw [if_neg c25] at H
     have c25b0 : (t539 == 0) = false := beq_eq_false_iff_ne.mpr c25
     have c25b1 : (t539 != 0) = true := bne_iff_ne.mpr c25
     exact absurd (H.trans (congrArg some HRT.out)) (by simp)
    rw [if_pos c25] at H
    have c25b0 : (t539 == 0) = true := beq_iff_eq.mpr c25
    have c25b1 : (t539 != 0) = false := bne_eq_false_iff_eq.mpr c25
    clear c25
    replace H := Option.bind_eq_some_iff.mp H
    obtain ⟨t543, A260, H⟩ := H
    replace H : ((congouref01_Parts.f kj6 l1).bind fun t544 => (if t543 = t544 then (some false) else ((congoulaw01_awake.f kj6).bind fun t545 => (some t545)))) = some r := H
    have A26 := Aside0.mk A260
    clear A260
    replace H := Option.bind_eq_some_iff.mp H
    obtain ⟨t544, A270, H⟩ := H
    replace H : (if t543 = t544 then (some false) else ((congoulaw01_awake.f kj6).bind fun t545 => (some t545))) = some r := H
    have A27 := Aside0.mk A270
    clear A270
    by_cases c28 : t543 = t544
    ·rw [if_pos c28] at H
     have c28b0 : (t543 == t544) = true := beq_iff_eq.mpr c28
     have c28b1 : (t543 != t544) = false := bne_eq_false_iff_eq.mpr c28
     clear c28
     exact absurd (H.trans (congrArg some HRT.out)) (by simp)
    rw [if_neg c28] at H
    have c28b0 : (t543 == t544) = false := beq_eq_false_iff_ne.mpr c28
    have c28b1 : (t543 != t544) = true := bne_iff_ne.mpr c28
    replace H := Option.bind_eq_some_iff.mp H
    obtain ⟨t545, A290, H⟩ := H
    replace H : (some t545) = some r := H
    have A29 := Aside0.mk A290
    clear A290
    obtain rfl := Option.some.inj H
    go_wp2_with (first | (go_at_call 41; (with_reducible refine (congouref01_Parts.calls kj6 _ _ l0 t543 _ ?side1 ?side2 A26.out).mono ?_); (case side1 => exact kC HR0); (case side2 => exact HC0.out); rintro e w' ⟨rfl, ⟨nd, rfl⟩⟩) | (go_at_call 41; (with_reducible refine (congouref01_Parts.calls kj6 _ _ l1 t544 _ ?side1 ?side2 A27.out).mono ?_); (case side1 => repeat (first | exact (Kd.C_below HR1.out (hbC _)) | (with_reducible refine Kd.C_alloc ?_ _) | (with_reducible refine Kd.C_drewN ?_ _) | (with_reducible refine Kd.C_drew ?_))); (case side2 => exact HC1.out); rintro e w' ⟨rfl, ⟨nd, rfl⟩⟩) | (go_at_call 21; (with_reducible refine (congoulaw01_awake.calls kj6  t545 _ A29.out).mono ?_); rintro e w30 ⟨rfl, hb⟩; replace HO_5 := kO HO_5 hb; replace HO_7 := kO HO_7 hb; replace HB := kH _ hb; (try clear hb); (try clear hb2); (try clear hk); (try clear hi)))
    go_ret
    exact ⟨by first | rfl | (simp [errW_none, errW_some] <;> rfl) | (simp [*, errW_none, errW_some] <;> rfl), hbC _⟩
   replace c17 := Bool.eq_false_iff.mpr c17
   subst c17
   have H1 : ((slices_Clone_int_int.f t529).bind fun t546 => ((shares_Turn.f kj6 t546).bind fun bt549 => (if bt549.2 = 0 then ((slices_Equal_int_int.f kj6 bt549.1 l0).bind fun t553 => (if t553 = true then ((congoulaw01_parts.f kj6 t529 l0).bind fun t554 => (if t554 = true then ((congoulaw01_parts.f kj6 t536 l0).bind fun t555 => (if t555 = true then ((congouref01_Uneven.f kj6 l0 l1).bind fun t556 => ((congouref01_Uneven.f kj6 t536 t529).bind fun t557 => (congoulaw01_SharesOver.j1 kj6 l0 l1 t529 t536 (t556 != t557)))) else (congoulaw01_SharesOver.j1 kj6 l0 l1 t529 t536 true))) else (congoulaw01_SharesOver.j1 kj6 l0 l1 t529 t536 true))) else (congoulaw01_SharesOver.j1 kj6 l0 l1 t529 t536 true))) else (congoulaw01_SharesOver.j1 kj6 l0 l1 t529 t536 true)))) = some r := by rw [if_neg (show ¬ (false = true) by decide)] at H; exact H
   clear H
   have H := H1
   clear H1
   replace H := Option.bind_eq_some_iff.mp H
   obtain ⟨t546, A310, H⟩ := H
   replace H : ((shares_Turn.f kj6 t546).bind fun bt549 => (if bt549.2 = 0 then ((slices_Equal_int_int.f kj6 bt549.1 l0).bind fun t553 => (if t553 = true then ((congoulaw01_parts.f kj6 t529 l0).bind fun t554 => (if t554 = true then ((congoulaw01_parts.f kj6 t536 l0).bind fun t555 => (if t555 = true then ((congouref01_Uneven.f kj6 l0 l1).bind fun t556 => ((congouref01_Uneven.f kj6 t536 t529).bind fun t557 => (congoulaw01_SharesOver.j1 kj6 l0 l1 t529 t536 (t556 != t557)))) else (congoulaw01_SharesOver.j1 kj6 l0 l1 t529 t536 true))) else (congoulaw01_SharesOver.j1 kj6 l0 l1 t529 t536 true))) else (congoulaw01_SharesOver.j1 kj6 l0 l1 t529 t536 true))) else (congoulaw01_SharesOver.j1 kj6 l0 l1 t529 t536 true))) = some r := H
   have A31 := Aside0.mk A310
   clear A310
   replace H := Option.bind_eq_some_iff.mp H
   obtain ⟨⟨t549, t552⟩, A320, H⟩ := H
   replace H : (if t552 = 0 then ((slices_Equal_int_int.f kj6 t549 l0).bind fun t553 => (if t553 = true then ((congoulaw01_parts.f kj6 t529 l0).bind fun t554 => (if t554 = true then ((congoulaw01_parts.f kj6 t536 l0).bind fun t555 => (if t555 = true then ((congouref01_Uneven.f kj6 l0 l1).bind fun t556 => ((congouref01_Uneven.f kj6 t536 t529).bind fun t557 => (congoulaw01_SharesOver.j1 kj6 l0 l1 t529 t536 (t556 != t557)))) else (congoulaw01_SharesOver.j1 kj6 l0 l1 t529 t536 true))) else (congoulaw01_SharesOver.j1 kj6 l0 l1 t529 t536 true))) else (congoulaw01_SharesOver.j1 kj6 l0 l1 t529 t536 true))) else (congoulaw01_SharesOver.j1 kj6 l0 l1 t529 t536 true)) = some r := H
   have A32 := Aside0.mk A320
   clear A320
   have HC33 := Aside0.mk H
   clear H
   obtain ⟨Ao34, co34, eo34⟩ := Kd.R_slice HO_5.out
   subst eo34
   go_upto_region 6 with (first | ((with_reducible refine gate_callee (f := 42) rfl ?_); refine gL 66 Try.func42 #[.slice Ao34 t529.length co34] ?_; (with_reducible refine (slices_Clone_int_int.calls _ _ t529 t546 _ ?side1 ?side2 A31.out).mono ?_); (case side1 => exact kD (Kd.R_reads' HO_5.out).2.2); (case side2 => exact (Kd.R_reads' HO_5.out).2.1); rintro e w35 ⟨v547, rfl, ho0, hb⟩; refine ⟨_, rfl, ?_⟩; have HO548 := ak (Kd.R_lower (Kd.R_new' (Kd.R_new' ho0 (Kd.R_lt (rC HO_5))) (Kd.R_lt (rC HO_7))) (below_size (hbC _))); replace HO_5 := ak (Kd.R_elder' (rC HO_5) (Kd.R_base ho0) hb); replace HO_7 := ak (Kd.R_elder' (rC HO_7) (Kd.R_base ho0) hb); replace HB := kH _ hb; (try clear hb); (try clear hb2); (try clear hk); (try clear hi); (try clear ho0); obtain ⟨Ao36, co36, eo36⟩ := Kd.R_slice HO548.out; subst eo36) | ((with_reducible refine gate_callee (f := 40) rfl ?_); refine gL 67 Try.func40 #[.slice Ao36 t546.length co36] ?_; (with_reducible refine (shares_Turn.calls kj6 (fun k_ => some k_ = (.slice Ao36 t546.length co36 : Value).ownBlock) _ _ t546 t549 t552 _ ?side1 A32.out).mono ?_); (case side1 => exact Kd.R_V (Kd.R_tight rfl (HO548.out))); rintro e w37 ⟨v550, rfl, ho0, hb⟩; refine ⟨_, rfl, ?_⟩; have HO551 := ak (Kd.R_lower (Kd.R_new' (Kd.R_new' (Kd.R_new' (Kd.R_mono (ok' := fun k_ => True) ho0 (fun _ hk_ => trivial)) (Kd.R_lt (rC HO_5))) (Kd.R_lt (rC HO_7))) (Kd.R_lt (rC HO548))) (below_size (hbC _))); replace HO_5 := ak (Kd.R_elder' (rC HO_5) (Kd.R_base ho0) hb); replace HO_7 := ak (Kd.R_elder' (rC HO_7) (Kd.R_base ho0) hb); replace HO548 := ak (Kd.R_elder' (rC HO548) (Kd.R_base ho0) hb); replace HB := kH _ hb; (try clear hb); (try clear hb2); (try clear hk); (try clear hi); (try clear ho0)))
   (try simp only [Act.put, List.setIfInBounds_toArray, List.set_cons_zero, List.set_cons_succ])
   go_cut [98] (fun v98 wc => ∃ (kq : Nat) (x98_32 : Bool), v98 = .bool x98_32 ∧ Aside0 (congoulaw01_SharesOver.j1 kq l0 l1 t529 t536 x98_32 = some r) ∧ Aside0 (kq ≤ kj6) ∧ Aside0 (Kd.R (Kd.int .i64) 3 wc w.heap.size (fun k_ => nb k_ v537) (.slice Ao34 t529.length co34) t529) ∧ Aside0 (Kd.R (Kd.int .i64) 3 wc w.heap.size (fun k_ => some k_ ≠ ((.slice Ao34 t529.length co34) : Value).ownBlock) v537 t536) ∧ Aside0 (Below w.heap.size w wc))
   case first =>
    have H := HC33.out
    clear HC33
    by_cases c38 : t552 = 0
    rotate_left
    ·rw [if_neg c38] at H
     have c38b0 : (t552 == 0) = false := beq_eq_false_iff_ne.mpr c38
     have c38b1 : (t552 != 0) = true := bne_iff_ne.mpr c38
     (first | rw [c38b0] | (simp only [i64_w, i32_w]; rw [c38b0]) | skip)
     have H' := Aside0.mk H
     clear H
     go_wp2
     go_meet
     case rel => exact ⟨_, (true), (by first | rfl | (simp; done) | (simp [*]; done)), H', ⟨by have := HJ6.out; first | omega | exact Nat.le_refl _⟩, ⟨rD (Kd.R_mono HO_5.out (fun _ hk => hk.1.1))⟩, ⟨rD (Kd.R_mono HO_7.out (fun _ hk => hk.1.1))⟩, ⟨hbC _⟩⟩
    rw [if_pos c38] at H
    have c38b0 : (t552 == 0) = true := beq_iff_eq.mpr c38
    have c38b1 : (t552 != 0) = false := bne_eq_false_iff_eq.mpr c38
    clear c38
    (first | rw [c38b0] | (simp only [i64_w, i32_w]; rw [c38b0]) | skip)
    replace H := Option.bind_eq_some_iff.mp H
    obtain ⟨t553, A390, H⟩ := H
    replace H : (if t553 = true then ((congoulaw01_parts.f kj6 t529 l0).bind fun t554 => (if t554 = true then ((congoulaw01_parts.f kj6 t536 l0).bind fun t555 => (if t555 = true then ((congouref01_Uneven.f kj6 l0 l1).bind fun t556 => ((congouref01_Uneven.f kj6 t536 t529).bind fun t557 => (congoulaw01_SharesOver.j1 kj6 l0 l1 t529 t536 (t556 != t557)))) else (congoulaw01_SharesOver.j1 kj6 l0 l1 t529 t536 true))) else (congoulaw01_SharesOver.j1 kj6 l0 l1 t529 t536 true))) else (congoulaw01_SharesOver.j1 kj6 l0 l1 t529 t536 true)) = some r := H
    have A39 := Aside0.mk A390
    clear A390
    by_cases c40 : t553 = true
    rotate_left
    ·replace c40 := Bool.eq_false_iff.mpr c40
     subst c40
     have H1 : (congoulaw01_SharesOver.j1 kj6 l0 l1 t529 t536 true) = some r := by rw [if_neg (show ¬ (false = true) by decide)] at H; exact H
     clear H
     have H := H1
     clear H1
     have H' := Aside0.mk H
     clear H
     obtain ⟨Ao54, co54, eo54⟩ := Kd.R_slice HO551.out
     subst eo54
     go_wp2_with (first | (go_at_call 31; (with_reducible refine (slices_Equal_int_int.calls kj6 _ _ t549 _ _ l0 false _ ?side1 ?side2 ?side3 ?side4 A39.out).mono ?_); (case side1 => exact kD (Kd.R_reads' HO551.out).2.2); (case side2 => exact (Kd.R_reads' HO551.out).2.1); (case side3 => exact kC HR0); (case side4 => exact HC0.out); rintro e w' ⟨rfl, ⟨nd, rfl⟩⟩))
     go_meet
     case rel => exact ⟨_, (true), (by first | rfl | (simp; done) | (simp [*]; done)), H', ⟨by have := HJ6.out; first | omega | exact Nat.le_refl _⟩, ⟨rD (Kd.R_mono HO_5.out (fun _ hk => hk.1.1))⟩, ⟨rD (Kd.R_mono HO_7.out (fun _ hk => hk.1.1))⟩, ⟨hbC _⟩⟩
    subst c40
    have H1 : ((congoulaw01_parts.f kj6 t529 l0).bind fun t554 => (if t554 = true then ((congoulaw01_parts.f kj6 t536 l0).bind fun t555 => (if t555 = true then ((congouref01_Uneven.f kj6 l0 l1).bind fun t556 => ((congouref01_Uneven.f kj6 t536 t529).bind fun t557 => (congoulaw01_SharesOver.j1 kj6 l0 l1 t529 t536 (t556 != t557)))) else (congoulaw01_SharesOver.j1 kj6 l0 l1 t529 t536 true))) else (congoulaw01_SharesOver.j1 kj6 l0 l1 t529 t536 true))) = some r := by rw [if_pos rfl] at H; exact H
    clear H
    have H := H1
    clear H1
    replace H := Option.bind_eq_some_iff.mp H
    obtain ⟨t554, A410, H⟩ := H
    replace H : (if t554 = true then ((congoulaw01_parts.f kj6 t536 l0).bind fun t555 => (if t555 = true then ((congouref01_Uneven.f kj6 l0 l1).bind fun t556 => ((congouref01_Uneven.f kj6 t536 t529).bind fun t557 => (congoulaw01_SharesOver.j1 kj6 l0 l1 t529 t536 (t556 != t557)))) else (congoulaw01_SharesOver.j1 kj6 l0 l1 t529 t536 true))) else (congoulaw01_SharesOver.j1 kj6 l0 l1 t529 t536 true)) = some r := H
    have A41 := Aside0.mk A410
    clear A410
    by_cases c42 : t554 = true
    rotate_left
    ·replace c42 := Bool.eq_false_iff.mpr c42
     subst c42
     have H1 : (congoulaw01_SharesOver.j1 kj6 l0 l1 t529 t536 true) = some r := by rw [if_neg (show ¬ (false = true) by decide)] at H; exact H
     clear H
     have H := H1
     clear H1
     have H' := Aside0.mk H
     clear H
     obtain ⟨Ao53, co53, eo53⟩ := Kd.R_slice HO551.out
     subst eo53
     go_wp2_with (first | (go_at_call 31; (with_reducible refine (slices_Equal_int_int.calls kj6 _ _ t549 _ _ l0 true _ ?side1 ?side2 ?side3 ?side4 A39.out).mono ?_); (case side1 => exact kD (Kd.R_reads' HO551.out).2.2); (case side2 => exact (Kd.R_reads' HO551.out).2.1); (case side3 => exact kC HR0); (case side4 => exact HC0.out); rintro e w' ⟨rfl, ⟨nd, rfl⟩⟩) | (go_at_call 30; (with_reducible refine (congoulaw01_parts.calls kj6 _ _ t529 _ _ l0 false _ ?side1 ?side2 ?side3 ?side4 A41.out).mono ?_); (case side1 => exact kD (Kd.R_reads' HO_5.out).2.2); (case side2 => exact (Kd.R_reads' HO_5.out).2.1); (case side3 => repeat (first | exact (Kd.C_below HR0.out (hbC _)) | (with_reducible refine Kd.C_alloc ?_ _) | (with_reducible refine Kd.C_drewN ?_ _) | (with_reducible refine Kd.C_drew ?_))); (case side4 => exact HC0.out); rintro e w' ⟨rfl, ⟨nd, rfl⟩⟩))
     go_meet
     case rel => exact ⟨_, (true), (by first | rfl | (simp; done) | (simp [*]; done)), H', ⟨by have := HJ6.out; first | omega | exact Nat.le_refl _⟩, ⟨rD (Kd.R_mono HO_5.out (fun _ hk => hk.1.1))⟩, ⟨rD (Kd.R_mono HO_7.out (fun _ hk => hk.1.1))⟩, ⟨hbC _⟩⟩
    subst c42
    have H1 : ((congoulaw01_parts.f kj6 t536 l0).bind fun t555 => (if t555 = true then ((congouref01_Uneven.f kj6 l0 l1).bind fun t556 => ((congouref01_Uneven.f kj6 t536 t529).bind fun t557 => (congoulaw01_SharesOver.j1 kj6 l0 l1 t529 t536 (t556 != t557)))) else (congoulaw01_SharesOver.j1 kj6 l0 l1 t529 t536 true))) = some r := by rw [if_pos rfl] at H; exact H
    clear H
    have H := H1
    clear H1
    replace H := Option.bind_eq_some_iff.mp H
    obtain ⟨t555, A430, H⟩ := H
    replace H : (if t555 = true then ((congouref01_Uneven.f kj6 l0 l1).bind fun t556 => ((congouref01_Uneven.f kj6 t536 t529).bind fun t557 => (congoulaw01_SharesOver.j1 kj6 l0 l1 t529 t536 (t556 != t557)))) else (congoulaw01_SharesOver.j1 kj6 l0 l1 t529 t536 true)) = some r := H
    have A43 := Aside0.mk A430
    clear A430
    by_cases c44 : t555 = true
    rotate_left
    ·replace c44 := Bool.eq_false_iff.mpr c44
     subst c44
     have H1 : (congoulaw01_SharesOver.j1 kj6 l0 l1 t529 t536 true) = some r := by rw [if_neg (show ¬ (false = true) by decide)] at H; exact H
     clear H
     have H := H1
     clear H1
     have H' := Aside0.mk H
     clear H
     obtain ⟨Ao51, co51, eo51⟩ := Kd.R_slice HO551.out
     subst eo51
     go_wp2_with (first | (go_at_call 31; (with_reducible refine (slices_Equal_int_int.calls kj6 _ _ t549 _ _ l0 true _ ?side1 ?side2 ?side3 ?side4 A39.out).mono ?_); (case side1 => exact kD (Kd.R_reads' HO551.out).2.2); (case side2 => exact (Kd.R_reads' HO551.out).2.1); (case side3 => exact kC HR0); (case side4 => exact HC0.out); rintro e w' ⟨rfl, ⟨nd, rfl⟩⟩) | (go_at_call 30; (with_reducible refine (congoulaw01_parts.calls kj6 _ _ t529 _ _ l0 true _ ?side1 ?side2 ?side3 ?side4 A41.out).mono ?_); (case side1 => exact kD (Kd.R_reads' HO_5.out).2.2); (case side2 => exact (Kd.R_reads' HO_5.out).2.1); (case side3 => repeat (first | exact (Kd.C_below HR0.out (hbC _)) | (with_reducible refine Kd.C_alloc ?_ _) | (with_reducible refine Kd.C_drewN ?_ _) | (with_reducible refine Kd.C_drew ?_))); (case side4 => exact HC0.out); rintro e w' ⟨rfl, ⟨nd, rfl⟩⟩; obtain ⟨Ao52, co52, eo52⟩ := Kd.R_slice HO_7.out; subst eo52) | (go_at_call 30; (with_reducible refine (congoulaw01_parts.calls kj6 _ _ t536 _ _ l0 false _ ?side1 ?side2 ?side3 ?side4 A43.out).mono ?_); (case side1 => exact kD (Kd.R_reads' HO_7.out).2.2); (case side2 => exact (Kd.R_reads' HO_7.out).2.1); (case side3 => repeat (first | exact (Kd.C_below HR0.out (hbC _)) | (with_reducible refine Kd.C_alloc ?_ _) | (with_reducible refine Kd.C_drewN ?_ _) | (with_reducible refine Kd.C_drew ?_))); (case side4 => exact HC0.out); rintro e w' ⟨rfl, ⟨nd, rfl⟩⟩))
     go_meet
     case rel => exact ⟨_, (true), (by first | rfl | (simp; done) | (simp [*]; done)), H', ⟨by have := HJ6.out; first | omega | exact Nat.le_refl _⟩, ⟨rD (Kd.R_mono HO_5.out (fun _ hk => hk.1.1))⟩, ⟨rD (Kd.R_mono HO_7.out (fun _ hk => hk.1.1))⟩, ⟨hbC _⟩⟩
    subst c44
    have H1 : ((congouref01_Uneven.f kj6 l0 l1).bind fun t556 => ((congouref01_Uneven.f kj6 t536 t529).bind fun t557 => (congoulaw01_SharesOver.j1 kj6 l0 l1 t529 t536 (t556 != t557)))) = some r := by rw [if_pos rfl] at H; exact H
    clear H
    have H := H1
    clear H1
    replace H := Option.bind_eq_some_iff.mp H
    obtain ⟨t556, A450, H⟩ := H
    replace H : ((congouref01_Uneven.f kj6 t536 t529).bind fun t557 => (congoulaw01_SharesOver.j1 kj6 l0 l1 t529 t536 (t556 != t557))) = some r := H
    have A45 := Aside0.mk A450
    clear A450
    replace H := Option.bind_eq_some_iff.mp H
    obtain ⟨t557, A460, H⟩ := H
    replace H : (congoulaw01_SharesOver.j1 kj6 l0 l1 t529 t536 (t556 != t557)) = some r := H
    have A46 := Aside0.mk A460
    clear A460
    have H' := Aside0.mk H
    clear H
    obtain ⟨Ao47, co47, eo47⟩ := Kd.R_slice HO551.out
    subst eo47
    go_wp2_with (first | (go_at_call 31; (with_reducible refine (slices_Equal_int_int.calls kj6 _ _ t549 _ _ l0 true _ ?side1 ?side2 ?side3 ?side4 A39.out).mono ?_); (case side1 => exact kD (Kd.R_reads' HO551.out).2.2); (case side2 => exact (Kd.R_reads' HO551.out).2.1); (case side3 => exact kC HR0); (case side4 => exact HC0.out); rintro e w' ⟨rfl, ⟨nd, rfl⟩⟩) | (go_at_call 30; (with_reducible refine (congoulaw01_parts.calls kj6 _ _ t529 _ _ l0 true _ ?side1 ?side2 ?side3 ?side4 A41.out).mono ?_); (case side1 => exact kD (Kd.R_reads' HO_5.out).2.2); (case side2 => exact (Kd.R_reads' HO_5.out).2.1); (case side3 => repeat (first | exact (Kd.C_below HR0.out (hbC _)) | (with_reducible refine Kd.C_alloc ?_ _) | (with_reducible refine Kd.C_drewN ?_ _) | (with_reducible refine Kd.C_drew ?_))); (case side4 => exact HC0.out); rintro e w' ⟨rfl, ⟨nd, rfl⟩⟩; obtain ⟨Ao48, co48, eo48⟩ := Kd.R_slice HO_7.out; subst eo48) | (go_at_call 30; (with_reducible refine (congoulaw01_parts.calls kj6 _ _ t536 _ _ l0 true _ ?side1 ?side2 ?side3 ?side4 A43.out).mono ?_); (case side1 => exact kD (Kd.R_reads' HO_7.out).2.2); (case side2 => exact (Kd.R_reads' HO_7.out).2.1); (case side3 => repeat (first | exact (Kd.C_below HR0.out (hbC _)) | (with_reducible refine Kd.C_alloc ?_ _) | (with_reducible refine Kd.C_drewN ?_ _) | (with_reducible refine Kd.C_drew ?_))); (case side4 => exact HC0.out); rintro e w' ⟨rfl, ⟨nd, rfl⟩⟩) | (go_at_call 24; (with_reducible refine (congouref01_Uneven.calls kj6 _ _ l0 _ _ l1 t556 _ ?side1 ?side2 ?side3 ?side4 A45.out).mono ?_); (case side1 => repeat (first | exact (Kd.C_below HR0.out (hbC _)) | (with_reducible refine Kd.C_alloc ?_ _) | (with_reducible refine Kd.C_drewN ?_ _) | (with_reducible refine Kd.C_drew ?_))); (case side2 => exact HC0.out); (case side3 => repeat (first | exact (Kd.C_below HR1.out (hbC _)) | (with_reducible refine Kd.C_alloc ?_ _) | (with_reducible refine Kd.C_drewN ?_ _) | (with_reducible refine Kd.C_drew ?_))); (case side4 => exact HC1.out); rintro e w49 ⟨rfl, hb⟩; replace HO_5 := kO HO_5 hb; replace HO_7 := kO HO_7 hb; replace HO548 := kO HO548 hb; replace HO551 := kO HO551 hb; replace HB := kH _ hb; (try clear hb); (try clear hb2); (try clear hk); (try clear hi)) | (go_at_call 24; (with_reducible refine (congouref01_Uneven.calls kj6 _ _ t536 _ _ t529 t557 _ ?side1 ?side2 ?side3 ?side4 A46.out).mono ?_); (case side1 => exact kD (Kd.R_reads' HO_7.out).2.2); (case side2 => exact (Kd.R_reads' HO_7.out).2.1); (case side3 => exact kD (Kd.R_reads' HO_5.out).2.2); (case side4 => exact (Kd.R_reads' HO_5.out).2.1); rintro e w50 ⟨rfl, hb⟩; replace HO_5 := kO HO_5 hb; replace HO_7 := kO HO_7 hb; replace HO548 := kO HO548 hb; replace HO551 := kO HO551 hb; replace HB := kH _ hb; (try clear hb); (try clear hb2); (try clear hk); (try clear hi)))
    go_meet
    case rel => exact ⟨_, ((t556 != t557)), (by first | rfl | (simp; done) | (simp [*]; done)), H', ⟨by have := HJ6.out; first | omega | exact Nat.le_refl _⟩, ⟨rD (Kd.R_mono HO_5.out (fun _ hk => hk.1.1))⟩, ⟨rD (Kd.R_mono HO_7.out (fun _ hk => hk.1.1))⟩, ⟨hbC _⟩⟩
   case rest =>
    clear HC33
    try clear c1
    try clear c2
    try clear p2
    try clear c3
    try clear c4
    try clear c9
    try clear c14
    try clear c14b0
    try clear c14b1
    try clear c15
    try clear c15b0
    try clear c15b1
    try clear c17
    try clear c18
    try clear c18b0
    try clear c18b1
    try clear c21
    try clear c21b0
    try clear c21b1
    try clear c24
    try clear c24b0
    try clear c24b1
    try clear c25
    try clear c25b0
    try clear c25b1
    try clear c28
    try clear c28b0
    try clear c28b1
    try clear c38
    try clear c38b0
    try clear c38b1
    try clear c40
    try clear c42
    try clear c44
    try clear p2
    obtain ⟨kq, x98_32, rfl, HA, HJ32, HO_5, HO_7, HB⟩ := hcut
    cases kq with
    | zero => exact absurd HA.out (by simp [congoulaw01_SharesOver.j1])
    | succ kj32 =>
     have H := HA.out
     clear HA
     simp only [congoulaw01_SharesOver.j1] at H
     by_cases c55 : x98_32 = true
     ·subst c55
      have H1 : (some false) = some r := by rw [if_pos rfl] at H; exact H
      clear H
      have H := H1
      clear H1
      exact absurd (H.trans (congrArg some HRT.out)) (by simp)
     replace c55 := Bool.eq_false_iff.mpr c55
     subst c55
     have H1 : ((congoulaw01_list.f l0).bind fun t558 => ((congoulaw01_list.f l1).bind fun t561 => ((shares_Meet.f kj32 t558 t561).bind fun bt564 => ((shares_Turn.f kj32 bt564.1).bind fun bt568 => ((shares_Join.f kj32 t529 t536).bind fun bt572 => (if bt564.2 = 0 then (if bt568.2 = 0 then (if bt572.2 = 0 then ((slices_Equal_int_int.f kj32 bt568.1 bt572.1).bind fun t576 => (if t576 = true then ((congoulaw01_awake.f kj32).bind fun t577 => (some t577)) else (some false))) else (some false)) else (some false)) else (some false))))))) = some r := by rw [if_neg (show ¬ (false = true) by decide)] at H; exact H
     clear H
     have H := H1
     clear H1
     replace H := Option.bind_eq_some_iff.mp H
     obtain ⟨t558, A560, H⟩ := H
     replace H : ((congoulaw01_list.f l1).bind fun t561 => ((shares_Meet.f kj32 t558 t561).bind fun bt564 => ((shares_Turn.f kj32 bt564.1).bind fun bt568 => ((shares_Join.f kj32 t529 t536).bind fun bt572 => (if bt564.2 = 0 then (if bt568.2 = 0 then (if bt572.2 = 0 then ((slices_Equal_int_int.f kj32 bt568.1 bt572.1).bind fun t576 => (if t576 = true then ((congoulaw01_awake.f kj32).bind fun t577 => (some t577)) else (some false))) else (some false)) else (some false)) else (some false)))))) = some r := H
     have A56 := Aside0.mk A560
     clear A560
     replace H := Option.bind_eq_some_iff.mp H
     obtain ⟨t561, A570, H⟩ := H
     replace H : ((shares_Meet.f kj32 t558 t561).bind fun bt564 => ((shares_Turn.f kj32 bt564.1).bind fun bt568 => ((shares_Join.f kj32 t529 t536).bind fun bt572 => (if bt564.2 = 0 then (if bt568.2 = 0 then (if bt572.2 = 0 then ((slices_Equal_int_int.f kj32 bt568.1 bt572.1).bind fun t576 => (if t576 = true then ((congoulaw01_awake.f kj32).bind fun t577 => (some t577)) else (some false))) else (some false)) else (some false)) else (some false))))) = some r := H
     have A57 := Aside0.mk A570
     clear A570
     replace H := Option.bind_eq_some_iff.mp H
     obtain ⟨⟨t564, t567⟩, A580, H⟩ := H
     replace H : ((shares_Turn.f kj32 t564).bind fun bt568 => ((shares_Join.f kj32 t529 t536).bind fun bt572 => (if t567 = 0 then (if bt568.2 = 0 then (if bt572.2 = 0 then ((slices_Equal_int_int.f kj32 bt568.1 bt572.1).bind fun t576 => (if t576 = true then ((congoulaw01_awake.f kj32).bind fun t577 => (some t577)) else (some false))) else (some false)) else (some false)) else (some false)))) = some r := H
     have A58 := Aside0.mk A580
     clear A580
     replace H := Option.bind_eq_some_iff.mp H
     obtain ⟨⟨t568, t571⟩, A590, H⟩ := H
     replace H : ((shares_Join.f kj32 t529 t536).bind fun bt572 => (if t567 = 0 then (if t571 = 0 then (if bt572.2 = 0 then ((slices_Equal_int_int.f kj32 t568 bt572.1).bind fun t576 => (if t576 = true then ((congoulaw01_awake.f kj32).bind fun t577 => (some t577)) else (some false))) else (some false)) else (some false)) else (some false))) = some r := H
     have A59 := Aside0.mk A590
     clear A590
     replace H := Option.bind_eq_some_iff.mp H
     obtain ⟨⟨t572, t575⟩, A600, H⟩ := H
     replace H : (if t567 = 0 then (if t571 = 0 then (if t575 = 0 then ((slices_Equal_int_int.f kj32 t568 t572).bind fun t576 => (if t576 = true then ((congoulaw01_awake.f kj32).bind fun t577 => (some t577)) else (some false))) else (some false)) else (some false)) else (some false)) = some r := H
     have A60 := Aside0.mk A600
     clear A600
     by_cases c61 : t567 = 0
     rotate_left
     ·rw [if_neg c61] at H
      have c61b0 : (t567 == 0) = false := beq_eq_false_iff_ne.mpr c61
      have c61b1 : (t567 != 0) = true := bne_iff_ne.mpr c61
      exact absurd (H.trans (congrArg some HRT.out)) (by simp)
     rw [if_pos c61] at H
     have c61b0 : (t567 == 0) = true := beq_iff_eq.mpr c61
     have c61b1 : (t567 != 0) = false := bne_eq_false_iff_eq.mpr c61
     clear c61
     by_cases c62 : t571 = 0
     rotate_left
     ·rw [if_neg c62] at H
      have c62b0 : (t571 == 0) = false := beq_eq_false_iff_ne.mpr c62
      have c62b1 : (t571 != 0) = true := bne_iff_ne.mpr c62
      exact absurd (H.trans (congrArg some HRT.out)) (by simp)
     rw [if_pos c62] at H
     have c62b0 : (t571 == 0) = true := beq_iff_eq.mpr c62
     have c62b1 : (t571 != 0) = false := bne_eq_false_iff_eq.mpr c62
     clear c62
     by_cases c63 : t575 = 0
     rotate_left
     ·rw [if_neg c63] at H
      have c63b0 : (t575 == 0) = false := beq_eq_false_iff_ne.mpr c63
      have c63b1 : (t575 != 0) = true := bne_iff_ne.mpr c63
      exact absurd (H.trans (congrArg some HRT.out)) (by simp)
     rw [if_pos c63] at H
     have c63b0 : (t575 == 0) = true := beq_iff_eq.mpr c63
     have c63b1 : (t575 != 0) = false := bne_eq_false_iff_eq.mpr c63
     clear c63
     replace H := Option.bind_eq_some_iff.mp H
     obtain ⟨t576, A640, H⟩ := H
     replace H : (if t576 = true then ((congoulaw01_awake.f kj32).bind fun t577 => (some t577)) else (some false)) = some r := H
     have A64 := Aside0.mk A640
     clear A640
     by_cases c65 : t576 = true
     rotate_left
     ·replace c65 := Bool.eq_false_iff.mpr c65
      subst c65
      have H1 : (some false) = some r := by rw [if_neg (show ¬ (false = true) by decide)] at H; exact H
      clear H
      have H := H1
      clear H1
      exact absurd (H.trans (congrArg some HRT.out)) (by simp)
     subst c65
     have H1 : ((congoulaw01_awake.f kj32).bind fun t577 => (some t577)) = some r := by rw [if_pos rfl] at H; exact H
     clear H
     have H := H1
     clear H1
     replace H := Option.bind_eq_some_iff.mp H
     obtain ⟨t577, A660, H⟩ := H
     replace H : (some t577) = some r := H
     have A66 := Aside0.mk A660
     clear A660
     obtain rfl := Option.some.inj H
     go_wp2_with (first | ((with_reducible refine gate_callee (f := 18) rfl ?_); refine gL 101 Try.func18 #[.slice A0 l0.length c0] ?_; (with_reducible refine (congoulaw01_list.calls _ _ l0 t558 _ ?side1 ?side2 A56.out).mono ?_); (case side1 => exact kC HR0); (case side2 => exact HC0.out); rintro e w67 ⟨v559, rfl, ho0, hb⟩; refine ⟨_, rfl, ?_⟩; have HO560 := ak (Kd.R_lower (Kd.R_new' (Kd.R_new' ho0 (Kd.R_lt (rC HO_5))) (Kd.R_lt (rC HO_7))) (below_size (hbC _))); replace HO_5 := ak (Kd.R_elder' (rC HO_5) (Kd.R_base ho0) hb); replace HO_7 := ak (Kd.R_elder' (rC HO_7) (Kd.R_base ho0) hb); replace HB := kH _ hb; (try clear hb); (try clear hb2); (try clear hk); (try clear hi); (try clear ho0)) | ((with_reducible refine gate_callee (f := 18) rfl ?_); refine gL 103 Try.func18 #[.slice A1 l1.length c1] ?_; (with_reducible refine (congoulaw01_list.calls _ _ l1 t561 _ ?side1 ?side2 A57.out).mono ?_); (case side1 => exact kC HR1); (case side2 => exact HC1.out); rintro e w68 ⟨v562, rfl, ho0, hb⟩; refine ⟨_, rfl, ?_⟩; have HO563 := ak (Kd.R_lower (Kd.R_new' (Kd.R_new' (Kd.R_new' ho0 (Kd.R_lt (rC HO_5))) (Kd.R_lt (rC HO_7))) (Kd.R_lt (rC HO560))) (below_size (hbC _))); replace HO_5 := ak (Kd.R_elder' (rC HO_5) (Kd.R_base ho0) hb); replace HO_7 := ak (Kd.R_elder' (rC HO_7) (Kd.R_base ho0) hb); replace HO560 := ak (Kd.R_elder' (rC HO560) (Kd.R_base ho0) hb); replace HB := kH _ hb; (try clear hb); (try clear hb2); (try clear hk); (try clear hi); (try clear ho0); obtain ⟨Ao69, co69, eo69⟩ := Kd.R_slice HO560.out; subst eo69; obtain ⟨Ao70, co70, eo70⟩ := Kd.R_slice HO563.out; subst eo70) | ((with_reducible refine gate_callee (f := 28) rfl ?_); refine gL 104 Try.func28 #[.slice Ao69 t558.length co69, .slice Ao70 t561.length co70] ?_; (with_reducible refine (shares_Meet.calls kj32 (fun k_ => some k_ = (.slice Ao69 t558.length co69 : Value).ownBlock) _ _ t558 (fun k_ => some k_ = (.slice Ao70 t561.length co70 : Value).ownBlock) _ _ t561 t564 t567 _ ?side1 ?side2 A58.out).mono ?_); (case side1 => exact Kd.R_V (Kd.R_tight rfl (HO560.out))); (case side2 => exact Kd.R_V (Kd.R_tight rfl (HO563.out))); rintro e w71 ⟨v565, rfl, ho0, hb⟩; refine ⟨_, rfl, ?_⟩; have HO566 := ak (Kd.R_lower (Kd.R_new' (Kd.R_new' (Kd.R_new' (Kd.R_new' (Kd.R_mono (ok' := fun k_ => True) ho0 (fun _ hk_ => trivial)) (Kd.R_lt (rC HO_5))) (Kd.R_lt (rC HO_7))) (Kd.R_lt (rC HO560))) (Kd.R_lt (rC HO563))) (below_size (hbC _))); replace HO_5 := ak (Kd.R_elder' (rC HO_5) (Kd.R_base ho0) hb); replace HO_7 := ak (Kd.R_elder' (rC HO_7) (Kd.R_base ho0) hb); replace HO560 := ak (Kd.R_elder' (rC HO560) (Kd.R_base ho0) hb); replace HO563 := ak (Kd.R_elder' (rC HO563) (Kd.R_base ho0) hb); replace HB := kH _ hb; (try clear hb); (try clear hb2); (try clear hk); (try clear hi); (try clear ho0); obtain ⟨Ao72, co72, eo72⟩ := Kd.R_slice HO566.out; subst eo72) | ((with_reducible refine gate_callee (f := 40) rfl ?_); refine gL 109 Try.func40 #[.slice Ao72 t564.length co72] ?_; (with_reducible refine (shares_Turn.calls kj32 (fun k_ => some k_ = (.slice Ao72 t564.length co72 : Value).ownBlock) _ _ t564 t568 t571 _ ?side1 A59.out).mono ?_); (case side1 => exact Kd.R_V (Kd.R_tight rfl (HO566.out))); rintro e w73 ⟨v569, rfl, ho0, hb⟩; refine ⟨_, rfl, ?_⟩; have HO570 := ak (Kd.R_lower (Kd.R_new' (Kd.R_new' (Kd.R_new' (Kd.R_new' (Kd.R_new' (Kd.R_mono (ok' := fun k_ => True) ho0 (fun _ hk_ => trivial)) (Kd.R_lt (rC HO_5))) (Kd.R_lt (rC HO_7))) (Kd.R_lt (rC HO560))) (Kd.R_lt (rC HO563))) (Kd.R_lt (rC HO566))) (below_size (hbC _))); replace HO_5 := ak (Kd.R_elder' (rC HO_5) (Kd.R_base ho0) hb); replace HO_7 := ak (Kd.R_elder' (rC HO_7) (Kd.R_base ho0) hb); replace HO560 := ak (Kd.R_elder' (rC HO560) (Kd.R_base ho0) hb); replace HO563 := ak (Kd.R_elder' (rC HO563) (Kd.R_base ho0) hb); replace HO566 := ak (Kd.R_elder' (rC HO566) (Kd.R_base ho0) hb); replace HB := kH _ hb; (try clear hb); (try clear hb2); (try clear hk); (try clear hi); (try clear ho0); obtain ⟨Ao74, co74, eo74⟩ := Kd.R_slice HO_7.out; subst eo74) | ((with_reducible refine gate_callee (f := 29) rfl ?_); refine gL 115 Try.func29 #[.slice Ao34 t529.length co34, .slice Ao74 t536.length co74] ?_; (with_reducible refine (shares_Join.calls kj32 (fun k_ => some k_ = (.slice Ao34 t529.length co34 : Value).ownBlock) _ _ t529 (fun k_ => some k_ = (.slice Ao74 t536.length co74 : Value).ownBlock) _ _ t536 t572 t575 _ ?side1 ?side2 A60.out).mono ?_); (case side1 => exact Kd.R_V (Kd.R_tight rfl (HO_5.out))); (case side2 => exact Kd.R_V (Kd.R_tight rfl (HO_7.out))); rintro e w75 ⟨v573, rfl, ho0, hb⟩; refine ⟨_, rfl, ?_⟩; have HO574 := ak (Kd.R_lower (Kd.R_new' (Kd.R_new' (Kd.R_new' (Kd.R_new' (Kd.R_new' (Kd.R_new' (Kd.R_mono (ok' := fun k_ => True) ho0 (fun _ hk_ => trivial)) (Kd.R_lt (rC HO_5))) (Kd.R_lt (rC HO_7))) (Kd.R_lt (rC HO560))) (Kd.R_lt (rC HO563))) (Kd.R_lt (rC HO566))) (Kd.R_lt (rC HO570))) (below_size (hbC _))); replace HO_5 := ak (Kd.R_elder' (rC HO_5) (Kd.R_base ho0) hb); replace HO_7 := ak (Kd.R_elder' (rC HO_7) (Kd.R_base ho0) hb); replace HO560 := ak (Kd.R_elder' (rC HO560) (Kd.R_base ho0) hb); replace HO563 := ak (Kd.R_elder' (rC HO563) (Kd.R_base ho0) hb); replace HO566 := ak (Kd.R_elder' (rC HO566) (Kd.R_base ho0) hb); replace HO570 := ak (Kd.R_elder' (rC HO570) (Kd.R_base ho0) hb); replace HB := kH _ hb; (try clear hb); (try clear hb2); (try clear hk); (try clear hi); (try clear ho0); obtain ⟨Ao76, co76, eo76⟩ := Kd.R_slice HO570.out; subst eo76; obtain ⟨Ao77, co77, eo77⟩ := Kd.R_slice HO574.out; subst eo77) | (go_at_call 31; (with_reducible refine (slices_Equal_int_int.calls kj32 _ _ t568 _ _ t572 true _ ?side1 ?side2 ?side3 ?side4 A64.out).mono ?_); (case side1 => exact kD (Kd.R_reads' HO570.out).2.2); (case side2 => exact (Kd.R_reads' HO570.out).2.1); (case side3 => exact kD (Kd.R_reads' HO574.out).2.2); (case side4 => exact (Kd.R_reads' HO574.out).2.1); rintro e w' ⟨rfl, ⟨nd, rfl⟩⟩) | (go_at_call 21; (with_reducible refine (congoulaw01_awake.calls kj32  t577 _ A66.out).mono ?_); rintro e w78 ⟨rfl, hb⟩; replace HO_5 := kO HO_5 hb; replace HO_7 := kO HO_7 hb; replace HO560 := kO HO560 hb; replace HO563 := kO HO563 hb; replace HO566 := kO HO566 hb; replace HO570 := kO HO570 hb; replace HO574 := kO HO574 hb; replace HB := kH _ hb; (try clear hb); (try clear hb2); (try clear hk); (try clear hi)))
     go_ret
     exact ⟨by first | rfl | (simp [errW_none, errW_some] <;> rfl) | (simp [*, errW_none, errW_some] <;> rfl), hbC _⟩

/-- THE ONE PURE STATEMENT of congoulaw01_SharesOver: yours. -/
def congoulaw01_SharesOver.Pure : Prop := ∀ (l0 : List Int) (l1 : List Int), l0.length ≤ maxLen → l0.length * 8 ≤ 140737488351232 → (∀ x ∈ l0, (Lit.int .i64 x).wf = true) → l1.length ≤ maxLen → l1.length * 8 ≤ 140737488351232 → (∀ x ∈ l1, (Lit.int .i64 x).wf = true) → ∃ k, congoulaw01_SharesOver.f k l0 l1 = some true
theorem congoulaw01_SharesOver.walk (P : congoulaw01_SharesOver.Pure) (a0 : Option Addr) (len0 cap0 : Nat) (z0 : List Int) (a1 : Option Addr) (len1 cap1 : Nat) (z1 : List Int) (w : World) (w0 : (a0 = none ∧ len0 = 0 ∧ cap0 = 0 ∧ z0 = []) ∨ ∃ x, a0 = some x ∧ len0 ≤ cap0 ∧ cap0 ≤ maxLen ∧ z0.length = cap0 ∧ (∀ i, i < z0.length → w.cell? (x.add i) = some (.int .i64 (z0.getD i 0))) ∧ ∀ n ∈ z0, (Lit.int .i64 n).wf = true) (y0 : len0 * 8 ≤ 140737488351232) (w1 : (a1 = none ∧ len1 = 0 ∧ cap1 = 0 ∧ z1 = []) ∨ ∃ x, a1 = some x ∧ len1 ≤ cap1 ∧ cap1 ≤ maxLen ∧ z1.length = cap1 ∧ (∀ i, i < z1.length → w.cell? (x.add i) = some (.int .i64 (z1.getD i 0))) ∧ ∀ n ∈ z1, (Lit.int .i64 n).wf = true) (y1 : len1 * 8 ≤ 140737488351232) :
  Calls Try.prog 9 #[.slice a0 len0 cap0, .slice a1 len1 cap1] w fun e w' => e = .returned (.bool true) ∧ Below w.heap.size w w' := by
 obtain ⟨l0, rfl, hr0, hm0, hw0, hc0⟩ := ReadsInt.ofRowC w0
 obtain ⟨l1, rfl, hr1, hm1, hw1, hc1⟩ := ReadsInt.ofRowC w1
 obtain ⟨k, h⟩ := P l0 l1 hm0 y0 hw0 hm1 y1 hw1
 refine (congoulaw01_SharesOver.calls k _ _ l0 _ _ l1 true w (Kd.C_of_reads (d := (0 : Int)) (h1 := fun _ => rfl) hr0) hc0 (Kd.C_of_reads (d := (0 : Int)) (h1 := fun _ => rfl) hr1) hc1 rfl h).mono ?_
 rintro e w' ⟨rfl, hd⟩
 exact ⟨rfl, hd⟩

end Go.Proofs.Ytefmafbbnkkpjaa.X
