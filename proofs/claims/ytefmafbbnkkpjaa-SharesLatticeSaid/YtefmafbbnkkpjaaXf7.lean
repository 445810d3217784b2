-- Written by a program of this work (wip/xprint.py, over the kit's printer) out of the translation.
import Derived.Test.YtefmafbbnkkpjaaX0
import Derived.Test.YtefmafbbnkkpjaaXG1a
import Derived.Test.YtefmafbbnkkpjaaXG2a
import Derived.Test.YtefmafbbnkkpjaaXG3a
import Derived.Test.YtefmafbbnkkpjaaXG4a
import Derived.Test.YtefmafbbnkkpjaaXf21
import Derived.Test.YtefmafbbnkkpjaaXf24
import Derived.Test.YtefmafbbnkkpjaaXf29
namespace Go.Proofs.Ytefmafbbnkkpjaa.X
open Go.RowKit Go.Proofs.YtefmafbbnkkpjaaW.PrintWords Go.Proofs.YtefmafbbnkkpjaaW.PrintLast Go.Proofs.YtefmafbbnkkpjaaW.PrintMore
attribute [local go_sem] max2_int min2_int max_two min_two max_three min_three max_four min_four   -- for this text's walks alone
set_option linter.unusedVariables false
set_option linter.unusedSimpArgs false

/-! ### congoulaw01_SharesLattice: function 7 -/
mutual
def congoulaw01_SharesLattice.j0 : Nat → List Int → List Int → List Int → List Int → Int → List Int → Int → Bool → Option (Bool)
 | 0, _, _, _, _, _, _, _, _ => none
 | k + 1, x0, x1, x2, x7, x8, x9, x10, x42 => if x42 = true then (if x8 = 2 then (if x10 = x8 then ((congoulaw01_awake.f k).bind fun t467 => (some t467)) else (some false)) else (some false)) else ((congoulaw01_list.f x1).bind fun t468 => ((congoulaw01_list.f x0).bind fun t471 => ((shares_Meet.f k t468 t471).bind fun bt474 => ((congoulaw01_list.f x1).bind fun t478 => ((congoulaw01_list.f x0).bind fun t481 => ((shares_Join.f k t478 t481).bind fun bt484 => (if bt474.2 = 0 then (if bt484.2 = 0 then ((slices_Equal_int_int.f k bt474.1 x7).bind fun t488 => (if t488 = true then ((slices_Equal_int_int.f k bt484.1 x9).bind fun t489 => (if t489 = true then ((congoulaw01_parts.f k x7 x0).bind fun t490 => (if t490 = true then ((congoulaw01_parts.f k x9 x0).bind fun t491 => (if t491 = true then ((congouref01_Uneven.f k x0 x7).bind fun t492 => (if t492 = true then ((congouref01_Uneven.f k x1 x7).bind fun t493 => (if t493 = true then ((congouref01_Uneven.f k x9 x0).bind fun t494 => (if t494 = true then ((congouref01_Uneven.f k x9 x1).bind fun t495 => (congoulaw01_SharesLattice.j1 k x0 x1 x2 x7 x9 (!t495))) else (congoulaw01_SharesLattice.j1 k x0 x1 x2 x7 x9 true))) else (congoulaw01_SharesLattice.j1 k x0 x1 x2 x7 x9 true))) else (congoulaw01_SharesLattice.j1 k x0 x1 x2 x7 x9 true))) else (congoulaw01_SharesLattice.j1 k x0 x1 x2 x7 x9 true))) else (congoulaw01_SharesLattice.j1 k x0 x1 x2 x7 x9 true))) else (congoulaw01_SharesLattice.j1 k x0 x1 x2 x7 x9 true))) else (congoulaw01_SharesLattice.j1 k x0 x1 x2 x7 x9 true))) else (congoulaw01_SharesLattice.j1 k x0 x1 x2 x7 x9 true)) else (congoulaw01_SharesLattice.j1 k x0 x1 x2 x7 x9 true))))))))
def congoulaw01_SharesLattice.j1 : Nat → List Int → List Int → List Int → List Int → List Int → Bool → Option (Bool)
 | 0, _, _, _, _, _, _ => none
 | k + 1, x0, x1, x2, x7, x9, x122 => if x122 = true then (some false) else ((congoulaw01_parts.f k x2 x0).bind fun t496 => (if t496 = true then ((congouref01_Uneven.f k x0 x2).bind fun t498 => (if t498 = true then ((congouref01_Uneven.f k x1 x2).bind fun t499 => (if t499 = true then ((congouref01_Uneven.f k x7 x2).bind fun t500 => (if t500 = true then ((congouref01_Uneven.f k x2 x0).bind fun t501 => (if t501 = true then ((congouref01_Uneven.f k x2 x1).bind fun t502 => (if t502 = true then ((congouref01_Uneven.f k x2 x9).bind fun t503 => (if t503 = true then ((congoulaw01_awake.f k).bind fun t504 => (some t504)) else (some false))) else ((congoulaw01_awake.f k).bind fun t505 => (some t505)))) else ((congoulaw01_awake.f k).bind fun t506 => (some t506)))) else (some false))) else ((congouref01_Uneven.f k x2 x0).bind fun t507 => (if t507 = true then ((congouref01_Uneven.f k x2 x1).bind fun t508 => (if t508 = true then ((congouref01_Uneven.f k x2 x9).bind fun t509 => (if t509 = true then ((congoulaw01_awake.f k).bind fun t510 => (some t510)) else (some false))) else ((congoulaw01_awake.f k).bind fun t511 => (some t511)))) else ((congoulaw01_awake.f k).bind fun t512 => (some t512)))))) else ((congouref01_Uneven.f k x2 x0).bind fun t513 => (if t513 = true then ((congouref01_Uneven.f k x2 x1).bind fun t514 => (if t514 = true then ((congouref01_Uneven.f k x2 x9).bind fun t515 => (if t515 = true then ((congoulaw01_awake.f k).bind fun t516 => (some t516)) else (some false))) else ((congoulaw01_awake.f k).bind fun t517 => (some t517)))) else ((congoulaw01_awake.f k).bind fun t518 => (some t518)))))) else ((congoulaw01_awake.f k).bind fun t497 => (some t497))))
end
def congoulaw01_SharesLattice.f (k : Nat) (l0 : List Int) (l1 : List Int) (l2 : List Int) : Option (Bool) := (congoulaw01_list.f l0).bind fun t446 => ((congoulaw01_list.f l1).bind fun t449 => ((shares_Meet.f k t446 t449).bind fun bt452 => ((congoulaw01_list.f l0).bind fun t456 => ((congoulaw01_list.f l1).bind fun t459 => ((shares_Join.f k t456 t459).bind fun bt462 => (if bt452.2 = 0 then (if bt462.2 = 0 then ((congoulaw01_parts.f k l0 l1).bind fun t466 => (congoulaw01_SharesLattice.j0 k l0 l1 l2 bt452.1 bt452.2 bt462.1 bt462.2 (!t466))) else (congoulaw01_SharesLattice.j0 k l0 l1 l2 bt452.1 bt452.2 bt462.1 bt462.2 true)) else (congoulaw01_SharesLattice.j0 k l0 l1 l2 bt452.1 bt452.2 bt462.1 bt462.2 true)))))))
theorem congoulaw01_SharesLattice.mono_l : ∀ k, (∀ y0 y1 y2 y3 y4 y5 y6 y7, LeO (congoulaw01_SharesLattice.j0 k y0 y1 y2 y3 y4 y5 y6 y7) (congoulaw01_SharesLattice.j0 (k + 1) y0 y1 y2 y3 y4 y5 y6 y7)) ∧ (∀ y0 y1 y2 y3 y4 y5, LeO (congoulaw01_SharesLattice.j1 k y0 y1 y2 y3 y4 y5) (congoulaw01_SharesLattice.j1 (k + 1) y0 y1 y2 y3 y4 y5))
 | 0 => ⟨fun _ _ _ _ _ _ _ _ r h => by simp [congoulaw01_SharesLattice.j0] at h, fun _ _ _ _ _ _ r h => by simp [congoulaw01_SharesLattice.j1] at h⟩
 | k + 1 => by
  obtain ⟨ih0, ih1⟩ := congoulaw01_SharesLattice.mono_l k
  refine ⟨?_, ?_⟩
  ·intro y0 y1 y2 y3 y4 y5 y6 y7
   unfold congoulaw01_SharesLattice.j0
   repeat' first
   | (with_reducible exact ih0 _ _ _ _ _ _ _ _)
   | (with_reducible exact ih1 _ _ _ _ _ _)
   | (with_reducible exact congoulaw01_awake.mono _)
   | (with_reducible exact congoulaw01_parts.mono _ _ _)
   | (with_reducible exact congouref01_Uneven.mono _ _ _)
   | (with_reducible exact shares_Join.mono _ _ _)
   | (with_reducible exact shares_Meet.mono _ _ _)
   | (with_reducible exact slices_Equal_int_int.mono _ _ _)
   | (with_reducible exact LeO.refl _)
   | (with_reducible exact LeO.none _)
   | (with_reducible refine LeO.ite ?_ ?_)
   | (with_reducible refine LeO.bind ?_ (fun _ => ?_))
   | exact ih0 _ _ _ _ _ _ _ _
   | exact ih1 _ _ _ _ _ _
   | exact congoulaw01_awake.mono _
   | exact congoulaw01_parts.mono _ _ _
   | exact congouref01_Uneven.mono _ _ _
   | exact shares_Join.mono _ _ _
   | exact shares_Meet.mono _ _ _
   | exact slices_Equal_int_int.mono _ _ _
   | exact LeO.none _
   | refine LeO.ite ?_ ?_
   | refine LeO.bind ?_ (fun _ => ?_)
  ·intro y0 y1 y2 y3 y4 y5
   unfold congoulaw01_SharesLattice.j1
   repeat' first
   | (with_reducible exact ih0 _ _ _ _ _ _ _ _)
   | (with_reducible exact ih1 _ _ _ _ _ _)
   | (with_reducible exact congoulaw01_awake.mono _)
   | (with_reducible exact congoulaw01_parts.mono _ _ _)
   | (with_reducible exact congouref01_Uneven.mono _ _ _)
   | (with_reducible exact shares_Join.mono _ _ _)
   | (with_reducible exact shares_Meet.mono _ _ _)
   | (with_reducible exact slices_Equal_int_int.mono _ _ _)
   | (with_reducible exact LeO.refl _)
   | (with_reducible exact LeO.none _)
   | (with_reducible refine LeO.ite ?_ ?_)
   | (with_reducible refine LeO.bind ?_ (fun _ => ?_))
   | exact ih0 _ _ _ _ _ _ _ _
   | exact ih1 _ _ _ _ _ _
   | exact congoulaw01_awake.mono _
   | exact congoulaw01_parts.mono _ _ _
   | exact congouref01_Uneven.mono _ _ _
   | exact shares_Join.mono _ _ _
   | exact shares_Meet.mono _ _ _
   | exact slices_Equal_int_int.mono _ _ _
   | exact LeO.none _
   | refine LeO.ite ?_ ?_
   | refine LeO.bind ?_ (fun _ => ?_)
theorem congoulaw01_SharesLattice.mono : ∀ a0 a1 a2 k, LeO (congoulaw01_SharesLattice.f k a0 a1 a2) (congoulaw01_SharesLattice.f (k + 1) a0 a1 a2) := by
 intro a0 a1 a2 k
 obtain ⟨ih0, ih1⟩ := congoulaw01_SharesLattice.mono_l k
 unfold congoulaw01_SharesLattice.f
 repeat' first
   | (with_reducible exact ih0 _ _ _ _ _ _ _ _)
   | (with_reducible exact ih1 _ _ _ _ _ _)
   | (with_reducible exact congoulaw01_awake.mono _)
   | (with_reducible exact congoulaw01_parts.mono _ _ _)
   | (with_reducible exact congouref01_Uneven.mono _ _ _)
   | (with_reducible exact shares_Join.mono _ _ _)
   | (with_reducible exact shares_Meet.mono _ _ _)
   | (with_reducible exact slices_Equal_int_int.mono _ _ _)
   | (with_reducible exact LeO.refl _)
   | (with_reducible exact LeO.none _)
   | (with_reducible refine LeO.ite ?_ ?_)
   | (with_reducible refine LeO.bind ?_ (fun _ => ?_))
   | exact ih0 _ _ _ _ _ _ _ _
   | exact ih1 _ _ _ _ _ _
   | exact congoulaw01_awake.mono _
   | exact congoulaw01_parts.mono _ _ _
   | exact congouref01_Uneven.mono _ _ _
   | exact shares_Join.mono _ _ _
   | exact shares_Meet.mono _ _ _
   | exact slices_Equal_int_int.mono _ _ _
   | exact LeO.none _
   | refine LeO.ite ?_ ?_
   | refine LeO.bind ?_ (fun _ => ?_)
set_option maxHeartbeats 8000000 in
set_option maxRecDepth 100000 in
theorem congoulaw01_SharesLattice.calls (k : Nat) (A0 : Option Addr) (c0 : Nat) (l0 : List Int) (A1 : Option Addr) (c1 : Nat) (l1 : List Int) (A2 : Option Addr) (c2 : Nat) (l2 : List Int) (r : Bool) (w : World) (hr0 : Kd.C (Kd.int .i64) w A0 l0.length l0) (hc0 : l0.length ≤ c0) (hr1 : Kd.C (Kd.int .i64) w A1 l1.length l1) (hc1 : l1.length ≤ c1) (hr2 : Kd.C (Kd.int .i64) w A2 l2.length l2) (hc2 : l2.length ≤ c2) (hrt : r = true) (h : congoulaw01_SharesLattice.f k l0 l1 l2 = some r) :
  Calls Try.prog 7 #[.slice A0 l0.length c0, .slice A1 l1.length c1, .slice A2 l2.length c2] w fun e w' => e = .returned (.bool r) ∧ Below w.heap.size w w' := by
 have HR0 := Aside0.mk hr0
 have HC0 := Aside0.mk hc0
 clear hr0 hc0
 have HR1 := Aside0.mk hr1
 have HC1 := Aside0.mk hc1
 clear hr1 hc1
 have HR2 := Aside0.mk hr2
 have HC2 := Aside0.mk hc2
 clear hr2 hc2
 have HB := ak (Below.refl w.heap.size w)
 have H : ((congoulaw01_list.f l0).bind fun t446 => ((congoulaw01_list.f l1).bind fun t449 => ((shares_Meet.f k t446 t449).bind fun bt452 => ((congoulaw01_list.f l0).bind fun t456 => ((congoulaw01_list.f l1).bind fun t459 => ((shares_Join.f k t456 t459).bind fun bt462 => (if bt452.2 = 0 then (if bt462.2 = 0 then ((congoulaw01_parts.f k l0 l1).bind fun t466 => (congoulaw01_SharesLattice.j0 k l0 l1 l2 bt452.1 bt452.2 bt462.1 bt462.2 (!t466))) else (congoulaw01_SharesLattice.j0 k l0 l1 l2 bt452.1 bt452.2 bt462.1 bt462.2 true)) else (congoulaw01_SharesLattice.j0 k l0 l1 l2 bt452.1 bt452.2 bt462.1 bt462.2 true)))))))) = some r := h
 clear h
 have HRT := Aside0.mk hrt
 clear hrt
 replace H := Option.bind_eq_some_iff.mp H
 obtain ⟨t446, A40, H⟩ := H
 replace H : ((congoulaw01_list.f l1).bind fun t449 => ((shares_Meet.f k t446 t449).bind fun bt452 => ((congoulaw01_list.f l0).bind fun t456 => ((congoulaw01_list.f l1).bind fun t459 => ((shares_Join.f k t456 t459).bind fun bt462 => (if bt452.2 = 0 then (if bt462.2 = 0 then ((congoulaw01_parts.f k l0 l1).bind fun t466 => (congoulaw01_SharesLattice.j0 k l0 l1 l2 bt452.1 bt452.2 bt462.1 bt462.2 (!t466))) else (congoulaw01_SharesLattice.j0 k l0 l1 l2 bt452.1 bt452.2 bt462.1 bt462.2 true)) else (congoulaw01_SharesLattice.j0 k l0 l1 l2 bt452.1 bt452.2 bt462.1 bt462.2 true))))))) = some r := H
 have A4 := Aside0.mk A40
 clear A40
 replace H := Option.bind_eq_some_iff.mp H
 obtain ⟨t449, A50, H⟩ := H
 replace H : ((shares_Meet.f k t446 t449).bind fun bt452 => ((congoulaw01_list.f l0).bind fun t456 => ((congoulaw01_list.f l1).bind fun t459 => ((shares_Join.f k t456 t459).bind fun bt462 => (if bt452.2 = 0 then (if bt462.2 = 0 then ((congoulaw01_parts.f k l0 l1).bind fun t466 => (congoulaw01_SharesLattice.j0 k l0 l1 l2 bt452.1 bt452.2 bt462.1 bt462.2 (!t466))) else (congoulaw01_SharesLattice.j0 k l0 l1 l2 bt452.1 bt452.2 bt462.1 bt462.2 true)) else (congoulaw01_SharesLattice.j0 k l0 l1 l2 bt452.1 bt452.2 bt462.1 bt462.2 true)))))) = some r := H
 have A5 := Aside0.mk A50
 clear A50
 replace H := Option.bind_eq_some_iff.mp H
 obtain ⟨⟨t452, t455⟩, A60, H⟩ := H
 replace H : ((congoulaw01_list.f l0).bind fun t456 => ((congoulaw01_list.f l1).bind fun t459 => ((shares_Join.f k t456 t459).bind fun bt462 => (if t455 = 0 then (if bt462.2 = 0 then ((congoulaw01_parts.f k l0 l1).bind fun t466 => (congoulaw01_SharesLattice.j0 k l0 l1 l2 t452 t455 bt462.1 bt462.2 (!t466))) else (congoulaw01_SharesLattice.j0 k l0 l1 l2 t452 t455 bt462.1 bt462.2 true)) else (congoulaw01_SharesLattice.j0 k l0 l1 l2 t452 t455 bt462.1 bt462.2 true))))) = some r := H
 have A6 := Aside0.mk A60
 clear A60
 replace H := Option.bind_eq_some_iff.mp H
 obtain ⟨t456, A70, H⟩ := H
 replace H : ((congoulaw01_list.f l1).bind fun t459 => ((shares_Join.f k t456 t459).bind fun bt462 => (if t455 = 0 then (if bt462.2 = 0 then ((congoulaw01_parts.f k l0 l1).bind fun t466 => (congoulaw01_SharesLattice.j0 k l0 l1 l2 t452 t455 bt462.1 bt462.2 (!t466))) else (congoulaw01_SharesLattice.j0 k l0 l1 l2 t452 t455 bt462.1 bt462.2 true)) else (congoulaw01_SharesLattice.j0 k l0 l1 l2 t452 t455 bt462.1 bt462.2 true)))) = some r := H
 have A7 := Aside0.mk A70
 clear A70
 replace H := Option.bind_eq_some_iff.mp H
 obtain ⟨t459, A80, H⟩ := H
 replace H : ((shares_Join.f k t456 t459).bind fun bt462 => (if t455 = 0 then (if bt462.2 = 0 then ((congoulaw01_parts.f k l0 l1).bind fun t466 => (congoulaw01_SharesLattice.j0 k l0 l1 l2 t452 t455 bt462.1 bt462.2 (!t466))) else (congoulaw01_SharesLattice.j0 k l0 l1 l2 t452 t455 bt462.1 bt462.2 true)) else (congoulaw01_SharesLattice.j0 k l0 l1 l2 t452 t455 bt462.1 bt462.2 true))) = some r := H
 have A8 := Aside0.mk A80
 clear A80
 replace H := Option.bind_eq_some_iff.mp H
 obtain ⟨⟨t462, t465⟩, A90, H⟩ := H
 replace H : (if t455 = 0 then (if t465 = 0 then ((congoulaw01_parts.f k l0 l1).bind fun t466 => (congoulaw01_SharesLattice.j0 k l0 l1 l2 t452 t455 t462 t465 (!t466))) else (congoulaw01_SharesLattice.j0 k l0 l1 l2 t452 t455 t462 t465 true)) else (congoulaw01_SharesLattice.j0 k l0 l1 l2 t452 t455 t462 t465 true)) = some r := H
 have A9 := Aside0.mk A90
 clear A90
 have HC10 := Aside0.mk H
 clear H
 go_enter Try.func7, Try.ntmps7
 go_upto_region 3 with (first | ((with_reducible refine gate_callee (f := 18) rfl ?_); refine gL 17 Try.func18 #[.slice A0 l0.length c0] ?_; (with_reducible refine (congoulaw01_list.calls _ _ l0 t446 _ ?side1 ?side2 A4.out).mono ?_); (case side1 => repeat (first | exact HR0.out | (with_reducible refine Kd.C_alloc ?_ _) | (with_reducible refine Kd.C_drewN ?_ _) | (with_reducible refine Kd.C_drew ?_))); (case side2 => exact HC0.out); rintro e w11 ⟨v447, rfl, ho0, hb⟩; refine ⟨_, rfl, ?_⟩; have HO448 := ak (Kd.R_lower ho0 (below_size (hbC _))); replace HB := kH _ hb; (try clear hb); (try clear hb2); (try clear hk); (try clear hi); (try clear ho0)) | ((with_reducible refine gate_callee (f := 18) rfl ?_); refine gL 19 Try.func18 #[.slice A1 l1.length c1] ?_; (with_reducible refine (congoulaw01_list.calls _ _ l1 t449 _ ?side1 ?side2 A5.out).mono ?_); (case side1 => exact kC HR1); (case side2 => exact HC1.out); rintro e w12 ⟨v450, rfl, ho0, hb⟩; refine ⟨_, rfl, ?_⟩; have HO451 := ak (Kd.R_lower (Kd.R_new' ho0 (Kd.R_lt (rC HO448))) (below_size (hbC _))); replace HO448 := ak (Kd.R_elder' (rC HO448) (Kd.R_base ho0) hb); replace HB := kH _ hb; (try clear hb); (try clear hb2); (try clear hk); (try clear hi); (try clear ho0); obtain ⟨Ao13, co13, eo13⟩ := Kd.R_slice HO448.out; subst eo13; obtain ⟨Ao14, co14, eo14⟩ := Kd.R_slice HO451.out; subst eo14) | ((with_reducible refine gate_callee (f := 28) rfl ?_); refine gL 20 Try.func28 #[.slice Ao13 t446.length co13, .slice Ao14 t449.length co14] ?_; (with_reducible refine (shares_Meet.calls k (fun k_ => some k_ = (.slice Ao13 t446.length co13 : Value).ownBlock) _ _ t446 (fun k_ => some k_ = (.slice Ao14 t449.length co14 : Value).ownBlock) _ _ t449 t452 t455 _ ?side1 ?side2 A6.out).mono ?_); (case side1 => exact Kd.R_V (Kd.R_tight rfl (HO448.out))); (case side2 => exact Kd.R_V (Kd.R_tight rfl (HO451.out))); rintro e w15 ⟨v453, rfl, ho0, hb⟩; refine ⟨_, rfl, ?_⟩; have HO454 := ak (Kd.R_lower (Kd.R_new' (Kd.R_new' (Kd.R_mono (ok' := fun k_ => True) ho0 (fun _ hk_ => trivial)) (Kd.R_lt (rC HO448))) (Kd.R_lt (rC HO451))) (below_size (hbC _))); replace HO448 := ak (Kd.R_elder' (rC HO448) (Kd.R_base ho0) hb); replace HO451 := ak (Kd.R_elder' (rC HO451) (Kd.R_base ho0) hb); replace HB := kH _ hb; (try clear hb); (try clear hb2); (try clear hk); (try clear hi); (try clear ho0)) | ((with_reducible refine gate_callee (f := 18) rfl ?_); refine gL 25 Try.func18 #[.slice A0 l0.length c0] ?_; (with_reducible refine (congoulaw01_list.calls _ _ l0 t456 _ ?side1 ?side2 A7.out).mono ?_); (case side1 => exact kC HR0); (case side2 => exact HC0.out); rintro e w16 ⟨v457, rfl, ho0, hb⟩; refine ⟨_, rfl, ?_⟩; have HO458 := ak (Kd.R_lower (Kd.R_new' (Kd.R_new' (Kd.R_new' ho0 (Kd.R_lt (rC HO448))) (Kd.R_lt (rC HO451))) (Kd.R_lt (rC HO454))) (below_size (hbC _))); replace HO448 := ak (Kd.R_elder' (rC HO448) (Kd.R_base ho0) hb); replace HO451 := ak (Kd.R_elder' (rC HO451) (Kd.R_base ho0) hb); replace HO454 := ak (Kd.R_elder' (rC HO454) (Kd.R_base ho0) hb); replace HB := kH _ hb; (try clear hb); (try clear hb2); (try clear hk); (try clear hi); (try clear ho0)) | ((with_reducible refine gate_callee (f := 18) rfl ?_); refine gL 27 Try.func18 #[.slice A1 l1.length c1] ?_; (with_reducible refine (congoulaw01_list.calls _ _ l1 t459 _ ?side1 ?side2 A8.out).mono ?_); (case side1 => exact kC HR1); (case side2 => exact HC1.out); rintro e w17 ⟨v460, rfl, ho0, hb⟩; refine ⟨_, rfl, ?_⟩; have HO461 := ak (Kd.R_lower (Kd.R_new' (Kd.R_new' (Kd.R_new' (Kd.R_new' ho0 (Kd.R_lt (rC HO448))) (Kd.R_lt (rC HO451))) (Kd.R_lt (rC HO454))) (Kd.R_lt (rC HO458))) (below_size (hbC _))); replace HO448 := ak (Kd.R_elder' (rC HO448) (Kd.R_base ho0) hb); replace HO451 := ak (Kd.R_elder' (rC HO451) (Kd.R_base ho0) hb); replace HO454 := ak (Kd.R_elder' (rC HO454) (Kd.R_base ho0) hb); replace HO458 := ak (Kd.R_elder' (rC HO458) (Kd.R_base ho0) hb); replace HB := kH _ hb; (try clear hb); (try clear hb2); (try clear hk); (try clear hi); (try clear ho0); obtain ⟨Ao18, co18, eo18⟩ := Kd.R_slice HO458.out; subst eo18; obtain ⟨Ao19, co19, eo19⟩ := Kd.R_slice HO461.out; subst eo19) | ((with_reducible refine gate_callee (f := 29) rfl ?_); refine gL 28 Try.func29 #[.slice Ao18 t456.length co18, .slice Ao19 t459.length co19] ?_; (with_reducible refine (shares_Join.calls k (fun k_ => some k_ = (.slice Ao18 t456.length co18 : Value).ownBlock) _ _ t456 (fun k_ => some k_ = (.slice Ao19 t459.length co19 : Value).ownBlock) _ _ t459 t462 t465 _ ?side1 ?side2 A9.out).mono ?_); (case side1 => exact Kd.R_V (Kd.R_tight rfl (HO458.out))); (case side2 => exact Kd.R_V (Kd.R_tight rfl (HO461.out))); rintro e w20 ⟨v463, rfl, ho0, hb⟩; refine ⟨_, rfl, ?_⟩; have HO464 := ak (Kd.R_lower (Kd.R_new' (Kd.R_new' (Kd.R_new' (Kd.R_new' (Kd.R_new' (Kd.R_mono (ok' := fun k_ => True) ho0 (fun _ hk_ => trivial)) (Kd.R_lt (rC HO448))) (Kd.R_lt (rC HO451))) (Kd.R_lt (rC HO454))) (Kd.R_lt (rC HO458))) (Kd.R_lt (rC HO461))) (below_size (hbC _))); replace HO448 := ak (Kd.R_elder' (rC HO448) (Kd.R_base ho0) hb); replace HO451 := ak (Kd.R_elder' (rC HO451) (Kd.R_base ho0) hb); replace HO454 := ak (Kd.R_elder' (rC HO454) (Kd.R_base ho0) hb); replace HO458 := ak (Kd.R_elder' (rC HO458) (Kd.R_base ho0) hb); replace HO461 := ak (Kd.R_elder' (rC HO461) (Kd.R_base ho0) hb); replace HB := kH _ hb; (try clear hb); (try clear hb2); (try clear hk); (try clear hi); (try clear ho0)))
 (try simp only [Act.put, List.setIfInBounds_toArray, List.set_cons_zero, List.set_cons_succ])
 go_cut [42] (fun v42 wc => ∃ (kq : Nat) (x42_9 : Bool), v42 = .bool x42_9 ∧ Aside0 (congoulaw01_SharesLattice.j0 kq l0 l1 l2 t452 t455 t462 t465 x42_9 = some r) ∧ Aside0 (kq ≤ k) ∧ Aside0 (Kd.R (Kd.int .i64) 3 wc w.heap.size (fun k_ => nb k_ v463) v453 t452) ∧ Aside0 (Kd.R (Kd.int .i64) 3 wc w.heap.size (fun k_ => nb k_ v453) v463 t462) ∧ Aside0 (Below w.heap.size w wc))
 case first =>
  have H := HC10.out
  clear HC10
  by_cases c21 : t455 = 0
  rotate_left
  ·rw [if_neg c21] at H
   have c21b0 : (t455 == 0) = false := beq_eq_false_iff_ne.mpr c21
   have c21b1 : (t455 != 0) = true := bne_iff_ne.mpr c21
   (first | rw [c21b0] | (simp only [i64_w, i32_w]; rw [c21b0]) | skip)
   have H' := Aside0.mk H
   clear H
   go_wp2
   go_meet
   case rel => exact ⟨_, (true), (by first | rfl | (simp; done) | (simp [*]; done)), H', ⟨by first | omega | exact Nat.le_refl _⟩, ⟨rD (Kd.R_mono HO454.out (fun _ hk => hk.2))⟩, ⟨rD (Kd.R_mono HO464.out (fun _ hk => hk.1.1.2))⟩, ⟨hbC _⟩⟩
  rw [if_pos c21] at H
  have c21b0 : (t455 == 0) = true := beq_iff_eq.mpr c21
  have c21b1 : (t455 != 0) = false := bne_eq_false_iff_eq.mpr c21
  clear c21
  (first | rw [c21b0] | (simp only [i64_w, i32_w]; rw [c21b0]) | skip)
  by_cases c22 : t465 = 0
  rotate_left
  ·rw [if_neg c22] at H
   have c22b0 : (t465 == 0) = false := beq_eq_false_iff_ne.mpr c22
   have c22b1 : (t465 != 0) = true := bne_iff_ne.mpr c22
   have H' := Aside0.mk H
   clear H
   go_wp2
   go_meet
   case rel => exact ⟨_, (true), (by first | rfl | (simp; done) | (simp [*]; done)), H', ⟨by first | omega | exact Nat.le_refl _⟩, ⟨rD (Kd.R_mono HO454.out (fun _ hk => hk.2))⟩, ⟨rD (Kd.R_mono HO464.out (fun _ hk => hk.1.1.2))⟩, ⟨hbC _⟩⟩
  rw [if_pos c22] at H
  have c22b0 : (t465 == 0) = true := beq_iff_eq.mpr c22
  have c22b1 : (t465 != 0) = false := bne_eq_false_iff_eq.mpr c22
  clear c22
  replace H := Option.bind_eq_some_iff.mp H
  obtain ⟨t466, A230, H⟩ := H
  replace H : (congoulaw01_SharesLattice.j0 k l0 l1 l2 t452 t455 t462 t465 (!t466)) = some r := H
  have A23 := Aside0.mk A230
  clear A230
  have H' := Aside0.mk H
  clear H
  go_wp2_with (first | (go_at_call 30; (with_reducible refine (congoulaw01_parts.calls k _ _ l0 _ _ l1 t466 _ ?side1 ?side2 ?side3 ?side4 A23.out).mono ?_); (case side1 => exact kC HR0); (case side2 => exact HC0.out); (case side3 => exact kC HR1); (case side4 => exact HC1.out); rintro e w' ⟨rfl, ⟨nd, rfl⟩⟩))
  go_meet
  case rel => exact ⟨_, (!t466), (by first | rfl | (simp; done) | (simp [*]; done)), H', ⟨by first | omega | exact Nat.le_refl _⟩, ⟨rD (Kd.R_mono HO454.out (fun _ hk => hk.2))⟩, ⟨rD (Kd.R_mono HO464.out (fun _ hk => hk.1.1.2))⟩, ⟨hbC _⟩⟩
 case rest =>
  clear HC10
  try clear c1
  try clear c2
  try clear p2
  try clear c7
  try clear c18
  try clear c21
  try clear c21b0
  try clear c21b1
  try clear c22
  try clear c22b0
  try clear c22b1
  obtain ⟨kq, x42_9, rfl, HA, HJ9, HO_7, HO_9, HB⟩ := hcut
  cases kq with
  | zero => exact absurd HA.out (by simp [congoulaw01_SharesLattice.j0])
  | succ kj9 =>
   have H := HA.out
   clear HA
   simp only [congoulaw01_SharesLattice.j0] at H
   by_cases c24 : x42_9 = true
   ·subst c24
    have H1 : (if t455 = 2 then (if t465 = t455 then ((congoulaw01_awake.f kj9).bind fun t467 => (some t467)) else (some false)) else (some false)) = some r := by rw [if_pos rfl] at H; exact H
    clear H
    have H := H1
    clear H1
    by_cases c25 : t455 = 2
    rotate_left
    ·rw [if_neg c25] at H
     have c25b0 : (t455 == 2) = false := beq_eq_false_iff_ne.mpr c25
     have c25b1 : (t455 != 2) = true := bne_iff_ne.mpr c25
     exact absurd (H.trans (congrArg some HRT.out)) (by simp)
    rw [if_pos c25] at H
    have c25b0 : (t455 == 2) = true := beq_iff_eq.mpr c25
    have c25b1 : (t455 != 2) = false := bne_eq_false_iff_eq.mpr c25
    clear c25
    by_cases c26 : t465 = t455
    rotate_left
    ·rw [if_neg c26] at H
     have c26b0 : (t465 == t455) = false := beq_eq_false_iff_ne.mpr c26
     have c26b1 : (t465 != t455) = true := bne_iff_ne.mpr c26
     exact absurd (H.trans (congrArg some HRT.out)) (by simp)
    rw [if_pos c26] at H
    have c26b0 : (t465 == t455) = true := beq_iff_eq.mpr c26
    have c26b1 : (t465 != t455) = false := bne_eq_false_iff_eq.mpr c26
    clear c26
    replace H := Option.bind_eq_some_iff.mp H
    obtain ⟨t467, A270, H⟩ := H
    replace H : (some t467) = some r := H
    have A27 := Aside0.mk A270
    clear A270
    obtain rfl := Option.some.inj H
    go_wp2_with (first | (go_at_call 21; (with_reducible refine (congoulaw01_awake.calls kj9  t467 _ A27.out).mono ?_); rintro e w28 ⟨rfl, hb⟩; replace HO_7 := kO HO_7 hb; replace HO_9 := kO HO_9 hb; replace HB := kH _ hb; (try clear hb); (try clear hb2); (try clear hk); (try clear hi)))
    go_ret
    exact ⟨by first | rfl | (simp [errW_none, errW_some] <;> rfl) | (simp [*, errW_none, errW_some] <;> rfl), hbC _⟩
   replace c24 := Bool.eq_false_iff.mpr c24
   subst c24
   have H1 : ((congoulaw01_list.f l1).bind fun t468 => ((congoulaw01_list.f l0).bind fun t471 => ((shares_Meet.f kj9 t468 t471).bind fun bt474 => ((congoulaw01_list.f l1).bind fun t478 => ((congoulaw01_list.f l0).bind fun t481 => ((shares_Join.f kj9 t478 t481).bind fun bt484 => (if bt474.2 = 0 then (if bt484.2 = 0 then ((slices_Equal_int_int.f kj9 bt474.1 t452).bind fun t488 => (if t488 = true then ((slices_Equal_int_int.f kj9 bt484.1 t462).bind fun t489 => (if t489 = true then ((congoulaw01_parts.f kj9 t452 l0).bind fun t490 => (if t490 = true then ((congoulaw01_parts.f kj9 t462 l0).bind fun t491 => (if t491 = true then ((congouref01_Uneven.f kj9 l0 t452).bind fun t492 => (if t492 = true then ((congouref01_Uneven.f kj9 l1 t452).bind fun t493 => (if t493 = true then ((congouref01_Uneven.f kj9 t462 l0).bind fun t494 => (if t494 = true then ((congouref01_Uneven.f kj9 t462 l1).bind fun t495 => (congoulaw01_SharesLattice.j1 kj9 l0 l1 l2 t452 t462 (!t495))) else (congoulaw01_SharesLattice.j1 kj9 l0 l1 l2 t452 t462 true))) else (congoulaw01_SharesLattice.j1 kj9 l0 l1 l2 t452 t462 true))) else (congoulaw01_SharesLattice.j1 kj9 l0 l1 l2 t452 t462 true))) else (congoulaw01_SharesLattice.j1 kj9 l0 l1 l2 t452 t462 true))) else (congoulaw01_SharesLattice.j1 kj9 l0 l1 l2 t452 t462 true))) else (congoulaw01_SharesLattice.j1 kj9 l0 l1 l2 t452 t462 true))) else (congoulaw01_SharesLattice.j1 kj9 l0 l1 l2 t452 t462 true))) else (congoulaw01_SharesLattice.j1 kj9 l0 l1 l2 t452 t462 true)) else (congoulaw01_SharesLattice.j1 kj9 l0 l1 l2 t452 t462 true)))))))) = some r := by rw [if_neg (show ¬ (false = true) by decide)] at H; exact H
   clear H
   have H := H1
   clear H1
   replace H := Option.bind_eq_some_iff.mp H
   obtain ⟨t468, A290, H⟩ := H
   replace H : ((congoulaw01_list.f l0).bind fun t471 => ((shares_Meet.f kj9 t468 t471).bind fun bt474 => ((congoulaw01_list.f l1).bind fun t478 => ((congoulaw01_list.f l0).bind fun t481 => ((shares_Join.f kj9 t478 t481).bind fun bt484 => (if bt474.2 = 0 then (if bt484.2 = 0 then ((slices_Equal_int_int.f kj9 bt474.1 t452).bind fun t488 => (if t488 = true then ((slices_Equal_int_int.f kj9 bt484.1 t462).bind fun t489 => (if t489 = true then ((congoulaw01_parts.f kj9 t452 l0).bind fun t490 => (if t490 = true then ((congoulaw01_parts.f kj9 t462 l0).bind fun t491 => (if t491 = true then ((congouref01_Uneven.f kj9 l0 t452).bind fun t492 => (if t492 = true then ((congouref01_Uneven.f kj9 l1 t452).bind fun t493 => (if t493 = true then ((congouref01_Uneven.f kj9 t462 l0).bind fun t494 => (if t494 = true then ((congouref01_Uneven.f kj9 t462 l1).bind fun t495 => (congoulaw01_SharesLattice.j1 kj9 l0 l1 l2 t452 t462 (!t495))) else (congoulaw01_SharesLattice.j1 kj9 l0 l1 l2 t452 t462 true))) else (congoulaw01_SharesLattice.j1 kj9 l0 l1 l2 t452 t462 true))) else (congoulaw01_SharesLattice.j1 kj9 l0 l1 l2 t452 t462 true))) else (congoulaw01_SharesLattice.j1 kj9 l0 l1 l2 t452 t462 true))) else (congoulaw01_SharesLattice.j1 kj9 l0 l1 l2 t452 t462 true))) else (congoulaw01_SharesLattice.j1 kj9 l0 l1 l2 t452 t462 true))) else (congoulaw01_SharesLattice.j1 kj9 l0 l1 l2 t452 t462 true))) else (congoulaw01_SharesLattice.j1 kj9 l0 l1 l2 t452 t462 true)) else (congoulaw01_SharesLattice.j1 kj9 l0 l1 l2 t452 t462 true))))))) = some r := H
   have A29 := Aside0.mk A290
   clear A290
   replace H := Option.bind_eq_some_iff.mp H
   obtain ⟨t471, A300, H⟩ := H
   replace H : ((shares_Meet.f kj9 t468 t471).bind fun bt474 => ((congoulaw01_list.f l1).bind fun t478 => ((congoulaw01_list.f l0).bind fun t481 => ((shares_Join.f kj9 t478 t481).bind fun bt484 => (if bt474.2 = 0 then (if bt484.2 = 0 then ((slices_Equal_int_int.f kj9 bt474.1 t452).bind fun t488 => (if t488 = true then ((slices_Equal_int_int.f kj9 bt484.1 t462).bind fun t489 => (if t489 = true then ((congoulaw01_parts.f kj9 t452 l0).bind fun t490 => (if t490 = true then ((congoulaw01_parts.f kj9 t462 l0).bind fun t491 => (if t491 = true then ((congouref01_Uneven.f kj9 l0 t452).bind fun t492 => (if t492 = true then ((congouref01_Uneven.f kj9 l1 t452).bind fun t493 => (if t493 = true then ((congouref01_Uneven.f kj9 t462 l0).bind fun t494 => (if t494 = true then ((congouref01_Uneven.f kj9 t462 l1).bind fun t495 => (congoulaw01_SharesLattice.j1 kj9 l0 l1 l2 t452 t462 (!t495))) else (congoulaw01_SharesLattice.j1 kj9 l0 l1 l2 t452 t462 true))) else (congoulaw01_SharesLattice.j1 kj9 l0 l1 l2 t452 t462 true))) else (congoulaw01_SharesLattice.j1 kj9 l0 l1 l2 t452 t462 true))) else (congoulaw01_SharesLattice.j1 kj9 l0 l1 l2 t452 t462 true))) else (congoulaw01_SharesLattice.j1 kj9 l0 l1 l2 t452 t462 true))) else (congoulaw01_SharesLattice.j1 kj9 l0 l1 l2 t452 t462 true))) else (congoulaw01_SharesLattice.j1 kj9 l0 l1 l2 t452 t462 true))) else (congoulaw01_SharesLattice.j1 kj9 l0 l1 l2 t452 t462 true)) else (congoulaw01_SharesLattice.j1 kj9 l0 l1 l2 t452 t462 true)))))) = some r := H
   have A30 := Aside0.mk A300
   clear A300
   replace H := Option.bind_eq_some_iff.mp H
   obtain ⟨⟨t474, t477⟩, A310, H⟩ := H
   replace H : ((congoulaw01_list.f l1).bind fun t478 => ((congoulaw01_list.f l0).bind fun t481 => ((shares_Join.f kj9 t478 t481).bind fun bt484 => (if t477 = 0 then (if bt484.2 = 0 then ((slices_Equal_int_int.f kj9 t474 t452).bind fun t488 => (if t488 = true then ((slices_Equal_int_int.f kj9 bt484.1 t462).bind fun t489 => (if t489 = true then ((congoulaw01_parts.f kj9 t452 l0).bind fun t490 => (if t490 = true then ((congoulaw01_parts.f kj9 t462 l0).bind fun t491 => (if t491 = true then ((congouref01_Uneven.f kj9 l0 t452).bind fun t492 => (if t492 = true then ((congouref01_Uneven.f kj9 l1 t452).bind fun t493 => (if t493 = true then ((congouref01_Uneven.f kj9 t462 l0).bind fun t494 => (if t494 = true then ((congouref01_Uneven.f kj9 t462 l1).bind fun t495 => (congoulaw01_SharesLattice.j1 kj9 l0 l1 l2 t452 t462 (!t495))) else (congoulaw01_SharesLattice.j1 kj9 l0 l1 l2 t452 t462 true))) else (congoulaw01_SharesLattice.j1 kj9 l0 l1 l2 t452 t462 true))) else (congoulaw01_SharesLattice.j1 kj9 l0 l1 l2 t452 t462 true))) else (congoulaw01_SharesLattice.j1 kj9 l0 l1 l2 t452 t462 true))) else (congoulaw01_SharesLattice.j1 kj9 l0 l1 l2 t452 t462 true))) else (congoulaw01_SharesLattice.j1 kj9 l0 l1 l2 t452 t462 true))) else (congoulaw01_SharesLattice.j1 kj9 l0 l1 l2 t452 t462 true))) else (congoulaw01_SharesLattice.j1 kj9 l0 l1 l2 t452 t462 true)) else (congoulaw01_SharesLattice.j1 kj9 l0 l1 l2 t452 t462 true))))) = some r := H
   have A31 := Aside0.mk A310
   clear A310
   replace H := Option.bind_eq_some_iff.mp H
   obtain ⟨t478, A320, H⟩ := H
   replace H : ((congoulaw01_list.f l0).bind fun t481 => ((shares_Join.f kj9 t478 t481).bind fun bt484 => (if t477 = 0 then (if bt484.2 = 0 then ((slices_Equal_int_int.f kj9 t474 t452).bind fun t488 => (if t488 = true then ((slices_Equal_int_int.f kj9 bt484.1 t462).bind fun t489 => (if t489 = true then ((congoulaw01_parts.f kj9 t452 l0).bind fun t490 => (if t490 = true then ((congoulaw01_parts.f kj9 t462 l0).bind fun t491 => (if t491 = true then ((congouref01_Uneven.f kj9 l0 t452).bind fun t492 => (if t492 = true then ((congouref01_Uneven.f kj9 l1 t452).bind fun t493 => (if t493 = true then ((congouref01_Uneven.f kj9 t462 l0).bind fun t494 => (if t494 = true then ((congouref01_Uneven.f kj9 t462 l1).bind fun t495 => (congoulaw01_SharesLattice.j1 kj9 l0 l1 l2 t452 t462 (!t495))) else (congoulaw01_SharesLattice.j1 kj9 l0 l1 l2 t452 t462 true))) else (congoulaw01_SharesLattice.j1 kj9 l0 l1 l2 t452 t462 true))) else (congoulaw01_SharesLattice.j1 kj9 l0 l1 l2 t452 t462 true))) else (congoulaw01_SharesLattice.j1 kj9 l0 l1 l2 t452 t462 true))) else (congoulaw01_SharesLattice.j1 kj9 l0 l1 l2 t452 t462 true))) else (congoulaw01_SharesLattice.j1 kj9 l0 l1 l2 t452 t462 true))) else (congoulaw01_SharesLattice.j1 kj9 l0 l1 l2 t452 t462 true))) else (congoulaw01_SharesLattice.j1 kj9 l0 l1 l2 t452 t462 true)) else (congoulaw01_SharesLattice.j1 kj9 l0 l1 l2 t452 t462 true)))) = some r := H
   have A32 := Aside0.mk A320
   clear A320
   replace H := Option.bind_eq_some_iff.mp H
   obtain ⟨t481, A330, H⟩ := H
   replace H : ((shares_Join.f kj9 t478 t481).bind fun bt484 => (if t477 = 0 then (if bt484.2 = 0 then ((slices_Equal_int_int.f kj9 t474 t452).bind fun t488 => (if t488 = true then ((slices_Equal_int_int.f kj9 bt484.1 t462).bind fun t489 => (if t489 = true then ((congoulaw01_parts.f kj9 t452 l0).bind fun t490 => (if t490 = true then ((congoulaw01_parts.f kj9 t462 l0).bind fun t491 => (if t491 = true then ((congouref01_Uneven.f kj9 l0 t452).bind fun t492 => (if t492 = true then ((congouref01_Uneven.f kj9 l1 t452).bind fun t493 => (if t493 = true then ((congouref01_Uneven.f kj9 t462 l0).bind fun t494 => (if t494 = true then ((congouref01_Uneven.f kj9 t462 l1).bind fun t495 => (congoulaw01_SharesLattice.j1 kj9 l0 l1 l2 t452 t462 (!t495))) else (congoulaw01_SharesLattice.j1 kj9 l0 l1 l2 t452 t462 true))) else (congoulaw01_SharesLattice.j1 kj9 l0 l1 l2 t452 t462 true))) else (congoulaw01_SharesLattice.j1 kj9 l0 l1 l2 t452 t462 true))) else (congoulaw01_SharesLattice.j1 kj9 l0 l1 l2 t452 t462 true))) else (congoulaw01_SharesLattice.j1 kj9 l0 l1 l2 t452 t462 true))) else (congoulaw01_SharesLattice.j1 kj9 l0 l1 l2 t452 t462 true))) else (congoulaw01_SharesLattice.j1 kj9 l0 l1 l2 t452 t462 true))) else (congoulaw01_SharesLattice.j1 kj9 l0 l1 l2 t452 t462 true)) else (congoulaw01_SharesLattice.j1 kj9 l0 l1 l2 t452 t462 true))) = some r := H
   have A33 := Aside0.mk A330
   clear A330
   replace H := Option.bind_eq_some_iff.mp H
   obtain ⟨⟨t484, t487⟩, A340, H⟩ := H
   replace H : (if t477 = 0 then (if t487 = 0 then ((slices_Equal_int_int.f kj9 t474 t452).bind fun t488 => (if t488 = true then ((slices_Equal_int_int.f kj9 t484 t462).bind fun t489 => (if t489 = true then ((congoulaw01_parts.f kj9 t452 l0).bind fun t490 => (if t490 = true then ((congoulaw01_parts.f kj9 t462 l0).bind fun t491 => (if t491 = true then ((congouref01_Uneven.f kj9 l0 t452).bind fun t492 => (if t492 = true then ((congouref01_Uneven.f kj9 l1 t452).bind fun t493 => (if t493 = true then ((congouref01_Uneven.f kj9 t462 l0).bind fun t494 => (if t494 = true then ((congouref01_Uneven.f kj9 t462 l1).bind fun t495 => (congoulaw01_SharesLattice.j1 kj9 l0 l1 l2 t452 t462 (!t495))) else (congoulaw01_SharesLattice.j1 kj9 l0 l1 l2 t452 t462 true))) else (congoulaw01_SharesLattice.j1 kj9 l0 l1 l2 t452 t462 true))) else (congoulaw01_SharesLattice.j1 kj9 l0 l1 l2 t452 t462 true))) else (congoulaw01_SharesLattice.j1 kj9 l0 l1 l2 t452 t462 true))) else (congoulaw01_SharesLattice.j1 kj9 l0 l1 l2 t452 t462 true))) else (congoulaw01_SharesLattice.j1 kj9 l0 l1 l2 t452 t462 true))) else (congoulaw01_SharesLattice.j1 kj9 l0 l1 l2 t452 t462 true))) else (congoulaw01_SharesLattice.j1 kj9 l0 l1 l2 t452 t462 true)) else (congoulaw01_SharesLattice.j1 kj9 l0 l1 l2 t452 t462 true)) = some r := H
   have A34 := Aside0.mk A340
   clear A340
   have HC35 := Aside0.mk H
   clear H
   go_upto_region 7 with (first | ((with_reducible refine gate_callee (f := 18) rfl ?_); refine gL 55 Try.func18 #[.slice A1 l1.length c1] ?_; (with_reducible refine (congoulaw01_list.calls _ _ l1 t468 _ ?side1 ?side2 A29.out).mono ?_); (case side1 => exact kC HR1); (case side2 => exact HC1.out); rintro e w36 ⟨v469, rfl, ho0, hb⟩; refine ⟨_, rfl, ?_⟩; have HO470 := ak (Kd.R_lower (Kd.R_new' (Kd.R_new' ho0 (Kd.R_lt (rC HO_7))) (Kd.R_lt (rC HO_9))) (below_size (hbC _))); replace HO_7 := ak (Kd.R_elder' (rC HO_7) (Kd.R_base ho0) hb); replace HO_9 := ak (Kd.R_elder' (rC HO_9) (Kd.R_base ho0) hb); replace HB := kH _ hb; (try clear hb); (try clear hb2); (try clear hk); (try clear hi); (try clear ho0)) | ((with_reducible refine gate_callee (f := 18) rfl ?_); refine gL 57 Try.func18 #[.slice A0 l0.length c0] ?_; (with_reducible refine (congoulaw01_list.calls _ _ l0 t471 _ ?side1 ?side2 A30.out).mono ?_); (case side1 => exact kC HR0); (case side2 => exact HC0.out); rintro e w37 ⟨v472, rfl, ho0, hb⟩; refine ⟨_, rfl, ?_⟩; have HO473 := ak (Kd.R_lower (Kd.R_new' (Kd.R_new' (Kd.R_new' ho0 (Kd.R_lt (rC HO_7))) (Kd.R_lt (rC HO_9))) (Kd.R_lt (rC HO470))) (below_size (hbC _))); replace HO_7 := ak (Kd.R_elder' (rC HO_7) (Kd.R_base ho0) hb); replace HO_9 := ak (Kd.R_elder' (rC HO_9) (Kd.R_base ho0) hb); replace HO470 := ak (Kd.R_elder' (rC HO470) (Kd.R_base ho0) hb); replace HB := kH _ hb; (try clear hb); (try clear hb2); (try clear hk); (try clear hi); (try clear ho0); obtain ⟨Ao38, co38, eo38⟩ := Kd.R_slice HO470.out; subst eo38; obtain ⟨Ao39, co39, eo39⟩ := Kd.R_slice HO473.out; subst eo39) | ((with_reducible refine gate_callee (f := 28) rfl ?_); refine gL 58 Try.func28 #[.slice Ao38 t468.length co38, .slice Ao39 t471.length co39] ?_; (with_reducible refine (shares_Meet.calls kj9 (fun k_ => some k_ = (.slice Ao38 t468.length co38 : Value).ownBlock) _ _ t468 (fun k_ => some k_ = (.slice Ao39 t471.length co39 : Value).ownBlock) _ _ t471 t474 t477 _ ?side1 ?side2 A31.out).mono ?_); (case side1 => exact Kd.R_V (Kd.R_tight rfl (HO470.out))); (case side2 => exact Kd.R_V (Kd.R_tight rfl (HO473.out))); rintro e w40 ⟨v475, rfl, ho0, hb⟩; refine ⟨_, rfl, ?_⟩; have HO476 := ak (Kd.R_lower (Kd.R_new' (Kd.R_new' (Kd.R_new' (Kd.R_new' (Kd.R_mono (ok' := fun k_ => True) ho0 (fun _ hk_ => trivial)) (Kd.R_lt (rC HO_7))) (Kd.R_lt (rC HO_9))) (Kd.R_lt (rC HO470))) (Kd.R_lt (rC HO473))) (below_size (hbC _))); replace HO_7 := ak (Kd.R_elder' (rC HO_7) (Kd.R_base ho0) hb); replace HO_9 := ak (Kd.R_elder' (rC HO_9) (Kd.R_base ho0) hb); replace HO470 := ak (Kd.R_elder' (rC HO470) (Kd.R_base ho0) hb); replace HO473 := ak (Kd.R_elder' (rC HO473) (Kd.R_base ho0) hb); replace HB := kH _ hb; (try clear hb); (try clear hb2); (try clear hk); (try clear hi); (try clear ho0)) | ((with_reducible refine gate_callee (f := 18) rfl ?_); refine gL 63 Try.func18 #[.slice A1 l1.length c1] ?_; (with_reducible refine (congoulaw01_list.calls _ _ l1 t478 _ ?side1 ?side2 A32.out).mono ?_); (case side1 => exact kC HR1); (case side2 => exact HC1.out); rintro e w41 ⟨v479, rfl, ho0, hb⟩; refine ⟨_, rfl, ?_⟩; have HO480 := ak (Kd.R_lower (Kd.R_new' (Kd.R_new' (Kd.R_new' (Kd.R_new' (Kd.R_new' ho0 (Kd.R_lt (rC HO_7))) (Kd.R_lt (rC HO_9))) (Kd.R_lt (rC HO470))) (Kd.R_lt (rC HO473))) (Kd.R_lt (rC HO476))) (below_size (hbC _))); replace HO_7 := ak (Kd.R_elder' (rC HO_7) (Kd.R_base ho0) hb); replace HO_9 := ak (Kd.R_elder' (rC HO_9) (Kd.R_base ho0) hb); replace HO470 := ak (Kd.R_elder' (rC HO470) (Kd.R_base ho0) hb); replace HO473 := ak (Kd.R_elder' (rC HO473) (Kd.R_base ho0) hb); replace HO476 := ak (Kd.R_elder' (rC HO476) (Kd.R_base ho0) hb); replace HB := kH _ hb; (try clear hb); (try clear hb2); (try clear hk); (try clear hi); (try clear ho0)) | ((with_reducible refine gate_callee (f := 18) rfl ?_); refine gL 65 Try.func18 #[.slice A0 l0.length c0] ?_; (with_reducible refine (congoulaw01_list.calls _ _ l0 t481 _ ?side1 ?side2 A33.out).mono ?_); (case side1 => exact kC HR0); (case side2 => exact HC0.out); rintro e w42 ⟨v482, rfl, ho0, hb⟩; refine ⟨_, rfl, ?_⟩; have HO483 := ak (Kd.R_lower (Kd.R_new' (Kd.R_new' (Kd.R_new' (Kd.R_new' (Kd.R_new' (Kd.R_new' ho0 (Kd.R_lt (rC HO_7))) (Kd.R_lt (rC HO_9))) (Kd.R_lt (rC HO470))) (Kd.R_lt (rC HO473))) (Kd.R_lt (rC HO476))) (Kd.R_lt (rC HO480))) (below_size (hbC _))); replace HO_7 := ak (Kd.R_elder' (rC HO_7) (Kd.R_base ho0) hb); replace HO_9 := ak (Kd.R_elder' (rC HO_9) (Kd.R_base ho0) hb); replace HO470 := ak (Kd.R_elder' (rC HO470) (Kd.R_base ho0) hb); replace HO473 := ak (Kd.R_elder' (rC HO473) (Kd.R_base ho0) hb); replace HO476 := ak (Kd.R_elder' (rC HO476) (Kd.R_base ho0) hb); replace HO480 := ak (Kd.R_elder' (rC HO480) (Kd.R_base ho0) hb); replace HB := kH _ hb; (try clear hb); (try clear hb2); (try clear hk); (try clear hi); (try clear ho0); obtain ⟨Ao43, co43, eo43⟩ := Kd.R_slice HO480.out; subst eo43; obtain ⟨Ao44, co44, eo44⟩ := Kd.R_slice HO483.out; subst eo44) | ((with_reducible refine gate_callee (f := 29) rfl ?_); refine gL 66 Try.func29 #[.slice Ao43 t478.length co43, .slice Ao44 t481.length co44] ?_; (with_reducible refine (shares_Join.calls kj9 (fun k_ => some k_ = (.slice Ao43 t478.length co43 : Value).ownBlock) _ _ t478 (fun k_ => some k_ = (.slice Ao44 t481.length co44 : Value).ownBlock) _ _ t481 t484 t487 _ ?side1 ?side2 A34.out).mono ?_); (case side1 => exact Kd.R_V (Kd.R_tight rfl (HO480.out))); (case side2 => exact Kd.R_V (Kd.R_tight rfl (HO483.out))); rintro e w45 ⟨v485, rfl, ho0, hb⟩; refine ⟨_, rfl, ?_⟩; have HO486 := ak (Kd.R_lower (Kd.R_new' (Kd.R_new' (Kd.R_new' (Kd.R_new' (Kd.R_new' (Kd.R_new' (Kd.R_new' (Kd.R_mono (ok' := fun k_ => True) ho0 (fun _ hk_ => trivial)) (Kd.R_lt (rC HO_7))) (Kd.R_lt (rC HO_9))) (Kd.R_lt (rC HO470))) (Kd.R_lt (rC HO473))) (Kd.R_lt (rC HO476))) (Kd.R_lt (rC HO480))) (Kd.R_lt (rC HO483))) (below_size (hbC _))); replace HO_7 := ak (Kd.R_elder' (rC HO_7) (Kd.R_base ho0) hb); replace HO_9 := ak (Kd.R_elder' (rC HO_9) (Kd.R_base ho0) hb); replace HO470 := ak (Kd.R_elder' (rC HO470) (Kd.R_base ho0) hb); replace HO473 := ak (Kd.R_elder' (rC HO473) (Kd.R_base ho0) hb); replace HO476 := ak (Kd.R_elder' (rC HO476) (Kd.R_base ho0) hb); replace HO480 := ak (Kd.R_elder' (rC HO480) (Kd.R_base ho0) hb); replace HO483 := ak (Kd.R_elder' (rC HO483) (Kd.R_base ho0) hb); replace HB := kH _ hb; (try clear hb); (try clear hb2); (try clear hk); (try clear hi); (try clear ho0)))
   (try simp only [Act.put, List.setIfInBounds_toArray, List.set_cons_zero, List.set_cons_succ])
   go_cut [122] (fun v122 wc => ∃ (kq : Nat) (x122_34 : Bool), v122 = .bool x122_34 ∧ Aside0 (congoulaw01_SharesLattice.j1 kq l0 l1 l2 t452 t462 x122_34 = some r) ∧ Aside0 (kq ≤ kj9) ∧ Aside0 (Kd.R (Kd.int .i64) 3 wc w.heap.size (fun k_ => nb k_ v463) v453 t452) ∧ Aside0 (Kd.R (Kd.int .i64) 3 wc w.heap.size (fun k_ => nb k_ v453) v463 t462) ∧ Aside0 (Below w.heap.size w wc))
   case first =>
    have H := HC35.out
    clear HC35
    by_cases c46 : t477 = 0
    rotate_left
    ·rw [if_neg c46] at H
     have c46b0 : (t477 == 0) = false := beq_eq_false_iff_ne.mpr c46
     have c46b1 : (t477 != 0) = true := bne_iff_ne.mpr c46
     (first | rw [c46b0] | (simp only [i64_w, i32_w]; rw [c46b0]) | skip)
     have H' := Aside0.mk H
     clear H
     go_wp2
     go_meet
     case rel => exact ⟨_, (true), (by first | rfl | (simp; done) | (simp [*]; done)), H', ⟨by have := HJ9.out; first | omega | exact Nat.le_refl _⟩, ⟨rD (Kd.R_mono HO_7.out (fun _ hk => hk.1.1.1.1.1.1))⟩, ⟨rD (Kd.R_mono HO_9.out (fun _ hk => hk.1.1.1.1.1.1))⟩, ⟨hbC _⟩⟩
    rw [if_pos c46] at H
    have c46b0 : (t477 == 0) = true := beq_iff_eq.mpr c46
    have c46b1 : (t477 != 0) = false := bne_eq_false_iff_eq.mpr c46
    clear c46
    (first | rw [c46b0] | (simp only [i64_w, i32_w]; rw [c46b0]) | skip)
    by_cases c47 : t487 = 0
    rotate_left
    ·rw [if_neg c47] at H
     have c47b0 : (t487 == 0) = false := beq_eq_false_iff_ne.mpr c47
     have c47b1 : (t487 != 0) = true := bne_iff_ne.mpr c47
     have H' := Aside0.mk H
     clear H
     go_wp2
     go_meet
     case rel => exact ⟨_, (true), (by first | rfl | (simp; done) | (simp [*]; done)), H', ⟨by have := HJ9.out; first | omega | exact Nat.le_refl _⟩, ⟨rD (Kd.R_mono HO_7.out (fun _ hk => hk.1.1.1.1.1.1))⟩, ⟨rD (Kd.R_mono HO_9.out (fun _ hk => hk.1.1.1.1.1.1))⟩, ⟨hbC _⟩⟩
    rw [if_pos c47] at H
    have c47b0 : (t487 == 0) = true := beq_iff_eq.mpr c47
    have c47b1 : (t487 != 0) = false := bne_eq_false_iff_eq.mpr c47
    clear c47
    replace H := Option.bind_eq_some_iff.mp H
    obtain ⟨t488, A480, H⟩ := H
    replace H : (if t488 = true then ((slices_Equal_int_int.f kj9 t484 t462).bind fun t489 => (if t489 = true then ((congoulaw01_parts.f kj9 t452 l0).bind fun t490 => (if t490 = true then ((congoulaw01_parts.f kj9 t462 l0).bind fun t491 => (if t491 = true then ((congouref01_Uneven.f kj9 l0 t452).bind fun t492 => (if t492 = true then ((congouref01_Uneven.f kj9 l1 t452).bind fun t493 => (if t493 = true then ((congouref01_Uneven.f kj9 t462 l0).bind fun t494 => (if t494 = true then ((congouref01_Uneven.f kj9 t462 l1).bind fun t495 => (congoulaw01_SharesLattice.j1 kj9 l0 l1 l2 t452 t462 (!t495))) else (congoulaw01_SharesLattice.j1 kj9 l0 l1 l2 t452 t462 true))) else (congoulaw01_SharesLattice.j1 kj9 l0 l1 l2 t452 t462 true))) else (congoulaw01_SharesLattice.j1 kj9 l0 l1 l2 t452 t462 true))) else (congoulaw01_SharesLattice.j1 kj9 l0 l1 l2 t452 t462 true))) else (congoulaw01_SharesLattice.j1 kj9 l0 l1 l2 t452 t462 true))) else (congoulaw01_SharesLattice.j1 kj9 l0 l1 l2 t452 t462 true))) else (congoulaw01_SharesLattice.j1 kj9 l0 l1 l2 t452 t462 true)) = some r := H
    have A48 := Aside0.mk A480
    clear A480
    by_cases c49 : t488 = true
    rotate_left
    ·replace c49 := Bool.eq_false_iff.mpr c49
     subst c49
     have H1 : (congoulaw01_SharesLattice.j1 kj9 l0 l1 l2 t452 t462 true) = some r := by rw [if_neg (show ¬ (false = true) by decide)] at H; exact H
     clear H
     have H := H1
     clear H1
     have H' := Aside0.mk H
     clear H
     obtain ⟨Ao101, co101, eo101⟩ := Kd.R_slice HO476.out
     subst eo101
     obtain ⟨Ao102, co102, eo102⟩ := Kd.R_slice HO_7.out
     subst eo102
     go_wp2_with (first | (go_at_call 31; (with_reducible refine (slices_Equal_int_int.calls kj9 _ _ t474 _ _ t452 false _ ?side1 ?side2 ?side3 ?side4 A48.out).mono ?_); (case side1 => exact kD (Kd.R_reads' HO476.out).2.2); (case side2 => exact (Kd.R_reads' HO476.out).2.1); (case side3 => exact kD (Kd.R_reads' HO_7.out).2.2); (case side4 => exact (Kd.R_reads' HO_7.out).2.1); rintro e w' ⟨rfl, ⟨nd, rfl⟩⟩))
     go_meet
     case rel => exact ⟨_, (true), (by first | rfl | (simp; done) | (simp [*]; done)), H', ⟨by have := HJ9.out; first | omega | exact Nat.le_refl _⟩, ⟨rD (Kd.R_mono HO_7.out (fun _ hk => hk.1.1.1.1.1.1))⟩, ⟨rD (Kd.R_mono HO_9.out (fun _ hk => hk.1.1.1.1.1.1))⟩, ⟨hbC _⟩⟩
    subst c49
    have H1 : ((slices_Equal_int_int.f kj9 t484 t462).bind fun t489 => (if t489 = true then ((congoulaw01_parts.f kj9 t452 l0).bind fun t490 => (if t490 = true then ((congoulaw01_parts.f kj9 t462 l0).bind fun t491 => (if t491 = true then ((congouref01_Uneven.f kj9 l0 t452).bind fun t492 => (if t492 = true then ((congouref01_Uneven.f kj9 l1 t452).bind fun t493 => (if t493 = true then ((congouref01_Uneven.f kj9 t462 l0).bind fun t494 => (if t494 = true then ((congouref01_Uneven.f kj9 t462 l1).bind fun t495 => (congoulaw01_SharesLattice.j1 kj9 l0 l1 l2 t452 t462 (!t495))) else (congoulaw01_SharesLattice.j1 kj9 l0 l1 l2 t452 t462 true))) else (congoulaw01_SharesLattice.j1 kj9 l0 l1 l2 t452 t462 true))) else (congoulaw01_SharesLattice.j1 kj9 l0 l1 l2 t452 t462 true))) else (congoulaw01_SharesLattice.j1 kj9 l0 l1 l2 t452 t462 true))) else (congoulaw01_SharesLattice.j1 kj9 l0 l1 l2 t452 t462 true))) else (congoulaw01_SharesLattice.j1 kj9 l0 l1 l2 t452 t462 true))) = some r := by rw [if_pos rfl] at H; exact H
    clear H
    have H := H1
    clear H1
    replace H := Option.bind_eq_some_iff.mp H
    obtain ⟨t489, A500, H⟩ := H
    replace H : (if t489 = true then ((congoulaw01_parts.f kj9 t452 l0).bind fun t490 => (if t490 = true then ((congoulaw01_parts.f kj9 t462 l0).bind fun t491 => (if t491 = true then ((congouref01_Uneven.f kj9 l0 t452).bind fun t492 => (if t492 = true then ((congouref01_Uneven.f kj9 l1 t452).bind fun t493 => (if t493 = true then ((congouref01_Uneven.f kj9 t462 l0).bind fun t494 => (if t494 = true then ((congouref01_Uneven.f kj9 t462 l1).bind fun t495 => (congoulaw01_SharesLattice.j1 kj9 l0 l1 l2 t452 t462 (!t495))) else (congoulaw01_SharesLattice.j1 kj9 l0 l1 l2 t452 t462 true))) else (congoulaw01_SharesLattice.j1 kj9 l0 l1 l2 t452 t462 true))) else (congoulaw01_SharesLattice.j1 kj9 l0 l1 l2 t452 t462 true))) else (congoulaw01_SharesLattice.j1 kj9 l0 l1 l2 t452 t462 true))) else (congoulaw01_SharesLattice.j1 kj9 l0 l1 l2 t452 t462 true))) else (congoulaw01_SharesLattice.j1 kj9 l0 l1 l2 t452 t462 true)) = some r := H
    have A50 := Aside0.mk A500
    clear A500
    by_cases c51 : t489 = true
    rotate_left
    ·replace c51 := Bool.eq_false_iff.mpr c51
     subst c51
     have H1 : (congoulaw01_SharesLattice.j1 kj9 l0 l1 l2 t452 t462 true) = some r := by rw [if_neg (show ¬ (false = true) by decide)] at H; exact H
     clear H
     have H := H1
     clear H1
     have H' := Aside0.mk H
     clear H
     obtain ⟨Ao97, co97, eo97⟩ := Kd.R_slice HO476.out
     subst eo97
     obtain ⟨Ao98, co98, eo98⟩ := Kd.R_slice HO_7.out
     subst eo98
     go_wp2_with (first | (go_at_call 31; (with_reducible refine (slices_Equal_int_int.calls kj9 _ _ t474 _ _ t452 true _ ?side1 ?side2 ?side3 ?side4 A48.out).mono ?_); (case side1 => exact kD (Kd.R_reads' HO476.out).2.2); (case side2 => exact (Kd.R_reads' HO476.out).2.1); (case side3 => exact kD (Kd.R_reads' HO_7.out).2.2); (case side4 => exact (Kd.R_reads' HO_7.out).2.1); rintro e w' ⟨rfl, ⟨nd, rfl⟩⟩; obtain ⟨Ao99, co99, eo99⟩ := Kd.R_slice HO486.out; subst eo99; obtain ⟨Ao100, co100, eo100⟩ := Kd.R_slice HO_9.out; subst eo100) | (go_at_call 31; (with_reducible refine (slices_Equal_int_int.calls kj9 _ _ t484 _ _ t462 false _ ?side1 ?side2 ?side3 ?side4 A50.out).mono ?_); (case side1 => exact kD (Kd.R_reads' HO486.out).2.2); (case side2 => exact (Kd.R_reads' HO486.out).2.1); (case side3 => exact kD (Kd.R_reads' HO_9.out).2.2); (case side4 => exact (Kd.R_reads' HO_9.out).2.1); rintro e w' ⟨rfl, ⟨nd, rfl⟩⟩))
     go_meet
     case rel => exact ⟨_, (true), (by first | rfl | (simp; done) | (simp [*]; done)), H', ⟨by have := HJ9.out; first | omega | exact Nat.le_refl _⟩, ⟨rD (Kd.R_mono HO_7.out (fun _ hk => hk.1.1.1.1.1.1))⟩, ⟨rD (Kd.R_mono HO_9.out (fun _ hk => hk.1.1.1.1.1.1))⟩, ⟨hbC _⟩⟩
    subst c51
    have H1 : ((congoulaw01_parts.f kj9 t452 l0).bind fun t490 => (if t490 = true then ((congoulaw01_parts.f kj9 t462 l0).bind fun t491 => (if t491 = true then ((congouref01_Uneven.f kj9 l0 t452).bind fun t492 => (if t492 = true then ((congouref01_Uneven.f kj9 l1 t452).bind fun t493 => (if t493 = true then ((congouref01_Uneven.f kj9 t462 l0).bind fun t494 => (if t494 = true then ((congouref01_Uneven.f kj9 t462 l1).bind fun t495 => (congoulaw01_SharesLattice.j1 kj9 l0 l1 l2 t452 t462 (!t495))) else (congoulaw01_SharesLattice.j1 kj9 l0 l1 l2 t452 t462 true))) else (congoulaw01_SharesLattice.j1 kj9 l0 l1 l2 t452 t462 true))) else (congoulaw01_SharesLattice.j1 kj9 l0 l1 l2 t452 t462 true))) else (congoulaw01_SharesLattice.j1 kj9 l0 l1 l2 t452 t462 true))) else (congoulaw01_SharesLattice.j1 kj9 l0 l1 l2 t452 t462 true))) = some r := by rw [if_pos rfl] at H; exact H
    clear H
    have H := H1
    clear H1
    replace H := Option.bind_eq_some_iff.mp H
    obtain ⟨t490, A520, H⟩ := H
    replace H : (if t490 = true then ((congoulaw01_parts.f kj9 t462 l0).bind fun t491 => (if t491 = true then ((congouref01_Uneven.f kj9 l0 t452).bind fun t492 => (if t492 = true then ((congouref01_Uneven.f kj9 l1 t452).bind fun t493 => (if t493 = true then ((congouref01_Uneven.f kj9 t462 l0).bind fun t494 => (if t494 = true then ((congouref01_Uneven.f kj9 t462 l1).bind fun t495 => (congoulaw01_SharesLattice.j1 kj9 l0 l1 l2 t452 t462 (!t495))) else (congoulaw01_SharesLattice.j1 kj9 l0 l1 l2 t452 t462 true))) else (congoulaw01_SharesLattice.j1 kj9 l0 l1 l2 t452 t462 true))) else (congoulaw01_SharesLattice.j1 kj9 l0 l1 l2 t452 t462 true))) else (congoulaw01_SharesLattice.j1 kj9 l0 l1 l2 t452 t462 true))) else (congoulaw01_SharesLattice.j1 kj9 l0 l1 l2 t452 t462 true)) = some r := H
    have A52 := Aside0.mk A520
    clear A520
    by_cases c53 : t490 = true
    rotate_left
    ·replace c53 := Bool.eq_false_iff.mpr c53
     subst c53
     have H1 : (congoulaw01_SharesLattice.j1 kj9 l0 l1 l2 t452 t462 true) = some r := by rw [if_neg (show ¬ (false = true) by decide)] at H; exact H
     clear H
     have H := H1
     clear H1
     have H' := Aside0.mk H
     clear H
     obtain ⟨Ao93, co93, eo93⟩ := Kd.R_slice HO476.out
     subst eo93
     obtain ⟨Ao94, co94, eo94⟩ := Kd.R_slice HO_7.out
     subst eo94
     go_wp2_with (first | (go_at_call 31; (with_reducible refine (slices_Equal_int_int.calls kj9 _ _ t474 _ _ t452 true _ ?side1 ?side2 ?side3 ?side4 A48.out).mono ?_); (case side1 => exact kD (Kd.R_reads' HO476.out).2.2); (case side2 => exact (Kd.R_reads' HO476.out).2.1); (case side3 => exact kD (Kd.R_reads' HO_7.out).2.2); (case side4 => exact (Kd.R_reads' HO_7.out).2.1); rintro e w' ⟨rfl, ⟨nd, rfl⟩⟩; obtain ⟨Ao95, co95, eo95⟩ := Kd.R_slice HO486.out; subst eo95; obtain ⟨Ao96, co96, eo96⟩ := Kd.R_slice HO_9.out; subst eo96) | (go_at_call 31; (with_reducible refine (slices_Equal_int_int.calls kj9 _ _ t484 _ _ t462 true _ ?side1 ?side2 ?side3 ?side4 A50.out).mono ?_); (case side1 => exact kD (Kd.R_reads' HO486.out).2.2); (case side2 => exact (Kd.R_reads' HO486.out).2.1); (case side3 => exact kD (Kd.R_reads' HO_9.out).2.2); (case side4 => exact (Kd.R_reads' HO_9.out).2.1); rintro e w' ⟨rfl, ⟨nd, rfl⟩⟩) | (go_at_call 30; (with_reducible refine (congoulaw01_parts.calls kj9 _ _ t452 _ _ l0 false _ ?side1 ?side2 ?side3 ?side4 A52.out).mono ?_); (case side1 => exact kD (Kd.R_reads' HO_7.out).2.2); (case side2 => exact (Kd.R_reads' HO_7.out).2.1); (case side3 => repeat (first | exact (Kd.C_below HR0.out (hbC _)) | (with_reducible refine Kd.C_alloc ?_ _) | (with_reducible refine Kd.C_drewN ?_ _) | (with_reducible refine Kd.C_drew ?_))); (case side4 => exact HC0.out); rintro e w' ⟨rfl, ⟨nd, rfl⟩⟩))
     go_meet
     case rel => exact ⟨_, (true), (by first | rfl | (simp; done) | (simp [*]; done)), H', ⟨by have := HJ9.out; first | omega | exact Nat.le_refl _⟩, ⟨rD (Kd.R_mono HO_7.out (fun _ hk => hk.1.1.1.1.1.1))⟩, ⟨rD (Kd.R_mono HO_9.out (fun _ hk => hk.1.1.1.1.1.1))⟩, ⟨hbC _⟩⟩
    subst c53
    have H1 : ((congoulaw01_parts.f kj9 t462 l0).bind fun t491 => (if t491 = true then ((congouref01_Uneven.f kj9 l0 t452).bind fun t492 => (if t492 = true then ((congouref01_Uneven.f kj9 l1 t452).bind fun t493 => (if t493 = true then ((congouref01_Uneven.f kj9 t462 l0).bind fun t494 => (if t494 = true then ((congouref01_Uneven.f kj9 t462 l1).bind fun t495 => (congoulaw01_SharesLattice.j1 kj9 l0 l1 l2 t452 t462 (!t495))) else (congoulaw01_SharesLattice.j1 kj9 l0 l1 l2 t452 t462 true))) else (congoulaw01_SharesLattice.j1 kj9 l0 l1 l2 t452 t462 true))) else (congoulaw01_SharesLattice.j1 kj9 l0 l1 l2 t452 t462 true))) else (congoulaw01_SharesLattice.j1 kj9 l0 l1 l2 t452 t462 true))) = some r := by rw [if_pos rfl] at H; exact H
    clear H
    have H := H1
    clear H1
    replace H := Option.bind_eq_some_iff.mp H
    obtain ⟨t491, A540, H⟩ := H
    replace H : (if t491 = true then ((congouref01_Uneven.f kj9 l0 t452).bind fun t492 => (if t492 = true then ((congouref01_Uneven.f kj9 l1 t452).bind fun t493 => (if t493 = true then ((congouref01_Uneven.f kj9 t462 l0).bind fun t494 => (if t494 = true then ((congouref01_Uneven.f kj9 t462 l1).bind fun t495 => (congoulaw01_SharesLattice.j1 kj9 l0 l1 l2 t452 t462 (!t495))) else (congoulaw01_SharesLattice.j1 kj9 l0 l1 l2 t452 t462 true))) else (congoulaw01_SharesLattice.j1 kj9 l0 l1 l2 t452 t462 true))) else (congoulaw01_SharesLattice.j1 kj9 l0 l1 l2 t452 t462 true))) else (congoulaw01_SharesLattice.j1 kj9 l0 l1 l2 t452 t462 true)) = some r := H
    have A54 := Aside0.mk A540
    clear A540
    by_cases c55 : t491 = true
    rotate_left
    ·replace c55 := Bool.eq_false_iff.mpr c55
     subst c55
     have H1 : (congoulaw01_SharesLattice.j1 kj9 l0 l1 l2 t452 t462 true) = some r := by rw [if_neg (show ¬ (false = true) by decide)] at H; exact H
     clear H
     have H := H1
     clear H1
     have H' := Aside0.mk H
     clear H
     obtain ⟨Ao89, co89, eo89⟩ := Kd.R_slice HO476.out
     subst eo89
     obtain ⟨Ao90, co90, eo90⟩ := Kd.R_slice HO_7.out
     subst eo90
     go_wp2_with (first | (go_at_call 31; (with_reducible refine (slices_Equal_int_int.calls kj9 _ _ t474 _ _ t452 true _ ?side1 ?side2 ?side3 ?side4 A48.out).mono ?_); (case side1 => exact kD (Kd.R_reads' HO476.out).2.2); (case side2 => exact (Kd.R_reads' HO476.out).2.1); (case side3 => exact kD (Kd.R_reads' HO_7.out).2.2); (case side4 => exact (Kd.R_reads' HO_7.out).2.1); rintro e w' ⟨rfl, ⟨nd, rfl⟩⟩; obtain ⟨Ao91, co91, eo91⟩ := Kd.R_slice HO486.out; subst eo91; obtain ⟨Ao92, co92, eo92⟩ := Kd.R_slice HO_9.out; subst eo92) | (go_at_call 31; (with_reducible refine (slices_Equal_int_int.calls kj9 _ _ t484 _ _ t462 true _ ?side1 ?side2 ?side3 ?side4 A50.out).mono ?_); (case side1 => exact kD (Kd.R_reads' HO486.out).2.2); (case side2 => exact (Kd.R_reads' HO486.out).2.1); (case side3 => exact kD (Kd.R_reads' HO_9.out).2.2); (case side4 => exact (Kd.R_reads' HO_9.out).2.1); rintro e w' ⟨rfl, ⟨nd, rfl⟩⟩) | (go_at_call 30; (with_reducible refine (congoulaw01_parts.calls kj9 _ _ t452 _ _ l0 true _ ?side1 ?side2 ?side3 ?side4 A52.out).mono ?_); (case side1 => exact kD (Kd.R_reads' HO_7.out).2.2); (case side2 => exact (Kd.R_reads' HO_7.out).2.1); (case side3 => repeat (first | exact (Kd.C_below HR0.out (hbC _)) | (with_reducible refine Kd.C_alloc ?_ _) | (with_reducible refine Kd.C_drewN ?_ _) | (with_reducible refine Kd.C_drew ?_))); (case side4 => exact HC0.out); rintro e w' ⟨rfl, ⟨nd, rfl⟩⟩) | (go_at_call 30; (with_reducible refine (congoulaw01_parts.calls kj9 _ _ t462 _ _ l0 false _ ?side1 ?side2 ?side3 ?side4 A54.out).mono ?_); (case side1 => exact kD (Kd.R_reads' HO_9.out).2.2); (case side2 => exact (Kd.R_reads' HO_9.out).2.1); (case side3 => repeat (first | exact (Kd.C_below HR0.out (hbC _)) | (with_reducible refine Kd.C_alloc ?_ _) | (with_reducible refine Kd.C_drewN ?_ _) | (with_reducible refine Kd.C_drew ?_))); (case side4 => exact HC0.out); rintro e w' ⟨rfl, ⟨nd, rfl⟩⟩))
     go_meet
     case rel => exact ⟨_, (true), (by first | rfl | (simp; done) | (simp [*]; done)), H', ⟨by have := HJ9.out; first | omega | exact Nat.le_refl _⟩, ⟨rD (Kd.R_mono HO_7.out (fun _ hk => hk.1.1.1.1.1.1))⟩, ⟨rD (Kd.R_mono HO_9.out (fun _ hk => hk.1.1.1.1.1.1))⟩, ⟨hbC _⟩⟩
    subst c55
    have H1 : ((congouref01_Uneven.f kj9 l0 t452).bind fun t492 => (if t492 = true then ((congouref01_Uneven.f kj9 l1 t452).bind fun t493 => (if t493 = true then ((congouref01_Uneven.f kj9 t462 l0).bind fun t494 => (if t494 = true then ((congouref01_Uneven.f kj9 t462 l1).bind fun t495 => (congoulaw01_SharesLattice.j1 kj9 l0 l1 l2 t452 t462 (!t495))) else (congoulaw01_SharesLattice.j1 kj9 l0 l1 l2 t452 t462 true))) else (congoulaw01_SharesLattice.j1 kj9 l0 l1 l2 t452 t462 true))) else (congoulaw01_SharesLattice.j1 kj9 l0 l1 l2 t452 t462 true))) = some r := by rw [if_pos rfl] at H; exact H
    clear H
    have H := H1
    clear H1
    replace H := Option.bind_eq_some_iff.mp H
    obtain ⟨t492, A560, H⟩ := H
    replace H : (if t492 = true then ((congouref01_Uneven.f kj9 l1 t452).bind fun t493 => (if t493 = true then ((congouref01_Uneven.f kj9 t462 l0).bind fun t494 => (if t494 = true then ((congouref01_Uneven.f kj9 t462 l1).bind fun t495 => (congoulaw01_SharesLattice.j1 kj9 l0 l1 l2 t452 t462 (!t495))) else (congoulaw01_SharesLattice.j1 kj9 l0 l1 l2 t452 t462 true))) else (congoulaw01_SharesLattice.j1 kj9 l0 l1 l2 t452 t462 true))) else (congoulaw01_SharesLattice.j1 kj9 l0 l1 l2 t452 t462 true)) = some r := H
    have A56 := Aside0.mk A560
    clear A560
    by_cases c57 : t492 = true
    rotate_left
    ·replace c57 := Bool.eq_false_iff.mpr c57
     subst c57
     have H1 : (congoulaw01_SharesLattice.j1 kj9 l0 l1 l2 t452 t462 true) = some r := by rw [if_neg (show ¬ (false = true) by decide)] at H; exact H
     clear H
     have H := H1
     clear H1
     have H' := Aside0.mk H
     clear H
     obtain ⟨Ao84, co84, eo84⟩ := Kd.R_slice HO476.out
     subst eo84
     obtain ⟨Ao85, co85, eo85⟩ := Kd.R_slice HO_7.out
     subst eo85
     go_wp2_with (first | (go_at_call 31; (with_reducible refine (slices_Equal_int_int.calls kj9 _ _ t474 _ _ t452 true _ ?side1 ?side2 ?side3 ?side4 A48.out).mono ?_); (case side1 => exact kD (Kd.R_reads' HO476.out).2.2); (case side2 => exact (Kd.R_reads' HO476.out).2.1); (case side3 => exact kD (Kd.R_reads' HO_7.out).2.2); (case side4 => exact (Kd.R_reads' HO_7.out).2.1); rintro e w' ⟨rfl, ⟨nd, rfl⟩⟩; obtain ⟨Ao86, co86, eo86⟩ := Kd.R_slice HO486.out; subst eo86; obtain ⟨Ao87, co87, eo87⟩ := Kd.R_slice HO_9.out; subst eo87) | (go_at_call 31; (with_reducible refine (slices_Equal_int_int.calls kj9 _ _ t484 _ _ t462 true _ ?side1 ?side2 ?side3 ?side4 A50.out).mono ?_); (case side1 => exact kD (Kd.R_reads' HO486.out).2.2); (case side2 => exact (Kd.R_reads' HO486.out).2.1); (case side3 => exact kD (Kd.R_reads' HO_9.out).2.2); (case side4 => exact (Kd.R_reads' HO_9.out).2.1); rintro e w' ⟨rfl, ⟨nd, rfl⟩⟩) | (go_at_call 30; (with_reducible refine (congoulaw01_parts.calls kj9 _ _ t452 _ _ l0 true _ ?side1 ?side2 ?side3 ?side4 A52.out).mono ?_); (case side1 => exact kD (Kd.R_reads' HO_7.out).2.2); (case side2 => exact (Kd.R_reads' HO_7.out).2.1); (case side3 => repeat (first | exact (Kd.C_below HR0.out (hbC _)) | (with_reducible refine Kd.C_alloc ?_ _) | (with_reducible refine Kd.C_drewN ?_ _) | (with_reducible refine Kd.C_drew ?_))); (case side4 => exact HC0.out); rintro e w' ⟨rfl, ⟨nd, rfl⟩⟩) | (go_at_call 30; (with_reducible refine (congoulaw01_parts.calls kj9 _ _ t462 _ _ l0 true _ ?side1 ?side2 ?side3 ?side4 A54.out).mono ?_); (case side1 => exact kD (Kd.R_reads' HO_9.out).2.2); (case side2 => exact (Kd.R_reads' HO_9.out).2.1); (case side3 => repeat (first | exact (Kd.C_below HR0.out (hbC _)) | (with_reducible refine Kd.C_alloc ?_ _) | (with_reducible refine Kd.C_drewN ?_ _) | (with_reducible refine Kd.C_drew ?_))); (case side4 => exact HC0.out); rintro e w' ⟨rfl, ⟨nd, rfl⟩⟩) | (go_at_call 24; (with_reducible refine (congouref01_Uneven.calls kj9 _ _ l0 _ _ t452 false _ ?side1 ?side2 ?side3 ?side4 A56.out).mono ?_); (case side1 => repeat (first | exact (Kd.C_below HR0.out (hbC _)) | (with_reducible refine Kd.C_alloc ?_ _) | (with_reducible refine Kd.C_drewN ?_ _) | (with_reducible refine Kd.C_drew ?_))); (case side2 => exact HC0.out); (case side3 => exact kD (Kd.R_reads' HO_7.out).2.2); (case side4 => exact (Kd.R_reads' HO_7.out).2.1); rintro e w88 ⟨rfl, hb⟩; replace HO_7 := kO HO_7 hb; replace HO_9 := kO HO_9 hb; replace HO470 := kO HO470 hb; replace HO473 := kO HO473 hb; replace HO476 := kO HO476 hb; replace HO480 := kO HO480 hb; replace HO483 := kO HO483 hb; replace HO486 := kO HO486 hb; replace HB := kH _ hb; (try clear hb); (try clear hb2); (try clear hk); (try clear hi)))
     go_meet
     case rel => exact ⟨_, (true), (by first | rfl | (simp; done) | (simp [*]; done)), H', ⟨by have := HJ9.out; first | omega | exact Nat.le_refl _⟩, ⟨rD (Kd.R_mono HO_7.out (fun _ hk => hk.1.1.1.1.1.1))⟩, ⟨rD (Kd.R_mono HO_9.out (fun _ hk => hk.1.1.1.1.1.1))⟩, ⟨hbC _⟩⟩
    subst c57
    have H1 : ((congouref01_Uneven.f kj9 l1 t452).bind fun t493 => (if t493 = true then ((congouref01_Uneven.f kj9 t462 l0).bind fun t494 => (if t494 = true then ((congouref01_Uneven.f kj9 t462 l1).bind fun t495 => (congoulaw01_SharesLattice.j1 kj9 l0 l1 l2 t452 t462 (!t495))) else (congoulaw01_SharesLattice.j1 kj9 l0 l1 l2 t452 t462 true))) else (congoulaw01_SharesLattice.j1 kj9 l0 l1 l2 t452 t462 true))) = some r := by rw [if_pos rfl] at H; exact H
    clear H
    have H := H1
    clear H1
    replace H := Option.bind_eq_some_iff.mp H
    obtain ⟨t493, A580, H⟩ := H
    replace H : (if t493 = true then ((congouref01_Uneven.f kj9 t462 l0).bind fun t494 => (if t494 = true then ((congouref01_Uneven.f kj9 t462 l1).bind fun t495 => (congoulaw01_SharesLattice.j1 kj9 l0 l1 l2 t452 t462 (!t495))) else (congoulaw01_SharesLattice.j1 kj9 l0 l1 l2 t452 t462 true))) else (congoulaw01_SharesLattice.j1 kj9 l0 l1 l2 t452 t462 true)) = some r := H
    have A58 := Aside0.mk A580
    clear A580
    by_cases c59 : t493 = true
    rotate_left
    ·replace c59 := Bool.eq_false_iff.mpr c59
     subst c59
     have H1 : (congoulaw01_SharesLattice.j1 kj9 l0 l1 l2 t452 t462 true) = some r := by rw [if_neg (show ¬ (false = true) by decide)] at H; exact H
     clear H
     have H := H1
     clear H1
     have H' := Aside0.mk H
     clear H
     obtain ⟨Ao78, co78, eo78⟩ := Kd.R_slice HO476.out
     subst eo78
     obtain ⟨Ao79, co79, eo79⟩ := Kd.R_slice HO_7.out
     subst eo79
     go_wp2_with (first | (go_at_call 31; (with_reducible refine (slices_Equal_int_int.calls kj9 _ _ t474 _ _ t452 true _ ?side1 ?side2 ?side3 ?side4 A48.out).mono ?_); (case side1 => exact kD (Kd.R_reads' HO476.out).2.2); (case side2 => exact (Kd.R_reads' HO476.out).2.1); (case side3 => exact kD (Kd.R_reads' HO_7.out).2.2); (case side4 => exact (Kd.R_reads' HO_7.out).2.1); rintro e w' ⟨rfl, ⟨nd, rfl⟩⟩; obtain ⟨Ao80, co80, eo80⟩ := Kd.R_slice HO486.out; subst eo80; obtain ⟨Ao81, co81, eo81⟩ := Kd.R_slice HO_9.out; subst eo81) | (go_at_call 31; (with_reducible refine (slices_Equal_int_int.calls kj9 _ _ t484 _ _ t462 true _ ?side1 ?side2 ?side3 ?side4 A50.out).mono ?_); (case side1 => exact kD (Kd.R_reads' HO486.out).2.2); (case side2 => exact (Kd.R_reads' HO486.out).2.1); (case side3 => exact kD (Kd.R_reads' HO_9.out).2.2); (case side4 => exact (Kd.R_reads' HO_9.out).2.1); rintro e w' ⟨rfl, ⟨nd, rfl⟩⟩) | (go_at_call 30; (with_reducible refine (congoulaw01_parts.calls kj9 _ _ t452 _ _ l0 true _ ?side1 ?side2 ?side3 ?side4 A52.out).mono ?_); (case side1 => exact kD (Kd.R_reads' HO_7.out).2.2); (case side2 => exact (Kd.R_reads' HO_7.out).2.1); (case side3 => repeat (first | exact (Kd.C_below HR0.out (hbC _)) | (with_reducible refine Kd.C_alloc ?_ _) | (with_reducible refine Kd.C_drewN ?_ _) | (with_reducible refine Kd.C_drew ?_))); (case side4 => exact HC0.out); rintro e w' ⟨rfl, ⟨nd, rfl⟩⟩) | (go_at_call 30; (with_reducible refine (congoulaw01_parts.calls kj9 _ _ t462 _ _ l0 true _ ?side1 ?side2 ?side3 ?side4 A54.out).mono ?_); (case side1 => exact kD (Kd.R_reads' HO_9.out).2.2); (case side2 => exact (Kd.R_reads' HO_9.out).2.1); (case side3 => repeat (first | exact (Kd.C_below HR0.out (hbC _)) | (with_reducible refine Kd.C_alloc ?_ _) | (with_reducible refine Kd.C_drewN ?_ _) | (with_reducible refine Kd.C_drew ?_))); (case side4 => exact HC0.out); rintro e w' ⟨rfl, ⟨nd, rfl⟩⟩) | (go_at_call 24; (with_reducible refine (congouref01_Uneven.calls kj9 _ _ l0 _ _ t452 true _ ?side1 ?side2 ?side3 ?side4 A56.out).mono ?_); (case side1 => repeat (first | exact (Kd.C_below HR0.out (hbC _)) | (with_reducible refine Kd.C_alloc ?_ _) | (with_reducible refine Kd.C_drewN ?_ _) | (with_reducible refine Kd.C_drew ?_))); (case side2 => exact HC0.out); (case side3 => exact kD (Kd.R_reads' HO_7.out).2.2); (case side4 => exact (Kd.R_reads' HO_7.out).2.1); rintro e w82 ⟨rfl, hb⟩; replace HO_7 := kO HO_7 hb; replace HO_9 := kO HO_9 hb; replace HO470 := kO HO470 hb; replace HO473 := kO HO473 hb; replace HO476 := kO HO476 hb; replace HO480 := kO HO480 hb; replace HO483 := kO HO483 hb; replace HO486 := kO HO486 hb; replace HB := kH _ hb; (try clear hb); (try clear hb2); (try clear hk); (try clear hi)) | (go_at_call 24; (with_reducible refine (congouref01_Uneven.calls kj9 _ _ l1 _ _ t452 false _ ?side1 ?side2 ?side3 ?side4 A58.out).mono ?_); (case side1 => exact kC HR1); (case side2 => exact HC1.out); (case side3 => exact kD (Kd.R_reads' HO_7.out).2.2); (case side4 => exact (Kd.R_reads' HO_7.out).2.1); rintro e w83 ⟨rfl, hb⟩; replace HO_7 := kO HO_7 hb; replace HO_9 := kO HO_9 hb; replace HO470 := kO HO470 hb; replace HO473 := kO HO473 hb; replace HO476 := kO HO476 hb; replace HO480 := kO HO480 hb; replace HO483 := kO HO483 hb; replace HO486 := kO HO486 hb; replace HB := kH _ hb; (try clear hb); (try clear hb2); (try clear hk); (try clear hi)))
     go_meet
     case rel => exact ⟨_, (true), (by first | rfl | (simp; done) | (simp [*]; done)), H', ⟨by have := HJ9.out; first | omega | exact Nat.le_refl _⟩, ⟨rD (Kd.R_mono HO_7.out (fun _ hk => hk.1.1.1.1.1.1))⟩, ⟨rD (Kd.R_mono HO_9.out (fun _ hk => hk.1.1.1.1.1.1))⟩, ⟨hbC _⟩⟩
    subst c59
    have H1 : ((congouref01_Uneven.f kj9 t462 l0).bind fun t494 => (if t494 = true then ((congouref01_Uneven.f kj9 t462 l1).bind fun t495 => (congoulaw01_SharesLattice.j1 kj9 l0 l1 l2 t452 t462 (!t495))) else (congoulaw01_SharesLattice.j1 kj9 l0 l1 l2 t452 t462 true))) = some r := by rw [if_pos rfl] at H; exact H
    clear H
    have H := H1
    clear H1
    replace H := Option.bind_eq_some_iff.mp H
    obtain ⟨t494, A600, H⟩ := H
    replace H : (if t494 = true then ((congouref01_Uneven.f kj9 t462 l1).bind fun t495 => (congoulaw01_SharesLattice.j1 kj9 l0 l1 l2 t452 t462 (!t495))) else (congoulaw01_SharesLattice.j1 kj9 l0 l1 l2 t452 t462 true)) = some r := H
    have A60 := Aside0.mk A600
    clear A600
    by_cases c61 : t494 = true
    rotate_left
    ·replace c61 := Bool.eq_false_iff.mpr c61
     subst c61
     have H1 : (congoulaw01_SharesLattice.j1 kj9 l0 l1 l2 t452 t462 true) = some r := by rw [if_neg (show ¬ (false = true) by decide)] at H; exact H
     clear H
     have H := H1
     clear H1
     have H' := Aside0.mk H
     clear H
     obtain ⟨Ao71, co71, eo71⟩ := Kd.R_slice HO476.out
     subst eo71
     obtain ⟨Ao72, co72, eo72⟩ := Kd.R_slice HO_7.out
     subst eo72
     go_wp2_with (first | (go_at_call 31; (with_reducible refine (slices_Equal_int_int.calls kj9 _ _ t474 _ _ t452 true _ ?side1 ?side2 ?side3 ?side4 A48.out).mono ?_); (case side1 => exact kD (Kd.R_reads' HO476.out).2.2); (case side2 => exact (Kd.R_reads' HO476.out).2.1); (case side3 => exact kD (Kd.R_reads' HO_7.out).2.2); (case side4 => exact (Kd.R_reads' HO_7.out).2.1); rintro e w' ⟨rfl, ⟨nd, rfl⟩⟩; obtain ⟨Ao73, co73, eo73⟩ := Kd.R_slice HO486.out; subst eo73; obtain ⟨Ao74, co74, eo74⟩ := Kd.R_slice HO_9.out; subst eo74) | (go_at_call 31; (with_reducible refine (slices_Equal_int_int.calls kj9 _ _ t484 _ _ t462 true _ ?side1 ?side2 ?side3 ?side4 A50.out).mono ?_); (case side1 => exact kD (Kd.R_reads' HO486.out).2.2); (case side2 => exact (Kd.R_reads' HO486.out).2.1); (case side3 => exact kD (Kd.R_reads' HO_9.out).2.2); (case side4 => exact (Kd.R_reads' HO_9.out).2.1); rintro e w' ⟨rfl, ⟨nd, rfl⟩⟩) | (go_at_call 30; (with_reducible refine (congoulaw01_parts.calls kj9 _ _ t452 _ _ l0 true _ ?side1 ?side2 ?side3 ?side4 A52.out).mono ?_); (case side1 => exact kD (Kd.R_reads' HO_7.out).2.2); (case side2 => exact (Kd.R_reads' HO_7.out).2.1); (case side3 => repeat (first | exact (Kd.C_below HR0.out (hbC _)) | (with_reducible refine Kd.C_alloc ?_ _) | (with_reducible refine Kd.C_drewN ?_ _) | (with_reducible refine Kd.C_drew ?_))); (case side4 => exact HC0.out); rintro e w' ⟨rfl, ⟨nd, rfl⟩⟩) | (go_at_call 30; (with_reducible refine (congoulaw01_parts.calls kj9 _ _ t462 _ _ l0 true _ ?side1 ?side2 ?side3 ?side4 A54.out).mono ?_); (case side1 => exact kD (Kd.R_reads' HO_9.out).2.2); (case side2 => exact (Kd.R_reads' HO_9.out).2.1); (case side3 => repeat (first | exact (Kd.C_below HR0.out (hbC _)) | (with_reducible refine Kd.C_alloc ?_ _) | (with_reducible refine Kd.C_drewN ?_ _) | (with_reducible refine Kd.C_drew ?_))); (case side4 => exact HC0.out); rintro e w' ⟨rfl, ⟨nd, rfl⟩⟩) | (go_at_call 24; (with_reducible refine (congouref01_Uneven.calls kj9 _ _ l0 _ _ t452 true _ ?side1 ?side2 ?side3 ?side4 A56.out).mono ?_); (case side1 => repeat (first | exact (Kd.C_below HR0.out (hbC _)) | (with_reducible refine Kd.C_alloc ?_ _) | (with_reducible refine Kd.C_drewN ?_ _) | (with_reducible refine Kd.C_drew ?_))); (case side2 => exact HC0.out); (case side3 => exact kD (Kd.R_reads' HO_7.out).2.2); (case side4 => exact (Kd.R_reads' HO_7.out).2.1); rintro e w75 ⟨rfl, hb⟩; replace HO_7 := kO HO_7 hb; replace HO_9 := kO HO_9 hb; replace HO470 := kO HO470 hb; replace HO473 := kO HO473 hb; replace HO476 := kO HO476 hb; replace HO480 := kO HO480 hb; replace HO483 := kO HO483 hb; replace HO486 := kO HO486 hb; replace HB := kH _ hb; (try clear hb); (try clear hb2); (try clear hk); (try clear hi)) | (go_at_call 24; (with_reducible refine (congouref01_Uneven.calls kj9 _ _ l1 _ _ t452 true _ ?side1 ?side2 ?side3 ?side4 A58.out).mono ?_); (case side1 => exact kC HR1); (case side2 => exact HC1.out); (case side3 => exact kD (Kd.R_reads' HO_7.out).2.2); (case side4 => exact (Kd.R_reads' HO_7.out).2.1); rintro e w76 ⟨rfl, hb⟩; replace HO_7 := kO HO_7 hb; replace HO_9 := kO HO_9 hb; replace HO470 := kO HO470 hb; replace HO473 := kO HO473 hb; replace HO476 := kO HO476 hb; replace HO480 := kO HO480 hb; replace HO483 := kO HO483 hb; replace HO486 := kO HO486 hb; replace HB := kH _ hb; (try clear hb); (try clear hb2); (try clear hk); (try clear hi)) | (go_at_call 24; (with_reducible refine (congouref01_Uneven.calls kj9 _ _ t462 _ _ l0 false _ ?side1 ?side2 ?side3 ?side4 A60.out).mono ?_); (case side1 => exact kD (Kd.R_reads' HO_9.out).2.2); (case side2 => exact (Kd.R_reads' HO_9.out).2.1); (case side3 => exact kC HR0); (case side4 => exact HC0.out); rintro e w77 ⟨rfl, hb⟩; replace HO_7 := kO HO_7 hb; replace HO_9 := kO HO_9 hb; replace HO470 := kO HO470 hb; replace HO473 := kO HO473 hb; replace HO476 := kO HO476 hb; replace HO480 := kO HO480 hb; replace HO483 := kO HO483 hb; replace HO486 := kO HO486 hb; replace HB := kH _ hb; (try clear hb); (try clear hb2); (try clear hk); (try clear hi)))
     go_meet
     case rel => exact ⟨_, (true), (by first | rfl | (simp; done) | (simp [*]; done)), H', ⟨by have := HJ9.out; first | omega | exact Nat.le_refl _⟩, ⟨rD (Kd.R_mono HO_7.out (fun _ hk => hk.1.1.1.1.1.1))⟩, ⟨rD (Kd.R_mono HO_9.out (fun _ hk => hk.1.1.1.1.1.1))⟩, ⟨hbC _⟩⟩
    subst c61
    have H1 : ((congouref01_Uneven.f kj9 t462 l1).bind fun t495 => (congoulaw01_SharesLattice.j1 kj9 l0 l1 l2 t452 t462 (!t495))) = some r := by rw [if_pos rfl] at H; exact H
    clear H
    have H := H1
    clear H1
    replace H := Option.bind_eq_some_iff.mp H
    obtain ⟨t495, A620, H⟩ := H
    replace H : (congoulaw01_SharesLattice.j1 kj9 l0 l1 l2 t452 t462 (!t495)) = some r := H
    have A62 := Aside0.mk A620
    clear A620
    have H' := Aside0.mk H
    clear H
    obtain ⟨Ao63, co63, eo63⟩ := Kd.R_slice HO476.out
    subst eo63
    obtain ⟨Ao64, co64, eo64⟩ := Kd.R_slice HO_7.out
    subst eo64
    go_wp2_with (first | (go_at_call 31; (with_reducible refine (slices_Equal_int_int.calls kj9 _ _ t474 _ _ t452 true _ ?side1 ?side2 ?side3 ?side4 A48.out).mono ?_); (case side1 => exact kD (Kd.R_reads' HO476.out).2.2); (case side2 => exact (Kd.R_reads' HO476.out).2.1); (case side3 => exact kD (Kd.R_reads' HO_7.out).2.2); (case side4 => exact (Kd.R_reads' HO_7.out).2.1); rintro e w' ⟨rfl, ⟨nd, rfl⟩⟩; obtain ⟨Ao65, co65, eo65⟩ := Kd.R_slice HO486.out; subst eo65; obtain ⟨Ao66, co66, eo66⟩ := Kd.R_slice HO_9.out; subst eo66) | (go_at_call 31; (with_reducible refine (slices_Equal_int_int.calls kj9 _ _ t484 _ _ t462 true _ ?side1 ?side2 ?side3 ?side4 A50.out).mono ?_); (case side1 => exact kD (Kd.R_reads' HO486.out).2.2); (case side2 => exact (Kd.R_reads' HO486.out).2.1); (case side3 => exact kD (Kd.R_reads' HO_9.out).2.2); (case side4 => exact (Kd.R_reads' HO_9.out).2.1); rintro e w' ⟨rfl, ⟨nd, rfl⟩⟩) | (go_at_call 30; (with_reducible refine (congoulaw01_parts.calls kj9 _ _ t452 _ _ l0 true _ ?side1 ?side2 ?side3 ?side4 A52.out).mono ?_); (case side1 => exact kD (Kd.R_reads' HO_7.out).2.2); (case side2 => exact (Kd.R_reads' HO_7.out).2.1); (case side3 => repeat (first | exact (Kd.C_below HR0.out (hbC _)) | (with_reducible refine Kd.C_alloc ?_ _) | (with_reducible refine Kd.C_drewN ?_ _) | (with_reducible refine Kd.C_drew ?_))); (case side4 => exact HC0.out); rintro e w' ⟨rfl, ⟨nd, rfl⟩⟩) | (go_at_call 30; (with_reducible refine (congoulaw01_parts.calls kj9 _ _ t462 _ _ l0 true _ ?side1 ?side2 ?side3 ?side4 A54.out).mono ?_); (case side1 => exact kD (Kd.R_reads' HO_9.out).2.2); (case side2 => exact (Kd.R_reads' HO_9.out).2.1); (case side3 => repeat (first | exact (Kd.C_below HR0.out (hbC _)) | (with_reducible refine Kd.C_alloc ?_ _) | (with_reducible refine Kd.C_drewN ?_ _) | (with_reducible refine Kd.C_drew ?_))); (case side4 => exact HC0.out); rintro e w' ⟨rfl, ⟨nd, rfl⟩⟩) | (go_at_call 24; (with_reducible refine (congouref01_Uneven.calls kj9 _ _ l0 _ _ t452 true _ ?side1 ?side2 ?side3 ?side4 A56.out).mono ?_); (case side1 => repeat (first | exact (Kd.C_below HR0.out (hbC _)) | (with_reducible refine Kd.C_alloc ?_ _) | (with_reducible refine Kd.C_drewN ?_ _) | (with_reducible refine Kd.C_drew ?_))); (case side2 => exact HC0.out); (case side3 => exact kD (Kd.R_reads' HO_7.out).2.2); (case side4 => exact (Kd.R_reads' HO_7.out).2.1); rintro e w67 ⟨rfl, hb⟩; replace HO_7 := kO HO_7 hb; replace HO_9 := kO HO_9 hb; replace HO470 := kO HO470 hb; replace HO473 := kO HO473 hb; replace HO476 := kO HO476 hb; replace HO480 := kO HO480 hb; replace HO483 := kO HO483 hb; replace HO486 := kO HO486 hb; replace HB := kH _ hb; (try clear hb); (try clear hb2); (try clear hk); (try clear hi)) | (go_at_call 24; (with_reducible refine (congouref01_Uneven.calls kj9 _ _ l1 _ _ t452 true _ ?side1 ?side2 ?side3 ?side4 A58.out).mono ?_); (case side1 => exact kC HR1); (case side2 => exact HC1.out); (case side3 => exact kD (Kd.R_reads' HO_7.out).2.2); (case side4 => exact (Kd.R_reads' HO_7.out).2.1); rintro e w68 ⟨rfl, hb⟩; replace HO_7 := kO HO_7 hb; replace HO_9 := kO HO_9 hb; replace HO470 := kO HO470 hb; replace HO473 := kO HO473 hb; replace HO476 := kO HO476 hb; replace HO480 := kO HO480 hb; replace HO483 := kO HO483 hb; replace HO486 := kO HO486 hb; replace HB := kH _ hb; (try clear hb); (try clear hb2); (try clear hk); (try clear hi)) | (go_at_call 24; (with_reducible refine (congouref01_Uneven.calls kj9 _ _ t462 _ _ l0 true _ ?side1 ?side2 ?side3 ?side4 A60.out).mono ?_); (case side1 => exact kD (Kd.R_reads' HO_9.out).2.2); (case side2 => exact (Kd.R_reads' HO_9.out).2.1); (case side3 => exact kC HR0); (case side4 => exact HC0.out); rintro e w69 ⟨rfl, hb⟩; replace HO_7 := kO HO_7 hb; replace HO_9 := kO HO_9 hb; replace HO470 := kO HO470 hb; replace HO473 := kO HO473 hb; replace HO476 := kO HO476 hb; replace HO480 := kO HO480 hb; replace HO483 := kO HO483 hb; replace HO486 := kO HO486 hb; replace HB := kH _ hb; (try clear hb); (try clear hb2); (try clear hk); (try clear hi)) | (go_at_call 24; (with_reducible refine (congouref01_Uneven.calls kj9 _ _ t462 _ _ l1 t495 _ ?side1 ?side2 ?side3 ?side4 A62.out).mono ?_); (case side1 => exact kD (Kd.R_reads' HO_9.out).2.2); (case side2 => exact (Kd.R_reads' HO_9.out).2.1); (case side3 => exact kC HR1); (case side4 => exact HC1.out); rintro e w70 ⟨rfl, hb⟩; replace HO_7 := kO HO_7 hb; replace HO_9 := kO HO_9 hb; replace HO470 := kO HO470 hb; replace HO473 := kO HO473 hb; replace HO476 := kO HO476 hb; replace HO480 := kO HO480 hb; replace HO483 := kO HO483 hb; replace HO486 := kO HO486 hb; replace HB := kH _ hb; (try clear hb); (try clear hb2); (try clear hk); (try clear hi)))
    go_meet
    case rel => exact ⟨_, (!t495), (by first | rfl | (simp; done) | (simp [*]; done)), H', ⟨by have := HJ9.out; first | omega | exact Nat.le_refl _⟩, ⟨rD (Kd.R_mono HO_7.out (fun _ hk => hk.1.1.1.1.1.1))⟩, ⟨rD (Kd.R_mono HO_9.out (fun _ hk => hk.1.1.1.1.1.1))⟩, ⟨hbC _⟩⟩
   case rest =>
    clear HC35
    try clear c1
    try clear c2
    try clear p2
    try clear c4
    try clear c5
    try clear c6
    try clear c7
    try clear c18
    try clear c21
    try clear c21b0
    try clear c21b1
    try clear c22
    try clear c22b0
    try clear c22b1
    try clear c24
    try clear c25
    try clear c25b0
    try clear c25b1
    try clear c26
    try clear c26b0
    try clear c26b1
    try clear c28
    try clear c29
    try clear c46
    try clear c46b0
    try clear c46b1
    try clear c47
    try clear c47b0
    try clear c47b1
    try clear c49
    try clear c51
    try clear c53
    try clear c55
    try clear c57
    try clear c59
    try clear c61
    try clear p2
    obtain ⟨kq, x122_34, rfl, HA, HJ34, HO_7, HO_9, HB⟩ := hcut
    cases kq with
    | zero => exact absurd HA.out (by simp [congoulaw01_SharesLattice.j1])
    | succ kj34 =>
     have H := HA.out
     clear HA
     simp only [congoulaw01_SharesLattice.j1] at H
     by_cases c103 : x122_34 = true
     ·subst c103
      have H1 : (some false) = some r := by rw [if_pos rfl] at H; exact H
      clear H
      have H := H1
      clear H1
      exact absurd (H.trans (congrArg some HRT.out)) (by simp)
     replace c103 := Bool.eq_false_iff.mpr c103
     subst c103
     have H1 : ((congoulaw01_parts.f kj34 l2 l0).bind fun t496 => (if t496 = true then ((congouref01_Uneven.f kj34 l0 l2).bind fun t498 => (if t498 = true then ((congouref01_Uneven.f kj34 l1 l2).bind fun t499 => (if t499 = true then ((congouref01_Uneven.f kj34 t452 l2).bind fun t500 => (if t500 = true then ((congouref01_Uneven.f kj34 l2 l0).bind fun t501 => (if t501 = true then ((congouref01_Uneven.f kj34 l2 l1).bind fun t502 => (if t502 = true then ((congouref01_Uneven.f kj34 l2 t462).bind fun t503 => (if t503 = true then ((congoulaw01_awake.f kj34).bind fun t504 => (some t504)) else (some false))) else ((congoulaw01_awake.f kj34).bind fun t505 => (some t505)))) else ((congoulaw01_awake.f kj34).bind fun t506 => (some t506)))) else (some false))) else ((congouref01_Uneven.f kj34 l2 l0).bind fun t507 => (if t507 = true then ((congouref01_Uneven.f kj34 l2 l1).bind fun t508 => (if t508 = true then ((congouref01_Uneven.f kj34 l2 t462).bind fun t509 => (if t509 = true then ((congoulaw01_awake.f kj34).bind fun t510 => (some t510)) else (some false))) else ((congoulaw01_awake.f kj34).bind fun t511 => (some t511)))) else ((congoulaw01_awake.f kj34).bind fun t512 => (some t512)))))) else ((congouref01_Uneven.f kj34 l2 l0).bind fun t513 => (if t513 = true then ((congouref01_Uneven.f kj34 l2 l1).bind fun t514 => (if t514 = true then ((congouref01_Uneven.f kj34 l2 t462).bind fun t515 => (if t515 = true then ((congoulaw01_awake.f kj34).bind fun t516 => (some t516)) else (some false))) else ((congoulaw01_awake.f kj34).bind fun t517 => (some t517)))) else ((congoulaw01_awake.f kj34).bind fun t518 => (some t518)))))) else ((congoulaw01_awake.f kj34).bind fun t497 => (some t497)))) = some r := by rw [if_neg (show ¬ (false = true) by decide)] at H; exact H
     clear H
     have H := H1
     clear H1
     replace H := Option.bind_eq_some_iff.mp H
     obtain ⟨t496, A1040, H⟩ := H
     replace H : (if t496 = true then ((congouref01_Uneven.f kj34 l0 l2).bind fun t498 => (if t498 = true then ((congouref01_Uneven.f kj34 l1 l2).bind fun t499 => (if t499 = true then ((congouref01_Uneven.f kj34 t452 l2).bind fun t500 => (if t500 = true then ((congouref01_Uneven.f kj34 l2 l0).bind fun t501 => (if t501 = true then ((congouref01_Uneven.f kj34 l2 l1).bind fun t502 => (if t502 = true then ((congouref01_Uneven.f kj34 l2 t462).bind fun t503 => (if t503 = true then ((congoulaw01_awake.f kj34).bind fun t504 => (some t504)) else (some false))) else ((congoulaw01_awake.f kj34).bind fun t505 => (some t505)))) else ((congoulaw01_awake.f kj34).bind fun t506 => (some t506)))) else (some false))) else ((congouref01_Uneven.f kj34 l2 l0).bind fun t507 => (if t507 = true then ((congouref01_Uneven.f kj34 l2 l1).bind fun t508 => (if t508 = true then ((congouref01_Uneven.f kj34 l2 t462).bind fun t509 => (if t509 = true then ((congoulaw01_awake.f kj34).bind fun t510 => (some t510)) else (some false))) else ((congoulaw01_awake.f kj34).bind fun t511 => (some t511)))) else ((congoulaw01_awake.f kj34).bind fun t512 => (some t512)))))) else ((congouref01_Uneven.f kj34 l2 l0).bind fun t513 => (if t513 = true then ((congouref01_Uneven.f kj34 l2 l1).bind fun t514 => (if t514 = true then ((congouref01_Uneven.f kj34 l2 t462).bind fun t515 => (if t515 = true then ((congoulaw01_awake.f kj34).bind fun t516 => (some t516)) else (some false))) else ((congoulaw01_awake.f kj34).bind fun t517 => (some t517)))) else ((congoulaw01_awake.f kj34).bind fun t518 => (some t518)))))) else ((congoulaw01_awake.f kj34).bind fun t497 => (some t497))) = some r := H
     have A104 := Aside0.mk A1040
     clear A1040
     by_cases c105 : t496 = true
     rotate_left
     ·replace c105 := Bool.eq_false_iff.mpr c105
      subst c105
      have H1 : ((congoulaw01_awake.f kj34).bind fun t497 => (some t497)) = some r := by rw [if_neg (show ¬ (false = true) by decide)] at H; exact H
      clear H
      have H := H1
      clear H1
      replace H := Option.bind_eq_some_iff.mp H
      obtain ⟨t497, A1900, H⟩ := H
      replace H : (some t497) = some r := H
      have A190 := Aside0.mk A1900
      clear A1900
      obtain rfl := Option.some.inj H
      go_wp2_with (first | ((with_reducible refine gate_callee (f := 30) rfl ?_); refine gL 125 Try.func30 #[.slice A2 l2.length c2, .slice A0 l0.length c0] ?_; (with_reducible refine (congoulaw01_parts.calls kj34 _ _ l2 _ _ l0 false _ ?side1 ?side2 ?side3 ?side4 A104.out).mono ?_); (case side1 => exact kC HR2); (case side2 => exact HC2.out); (case side3 => exact kC HR0); (case side4 => exact HC0.out); rintro e w' ⟨rfl, ⟨nd, rfl⟩⟩; refine ⟨_, rfl, ?_⟩) | ((with_reducible refine gate_callee (f := 21) rfl ?_); refine gL 127 Try.func21 #[] ?_; (with_reducible refine (congoulaw01_awake.calls kj34  t497 _ A190.out).mono ?_); rintro e w191 ⟨rfl, hb⟩; refine ⟨_, rfl, ?_⟩; replace HO_7 := kO HO_7 hb; replace HO_9 := kO HO_9 hb; replace HB := kH _ hb; (try clear hb); (try clear hb2); (try clear hk); (try clear hi)))
      go_ret
      exact ⟨by first | rfl | (simp [errW_none, errW_some] <;> rfl) | (simp [*, errW_none, errW_some] <;> rfl), hbC _⟩
     subst c105
     have H1 : ((congouref01_Uneven.f kj34 l0 l2).bind fun t498 => (if t498 = true then ((congouref01_Uneven.f kj34 l1 l2).bind fun t499 => (if t499 = true then ((congouref01_Uneven.f kj34 t452 l2).bind fun t500 => (if t500 = true then ((congouref01_Uneven.f kj34 l2 l0).bind fun t501 => (if t501 = true then ((congouref01_Uneven.f kj34 l2 l1).bind fun t502 => (if t502 = true then ((congouref01_Uneven.f kj34 l2 t462).bind fun t503 => (if t503 = true then ((congoulaw01_awake.f kj34).bind fun t504 => (some t504)) else (some false))) else ((congoulaw01_awake.f kj34).bind fun t505 => (some t505)))) else ((congoulaw01_awake.f kj34).bind fun t506 => (some t506)))) else (some false))) else ((congouref01_Uneven.f kj34 l2 l0).bind fun t507 => (if t507 = true then ((congouref01_Uneven.f kj34 l2 l1).bind fun t508 => (if t508 = true then ((congouref01_Uneven.f kj34 l2 t462).bind fun t509 => (if t509 = true then ((congoulaw01_awake.f kj34).bind fun t510 => (some t510)) else (some false))) else ((congoulaw01_awake.f kj34).bind fun t511 => (some t511)))) else ((congoulaw01_awake.f kj34).bind fun t512 => (some t512)))))) else ((congouref01_Uneven.f kj34 l2 l0).bind fun t513 => (if t513 = true then ((congouref01_Uneven.f kj34 l2 l1).bind fun t514 => (if t514 = true then ((congouref01_Uneven.f kj34 l2 t462).bind fun t515 => (if t515 = true then ((congoulaw01_awake.f kj34).bind fun t516 => (some t516)) else (some false))) else ((congoulaw01_awake.f kj34).bind fun t517 => (some t517)))) else ((congoulaw01_awake.f kj34).bind fun t518 => (some t518)))))) = some r := by rw [if_pos rfl] at H; exact H
     clear H
     have H := H1
     clear H1
     replace H := Option.bind_eq_some_iff.mp H
     obtain ⟨t498, A1060, H⟩ := H
     replace H : (if t498 = true then ((congouref01_Uneven.f kj34 l1 l2).bind fun t499 => (if t499 = true then ((congouref01_Uneven.f kj34 t452 l2).bind fun t500 => (if t500 = true then ((congouref01_Uneven.f kj34 l2 l0).bind fun t501 => (if t501 = true then ((congouref01_Uneven.f kj34 l2 l1).bind fun t502 => (if t502 = true then ((congouref01_Uneven.f kj34 l2 t462).bind fun t503 => (if t503 = true then ((congoulaw01_awake.f kj34).bind fun t504 => (some t504)) else (some false))) else ((congoulaw01_awake.f kj34).bind fun t505 => (some t505)))) else ((congoulaw01_awake.f kj34).bind fun t506 => (some t506)))) else (some false))) else ((congouref01_Uneven.f kj34 l2 l0).bind fun t507 => (if t507 = true then ((congouref01_Uneven.f kj34 l2 l1).bind fun t508 => (if t508 = true then ((congouref01_Uneven.f kj34 l2 t462).bind fun t509 => (if t509 = true then ((congoulaw01_awake.f kj34).bind fun t510 => (some t510)) else (some false))) else ((congoulaw01_awake.f kj34).bind fun t511 => (some t511)))) else ((congoulaw01_awake.f kj34).bind fun t512 => (some t512)))))) else ((congouref01_Uneven.f kj34 l2 l0).bind fun t513 => (if t513 = true then ((congouref01_Uneven.f kj34 l2 l1).bind fun t514 => (if t514 = true then ((congouref01_Uneven.f kj34 l2 t462).bind fun t515 => (if t515 = true then ((congoulaw01_awake.f kj34).bind fun t516 => (some t516)) else (some false))) else ((congoulaw01_awake.f kj34).bind fun t517 => (some t517)))) else ((congoulaw01_awake.f kj34).bind fun t518 => (some t518))))) = some r := H
     have A106 := Aside0.mk A1060
     clear A1060
     by_cases c107 : t498 = true
     rotate_left
     ·replace c107 := Bool.eq_false_iff.mpr c107
      subst c107
      have H1 : ((congouref01_Uneven.f kj34 l2 l0).bind fun t513 => (if t513 = true then ((congouref01_Uneven.f kj34 l2 l1).bind fun t514 => (if t514 = true then ((congouref01_Uneven.f kj34 l2 t462).bind fun t515 => (if t515 = true then ((congoulaw01_awake.f kj34).bind fun t516 => (some t516)) else (some false))) else ((congoulaw01_awake.f kj34).bind fun t517 => (some t517)))) else ((congoulaw01_awake.f kj34).bind fun t518 => (some t518)))) = some r := by rw [if_neg (show ¬ (false = true) by decide)] at H; exact H
      clear H
      have H := H1
      clear H1
      replace H := Option.bind_eq_some_iff.mp H
      obtain ⟨t513, A1680, H⟩ := H
      replace H : (if t513 = true then ((congouref01_Uneven.f kj34 l2 l1).bind fun t514 => (if t514 = true then ((congouref01_Uneven.f kj34 l2 t462).bind fun t515 => (if t515 = true then ((congoulaw01_awake.f kj34).bind fun t516 => (some t516)) else (some false))) else ((congoulaw01_awake.f kj34).bind fun t517 => (some t517)))) else ((congoulaw01_awake.f kj34).bind fun t518 => (some t518))) = some r := H
      have A168 := Aside0.mk A1680
      clear A1680
      by_cases c169 : t513 = true
      rotate_left
      ·replace c169 := Bool.eq_false_iff.mpr c169
       subst c169
       have H1 : ((congoulaw01_awake.f kj34).bind fun t518 => (some t518)) = some r := by rw [if_neg (show ¬ (false = true) by decide)] at H; exact H
       clear H
       have H := H1
       clear H1
       replace H := Option.bind_eq_some_iff.mp H
       obtain ⟨t518, A1860, H⟩ := H
       replace H : (some t518) = some r := H
       have A186 := Aside0.mk A1860
       clear A1860
       obtain rfl := Option.some.inj H
       go_wp2_with (first | ((with_reducible refine gate_callee (f := 30) rfl ?_); refine gL 125 Try.func30 #[.slice A2 l2.length c2, .slice A0 l0.length c0] ?_; (with_reducible refine (congoulaw01_parts.calls kj34 _ _ l2 _ _ l0 true _ ?side1 ?side2 ?side3 ?side4 A104.out).mono ?_); (case side1 => exact kC HR2); (case side2 => exact HC2.out); (case side3 => exact kC HR0); (case side4 => exact HC0.out); rintro e w' ⟨rfl, ⟨nd, rfl⟩⟩; refine ⟨_, rfl, ?_⟩) | ((with_reducible refine gate_callee (f := 24) rfl ?_); refine gL 130 Try.func24 #[.slice A0 l0.length c0, .slice A2 l2.length c2] ?_; (with_reducible refine (congouref01_Uneven.calls kj34 _ _ l0 _ _ l2 false _ ?side1 ?side2 ?side3 ?side4 A106.out).mono ?_); (case side1 => repeat (first | exact (Kd.C_below HR0.out (hbC _)) | (with_reducible refine Kd.C_alloc ?_ _) | (with_reducible refine Kd.C_drewN ?_ _) | (with_reducible refine Kd.C_drew ?_))); (case side2 => exact HC0.out); (case side3 => repeat (first | exact (Kd.C_below HR2.out (hbC _)) | (with_reducible refine Kd.C_alloc ?_ _) | (with_reducible refine Kd.C_drewN ?_ _) | (with_reducible refine Kd.C_drew ?_))); (case side4 => exact HC2.out); rintro e w187 ⟨rfl, hb⟩; refine ⟨_, rfl, ?_⟩; replace HO_7 := kO HO_7 hb; replace HO_9 := kO HO_9 hb; replace HB := kH _ hb; (try clear hb); (try clear hb2); (try clear hk); (try clear hi)) | (go_at_call 24; (with_reducible refine (congouref01_Uneven.calls kj34 _ _ l2 _ _ l0 false _ ?side1 ?side2 ?side3 ?side4 A168.out).mono ?_); (case side1 => exact kC HR2); (case side2 => exact HC2.out); (case side3 => exact kC HR0); (case side4 => exact HC0.out); rintro e w188 ⟨rfl, hb⟩; replace HO_7 := kO HO_7 hb; replace HO_9 := kO HO_9 hb; replace HB := kH _ hb; (try clear hb); (try clear hb2); (try clear hk); (try clear hi)) | (go_at_call 21; (with_reducible refine (congoulaw01_awake.calls kj34  t518 _ A186.out).mono ?_); rintro e w189 ⟨rfl, hb⟩; replace HO_7 := kO HO_7 hb; replace HO_9 := kO HO_9 hb; replace HB := kH _ hb; (try clear hb); (try clear hb2); (try clear hk); (try clear hi)))
       go_ret
       exact ⟨by first | rfl | (simp [errW_none, errW_some] <;> rfl) | (simp [*, errW_none, errW_some] <;> rfl), hbC _⟩
      subst c169
      have H1 : ((congouref01_Uneven.f kj34 l2 l1).bind fun t514 => (if t514 = true then ((congouref01_Uneven.f kj34 l2 t462).bind fun t515 => (if t515 = true then ((congoulaw01_awake.f kj34).bind fun t516 => (some t516)) else (some false))) else ((congoulaw01_awake.f kj34).bind fun t517 => (some t517)))) = some r := by rw [if_pos rfl] at H; exact H
      clear H
      have H := H1
      clear H1
      replace H := Option.bind_eq_some_iff.mp H
      obtain ⟨t514, A1700, H⟩ := H
      replace H : (if t514 = true then ((congouref01_Uneven.f kj34 l2 t462).bind fun t515 => (if t515 = true then ((congoulaw01_awake.f kj34).bind fun t516 => (some t516)) else (some false))) else ((congoulaw01_awake.f kj34).bind fun t517 => (some t517))) = some r := H
      have A170 := Aside0.mk A1700
      clear A1700
      by_cases c171 : t514 = true
      rotate_left
      ·replace c171 := Bool.eq_false_iff.mpr c171
       subst c171
       have H1 : ((congoulaw01_awake.f kj34).bind fun t517 => (some t517)) = some r := by rw [if_neg (show ¬ (false = true) by decide)] at H; exact H
       clear H
       have H := H1
       clear H1
       replace H := Option.bind_eq_some_iff.mp H
       obtain ⟨t517, A1810, H⟩ := H
       replace H : (some t517) = some r := H
       have A181 := Aside0.mk A1810
       clear A1810
       obtain rfl := Option.some.inj H
       go_wp2_with (first | ((with_reducible refine gate_callee (f := 30) rfl ?_); refine gL 125 Try.func30 #[.slice A2 l2.length c2, .slice A0 l0.length c0] ?_; (with_reducible refine (congoulaw01_parts.calls kj34 _ _ l2 _ _ l0 true _ ?side1 ?side2 ?side3 ?side4 A104.out).mono ?_); (case side1 => exact kC HR2); (case side2 => exact HC2.out); (case side3 => exact kC HR0); (case side4 => exact HC0.out); rintro e w' ⟨rfl, ⟨nd, rfl⟩⟩; refine ⟨_, rfl, ?_⟩) | ((with_reducible refine gate_callee (f := 24) rfl ?_); refine gL 130 Try.func24 #[.slice A0 l0.length c0, .slice A2 l2.length c2] ?_; (with_reducible refine (congouref01_Uneven.calls kj34 _ _ l0 _ _ l2 false _ ?side1 ?side2 ?side3 ?side4 A106.out).mono ?_); (case side1 => repeat (first | exact (Kd.C_below HR0.out (hbC _)) | (with_reducible refine Kd.C_alloc ?_ _) | (with_reducible refine Kd.C_drewN ?_ _) | (with_reducible refine Kd.C_drew ?_))); (case side2 => exact HC0.out); (case side3 => repeat (first | exact (Kd.C_below HR2.out (hbC _)) | (with_reducible refine Kd.C_alloc ?_ _) | (with_reducible refine Kd.C_drewN ?_ _) | (with_reducible refine Kd.C_drew ?_))); (case side4 => exact HC2.out); rintro e w182 ⟨rfl, hb⟩; refine ⟨_, rfl, ?_⟩; replace HO_7 := kO HO_7 hb; replace HO_9 := kO HO_9 hb; replace HB := kH _ hb; (try clear hb); (try clear hb2); (try clear hk); (try clear hi)) | (go_at_call 24; (with_reducible refine (congouref01_Uneven.calls kj34 _ _ l2 _ _ l0 true _ ?side1 ?side2 ?side3 ?side4 A168.out).mono ?_); (case side1 => exact kC HR2); (case side2 => exact HC2.out); (case side3 => exact kC HR0); (case side4 => exact HC0.out); rintro e w183 ⟨rfl, hb⟩; replace HO_7 := kO HO_7 hb; replace HO_9 := kO HO_9 hb; replace HB := kH _ hb; (try clear hb); (try clear hb2); (try clear hk); (try clear hi)) | (go_at_call 24; (with_reducible refine (congouref01_Uneven.calls kj34 _ _ l2 _ _ l1 false _ ?side1 ?side2 ?side3 ?side4 A170.out).mono ?_); (case side1 => exact kC HR2); (case side2 => exact HC2.out); (case side3 => exact kC HR1); (case side4 => exact HC1.out); rintro e w184 ⟨rfl, hb⟩; replace HO_7 := kO HO_7 hb; replace HO_9 := kO HO_9 hb; replace HB := kH _ hb; (try clear hb); (try clear hb2); (try clear hk); (try clear hi)) | (go_at_call 21; (with_reducible refine (congoulaw01_awake.calls kj34  t517 _ A181.out).mono ?_); rintro e w185 ⟨rfl, hb⟩; replace HO_7 := kO HO_7 hb; replace HO_9 := kO HO_9 hb; replace HB := kH _ hb; (try clear hb); (try clear hb2); (try clear hk); (try clear hi)))
       go_ret
       exact ⟨by first | rfl | (simp [errW_none, errW_some] <;> rfl) | (simp [*, errW_none, errW_some] <;> rfl), hbC _⟩
      subst c171
      have H1 : ((congouref01_Uneven.f kj34 l2 t462).bind fun t515 => (if t515 = true then ((congoulaw01_awake.f kj34).bind fun t516 => (some t516)) else (some false))) = some r := by rw [if_pos rfl] at H; exact H
      clear H
      have H := H1
      clear H1
      replace H := Option.bind_eq_some_iff.mp H
      obtain ⟨t515, A1720, H⟩ := H
      replace H : (if t515 = true then ((congoulaw01_awake.f kj34).bind fun t516 => (some t516)) else (some false)) = some r := H
      have A172 := Aside0.mk A1720
      clear A1720
      by_cases c173 : t515 = true
      rotate_left
      ·replace c173 := Bool.eq_false_iff.mpr c173
       subst c173
       have H1 : (some false) = some r := by rw [if_neg (show ¬ (false = true) by decide)] at H; exact H
       clear H
       have H := H1
       clear H1
       exact absurd (H.trans (congrArg some HRT.out)) (by simp)
      subst c173
      have H1 : ((congoulaw01_awake.f kj34).bind fun t516 => (some t516)) = some r := by rw [if_pos rfl] at H; exact H
      clear H
      have H := H1
      clear H1
      replace H := Option.bind_eq_some_iff.mp H
      obtain ⟨t516, A1740, H⟩ := H
      replace H : (some t516) = some r := H
      have A174 := Aside0.mk A1740
      clear A1740
      obtain rfl := Option.some.inj H
      go_wp2_with (first | ((with_reducible refine gate_callee (f := 30) rfl ?_); refine gL 125 Try.func30 #[.slice A2 l2.length c2, .slice A0 l0.length c0] ?_; (with_reducible refine (congoulaw01_parts.calls kj34 _ _ l2 _ _ l0 true _ ?side1 ?side2 ?side3 ?side4 A104.out).mono ?_); (case side1 => exact kC HR2); (case side2 => exact HC2.out); (case side3 => exact kC HR0); (case side4 => exact HC0.out); rintro e w' ⟨rfl, ⟨nd, rfl⟩⟩; refine ⟨_, rfl, ?_⟩) | ((with_reducible refine gate_callee (f := 24) rfl ?_); refine gL 130 Try.func24 #[.slice A0 l0.length c0, .slice A2 l2.length c2] ?_; (with_reducible refine (congouref01_Uneven.calls kj34 _ _ l0 _ _ l2 false _ ?side1 ?side2 ?side3 ?side4 A106.out).mono ?_); (case side1 => repeat (first | exact (Kd.C_below HR0.out (hbC _)) | (with_reducible refine Kd.C_alloc ?_ _) | (with_reducible refine Kd.C_drewN ?_ _) | (with_reducible refine Kd.C_drew ?_))); (case side2 => exact HC0.out); (case side3 => repeat (first | exact (Kd.C_below HR2.out (hbC _)) | (with_reducible refine Kd.C_alloc ?_ _) | (with_reducible refine Kd.C_drewN ?_ _) | (with_reducible refine Kd.C_drew ?_))); (case side4 => exact HC2.out); rintro e w175 ⟨rfl, hb⟩; refine ⟨_, rfl, ?_⟩; replace HO_7 := kO HO_7 hb; replace HO_9 := kO HO_9 hb; replace HB := kH _ hb; (try clear hb); (try clear hb2); (try clear hk); (try clear hi)) | (go_at_call 24; (with_reducible refine (congouref01_Uneven.calls kj34 _ _ l2 _ _ l0 true _ ?side1 ?side2 ?side3 ?side4 A168.out).mono ?_); (case side1 => exact kC HR2); (case side2 => exact HC2.out); (case side3 => exact kC HR0); (case side4 => exact HC0.out); rintro e w176 ⟨rfl, hb⟩; replace HO_7 := kO HO_7 hb; replace HO_9 := kO HO_9 hb; replace HB := kH _ hb; (try clear hb); (try clear hb2); (try clear hk); (try clear hi)) | (go_at_call 24; (with_reducible refine (congouref01_Uneven.calls kj34 _ _ l2 _ _ l1 true _ ?side1 ?side2 ?side3 ?side4 A170.out).mono ?_); (case side1 => exact kC HR2); (case side2 => exact HC2.out); (case side3 => exact kC HR1); (case side4 => exact HC1.out); rintro e w177 ⟨rfl, hb⟩; replace HO_7 := kO HO_7 hb; replace HO_9 := kO HO_9 hb; replace HB := kH _ hb; (try clear hb); (try clear hb2); (try clear hk); (try clear hi); obtain ⟨Ao178, co178, eo178⟩ := Kd.R_slice HO_9.out; subst eo178) | (go_at_call 24; (with_reducible refine (congouref01_Uneven.calls kj34 _ _ l2 _ _ t462 true _ ?side1 ?side2 ?side3 ?side4 A172.out).mono ?_); (case side1 => exact kC HR2); (case side2 => exact HC2.out); (case side3 => exact kD (Kd.R_reads' HO_9.out).2.2); (case side4 => exact (Kd.R_reads' HO_9.out).2.1); rintro e w179 ⟨rfl, hb⟩; replace HO_7 := kO HO_7 hb; replace HO_9 := kO HO_9 hb; replace HB := kH _ hb; (try clear hb); (try clear hb2); (try clear hk); (try clear hi)) | (go_at_call 21; (with_reducible refine (congoulaw01_awake.calls kj34  t516 _ A174.out).mono ?_); rintro e w180 ⟨rfl, hb⟩; replace HO_7 := kO HO_7 hb; replace HO_9 := kO HO_9 hb; replace HB := kH _ hb; (try clear hb); (try clear hb2); (try clear hk); (try clear hi)))
      go_ret
      exact ⟨by first | rfl | (simp [errW_none, errW_some] <;> rfl) | (simp [*, errW_none, errW_some] <;> rfl), hbC _⟩
     subst c107
     have H1 : ((congouref01_Uneven.f kj34 l1 l2).bind fun t499 => (if t499 = true then ((congouref01_Uneven.f kj34 t452 l2).bind fun t500 => (if t500 = true then ((congouref01_Uneven.f kj34 l2 l0).bind fun t501 => (if t501 = true then ((congouref01_Uneven.f kj34 l2 l1).bind fun t502 => (if t502 = true then ((congouref01_Uneven.f kj34 l2 t462).bind fun t503 => (if t503 = true then ((congoulaw01_awake.f kj34).bind fun t504 => (some t504)) else (some false))) else ((congoulaw01_awake.f kj34).bind fun t505 => (some t505)))) else ((congoulaw01_awake.f kj34).bind fun t506 => (some t506)))) else (some false))) else ((congouref01_Uneven.f kj34 l2 l0).bind fun t507 => (if t507 = true then ((congouref01_Uneven.f kj34 l2 l1).bind fun t508 => (if t508 = true then ((congouref01_Uneven.f kj34 l2 t462).bind fun t509 => (if t509 = true then ((congoulaw01_awake.f kj34).bind fun t510 => (some t510)) else (some false))) else ((congoulaw01_awake.f kj34).bind fun t511 => (some t511)))) else ((congoulaw01_awake.f kj34).bind fun t512 => (some t512)))))) = some r := by rw [if_pos rfl] at H; exact H
     clear H
     have H := H1
     clear H1
     replace H := Option.bind_eq_some_iff.mp H
     obtain ⟨t499, A1080, H⟩ := H
     replace H : (if t499 = true then ((congouref01_Uneven.f kj34 t452 l2).bind fun t500 => (if t500 = true then ((congouref01_Uneven.f kj34 l2 l0).bind fun t501 => (if t501 = true then ((congouref01_Uneven.f kj34 l2 l1).bind fun t502 => (if t502 = true then ((congouref01_Uneven.f kj34 l2 t462).bind fun t503 => (if t503 = true then ((congoulaw01_awake.f kj34).bind fun t504 => (some t504)) else (some false))) else ((congoulaw01_awake.f kj34).bind fun t505 => (some t505)))) else ((congoulaw01_awake.f kj34).bind fun t506 => (some t506)))) else (some false))) else ((congouref01_Uneven.f kj34 l2 l0).bind fun t507 => (if t507 = true then ((congouref01_Uneven.f kj34 l2 l1).bind fun t508 => (if t508 = true then ((congouref01_Uneven.f kj34 l2 t462).bind fun t509 => (if t509 = true then ((congoulaw01_awake.f kj34).bind fun t510 => (some t510)) else (some false))) else ((congoulaw01_awake.f kj34).bind fun t511 => (some t511)))) else ((congoulaw01_awake.f kj34).bind fun t512 => (some t512))))) = some r := H
     have A108 := Aside0.mk A1080
     clear A1080
     by_cases c109 : t499 = true
     rotate_left
     ·replace c109 := Bool.eq_false_iff.mpr c109
      subst c109
      have H1 : ((congouref01_Uneven.f kj34 l2 l0).bind fun t507 => (if t507 = true then ((congouref01_Uneven.f kj34 l2 l1).bind fun t508 => (if t508 = true then ((congouref01_Uneven.f kj34 l2 t462).bind fun t509 => (if t509 = true then ((congoulaw01_awake.f kj34).bind fun t510 => (some t510)) else (some false))) else ((congoulaw01_awake.f kj34).bind fun t511 => (some t511)))) else ((congoulaw01_awake.f kj34).bind fun t512 => (some t512)))) = some r := by rw [if_neg (show ¬ (false = true) by decide)] at H; exact H
      clear H
      have H := H1
      clear H1
      replace H := Option.bind_eq_some_iff.mp H
      obtain ⟨t507, A1430, H⟩ := H
      replace H : (if t507 = true then ((congouref01_Uneven.f kj34 l2 l1).bind fun t508 => (if t508 = true then ((congouref01_Uneven.f kj34 l2 t462).bind fun t509 => (if t509 = true then ((congoulaw01_awake.f kj34).bind fun t510 => (some t510)) else (some false))) else ((congoulaw01_awake.f kj34).bind fun t511 => (some t511)))) else ((congoulaw01_awake.f kj34).bind fun t512 => (some t512))) = some r := H
      have A143 := Aside0.mk A1430
      clear A1430
      by_cases c144 : t507 = true
      rotate_left
      ·replace c144 := Bool.eq_false_iff.mpr c144
       subst c144
       have H1 : ((congoulaw01_awake.f kj34).bind fun t512 => (some t512)) = some r := by rw [if_neg (show ¬ (false = true) by decide)] at H; exact H
       clear H
       have H := H1
       clear H1
       replace H := Option.bind_eq_some_iff.mp H
       obtain ⟨t512, A1630, H⟩ := H
       replace H : (some t512) = some r := H
       have A163 := Aside0.mk A1630
       clear A1630
       obtain rfl := Option.some.inj H
       go_wp2_with (first | ((with_reducible refine gate_callee (f := 30) rfl ?_); refine gL 125 Try.func30 #[.slice A2 l2.length c2, .slice A0 l0.length c0] ?_; (with_reducible refine (congoulaw01_parts.calls kj34 _ _ l2 _ _ l0 true _ ?side1 ?side2 ?side3 ?side4 A104.out).mono ?_); (case side1 => exact kC HR2); (case side2 => exact HC2.out); (case side3 => exact kC HR0); (case side4 => exact HC0.out); rintro e w' ⟨rfl, ⟨nd, rfl⟩⟩; refine ⟨_, rfl, ?_⟩) | ((with_reducible refine gate_callee (f := 24) rfl ?_); refine gL 130 Try.func24 #[.slice A0 l0.length c0, .slice A2 l2.length c2] ?_; (with_reducible refine (congouref01_Uneven.calls kj34 _ _ l0 _ _ l2 true _ ?side1 ?side2 ?side3 ?side4 A106.out).mono ?_); (case side1 => repeat (first | exact (Kd.C_below HR0.out (hbC _)) | (with_reducible refine Kd.C_alloc ?_ _) | (with_reducible refine Kd.C_drewN ?_ _) | (with_reducible refine Kd.C_drew ?_))); (case side2 => exact HC0.out); (case side3 => repeat (first | exact (Kd.C_below HR2.out (hbC _)) | (with_reducible refine Kd.C_alloc ?_ _) | (with_reducible refine Kd.C_drewN ?_ _) | (with_reducible refine Kd.C_drew ?_))); (case side4 => exact HC2.out); rintro e w164 ⟨rfl, hb⟩; refine ⟨_, rfl, ?_⟩; replace HO_7 := kO HO_7 hb; replace HO_9 := kO HO_9 hb; replace HB := kH _ hb; (try clear hb); (try clear hb2); (try clear hk); (try clear hi)) | (go_at_call 24; (with_reducible refine (congouref01_Uneven.calls kj34 _ _ l1 _ _ l2 false _ ?side1 ?side2 ?side3 ?side4 A108.out).mono ?_); (case side1 => exact kC HR1); (case side2 => exact HC1.out); (case side3 => exact kC HR2); (case side4 => exact HC2.out); rintro e w165 ⟨rfl, hb⟩; replace HO_7 := kO HO_7 hb; replace HO_9 := kO HO_9 hb; replace HB := kH _ hb; (try clear hb); (try clear hb2); (try clear hk); (try clear hi)) | (go_at_call 24; (with_reducible refine (congouref01_Uneven.calls kj34 _ _ l2 _ _ l0 false _ ?side1 ?side2 ?side3 ?side4 A143.out).mono ?_); (case side1 => exact kC HR2); (case side2 => exact HC2.out); (case side3 => exact kC HR0); (case side4 => exact HC0.out); rintro e w166 ⟨rfl, hb⟩; replace HO_7 := kO HO_7 hb; replace HO_9 := kO HO_9 hb; replace HB := kH _ hb; (try clear hb); (try clear hb2); (try clear hk); (try clear hi)) | (go_at_call 21; (with_reducible refine (congoulaw01_awake.calls kj34  t512 _ A163.out).mono ?_); rintro e w167 ⟨rfl, hb⟩; replace HO_7 := kO HO_7 hb; replace HO_9 := kO HO_9 hb; replace HB := kH _ hb; (try clear hb); (try clear hb2); (try clear hk); (try clear hi)))
       go_ret
       exact ⟨by first | rfl | (simp [errW_none, errW_some] <;> rfl) | (simp [*, errW_none, errW_some] <;> rfl), hbC _⟩
      subst c144
      have H1 : ((congouref01_Uneven.f kj34 l2 l1).bind fun t508 => (if t508 = true then ((congouref01_Uneven.f kj34 l2 t462).bind fun t509 => (if t509 = true then ((congoulaw01_awake.f kj34).bind fun t510 => (some t510)) else (some false))) else ((congoulaw01_awake.f kj34).bind fun t511 => (some t511)))) = some r := by rw [if_pos rfl] at H; exact H
      clear H
      have H := H1
      clear H1
      replace H := Option.bind_eq_some_iff.mp H
      obtain ⟨t508, A1450, H⟩ := H
      replace H : (if t508 = true then ((congouref01_Uneven.f kj34 l2 t462).bind fun t509 => (if t509 = true then ((congoulaw01_awake.f kj34).bind fun t510 => (some t510)) else (some false))) else ((congoulaw01_awake.f kj34).bind fun t511 => (some t511))) = some r := H
      have A145 := Aside0.mk A1450
      clear A1450
      by_cases c146 : t508 = true
      rotate_left
      ·replace c146 := Bool.eq_false_iff.mpr c146
       subst c146
       have H1 : ((congoulaw01_awake.f kj34).bind fun t511 => (some t511)) = some r := by rw [if_neg (show ¬ (false = true) by decide)] at H; exact H
       clear H
       have H := H1
       clear H1
       replace H := Option.bind_eq_some_iff.mp H
       obtain ⟨t511, A1570, H⟩ := H
       replace H : (some t511) = some r := H
       have A157 := Aside0.mk A1570
       clear A1570
       obtain rfl := Option.some.inj H
       go_wp2_with (first | ((with_reducible refine gate_callee (f := 30) rfl ?_); refine gL 125 Try.func30 #[.slice A2 l2.length c2, .slice A0 l0.length c0] ?_; (with_reducible refine (congoulaw01_parts.calls kj34 _ _ l2 _ _ l0 true _ ?side1 ?side2 ?side3 ?side4 A104.out).mono ?_); (case side1 => exact kC HR2); (case side2 => exact HC2.out); (case side3 => exact kC HR0); (case side4 => exact HC0.out); rintro e w' ⟨rfl, ⟨nd, rfl⟩⟩; refine ⟨_, rfl, ?_⟩) | ((with_reducible refine gate_callee (f := 24) rfl ?_); refine gL 130 Try.func24 #[.slice A0 l0.length c0, .slice A2 l2.length c2] ?_; (with_reducible refine (congouref01_Uneven.calls kj34 _ _ l0 _ _ l2 true _ ?side1 ?side2 ?side3 ?side4 A106.out).mono ?_); (case side1 => repeat (first | exact (Kd.C_below HR0.out (hbC _)) | (with_reducible refine Kd.C_alloc ?_ _) | (with_reducible refine Kd.C_drewN ?_ _) | (with_reducible refine Kd.C_drew ?_))); (case side2 => exact HC0.out); (case side3 => repeat (first | exact (Kd.C_below HR2.out (hbC _)) | (with_reducible refine Kd.C_alloc ?_ _) | (with_reducible refine Kd.C_drewN ?_ _) | (with_reducible refine Kd.C_drew ?_))); (case side4 => exact HC2.out); rintro e w158 ⟨rfl, hb⟩; refine ⟨_, rfl, ?_⟩; replace HO_7 := kO HO_7 hb; replace HO_9 := kO HO_9 hb; replace HB := kH _ hb; (try clear hb); (try clear hb2); (try clear hk); (try clear hi)) | (go_at_call 24; (with_reducible refine (congouref01_Uneven.calls kj34 _ _ l1 _ _ l2 false _ ?side1 ?side2 ?side3 ?side4 A108.out).mono ?_); (case side1 => exact kC HR1); (case side2 => exact HC1.out); (case side3 => exact kC HR2); (case side4 => exact HC2.out); rintro e w159 ⟨rfl, hb⟩; replace HO_7 := kO HO_7 hb; replace HO_9 := kO HO_9 hb; replace HB := kH _ hb; (try clear hb); (try clear hb2); (try clear hk); (try clear hi)) | (go_at_call 24; (with_reducible refine (congouref01_Uneven.calls kj34 _ _ l2 _ _ l0 true _ ?side1 ?side2 ?side3 ?side4 A143.out).mono ?_); (case side1 => exact kC HR2); (case side2 => exact HC2.out); (case side3 => exact kC HR0); (case side4 => exact HC0.out); rintro e w160 ⟨rfl, hb⟩; replace HO_7 := kO HO_7 hb; replace HO_9 := kO HO_9 hb; replace HB := kH _ hb; (try clear hb); (try clear hb2); (try clear hk); (try clear hi)) | (go_at_call 24; (with_reducible refine (congouref01_Uneven.calls kj34 _ _ l2 _ _ l1 false _ ?side1 ?side2 ?side3 ?side4 A145.out).mono ?_); (case side1 => exact kC HR2); (case side2 => exact HC2.out); (case side3 => exact kC HR1); (case side4 => exact HC1.out); rintro e w161 ⟨rfl, hb⟩; replace HO_7 := kO HO_7 hb; replace HO_9 := kO HO_9 hb; replace HB := kH _ hb; (try clear hb); (try clear hb2); (try clear hk); (try clear hi)) | (go_at_call 21; (with_reducible refine (congoulaw01_awake.calls kj34  t511 _ A157.out).mono ?_); rintro e w162 ⟨rfl, hb⟩; replace HO_7 := kO HO_7 hb; replace HO_9 := kO HO_9 hb; replace HB := kH _ hb; (try clear hb); (try clear hb2); (try clear hk); (try clear hi)))
       go_ret
       exact ⟨by first | rfl | (simp [errW_none, errW_some] <;> rfl) | (simp [*, errW_none, errW_some] <;> rfl), hbC _⟩
      subst c146
      have H1 : ((congouref01_Uneven.f kj34 l2 t462).bind fun t509 => (if t509 = true then ((congoulaw01_awake.f kj34).bind fun t510 => (some t510)) else (some false))) = some r := by rw [if_pos rfl] at H; exact H
      clear H
      have H := H1
      clear H1
      replace H := Option.bind_eq_some_iff.mp H
      obtain ⟨t509, A1470, H⟩ := H
      replace H : (if t509 = true then ((congoulaw01_awake.f kj34).bind fun t510 => (some t510)) else (some false)) = some r := H
      have A147 := Aside0.mk A1470
      clear A1470
      by_cases c148 : t509 = true
      rotate_left
      ·replace c148 := Bool.eq_false_iff.mpr c148
       subst c148
       have H1 : (some false) = some r := by rw [if_neg (show ¬ (false = true) by decide)] at H; exact H
       clear H
       have H := H1
       clear H1
       exact absurd (H.trans (congrArg some HRT.out)) (by simp)
      subst c148
      have H1 : ((congoulaw01_awake.f kj34).bind fun t510 => (some t510)) = some r := by rw [if_pos rfl] at H; exact H
      clear H
      have H := H1
      clear H1
      replace H := Option.bind_eq_some_iff.mp H
      obtain ⟨t510, A1490, H⟩ := H
      replace H : (some t510) = some r := H
      have A149 := Aside0.mk A1490
      clear A1490
      obtain rfl := Option.some.inj H
      go_wp2_with (first | ((with_reducible refine gate_callee (f := 30) rfl ?_); refine gL 125 Try.func30 #[.slice A2 l2.length c2, .slice A0 l0.length c0] ?_; (with_reducible refine (congoulaw01_parts.calls kj34 _ _ l2 _ _ l0 true _ ?side1 ?side2 ?side3 ?side4 A104.out).mono ?_); (case side1 => exact kC HR2); (case side2 => exact HC2.out); (case side3 => exact kC HR0); (case side4 => exact HC0.out); rintro e w' ⟨rfl, ⟨nd, rfl⟩⟩; refine ⟨_, rfl, ?_⟩) | ((with_reducible refine gate_callee (f := 24) rfl ?_); refine gL 130 Try.func24 #[.slice A0 l0.length c0, .slice A2 l2.length c2] ?_; (with_reducible refine (congouref01_Uneven.calls kj34 _ _ l0 _ _ l2 true _ ?side1 ?side2 ?side3 ?side4 A106.out).mono ?_); (case side1 => repeat (first | exact (Kd.C_below HR0.out (hbC _)) | (with_reducible refine Kd.C_alloc ?_ _) | (with_reducible refine Kd.C_drewN ?_ _) | (with_reducible refine Kd.C_drew ?_))); (case side2 => exact HC0.out); (case side3 => repeat (first | exact (Kd.C_below HR2.out (hbC _)) | (with_reducible refine Kd.C_alloc ?_ _) | (with_reducible refine Kd.C_drewN ?_ _) | (with_reducible refine Kd.C_drew ?_))); (case side4 => exact HC2.out); rintro e w150 ⟨rfl, hb⟩; refine ⟨_, rfl, ?_⟩; replace HO_7 := kO HO_7 hb; replace HO_9 := kO HO_9 hb; replace HB := kH _ hb; (try clear hb); (try clear hb2); (try clear hk); (try clear hi)) | (go_at_call 24; (with_reducible refine (congouref01_Uneven.calls kj34 _ _ l1 _ _ l2 false _ ?side1 ?side2 ?side3 ?side4 A108.out).mono ?_); (case side1 => exact kC HR1); (case side2 => exact HC1.out); (case side3 => exact kC HR2); (case side4 => exact HC2.out); rintro e w151 ⟨rfl, hb⟩; replace HO_7 := kO HO_7 hb; replace HO_9 := kO HO_9 hb; replace HB := kH _ hb; (try clear hb); (try clear hb2); (try clear hk); (try clear hi)) | (go_at_call 24; (with_reducible refine (congouref01_Uneven.calls kj34 _ _ l2 _ _ l0 true _ ?side1 ?side2 ?side3 ?side4 A143.out).mono ?_); (case side1 => exact kC HR2); (case side2 => exact HC2.out); (case side3 => exact kC HR0); (case side4 => exact HC0.out); rintro e w152 ⟨rfl, hb⟩; replace HO_7 := kO HO_7 hb; replace HO_9 := kO HO_9 hb; replace HB := kH _ hb; (try clear hb); (try clear hb2); (try clear hk); (try clear hi)) | (go_at_call 24; (with_reducible refine (congouref01_Uneven.calls kj34 _ _ l2 _ _ l1 true _ ?side1 ?side2 ?side3 ?side4 A145.out).mono ?_); (case side1 => exact kC HR2); (case side2 => exact HC2.out); (case side3 => exact kC HR1); (case side4 => exact HC1.out); rintro e w153 ⟨rfl, hb⟩; replace HO_7 := kO HO_7 hb; replace HO_9 := kO HO_9 hb; replace HB := kH _ hb; (try clear hb); (try clear hb2); (try clear hk); (try clear hi); obtain ⟨Ao154, co154, eo154⟩ := Kd.R_slice HO_9.out; subst eo154) | (go_at_call 24; (with_reducible refine (congouref01_Uneven.calls kj34 _ _ l2 _ _ t462 true _ ?side1 ?side2 ?side3 ?side4 A147.out).mono ?_); (case side1 => exact kC HR2); (case side2 => exact HC2.out); (case side3 => exact kD (Kd.R_reads' HO_9.out).2.2); (case side4 => exact (Kd.R_reads' HO_9.out).2.1); rintro e w155 ⟨rfl, hb⟩; replace HO_7 := kO HO_7 hb; replace HO_9 := kO HO_9 hb; replace HB := kH _ hb; (try clear hb); (try clear hb2); (try clear hk); (try clear hi)) | (go_at_call 21; (with_reducible refine (congoulaw01_awake.calls kj34  t510 _ A149.out).mono ?_); rintro e w156 ⟨rfl, hb⟩; replace HO_7 := kO HO_7 hb; replace HO_9 := kO HO_9 hb; replace HB := kH _ hb; (try clear hb); (try clear hb2); (try clear hk); (try clear hi)))
      go_ret
      exact ⟨by first | rfl | (simp [errW_none, errW_some] <;> rfl) | (simp [*, errW_none, errW_some] <;> rfl), hbC _⟩
     subst c109
     have H1 : ((congouref01_Uneven.f kj34 t452 l2).bind fun t500 => (if t500 = true then ((congouref01_Uneven.f kj34 l2 l0).bind fun t501 => (if t501 = true then ((congouref01_Uneven.f kj34 l2 l1).bind fun t502 => (if t502 = true then ((congouref01_Uneven.f kj34 l2 t462).bind fun t503 => (if t503 = true then ((congoulaw01_awake.f kj34).bind fun t504 => (some t504)) else (some false))) else ((congoulaw01_awake.f kj34).bind fun t505 => (some t505)))) else ((congoulaw01_awake.f kj34).bind fun t506 => (some t506)))) else (some false))) = some r := by rw [if_pos rfl] at H; exact H
     clear H
     have H := H1
     clear H1
     replace H := Option.bind_eq_some_iff.mp H
     obtain ⟨t500, A1100, H⟩ := H
     replace H : (if t500 = true then ((congouref01_Uneven.f kj34 l2 l0).bind fun t501 => (if t501 = true then ((congouref01_Uneven.f kj34 l2 l1).bind fun t502 => (if t502 = true then ((congouref01_Uneven.f kj34 l2 t462).bind fun t503 => (if t503 = true then ((congoulaw01_awake.f kj34).bind fun t504 => (some t504)) else (some false))) else ((congoulaw01_awake.f kj34).bind fun t505 => (some t505)))) else ((congoulaw01_awake.f kj34).bind fun t506 => (some t506)))) else (some false)) = some r := H
     have A110 := Aside0.mk A1100
     clear A1100
     by_cases c111 : t500 = true
     rotate_left
     ·replace c111 := Bool.eq_false_iff.mpr c111
      subst c111
      have H1 : (some false) = some r := by rw [if_neg (show ¬ (false = true) by decide)] at H; exact H
      clear H
      have H := H1
      clear H1
      exact absurd (H.trans (congrArg some HRT.out)) (by simp)
     subst c111
     have H1 : ((congouref01_Uneven.f kj34 l2 l0).bind fun t501 => (if t501 = true then ((congouref01_Uneven.f kj34 l2 l1).bind fun t502 => (if t502 = true then ((congouref01_Uneven.f kj34 l2 t462).bind fun t503 => (if t503 = true then ((congoulaw01_awake.f kj34).bind fun t504 => (some t504)) else (some false))) else ((congoulaw01_awake.f kj34).bind fun t505 => (some t505)))) else ((congoulaw01_awake.f kj34).bind fun t506 => (some t506)))) = some r := by rw [if_pos rfl] at H; exact H
     clear H
     have H := H1
     clear H1
     replace H := Option.bind_eq_some_iff.mp H
     obtain ⟨t501, A1120, H⟩ := H
     replace H : (if t501 = true then ((congouref01_Uneven.f kj34 l2 l1).bind fun t502 => (if t502 = true then ((congouref01_Uneven.f kj34 l2 t462).bind fun t503 => (if t503 = true then ((congoulaw01_awake.f kj34).bind fun t504 => (some t504)) else (some false))) else ((congoulaw01_awake.f kj34).bind fun t505 => (some t505)))) else ((congoulaw01_awake.f kj34).bind fun t506 => (some t506))) = some r := H
     have A112 := Aside0.mk A1120
     clear A1120
     by_cases c113 : t501 = true
     rotate_left
     ·replace c113 := Bool.eq_false_iff.mpr c113
      subst c113
      have H1 : ((congoulaw01_awake.f kj34).bind fun t506 => (some t506)) = some r := by rw [if_neg (show ¬ (false = true) by decide)] at H; exact H
      clear H
      have H := H1
      clear H1
      replace H := Option.bind_eq_some_iff.mp H
      obtain ⟨t506, A1360, H⟩ := H
      replace H : (some t506) = some r := H
      have A136 := Aside0.mk A1360
      clear A1360
      obtain rfl := Option.some.inj H
      go_wp2_with (first | ((with_reducible refine gate_callee (f := 30) rfl ?_); refine gL 125 Try.func30 #[.slice A2 l2.length c2, .slice A0 l0.length c0] ?_; (with_reducible refine (congoulaw01_parts.calls kj34 _ _ l2 _ _ l0 true _ ?side1 ?side2 ?side3 ?side4 A104.out).mono ?_); (case side1 => exact kC HR2); (case side2 => exact HC2.out); (case side3 => exact kC HR0); (case side4 => exact HC0.out); rintro e w' ⟨rfl, ⟨nd, rfl⟩⟩; refine ⟨_, rfl, ?_⟩) | ((with_reducible refine gate_callee (f := 24) rfl ?_); refine gL 130 Try.func24 #[.slice A0 l0.length c0, .slice A2 l2.length c2] ?_; (with_reducible refine (congouref01_Uneven.calls kj34 _ _ l0 _ _ l2 true _ ?side1 ?side2 ?side3 ?side4 A106.out).mono ?_); (case side1 => repeat (first | exact (Kd.C_below HR0.out (hbC _)) | (with_reducible refine Kd.C_alloc ?_ _) | (with_reducible refine Kd.C_drewN ?_ _) | (with_reducible refine Kd.C_drew ?_))); (case side2 => exact HC0.out); (case side3 => repeat (first | exact (Kd.C_below HR2.out (hbC _)) | (with_reducible refine Kd.C_alloc ?_ _) | (with_reducible refine Kd.C_drewN ?_ _) | (with_reducible refine Kd.C_drew ?_))); (case side4 => exact HC2.out); rintro e w137 ⟨rfl, hb⟩; refine ⟨_, rfl, ?_⟩; replace HO_7 := kO HO_7 hb; replace HO_9 := kO HO_9 hb; replace HB := kH _ hb; (try clear hb); (try clear hb2); (try clear hk); (try clear hi)) | (go_at_call 24; (with_reducible refine (congouref01_Uneven.calls kj34 _ _ l1 _ _ l2 true _ ?side1 ?side2 ?side3 ?side4 A108.out).mono ?_); (case side1 => exact kC HR1); (case side2 => exact HC1.out); (case side3 => exact kC HR2); (case side4 => exact HC2.out); rintro e w138 ⟨rfl, hb⟩; replace HO_7 := kO HO_7 hb; replace HO_9 := kO HO_9 hb; replace HB := kH _ hb; (try clear hb); (try clear hb2); (try clear hk); (try clear hi); obtain ⟨Ao139, co139, eo139⟩ := Kd.R_slice HO_7.out; subst eo139) | (go_at_call 24; (with_reducible refine (congouref01_Uneven.calls kj34 _ _ t452 _ _ l2 true _ ?side1 ?side2 ?side3 ?side4 A110.out).mono ?_); (case side1 => exact kD (Kd.R_reads' HO_7.out).2.2); (case side2 => exact (Kd.R_reads' HO_7.out).2.1); (case side3 => exact kC HR2); (case side4 => exact HC2.out); rintro e w140 ⟨rfl, hb⟩; replace HO_7 := kO HO_7 hb; replace HO_9 := kO HO_9 hb; replace HB := kH _ hb; (try clear hb); (try clear hb2); (try clear hk); (try clear hi)) | (go_at_call 24; (with_reducible refine (congouref01_Uneven.calls kj34 _ _ l2 _ _ l0 false _ ?side1 ?side2 ?side3 ?side4 A112.out).mono ?_); (case side1 => exact kC HR2); (case side2 => exact HC2.out); (case side3 => exact kC HR0); (case side4 => exact HC0.out); rintro e w141 ⟨rfl, hb⟩; replace HO_7 := kO HO_7 hb; replace HO_9 := kO HO_9 hb; replace HB := kH _ hb; (try clear hb); (try clear hb2); (try clear hk); (try clear hi)) | (go_at_call 21; (with_reducible refine (congoulaw01_awake.calls kj34  t506 _ A136.out).mono ?_); rintro e w142 ⟨rfl, hb⟩; replace HO_7 := kO HO_7 hb; replace HO_9 := kO HO_9 hb; replace HB := kH _ hb; (try clear hb); (try clear hb2); (try clear hk); (try clear hi)))
      go_ret
      exact ⟨by first | rfl | (simp [errW_none, errW_some] <;> rfl) | (simp [*, errW_none, errW_some] <;> rfl), hbC _⟩
     subst c113
     have H1 : ((congouref01_Uneven.f kj34 l2 l1).bind fun t502 => (if t502 = true then ((congouref01_Uneven.f kj34 l2 t462).bind fun t503 => (if t503 = true then ((congoulaw01_awake.f kj34).bind fun t504 => (some t504)) else (some false))) else ((congoulaw01_awake.f kj34).bind fun t505 => (some t505)))) = some r := by rw [if_pos rfl] at H; exact H
     clear H
     have H := H1
     clear H1
     replace H := Option.bind_eq_some_iff.mp H
     obtain ⟨t502, A1140, H⟩ := H
     replace H : (if t502 = true then ((congouref01_Uneven.f kj34 l2 t462).bind fun t503 => (if t503 = true then ((congoulaw01_awake.f kj34).bind fun t504 => (some t504)) else (some false))) else ((congoulaw01_awake.f kj34).bind fun t505 => (some t505))) = some r := H
     have A114 := Aside0.mk A1140
     clear A1140
     by_cases c115 : t502 = true
     rotate_left
     ·replace c115 := Bool.eq_false_iff.mpr c115
      subst c115
      have H1 : ((congoulaw01_awake.f kj34).bind fun t505 => (some t505)) = some r := by rw [if_neg (show ¬ (false = true) by decide)] at H; exact H
      clear H
      have H := H1
      clear H1
      replace H := Option.bind_eq_some_iff.mp H
      obtain ⟨t505, A1280, H⟩ := H
      replace H : (some t505) = some r := H
      have A128 := Aside0.mk A1280
      clear A1280
      obtain rfl := Option.some.inj H
      go_wp2_with (first | ((with_reducible refine gate_callee (f := 30) rfl ?_); refine gL 125 Try.func30 #[.slice A2 l2.length c2, .slice A0 l0.length c0] ?_; (with_reducible refine (congoulaw01_parts.calls kj34 _ _ l2 _ _ l0 true _ ?side1 ?side2 ?side3 ?side4 A104.out).mono ?_); (case side1 => exact kC HR2); (case side2 => exact HC2.out); (case side3 => exact kC HR0); (case side4 => exact HC0.out); rintro e w' ⟨rfl, ⟨nd, rfl⟩⟩; refine ⟨_, rfl, ?_⟩) | ((with_reducible refine gate_callee (f := 24) rfl ?_); refine gL 130 Try.func24 #[.slice A0 l0.length c0, .slice A2 l2.length c2] ?_; (with_reducible refine (congouref01_Uneven.calls kj34 _ _ l0 _ _ l2 true _ ?side1 ?side2 ?side3 ?side4 A106.out).mono ?_); (case side1 => repeat (first | exact (Kd.C_below HR0.out (hbC _)) | (with_reducible refine Kd.C_alloc ?_ _) | (with_reducible refine Kd.C_drewN ?_ _) | (with_reducible refine Kd.C_drew ?_))); (case side2 => exact HC0.out); (case side3 => repeat (first | exact (Kd.C_below HR2.out (hbC _)) | (with_reducible refine Kd.C_alloc ?_ _) | (with_reducible refine Kd.C_drewN ?_ _) | (with_reducible refine Kd.C_drew ?_))); (case side4 => exact HC2.out); rintro e w129 ⟨rfl, hb⟩; refine ⟨_, rfl, ?_⟩; replace HO_7 := kO HO_7 hb; replace HO_9 := kO HO_9 hb; replace HB := kH _ hb; (try clear hb); (try clear hb2); (try clear hk); (try clear hi)) | (go_at_call 24; (with_reducible refine (congouref01_Uneven.calls kj34 _ _ l1 _ _ l2 true _ ?side1 ?side2 ?side3 ?side4 A108.out).mono ?_); (case side1 => exact kC HR1); (case side2 => exact HC1.out); (case side3 => exact kC HR2); (case side4 => exact HC2.out); rintro e w130 ⟨rfl, hb⟩; replace HO_7 := kO HO_7 hb; replace HO_9 := kO HO_9 hb; replace HB := kH _ hb; (try clear hb); (try clear hb2); (try clear hk); (try clear hi); obtain ⟨Ao131, co131, eo131⟩ := Kd.R_slice HO_7.out; subst eo131) | (go_at_call 24; (with_reducible refine (congouref01_Uneven.calls kj34 _ _ t452 _ _ l2 true _ ?side1 ?side2 ?side3 ?side4 A110.out).mono ?_); (case side1 => exact kD (Kd.R_reads' HO_7.out).2.2); (case side2 => exact (Kd.R_reads' HO_7.out).2.1); (case side3 => exact kC HR2); (case side4 => exact HC2.out); rintro e w132 ⟨rfl, hb⟩; replace HO_7 := kO HO_7 hb; replace HO_9 := kO HO_9 hb; replace HB := kH _ hb; (try clear hb); (try clear hb2); (try clear hk); (try clear hi)) | (go_at_call 24; (with_reducible refine (congouref01_Uneven.calls kj34 _ _ l2 _ _ l0 true _ ?side1 ?side2 ?side3 ?side4 A112.out).mono ?_); (case side1 => exact kC HR2); (case side2 => exact HC2.out); (case side3 => exact kC HR0); (case side4 => exact HC0.out); rintro e w133 ⟨rfl, hb⟩; replace HO_7 := kO HO_7 hb; replace HO_9 := kO HO_9 hb; replace HB := kH _ hb; (try clear hb); (try clear hb2); (try clear hk); (try clear hi)) | (go_at_call 24; (with_reducible refine (congouref01_Uneven.calls kj34 _ _ l2 _ _ l1 false _ ?side1 ?side2 ?side3 ?side4 A114.out).mono ?_); (case side1 => exact kC HR2); (case side2 => exact HC2.out); (case side3 => exact kC HR1); (case side4 => exact HC1.out); rintro e w134 ⟨rfl, hb⟩; replace HO_7 := kO HO_7 hb; replace HO_9 := kO HO_9 hb; replace HB := kH _ hb; (try clear hb); (try clear hb2); (try clear hk); (try clear hi)) | (go_at_call 21; (with_reducible refine (congoulaw01_awake.calls kj34  t505 _ A128.out).mono ?_); rintro e w135 ⟨rfl, hb⟩; replace HO_7 := kO HO_7 hb; replace HO_9 := kO HO_9 hb; replace HB := kH _ hb; (try clear hb); (try clear hb2); (try clear hk); (try clear hi)))
      go_ret
      exact ⟨by first | rfl | (simp [errW_none, errW_some] <;> rfl) | (simp [*, errW_none, errW_some] <;> rfl), hbC _⟩
     subst c115
     have H1 : ((congouref01_Uneven.f kj34 l2 t462).bind fun t503 => (if t503 = true then ((congoulaw01_awake.f kj34).bind fun t504 => (some t504)) else (some false))) = some r := by rw [if_pos rfl] at H; exact H
     clear H
     have H := H1
     clear H1
     replace H := Option.bind_eq_some_iff.mp H
     obtain ⟨t503, A1160, H⟩ := H
     replace H : (if t503 = true then ((congoulaw01_awake.f kj34).bind fun t504 => (some t504)) else (some false)) = some r := H
     have A116 := Aside0.mk A1160
     clear A1160
     by_cases c117 : t503 = true
     rotate_left
     ·replace c117 := Bool.eq_false_iff.mpr c117
      subst c117
      have H1 : (some false) = some r := by rw [if_neg (show ¬ (false = true) by decide)] at H; exact H
      clear H
      have H := H1
      clear H1
      exact absurd (H.trans (congrArg some HRT.out)) (by simp)
     subst c117
     have H1 : ((congoulaw01_awake.f kj34).bind fun t504 => (some t504)) = some r := by rw [if_pos rfl] at H; exact H
     clear H
     have H := H1
     clear H1
     replace H := Option.bind_eq_some_iff.mp H
     obtain ⟨t504, A1180, H⟩ := H
     replace H : (some t504) = some r := H
     have A118 := Aside0.mk A1180
     clear A1180
     obtain rfl := Option.some.inj H
     go_wp2_with (first | ((with_reducible refine gate_callee (f := 30) rfl ?_); refine gL 125 Try.func30 #[.slice A2 l2.length c2, .slice A0 l0.length c0] ?_; (with_reducible refine (congoulaw01_parts.calls kj34 _ _ l2 _ _ l0 true _ ?side1 ?side2 ?side3 ?side4 A104.out).mono ?_); (case side1 => exact kC HR2); (case side2 => exact HC2.out); (case side3 => exact kC HR0); (case side4 => exact HC0.out); rintro e w' ⟨rfl, ⟨nd, rfl⟩⟩; refine ⟨_, rfl, ?_⟩) | ((with_reducible refine gate_callee (f := 24) rfl ?_); refine gL 130 Try.func24 #[.slice A0 l0.length c0, .slice A2 l2.length c2] ?_; (with_reducible refine (congouref01_Uneven.calls kj34 _ _ l0 _ _ l2 true _ ?side1 ?side2 ?side3 ?side4 A106.out).mono ?_); (case side1 => repeat (first | exact (Kd.C_below HR0.out (hbC _)) | (with_reducible refine Kd.C_alloc ?_ _) | (with_reducible refine Kd.C_drewN ?_ _) | (with_reducible refine Kd.C_drew ?_))); (case side2 => exact HC0.out); (case side3 => repeat (first | exact (Kd.C_below HR2.out (hbC _)) | (with_reducible refine Kd.C_alloc ?_ _) | (with_reducible refine Kd.C_drewN ?_ _) | (with_reducible refine Kd.C_drew ?_))); (case side4 => exact HC2.out); rintro e w119 ⟨rfl, hb⟩; refine ⟨_, rfl, ?_⟩; replace HO_7 := kO HO_7 hb; replace HO_9 := kO HO_9 hb; replace HB := kH _ hb; (try clear hb); (try clear hb2); (try clear hk); (try clear hi)) | (go_at_call 24; (with_reducible refine (congouref01_Uneven.calls kj34 _ _ l1 _ _ l2 true _ ?side1 ?side2 ?side3 ?side4 A108.out).mono ?_); (case side1 => exact kC HR1); (case side2 => exact HC1.out); (case side3 => exact kC HR2); (case side4 => exact HC2.out); rintro e w120 ⟨rfl, hb⟩; replace HO_7 := kO HO_7 hb; replace HO_9 := kO HO_9 hb; replace HB := kH _ hb; (try clear hb); (try clear hb2); (try clear hk); (try clear hi); obtain ⟨Ao121, co121, eo121⟩ := Kd.R_slice HO_7.out; subst eo121) | (go_at_call 24; (with_reducible refine (congouref01_Uneven.calls kj34 _ _ t452 _ _ l2 true _ ?side1 ?side2 ?side3 ?side4 A110.out).mono ?_); (case side1 => exact kD (Kd.R_reads' HO_7.out).2.2); (case side2 => exact (Kd.R_reads' HO_7.out).2.1); (case side3 => exact kC HR2); (case side4 => exact HC2.out); rintro e w122 ⟨rfl, hb⟩; replace HO_7 := kO HO_7 hb; replace HO_9 := kO HO_9 hb; replace HB := kH _ hb; (try clear hb); (try clear hb2); (try clear hk); (try clear hi)) | (go_at_call 24; (with_reducible refine (congouref01_Uneven.calls kj34 _ _ l2 _ _ l0 true _ ?side1 ?side2 ?side3 ?side4 A112.out).mono ?_); (case side1 => exact kC HR2); (case side2 => exact HC2.out); (case side3 => exact kC HR0); (case side4 => exact HC0.out); rintro e w123 ⟨rfl, hb⟩; replace HO_7 := kO HO_7 hb; replace HO_9 := kO HO_9 hb; replace HB := kH _ hb; (try clear hb); (try clear hb2); (try clear hk); (try clear hi)) | (go_at_call 24; (with_reducible refine (congouref01_Uneven.calls kj34 _ _ l2 _ _ l1 true _ ?side1 ?side2 ?side3 ?side4 A114.out).mono ?_); (case side1 => exact kC HR2); (case side2 => exact HC2.out); (case side3 => exact kC HR1); (case side4 => exact HC1.out); rintro e w124 ⟨rfl, hb⟩; replace HO_7 := kO HO_7 hb; replace HO_9 := kO HO_9 hb; replace HB := kH _ hb; (try clear hb); (try clear hb2); (try clear hk); (try clear hi); obtain ⟨Ao125, co125, eo125⟩ := Kd.R_slice HO_9.out; subst eo125) | (go_at_call 24; (with_reducible refine (congouref01_Uneven.calls kj34 _ _ l2 _ _ t462 true _ ?side1 ?side2 ?side3 ?side4 A116.out).mono ?_); (case side1 => exact kC HR2); (case side2 => exact HC2.out); (case side3 => exact kD (Kd.R_reads' HO_9.out).2.2); (case side4 => exact (Kd.R_reads' HO_9.out).2.1); rintro e w126 ⟨rfl, hb⟩; replace HO_7 := kO HO_7 hb; replace HO_9 := kO HO_9 hb; replace HB := kH _ hb; (try clear hb); (try clear hb2); (try clear hk); (try clear hi)) | (go_at_call 21; (with_reducible refine (congoulaw01_awake.calls kj34  t504 _ A118.out).mono ?_); rintro e w127 ⟨rfl, hb⟩; replace HO_7 := kO HO_7 hb; replace HO_9 := kO HO_9 hb; replace HB := kH _ hb; (try clear hb); (try clear hb2); (try clear hk); (try clear hi)))
     go_ret
     exact ⟨by first | rfl | (simp [errW_none, errW_some] <;> rfl) | (simp [*, errW_none, errW_some] <;> rfl), hbC _⟩

/-- THE ONE PURE STATEMENT of congoulaw01_SharesLattice: yours. -/
def congoulaw01_SharesLattice.Pure : Prop := ∀ (l0 : List Int) (l1 : List Int) (l2 : List Int), l0.length ≤ maxLen → l0.length * 8 ≤ 140737488351232 → (∀ x ∈ l0, (Lit.int .i64 x).wf = true) → l1.length ≤ maxLen → l1.length * 8 ≤ 140737488351232 → (∀ x ∈ l1, (Lit.int .i64 x).wf = true) → l2.length ≤ maxLen → l2.length * 8 ≤ 140737488351232 → (∀ x ∈ l2, (Lit.int .i64 x).wf = true) → ∃ k, congoulaw01_SharesLattice.f k l0 l1 l2 = some true
theorem congoulaw01_SharesLattice.walk (P : congoulaw01_SharesLattice.Pure) (a0 : Option Addr) (len0 cap0 : Nat) (z0 : List Int) (a1 : Option Addr) (len1 cap1 : Nat) (z1 : List Int) (a2 : Option Addr) (len2 cap2 : Nat) (z2 : List Int) (w : World) (w0 : (a0 = none ∧ len0 = 0 ∧ cap0 = 0 ∧ z0 = []) ∨ ∃ x, a0 = some x ∧ len0 ≤ cap0 ∧ cap0 ≤ maxLen ∧ z0.length = cap0 ∧ (∀ i, i < z0.length → w.cell? (x.add i) = some (.int .i64 (z0.getD i 0))) ∧ ∀ n ∈ z0, (Lit.int .i64 n).wf = true) (y0 : len0 * 8 ≤ 140737488351232) (w1 : (a1 = none ∧ len1 = 0 ∧ cap1 = 0 ∧ z1 = []) ∨ ∃ x, a1 = some x ∧ len1 ≤ cap1 ∧ cap1 ≤ maxLen ∧ z1.length = cap1 ∧ (∀ i, i < z1.length → w.cell? (x.add i) = some (.int .i64 (z1.getD i 0))) ∧ ∀ n ∈ z1, (Lit.int .i64 n).wf = true) (y1 : len1 * 8 ≤ 140737488351232) (w2 : (a2 = none ∧ len2 = 0 ∧ cap2 = 0 ∧ z2 = []) ∨ ∃ x, a2 = some x ∧ len2 ≤ cap2 ∧ cap2 ≤ maxLen ∧ z2.length = cap2 ∧ (∀ i, i < z2.length → w.cell? (x.add i) = some (.int .i64 (z2.getD i 0))) ∧ ∀ n ∈ z2, (Lit.int .i64 n).wf = true) (y2 : len2 * 8 ≤ 140737488351232) :
  Calls Try.prog 7 #[.slice a0 len0 cap0, .slice a1 len1 cap1, .slice a2 len2 cap2] w fun e w' => e = .returned (.bool true) ∧ Below w.heap.size w w' := by
 obtain ⟨l0, rfl, hr0, hm0, hw0, hc0⟩ := ReadsInt.ofRowC w0
 obtain ⟨l1, rfl, hr1, hm1, hw1, hc1⟩ := ReadsInt.ofRowC w1
 obtain ⟨l2, rfl, hr2, hm2, hw2, hc2⟩ := ReadsInt.ofRowC w2
 obtain ⟨k, h⟩ := P l0 l1 l2 hm0 y0 hw0 hm1 y1 hw1 hm2 y2 hw2
 refine (congoulaw01_SharesLattice.calls k _ _ l0 _ _ l1 _ _ l2 true w (Kd.C_of_reads (d := (0 : Int)) (h1 := fun _ => rfl) hr0) hc0 (Kd.C_of_reads (d := (0 : Int)) (h1 := fun _ => rfl) hr1) hc1 (Kd.C_of_reads (d := (0 : Int)) (h1 := fun _ => rfl) hr2) hc2 rfl h).mono ?_
 rintro e w' ⟨rfl, hd⟩
 exact ⟨rfl, hd⟩

end Go.Proofs.Ytefmafbbnkkpjaa.X
