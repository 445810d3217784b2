-- Written by a program of this work (wip/xprint.py, over the kit's printer) out of the translation.
import Derived.Test.YtefmafbbnkkpjaaX0
import Derived.Test.YtefmafbbnkkpjaaXG1a
import Derived.Test.YtefmafbbnkkpjaaXG2a
import Derived.Test.YtefmafbbnkkpjaaXf21
import Derived.Test.YtefmafbbnkkpjaaXf24
import Derived.Test.YtefmafbbnkkpjaaXf34
import Derived.Test.YtefmafbbnkkpjaaXf35
import Derived.Test.YtefmafbbnkkpjaaXf36
import Derived.Test.YtefmafbbnkkpjaaXf38
namespace Go.Proofs.Ytefmafbbnkkpjaa.X
open Go.RowKit Go.Proofs.YtefmafbbnkkpjaaW.PrintWords Go.Proofs.YtefmafbbnkkpjaaW.PrintLast Go.Proofs.YtefmafbbnkkpjaaW.PrintMore
attribute [local go_sem] max2_int min2_int max_two min_two max_three min_three max_four min_four   -- for this text's walks alone
set_option linter.unusedVariables false
set_option linter.unusedSimpArgs false

/-! ### congoulaw01_SharesGives: function 8 -/
mutual
def congoulaw01_SharesGives.j0 : Nat → List Int → List Int → List (S78) → List (S77) → Int → Bool → Int → Bool → Option (Bool)
 | 0, _, _, _, _, _, _, _, _ => none
 | k + 1, x0, x1, x2, x7, x8, x9, x10, x61 => if x61 = true then (if (x7.length : Int) = 0 then (congoulaw01_SharesGives.j1 k x0 x1 x2 x9 x10 (x8 != 2)) else (congoulaw01_SharesGives.j1 k x0 x1 x2 x9 x10 true)) else ((congouref01_Uneven.f k x0 x1).bind fun t315 => (if t315 = true then (if x8 = 0 then ((congoulaw01_own.f k x7).bind fun t316 => ((congouref01_Turns.f k x0 x1 t316).bind fun t319 => (congoulaw01_SharesGives.j2 k x0 x1 x2 x9 x10 (!t319)))) else (congoulaw01_SharesGives.j2 k x0 x1 x2 x9 x10 true)) else (if (x7.length : Int) = 0 then (congoulaw01_SharesGives.j3 k x0 x1 x2 x9 x10 (x8 != 4)) else (congoulaw01_SharesGives.j3 k x0 x1 x2 x9 x10 true))))
def congoulaw01_SharesGives.j1 : Nat → List Int → List Int → List (S78) → Bool → Int → Bool → Option (Bool)
 | 0, _, _, _, _, _, _ => none
 | k + 1, x0, x1, x2, x9, x10, x76 => if x76 = true then (some false) else (if x10 = 0 then (if (x2.length : Int) > 60 then ((congoulaw01_awake.f k).bind fun t312 => (some t312)) else ((congouref01_Turns.f k x0 x1 x2).bind fun t313 => (if (x9 == t313) = true then ((congoulaw01_awake.f k).bind fun t314 => (some t314)) else (some false)))) else (some false))
def congoulaw01_SharesGives.j2 : Nat → List Int → List Int → List (S78) → Bool → Int → Bool → Option (Bool)
 | 0, _, _, _, _, _, _ => none
 | k + 1, x0, x1, x2, x9, x10, x60 => if x60 = true then (some false) else (if x10 = 0 then (if (x2.length : Int) > 60 then ((congoulaw01_awake.f k).bind fun t320 => (some t320)) else ((congouref01_Turns.f k x0 x1 x2).bind fun t321 => (if (x9 == t321) = true then ((congoulaw01_awake.f k).bind fun t322 => (some t322)) else (some false)))) else (some false))
def congoulaw01_SharesGives.j3 : Nat → List Int → List Int → List (S78) → Bool → Int → Bool → Option (Bool)
 | 0, _, _, _, _, _, _ => none
 | k + 1, x0, x1, x2, x9, x10, x88 => if x88 = true then (some false) else (if x10 = 0 then (if (x2.length : Int) > 60 then ((congoulaw01_awake.f k).bind fun t323 => (some t323)) else ((congouref01_Turns.f k x0 x1 x2).bind fun t324 => (if (x9 == t324) = true then ((congoulaw01_awake.f k).bind fun t325 => (some t325)) else (some false)))) else (some false))
end
def congoulaw01_SharesGives.f (k : Nat) (l0 : List Int) (l1 : List Int) (l2 : List (S78)) : Option (Bool) := (congoulaw01_list.f l0).bind fun t287 => ((congoulaw01_list.f l1).bind fun t290 => ((shares_Gives.f k t287 t290).bind fun bt293 => ((congoulaw01_list.f l0).bind fun t297 => ((congoulaw01_list.f l1).bind fun t300 => ((congoulaw01_Of.f k l2).bind fun t303 => ((shares_CheckGives.f k t297 t300 t303).bind fun bt306 => ((congouref01_Two.f k l0 l1).bind fun t308 => (if t308 = true then ((congouref01_Falling.f k l0).bind fun t310 => (if t310 = true then ((congouref01_Falling.f k l1).bind fun t311 => (congoulaw01_SharesGives.j0 k l0 l1 l2 bt293.1 bt293.2 bt306.1 bt306.2 (!t311))) else (congoulaw01_SharesGives.j0 k l0 l1 l2 bt293.1 bt293.2 bt306.1 bt306.2 true))) else (if (bt293.1.length : Int) = 0 then (if bt306.1 = true then (some false) else (if bt293.2 = 2 then (if bt306.2 = 2 then ((congoulaw01_awake.f k).bind fun t309 => (some t309)) else (some false)) else (some false))) else (some false))))))))))
theorem congoulaw01_SharesGives.mono_l : ∀ k, (∀ y0 y1 y2 y3 y4 y5 y6 y7, LeO (congoulaw01_SharesGives.j0 k y0 y1 y2 y3 y4 y5 y6 y7) (congoulaw01_SharesGives.j0 (k + 1) y0 y1 y2 y3 y4 y5 y6 y7)) ∧ (∀ y0 y1 y2 y3 y4 y5, LeO (congoulaw01_SharesGives.j1 k y0 y1 y2 y3 y4 y5) (congoulaw01_SharesGives.j1 (k + 1) y0 y1 y2 y3 y4 y5)) ∧ (∀ y0 y1 y2 y3 y4 y5, LeO (congoulaw01_SharesGives.j2 k y0 y1 y2 y3 y4 y5) (congoulaw01_SharesGives.j2 (k + 1) y0 y1 y2 y3 y4 y5)) ∧ (∀ y0 y1 y2 y3 y4 y5, LeO (congoulaw01_SharesGives.j3 k y0 y1 y2 y3 y4 y5) (congoulaw01_SharesGives.j3 (k + 1) y0 y1 y2 y3 y4 y5))
 | 0 => ⟨fun _ _ _ _ _ _ _ _ r h => by simp [congoulaw01_SharesGives.j0] at h, fun _ _ _ _ _ _ r h => by simp [congoulaw01_SharesGives.j1] at h, fun _ _ _ _ _ _ r h => by simp [congoulaw01_SharesGives.j2] at h, fun _ _ _ _ _ _ r h => by simp [congoulaw01_SharesGives.j3] at h⟩
 | k + 1 => by
  obtain ⟨ih0, ih1, ih2, ih3⟩ := congoulaw01_SharesGives.mono_l k
  refine ⟨?_, ?_, ?_, ?_⟩
  ·intro y0 y1 y2 y3 y4 y5 y6 y7
   unfold congoulaw01_SharesGives.j0
   repeat' first
   | (with_reducible exact ih0 _ _ _ _ _ _ _ _)
   | (with_reducible exact ih1 _ _ _ _ _ _)
   | (with_reducible exact ih2 _ _ _ _ _ _)
   | (with_reducible exact ih3 _ _ _ _ _ _)
   | (with_reducible exact congoulaw01_Of.mono _ _)
   | (with_reducible exact congoulaw01_awake.mono _)
   | (with_reducible exact congoulaw01_own.mono _ _)
   | (with_reducible exact congouref01_Falling.mono _ _)
   | (with_reducible exact congouref01_Turns.mono _ _ _ _)
   | (with_reducible exact congouref01_Two.mono _ _ _)
   | (with_reducible exact congouref01_Uneven.mono _ _ _)
   | (with_reducible exact shares_CheckGives.mono _ _ _ _)
   | (with_reducible exact shares_Gives.mono _ _ _)
   | (with_reducible exact LeO.refl _)
   | (with_reducible exact LeO.none _)
   | (with_reducible refine LeO.ite ?_ ?_)
   | (with_reducible refine LeO.bind ?_ (fun _ => ?_))
   | exact ih0 _ _ _ _ _ _ _ _
   | exact ih1 _ _ _ _ _ _
   | exact ih2 _ _ _ _ _ _
   | exact ih3 _ _ _ _ _ _
   | exact congoulaw01_Of.mono _ _
   | exact congoulaw01_awake.mono _
   | exact congoulaw01_own.mono _ _
   | exact congouref01_Falling.mono _ _
   | exact congouref01_Turns.mono _ _ _ _
   | exact congouref01_Two.mono _ _ _
   | exact congouref01_Uneven.mono _ _ _
   | exact shares_CheckGives.mono _ _ _ _
   | exact shares_Gives.mono _ _ _
   | exact LeO.none _
   | refine LeO.ite ?_ ?_
   | refine LeO.bind ?_ (fun _ => ?_)
  ·intro y0 y1 y2 y3 y4 y5
   unfold congoulaw01_SharesGives.j1
   repeat' first
   | (with_reducible exact ih0 _ _ _ _ _ _ _ _)
   | (with_reducible exact ih1 _ _ _ _ _ _)
   | (with_reducible exact ih2 _ _ _ _ _ _)
   | (with_reducible exact ih3 _ _ _ _ _ _)
   | (with_reducible exact congoulaw01_Of.mono _ _)
   | (with_reducible exact congoulaw01_awake.mono _)
   | (with_reducible exact congoulaw01_own.mono _ _)
   | (with_reducible exact congouref01_Falling.mono _ _)
   | (with_reducible exact congouref01_Turns.mono _ _ _ _)
   | (with_reducible exact congouref01_Two.mono _ _ _)
   | (with_reducible exact congouref01_Uneven.mono _ _ _)
   | (with_reducible exact shares_CheckGives.mono _ _ _ _)
   | (with_reducible exact shares_Gives.mono _ _ _)
   | (with_reducible exact LeO.refl _)
   | (with_reducible exact LeO.none _)
   | (with_reducible refine LeO.ite ?_ ?_)
   | (with_reducible refine LeO.bind ?_ (fun _ => ?_))
   | exact ih0 _ _ _ _ _ _ _ _
   | exact ih1 _ _ _ _ _ _
   | exact ih2 _ _ _ _ _ _
   | exact ih3 _ _ _ _ _ _
   | exact congoulaw01_Of.mono _ _
   | exact congoulaw01_awake.mono _
   | exact congoulaw01_own.mono _ _
   | exact congouref01_Falling.mono _ _
   | exact congouref01_Turns.mono _ _ _ _
   | exact congouref01_Two.mono _ _ _
   | exact congouref01_Uneven.mono _ _ _
   | exact shares_CheckGives.mono _ _ _ _
   | exact shares_Gives.mono _ _ _
   | exact LeO.none _
   | refine LeO.ite ?_ ?_
   | refine LeO.bind ?_ (fun _ => ?_)
  ·intro y0 y1 y2 y3 y4 y5
   unfold congoulaw01_SharesGives.j2
   repeat' first
   | (with_reducible exact ih0 _ _ _ _ _ _ _ _)
   | (with_reducible exact ih1 _ _ _ _ _ _)
   | (with_reducible exact ih2 _ _ _ _ _ _)
   | (with_reducible exact ih3 _ _ _ _ _ _)
   | (with_reducible exact congoulaw01_Of.mono _ _)
   | (with_reducible exact congoulaw01_awake.mono _)
   | (with_reducible exact congoulaw01_own.mono _ _)
   | (with_reducible exact congouref01_Falling.mono _ _)
   | (with_reducible exact congouref01_Turns.mono _ _ _ _)
   | (with_reducible exact congouref01_Two.mono _ _ _)
   | (with_reducible exact congouref01_Uneven.mono _ _ _)
   | (with_reducible exact shares_CheckGives.mono _ _ _ _)
   | (with_reducible exact shares_Gives.mono _ _ _)
   | (with_reducible exact LeO.refl _)
   | (with_reducible exact LeO.none _)
   | (with_reducible refine LeO.ite ?_ ?_)
   | (with_reducible refine LeO.bind ?_ (fun _ => ?_))
   | exact ih0 _ _ _ _ _ _ _ _
   | exact ih1 _ _ _ _ _ _
   | exact ih2 _ _ _ _ _ _
   | exact ih3 _ _ _ _ _ _
   | exact congoulaw01_Of.mono _ _
   | exact congoulaw01_awake.mono _
   | exact congoulaw01_own.mono _ _
   | exact congouref01_Falling.mono _ _
   | exact congouref01_Turns.mono _ _ _ _
   | exact congouref01_Two.mono _ _ _
   | exact congouref01_Uneven.mono _ _ _
   | exact shares_CheckGives.mono _ _ _ _
   | exact shares_Gives.mono _ _ _
   | exact LeO.none _
   | refine LeO.ite ?_ ?_
   | refine LeO.bind ?_ (fun _ => ?_)
  ·intro y0 y1 y2 y3 y4 y5
   unfold congoulaw01_SharesGives.j3
   repeat' first
   | (with_reducible exact ih0 _ _ _ _ _ _ _ _)
   | (with_reducible exact ih1 _ _ _ _ _ _)
   | (with_reducible exact ih2 _ _ _ _ _ _)
   | (with_reducible exact ih3 _ _ _ _ _ _)
   | (with_reducible exact congoulaw01_Of.mono _ _)
   | (with_reducible exact congoulaw01_awake.mono _)
   | (with_reducible exact congoulaw01_own.mono _ _)
   | (with_reducible exact congouref01_Falling.mono _ _)
   | (with_reducible exact congouref01_Turns.mono _ _ _ _)
   | (with_reducible exact congouref01_Two.mono _ _ _)
   | (with_reducible exact congouref01_Uneven.mono _ _ _)
   | (with_reducible exact shares_CheckGives.mono _ _ _ _)
   | (with_reducible exact shares_Gives.mono _ _ _)
   | (with_reducible exact LeO.refl _)
   | (with_reducible exact LeO.none _)
   | (with_reducible refine LeO.ite ?_ ?_)
   | (with_reducible refine LeO.bind ?_ (fun _ => ?_))
   | exact ih0 _ _ _ _ _ _ _ _
   | exact ih1 _ _ _ _ _ _
   | exact ih2 _ _ _ _ _ _
   | exact ih3 _ _ _ _ _ _
   | exact congoulaw01_Of.mono _ _
   | exact congoulaw01_awake.mono _
   | exact congoulaw01_own.mono _ _
   | exact congouref01_Falling.mono _ _
   | exact congouref01_Turns.mono _ _ _ _
   | exact congouref01_Two.mono _ _ _
   | exact congouref01_Uneven.mono _ _ _
   | exact shares_CheckGives.mono _ _ _ _
   | exact shares_Gives.mono _ _ _
   | exact LeO.none _
   | refine LeO.ite ?_ ?_
   | refine LeO.bind ?_ (fun _ => ?_)
theorem congoulaw01_SharesGives.mono : ∀ a0 a1 a2 k, LeO (congoulaw01_SharesGives.f k a0 a1 a2) (congoulaw01_SharesGives.f (k + 1) a0 a1 a2) := by
 intro a0 a1 a2 k
 obtain ⟨ih0, ih1, ih2, ih3⟩ := congoulaw01_SharesGives.mono_l k
 unfold congoulaw01_SharesGives.f
 repeat' first
   | (with_reducible exact ih0 _ _ _ _ _ _ _ _)
   | (with_reducible exact ih1 _ _ _ _ _ _)
   | (with_reducible exact ih2 _ _ _ _ _ _)
   | (with_reducible exact ih3 _ _ _ _ _ _)
   | (with_reducible exact congoulaw01_Of.mono _ _)
   | (with_reducible exact congoulaw01_awake.mono _)
   | (with_reducible exact congoulaw01_own.mono _ _)
   | (with_reducible exact congouref01_Falling.mono _ _)
   | (with_reducible exact congouref01_Turns.mono _ _ _ _)
   | (with_reducible exact congouref01_Two.mono _ _ _)
   | (with_reducible exact congouref01_Uneven.mono _ _ _)
   | (with_reducible exact shares_CheckGives.mono _ _ _ _)
   | (with_reducible exact shares_Gives.mono _ _ _)
   | (with_reducible exact LeO.refl _)
   | (with_reducible exact LeO.none _)
   | (with_reducible refine LeO.ite ?_ ?_)
   | (with_reducible refine LeO.bind ?_ (fun _ => ?_))
   | exact ih0 _ _ _ _ _ _ _ _
   | exact ih1 _ _ _ _ _ _
   | exact ih2 _ _ _ _ _ _
   | exact ih3 _ _ _ _ _ _
   | exact congoulaw01_Of.mono _ _
   | exact congoulaw01_awake.mono _
   | exact congoulaw01_own.mono _ _
   | exact congouref01_Falling.mono _ _
   | exact congouref01_Turns.mono _ _ _ _
   | exact congouref01_Two.mono _ _ _
   | exact congouref01_Uneven.mono _ _ _
   | exact shares_CheckGives.mono _ _ _ _
   | exact shares_Gives.mono _ _ _
   | exact LeO.none _
   | refine LeO.ite ?_ ?_
   | refine LeO.bind ?_ (fun _ => ?_)
set_option maxHeartbeats 8000000 in
set_option maxRecDepth 100000 in
theorem congoulaw01_SharesGives.calls (k : Nat) (A0 : Option Addr) (c0 : Nat) (l0 : List Int) (A1 : Option Addr) (c1 : Nat) (l1 : List Int) (A2 : Option Addr) (c2 : Nat) (l2 : List (S78)) (r : Bool) (w : World) (hr0 : Kd.C (Kd.int .i64) w A0 l0.length l0) (hc0 : l0.length ≤ c0) (hr1 : Kd.C (Kd.int .i64) w A1 l1.length l1) (hc1 : l1.length ≤ c1) (hr2 : Kd.C k78 w A2 l2.length l2) (hc2 : l2.length ≤ c2) (hrt : r = true) (h : congoulaw01_SharesGives.f k l0 l1 l2 = some r) :
  Calls Try.prog 8 #[.slice A0 l0.length c0, .slice A1 l1.length c1, .slice A2 l2.length c2] w fun e w' => e = .returned (.bool r) ∧ Below w.heap.size w w' := by
 have HR0 := Aside0.mk hr0
 have HC0 := Aside0.mk hc0
 clear hr0 hc0
 have HR1 := Aside0.mk hr1
 have HC1 := Aside0.mk hc1
 clear hr1 hc1
 have HR2 := Aside0.mk hr2
 have HC2 := Aside0.mk hc2
 clear hr2 hc2
 have HB := ak (Below.refl w.heap.size w)
 have H : ((congoulaw01_list.f l0).bind fun t287 => ((congoulaw01_list.f l1).bind fun t290 => ((shares_Gives.f k t287 t290).bind fun bt293 => ((congoulaw01_list.f l0).bind fun t297 => ((congoulaw01_list.f l1).bind fun t300 => ((congoulaw01_Of.f k l2).bind fun t303 => ((shares_CheckGives.f k t297 t300 t303).bind fun bt306 => ((congouref01_Two.f k l0 l1).bind fun t308 => (if t308 = true then ((congouref01_Falling.f k l0).bind fun t310 => (if t310 = true then ((congouref01_Falling.f k l1).bind fun t311 => (congoulaw01_SharesGives.j0 k l0 l1 l2 bt293.1 bt293.2 bt306.1 bt306.2 (!t311))) else (congoulaw01_SharesGives.j0 k l0 l1 l2 bt293.1 bt293.2 bt306.1 bt306.2 true))) else (if (bt293.1.length : Int) = 0 then (if bt306.1 = true then (some false) else (if bt293.2 = 2 then (if bt306.2 = 2 then ((congoulaw01_awake.f k).bind fun t309 => (some t309)) else (some false)) else (some false))) else (some false))))))))))) = some r := h
 clear h
 have HRT := Aside0.mk hrt
 clear hrt
 replace H := Option.bind_eq_some_iff.mp H
 obtain ⟨t287, A40, H⟩ := H
 replace H : ((congoulaw01_list.f l1).bind fun t290 => ((shares_Gives.f k t287 t290).bind fun bt293 => ((congoulaw01_list.f l0).bind fun t297 => ((congoulaw01_list.f l1).bind fun t300 => ((congoulaw01_Of.f k l2).bind fun t303 => ((shares_CheckGives.f k t297 t300 t303).bind fun bt306 => ((congouref01_Two.f k l0 l1).bind fun t308 => (if t308 = true then ((congouref01_Falling.f k l0).bind fun t310 => (if t310 = true then ((congouref01_Falling.f k l1).bind fun t311 => (congoulaw01_SharesGives.j0 k l0 l1 l2 bt293.1 bt293.2 bt306.1 bt306.2 (!t311))) else (congoulaw01_SharesGives.j0 k l0 l1 l2 bt293.1 bt293.2 bt306.1 bt306.2 true))) else (if (bt293.1.length : Int) = 0 then (if bt306.1 = true then (some false) else (if bt293.2 = 2 then (if bt306.2 = 2 then ((congoulaw01_awake.f k).bind fun t309 => (some t309)) else (some false)) else (some false))) else (some false)))))))))) = some r := H
 have A4 := Aside0.mk A40
 clear A40
 replace H := Option.bind_eq_some_iff.mp H
 obtain ⟨t290, A50, H⟩ := H
 replace H : ((shares_Gives.f k t287 t290).bind fun bt293 => ((congoulaw01_list.f l0).bind fun t297 => ((congoulaw01_list.f l1).bind fun t300 => ((congoulaw01_Of.f k l2).bind fun t303 => ((shares_CheckGives.f k t297 t300 t303).bind fun bt306 => ((congouref01_Two.f k l0 l1).bind fun t308 => (if t308 = true then ((congouref01_Falling.f k l0).bind fun t310 => (if t310 = true then ((congouref01_Falling.f k l1).bind fun t311 => (congoulaw01_SharesGives.j0 k l0 l1 l2 bt293.1 bt293.2 bt306.1 bt306.2 (!t311))) else (congoulaw01_SharesGives.j0 k l0 l1 l2 bt293.1 bt293.2 bt306.1 bt306.2 true))) else (if (bt293.1.length : Int) = 0 then (if bt306.1 = true then (some false) else (if bt293.2 = 2 then (if bt306.2 = 2 then ((congoulaw01_awake.f k).bind fun t309 => (some t309)) else (some false)) else (some false))) else (some false))))))))) = some r := H
 have A5 := Aside0.mk A50
 clear A50
 replace H := Option.bind_eq_some_iff.mp H
 obtain ⟨⟨t293, t296⟩, A60, H⟩ := H
 replace H : ((congoulaw01_list.f l0).bind fun t297 => ((congoulaw01_list.f l1).bind fun t300 => ((congoulaw01_Of.f k l2).bind fun t303 => ((shares_CheckGives.f k t297 t300 t303).bind fun bt306 => ((congouref01_Two.f k l0 l1).bind fun t308 => (if t308 = true then ((congouref01_Falling.f k l0).bind fun t310 => (if t310 = true then ((congouref01_Falling.f k l1).bind fun t311 => (congoulaw01_SharesGives.j0 k l0 l1 l2 t293 t296 bt306.1 bt306.2 (!t311))) else (congoulaw01_SharesGives.j0 k l0 l1 l2 t293 t296 bt306.1 bt306.2 true))) else (if (t293.length : Int) = 0 then (if bt306.1 = true then (some false) else (if t296 = 2 then (if bt306.2 = 2 then ((congoulaw01_awake.f k).bind fun t309 => (some t309)) else (some false)) else (some false))) else (some false)))))))) = some r := H
 have A6 := Aside0.mk A60
 clear A60
 replace H := Option.bind_eq_some_iff.mp H
 obtain ⟨t297, A70, H⟩ := H
 replace H : ((congoulaw01_list.f l1).bind fun t300 => ((congoulaw01_Of.f k l2).bind fun t303 => ((shares_CheckGives.f k t297 t300 t303).bind fun bt306 => ((congouref01_Two.f k l0 l1).bind fun t308 => (if t308 = true then ((congouref01_Falling.f k l0).bind fun t310 => (if t310 = true then ((congouref01_Falling.f k l1).bind fun t311 => (congoulaw01_SharesGives.j0 k l0 l1 l2 t293 t296 bt306.1 bt306.2 (!t311))) else (congoulaw01_SharesGives.j0 k l0 l1 l2 t293 t296 bt306.1 bt306.2 true))) else (if (t293.length : Int) = 0 then (if bt306.1 = true then (some false) else (if t296 = 2 then (if bt306.2 = 2 then ((congoulaw01_awake.f k).bind fun t309 => (some t309)) else (some false)) else (some false))) else (some false))))))) = some r := H
 have A7 := Aside0.mk A70
 clear A70
 replace H := Option.bind_eq_some_iff.mp H
 obtain ⟨t300, A80, H⟩ := H
 replace H : ((congoulaw01_Of.f k l2).bind fun t303 => ((shares_CheckGives.f k t297 t300 t303).bind fun bt306 => ((congouref01_Two.f k l0 l1).bind fun t308 => (if t308 = true then ((congouref01_Falling.f k l0).bind fun t310 => (if t310 = true then ((congouref01_Falling.f k l1).bind fun t311 => (congoulaw01_SharesGives.j0 k l0 l1 l2 t293 t296 bt306.1 bt306.2 (!t311))) else (congoulaw01_SharesGives.j0 k l0 l1 l2 t293 t296 bt306.1 bt306.2 true))) else (if (t293.length : Int) = 0 then (if bt306.1 = true then (some false) else (if t296 = 2 then (if bt306.2 = 2 then ((congoulaw01_awake.f k).bind fun t309 => (some t309)) else (some false)) else (some false))) else (some false)))))) = some r := H
 have A8 := Aside0.mk A80
 clear A80
 replace H := Option.bind_eq_some_iff.mp H
 obtain ⟨t303, A90, H⟩ := H
 replace H : ((shares_CheckGives.f k t297 t300 t303).bind fun bt306 => ((congouref01_Two.f k l0 l1).bind fun t308 => (if t308 = true then ((congouref01_Falling.f k l0).bind fun t310 => (if t310 = true then ((congouref01_Falling.f k l1).bind fun t311 => (congoulaw01_SharesGives.j0 k l0 l1 l2 t293 t296 bt306.1 bt306.2 (!t311))) else (congoulaw01_SharesGives.j0 k l0 l1 l2 t293 t296 bt306.1 bt306.2 true))) else (if (t293.length : Int) = 0 then (if bt306.1 = true then (some false) else (if t296 = 2 then (if bt306.2 = 2 then ((congoulaw01_awake.f k).bind fun t309 => (some t309)) else (some false)) else (some false))) else (some false))))) = some r := H
 have A9 := Aside0.mk A90
 clear A90
 replace H := Option.bind_eq_some_iff.mp H
 obtain ⟨⟨t306, t307⟩, A100, H⟩ := H
 replace H : ((congouref01_Two.f k l0 l1).bind fun t308 => (if t308 = true then ((congouref01_Falling.f k l0).bind fun t310 => (if t310 = true then ((congouref01_Falling.f k l1).bind fun t311 => (congoulaw01_SharesGives.j0 k l0 l1 l2 t293 t296 t306 t307 (!t311))) else (congoulaw01_SharesGives.j0 k l0 l1 l2 t293 t296 t306 t307 true))) else (if (t293.length : Int) = 0 then (if t306 = true then (some false) else (if t296 = 2 then (if t307 = 2 then ((congoulaw01_awake.f k).bind fun t309 => (some t309)) else (some false)) else (some false))) else (some false)))) = some r := H
 have A10 := Aside0.mk A100
 clear A100
 replace H := Option.bind_eq_some_iff.mp H
 obtain ⟨t308, A110, H⟩ := H
 replace H : (if t308 = true then ((congouref01_Falling.f k l0).bind fun t310 => (if t310 = true then ((congouref01_Falling.f k l1).bind fun t311 => (congoulaw01_SharesGives.j0 k l0 l1 l2 t293 t296 t306 t307 (!t311))) else (congoulaw01_SharesGives.j0 k l0 l1 l2 t293 t296 t306 t307 true))) else (if (t293.length : Int) = 0 then (if t306 = true then (some false) else (if t296 = 2 then (if t307 = 2 then ((congoulaw01_awake.f k).bind fun t309 => (some t309)) else (some false)) else (some false))) else (some false))) = some r := H
 have A11 := Aside0.mk A110
 clear A110
 by_cases c12 : t308 = true
 rotate_left
 ·replace c12 := Bool.eq_false_iff.mpr c12
  subst c12
  have H1 : (if (t293.length : Int) = 0 then (if t306 = true then (some false) else (if t296 = 2 then (if t307 = 2 then ((congoulaw01_awake.f k).bind fun t309 => (some t309)) else (some false)) else (some false))) else (some false)) = some r := by rw [if_neg (show ¬ (false = true) by decide)] at H; exact H
  clear H
  have H := H1
  clear H1
  by_cases c80 : (t293.length : Int) = 0
  rotate_left
  ·rw [if_neg c80] at H
   have c80b0 : ((t293.length : Int) == 0) = false := beq_eq_false_iff_ne.mpr c80
   have c80b1 : ((t293.length : Int) != 0) = true := bne_iff_ne.mpr c80
   have c80b2 : ¬ (t293 = []) := fun h_ => c80 (by rw [h_]; rfl)
   exact absurd (H.trans (congrArg some HRT.out)) (by simp)
  rw [if_pos c80] at H
  have c80b0 : ((t293.length : Int) == 0) = true := beq_iff_eq.mpr c80
  have c80b1 : ((t293.length : Int) != 0) = false := bne_eq_false_iff_eq.mpr c80
  clear c80
  by_cases c81 : t306 = true
  ·subst c81
   have H1 : (some false) = some r := by rw [if_pos rfl] at H; exact H
   clear H
   have H := H1
   clear H1
   exact absurd (H.trans (congrArg some HRT.out)) (by simp)
  replace c81 := Bool.eq_false_iff.mpr c81
  subst c81
  have H1 : (if t296 = 2 then (if t307 = 2 then ((congoulaw01_awake.f k).bind fun t309 => (some t309)) else (some false)) else (some false)) = some r := by rw [if_neg (show ¬ (false = true) by decide)] at H; exact H
  clear H
  have H := H1
  clear H1
  by_cases c82 : t296 = 2
  rotate_left
  ·rw [if_neg c82] at H
   have c82b0 : (t296 == 2) = false := beq_eq_false_iff_ne.mpr c82
   have c82b1 : (t296 != 2) = true := bne_iff_ne.mpr c82
   exact absurd (H.trans (congrArg some HRT.out)) (by simp)
  rw [if_pos c82] at H
  have c82b0 : (t296 == 2) = true := beq_iff_eq.mpr c82
  have c82b1 : (t296 != 2) = false := bne_eq_false_iff_eq.mpr c82
  clear c82
  by_cases c83 : t307 = 2
  rotate_left
  ·rw [if_neg c83] at H
   have c83b0 : (t307 == 2) = false := beq_eq_false_iff_ne.mpr c83
   have c83b1 : (t307 != 2) = true := bne_iff_ne.mpr c83
   exact absurd (H.trans (congrArg some HRT.out)) (by simp)
  rw [if_pos c83] at H
  have c83b0 : (t307 == 2) = true := beq_iff_eq.mpr c83
  have c83b1 : (t307 != 2) = false := bne_eq_false_iff_eq.mpr c83
  clear c83
  replace H := Option.bind_eq_some_iff.mp H
  obtain ⟨t309, A840, H⟩ := H
  replace H : (some t309) = some r := H
  have A84 := Aside0.mk A840
  clear A840
  obtain rfl := Option.some.inj H
  go_enter Try.func8, Try.ntmps8
  go_wp2_with (first | ((with_reducible refine gate_callee (f := 18) rfl ?_); refine gL 13 Try.func18 #[.slice A0 l0.length c0] ?_; (with_reducible refine (congoulaw01_list.calls _ _ l0 t287 _ ?side1 ?side2 A4.out).mono ?_); (case side1 => repeat (first | exact HR0.out | (with_reducible refine Kd.C_alloc ?_ _) | (with_reducible refine Kd.C_drewN ?_ _) | (with_reducible refine Kd.C_drew ?_))); (case side2 => exact HC0.out); rintro e w85 ⟨v288, rfl, ho0, hb⟩; refine ⟨_, rfl, ?_⟩; have HO289 := ak (Kd.R_lower ho0 (below_size (hbC _))); replace HB := kH _ hb; (try clear hb); (try clear hb2); (try clear hk); (try clear hi); (try clear ho0)) | ((with_reducible refine gate_callee (f := 18) rfl ?_); refine gL 15 Try.func18 #[.slice A1 l1.length c1] ?_; (with_reducible refine (congoulaw01_list.calls _ _ l1 t290 _ ?side1 ?side2 A5.out).mono ?_); (case side1 => exact kC HR1); (case side2 => exact HC1.out); rintro e w86 ⟨v291, rfl, ho0, hb⟩; refine ⟨_, rfl, ?_⟩; have HO292 := ak (Kd.R_lower (Kd.R_new' ho0 (Kd.R_lt (rC HO289))) (below_size (hbC _))); replace HO289 := ak (Kd.R_elder' (rC HO289) (Kd.R_base ho0) hb); replace HB := kH _ hb; (try clear hb); (try clear hb2); (try clear hk); (try clear hi); (try clear ho0); obtain ⟨Ao87, co87, eo87⟩ := Kd.R_slice HO289.out; subst eo87; obtain ⟨Ao88, co88, eo88⟩ := Kd.R_slice HO292.out; subst eo88) | ((with_reducible refine gate_callee (f := 34) rfl ?_); refine gL 16 Try.func34 #[.slice Ao87 t287.length co87, .slice Ao88 t290.length co88] ?_; (with_reducible refine (shares_Gives.calls k (fun k_ => some k_ = (.slice Ao87 t287.length co87 : Value).ownBlock) _ _ t287 (fun k_ => some k_ = (.slice Ao88 t290.length co88 : Value).ownBlock) _ _ t290 t293 t296 _ ?side1 ?side2 A6.out).mono ?_); (case side1 => exact Kd.R_V (Kd.R_tight rfl (HO289.out))); (case side2 => exact Kd.R_V (Kd.R_tight rfl (HO292.out))); rintro e w89 ⟨v294, rfl, ho0, hb⟩; refine ⟨_, rfl, ?_⟩; replace HO289 := kO HO289 hb; replace HO292 := kO HO292 hb; have HO295 := ak (Kd.R_lower (Kd.R_mono (ok' := fun k_ => True) ho0 (fun _ hk_ => trivial)) (below_size (hbC _))); replace HB := kH _ hb; (try clear hb); (try clear hb2); (try clear hk); (try clear hi); (try clear ho0)) | ((with_reducible refine gate_callee (f := 18) rfl ?_); refine gL 21 Try.func18 #[.slice A0 l0.length c0] ?_; (with_reducible refine (congoulaw01_list.calls _ _ l0 t297 _ ?side1 ?side2 A7.out).mono ?_); (case side1 => exact kC HR0); (case side2 => exact HC0.out); rintro e w90 ⟨v298, rfl, ho0, hb⟩; refine ⟨_, rfl, ?_⟩; replace HO295 := kO HO295 hb; have HO299 := ak (Kd.R_lower (Kd.R_new' (Kd.R_new' ho0 (Kd.R_lt (rC HO289))) (Kd.R_lt (rC HO292))) (below_size (hbC _))); replace HO289 := ak (Kd.R_elder' (rC HO289) (Kd.R_base ho0) hb); replace HO292 := ak (Kd.R_elder' (rC HO292) (Kd.R_base ho0) hb); replace HB := kH _ hb; (try clear hb); (try clear hb2); (try clear hk); (try clear hi); (try clear ho0)) | ((with_reducible refine gate_callee (f := 18) rfl ?_); refine gL 23 Try.func18 #[.slice A1 l1.length c1] ?_; (with_reducible refine (congoulaw01_list.calls _ _ l1 t300 _ ?side1 ?side2 A8.out).mono ?_); (case side1 => exact kC HR1); (case side2 => exact HC1.out); rintro e w91 ⟨v301, rfl, ho0, hb⟩; refine ⟨_, rfl, ?_⟩; replace HO295 := kO HO295 hb; have HO302 := ak (Kd.R_lower (Kd.R_new' (Kd.R_new' (Kd.R_new' ho0 (Kd.R_lt (rC HO289))) (Kd.R_lt (rC HO292))) (Kd.R_lt (rC HO299))) (below_size (hbC _))); replace HO289 := ak (Kd.R_elder' (rC HO289) (Kd.R_base ho0) hb); replace HO292 := ak (Kd.R_elder' (rC HO292) (Kd.R_base ho0) hb); replace HO299 := ak (Kd.R_elder' (rC HO299) (Kd.R_base ho0) hb); replace HB := kH _ hb; (try clear hb); (try clear hb2); (try clear hk); (try clear hi); (try clear ho0)) | ((with_reducible refine gate_callee (f := 36) rfl ?_); refine gL 25 Try.func36 #[.slice A2 l2.length c2] ?_; (with_reducible refine (congoulaw01_Of.calls k _ _ l2 t303 _ ?side1 ?side2 A9.out).mono ?_); (case side1 => exact kC HR2); (case side2 => exact HC2.out); rintro e w92 ⟨v304, rfl, ho0, hb⟩; refine ⟨_, rfl, ?_⟩; replace HO289 := kO HO289 hb; replace HO292 := kO HO292 hb; replace HO299 := kO HO299 hb; replace HO302 := kO HO302 hb; have HO305 := ak (Kd.R_lower (Kd.R_new' ho0 (Kd.R_lt (rC HO295))) (below_size (hbC _))); replace HO295 := ak (Kd.R_elder' (rC HO295) (Kd.R_base ho0) hb); replace HB := kH _ hb; (try clear hb); (try clear hb2); (try clear hk); (try clear hi); (try clear ho0); obtain ⟨Ao93, co93, eo93⟩ := Kd.R_slice HO299.out; subst eo93; obtain ⟨Ao94, co94, eo94⟩ := Kd.R_slice HO302.out; subst eo94; obtain ⟨Ao95, co95, eo95⟩ := Kd.R_slice HO305.out; subst eo95) | ((with_reducible refine gate_callee (f := 35) rfl ?_); refine gL 26 Try.func35 #[.slice Ao93 t297.length co93, .slice Ao94 t300.length co94, .slice Ao95 t303.length co95] ?_; (with_reducible refine (shares_CheckGives.calls k (fun k_ => some k_ = (.slice Ao93 t297.length co93 : Value).ownBlock) _ _ t297 (fun k_ => some k_ = (.slice Ao94 t300.length co94 : Value).ownBlock) _ _ t300 _ _ t303 false t307 _ ?side1 ?side2 ?side3 ?side4 A10.out).mono ?_); (case side1 => exact Kd.R_V (Kd.R_tight rfl (Kd.R_apart' (Kd.R_apart' (HO299.out) (Kd.R_typed HO295.out) (by decide)) (Kd.R_typed HO305.out) (by decide)))); (case side2 => exact Kd.R_V (Kd.R_tight rfl (Kd.R_apart' (Kd.R_apart' (HO302.out) (Kd.R_typed HO295.out) (by decide)) (Kd.R_typed HO305.out) (by decide)))); (case side3 => exact kD (Kd.R_reads' HO305.out).2.2); (case side4 => exact (Kd.R_reads' HO305.out).2.1); rintro e w96 ⟨rfl, hb⟩; refine ⟨_, rfl, ?_⟩; replace HO289 := kO HO289 hb; replace HO292 := kO HO292 hb; replace HO295 := kO HO295 hb; replace HO299 := kO HO299 hb; replace HO302 := kO HO302 hb; replace HO305 := kO HO305 hb; replace HB := kH _ hb; (try clear hb); (try clear hb2); (try clear hk); (try clear hi)) | ((with_reducible refine gate_callee (f := 23) rfl ?_); refine gL 31 Try.func23 #[.slice A0 l0.length c0, .slice A1 l1.length c1] ?_; (with_reducible refine (congouref01_Two.calls k _ _ l0 _ _ l1 false _ ?side1 ?side2 ?side3 ?side4 A11.out).mono ?_); (case side1 => exact kC HR0); (case side2 => exact HC0.out); (case side3 => exact kC HR1); (case side4 => exact HC1.out); rintro e w' ⟨rfl, ⟨nd, rfl⟩⟩; refine ⟨_, rfl, ?_⟩; obtain ⟨Ao97, co97, eo97⟩ := Kd.R_slice HO295.out; subst eo97) | (go_at_call 21; (with_reducible refine (congoulaw01_awake.calls k  t309 _ A84.out).mono ?_); rintro e w98 ⟨rfl, hb⟩; replace HO289 := kO HO289 hb; replace HO292 := kO HO292 hb; replace HO295 := kO HO295 hb; replace HO299 := kO HO299 hb; replace HO302 := kO HO302 hb; replace HO305 := kO HO305 hb; replace HB := kH _ hb; (try clear hb); (try clear hb2); (try clear hk); (try clear hi)))
  go_ret
  exact ⟨by first | rfl | (simp [errW_none, errW_some] <;> rfl) | (simp [*, errW_none, errW_some] <;> rfl), hbC _⟩
 subst c12
 have H1 : ((congouref01_Falling.f k l0).bind fun t310 => (if t310 = true then ((congouref01_Falling.f k l1).bind fun t311 => (congoulaw01_SharesGives.j0 k l0 l1 l2 t293 t296 t306 t307 (!t311))) else (congoulaw01_SharesGives.j0 k l0 l1 l2 t293 t296 t306 t307 true))) = some r := by rw [if_pos rfl] at H; exact H
 clear H
 have H := H1
 clear H1
 have HC13 := Aside0.mk H
 clear H
 go_enter Try.func8, Try.ntmps8
 go_upto_region 7 with (first | ((with_reducible refine gate_callee (f := 18) rfl ?_); refine gL 13 Try.func18 #[.slice A0 l0.length c0] ?_; (with_reducible refine (congoulaw01_list.calls _ _ l0 t287 _ ?side1 ?side2 A4.out).mono ?_); (case side1 => repeat (first | exact HR0.out | (with_reducible refine Kd.C_alloc ?_ _) | (with_reducible refine Kd.C_drewN ?_ _) | (with_reducible refine Kd.C_drew ?_))); (case side2 => exact HC0.out); rintro e w14 ⟨v288, rfl, ho0, hb⟩; refine ⟨_, rfl, ?_⟩; have HO289 := ak (Kd.R_lower ho0 (below_size (hbC _))); replace HB := kH _ hb; (try clear hb); (try clear hb2); (try clear hk); (try clear hi); (try clear ho0)) | ((with_reducible refine gate_callee (f := 18) rfl ?_); refine gL 15 Try.func18 #[.slice A1 l1.length c1] ?_; (with_reducible refine (congoulaw01_list.calls _ _ l1 t290 _ ?side1 ?side2 A5.out).mono ?_); (case side1 => exact kC HR1); (case side2 => exact HC1.out); rintro e w15 ⟨v291, rfl, ho0, hb⟩; refine ⟨_, rfl, ?_⟩; have HO292 := ak (Kd.R_lower (Kd.R_new' ho0 (Kd.R_lt (rC HO289))) (below_size (hbC _))); replace HO289 := ak (Kd.R_elder' (rC HO289) (Kd.R_base ho0) hb); replace HB := kH _ hb; (try clear hb); (try clear hb2); (try clear hk); (try clear hi); (try clear ho0); obtain ⟨Ao16, co16, eo16⟩ := Kd.R_slice HO289.out; subst eo16; obtain ⟨Ao17, co17, eo17⟩ := Kd.R_slice HO292.out; subst eo17) | ((with_reducible refine gate_callee (f := 34) rfl ?_); refine gL 16 Try.func34 #[.slice Ao16 t287.length co16, .slice Ao17 t290.length co17] ?_; (with_reducible refine (shares_Gives.calls k (fun k_ => some k_ = (.slice Ao16 t287.length co16 : Value).ownBlock) _ _ t287 (fun k_ => some k_ = (.slice Ao17 t290.length co17 : Value).ownBlock) _ _ t290 t293 t296 _ ?side1 ?side2 A6.out).mono ?_); (case side1 => exact Kd.R_V (Kd.R_tight rfl (HO289.out))); (case side2 => exact Kd.R_V (Kd.R_tight rfl (HO292.out))); rintro e w18 ⟨v294, rfl, ho0, hb⟩; refine ⟨_, rfl, ?_⟩; replace HO289 := kO HO289 hb; replace HO292 := kO HO292 hb; have HO295 := ak (Kd.R_lower (Kd.R_mono (ok' := fun k_ => True) ho0 (fun _ hk_ => trivial)) (below_size (hbC _))); replace HB := kH _ hb; (try clear hb); (try clear hb2); (try clear hk); (try clear hi); (try clear ho0)) | ((with_reducible refine gate_callee (f := 18) rfl ?_); refine gL 21 Try.func18 #[.slice A0 l0.length c0] ?_; (with_reducible refine (congoulaw01_list.calls _ _ l0 t297 _ ?side1 ?side2 A7.out).mono ?_); (case side1 => exact kC HR0); (case side2 => exact HC0.out); rintro e w19 ⟨v298, rfl, ho0, hb⟩; refine ⟨_, rfl, ?_⟩; replace HO295 := kO HO295 hb; have HO299 := ak (Kd.R_lower (Kd.R_new' (Kd.R_new' ho0 (Kd.R_lt (rC HO289))) (Kd.R_lt (rC HO292))) (below_size (hbC _))); replace HO289 := ak (Kd.R_elder' (rC HO289) (Kd.R_base ho0) hb); replace HO292 := ak (Kd.R_elder' (rC HO292) (Kd.R_base ho0) hb); replace HB := kH _ hb; (try clear hb); (try clear hb2); (try clear hk); (try clear hi); (try clear ho0)) | ((with_reducible refine gate_callee (f := 18) rfl ?_); refine gL 23 Try.func18 #[.slice A1 l1.length c1] ?_; (with_reducible refine (congoulaw01_list.calls _ _ l1 t300 _ ?side1 ?side2 A8.out).mono ?_); (case side1 => exact kC HR1); (case side2 => exact HC1.out); rintro e w20 ⟨v301, rfl, ho0, hb⟩; refine ⟨_, rfl, ?_⟩; replace HO295 := kO HO295 hb; have HO302 := ak (Kd.R_lower (Kd.R_new' (Kd.R_new' (Kd.R_new' ho0 (Kd.R_lt (rC HO289))) (Kd.R_lt (rC HO292))) (Kd.R_lt (rC HO299))) (below_size (hbC _))); replace HO289 := ak (Kd.R_elder' (rC HO289) (Kd.R_base ho0) hb); replace HO292 := ak (Kd.R_elder' (rC HO292) (Kd.R_base ho0) hb); replace HO299 := ak (Kd.R_elder' (rC HO299) (Kd.R_base ho0) hb); replace HB := kH _ hb; (try clear hb); (try clear hb2); (try clear hk); (try clear hi); (try clear ho0)) | ((with_reducible refine gate_callee (f := 36) rfl ?_); refine gL 25 Try.func36 #[.slice A2 l2.length c2] ?_; (with_reducible refine (congoulaw01_Of.calls k _ _ l2 t303 _ ?side1 ?side2 A9.out).mono ?_); (case side1 => exact kC HR2); (case side2 => exact HC2.out); rintro e w21 ⟨v304, rfl, ho0, hb⟩; refine ⟨_, rfl, ?_⟩; replace HO289 := kO HO289 hb; replace HO292 := kO HO292 hb; replace HO299 := kO HO299 hb; replace HO302 := kO HO302 hb; have HO305 := ak (Kd.R_lower (Kd.R_new' ho0 (Kd.R_lt (rC HO295))) (below_size (hbC _))); replace HO295 := ak (Kd.R_elder' (rC HO295) (Kd.R_base ho0) hb); replace HB := kH _ hb; (try clear hb); (try clear hb2); (try clear hk); (try clear hi); (try clear ho0); obtain ⟨Ao22, co22, eo22⟩ := Kd.R_slice HO299.out; subst eo22; obtain ⟨Ao23, co23, eo23⟩ := Kd.R_slice HO302.out; subst eo23; obtain ⟨Ao24, co24, eo24⟩ := Kd.R_slice HO305.out; subst eo24) | ((with_reducible refine gate_callee (f := 35) rfl ?_); refine gL 26 Try.func35 #[.slice Ao22 t297.length co22, .slice Ao23 t300.length co23, .slice Ao24 t303.length co24] ?_; (with_reducible refine (shares_CheckGives.calls k (fun k_ => some k_ = (.slice Ao22 t297.length co22 : Value).ownBlock) _ _ t297 (fun k_ => some k_ = (.slice Ao23 t300.length co23 : Value).ownBlock) _ _ t300 _ _ t303 t306 t307 _ ?side1 ?side2 ?side3 ?side4 A10.out).mono ?_); (case side1 => exact Kd.R_V (Kd.R_tight rfl (Kd.R_apart' (Kd.R_apart' (HO299.out) (Kd.R_typed HO295.out) (by decide)) (Kd.R_typed HO305.out) (by decide)))); (case side2 => exact Kd.R_V (Kd.R_tight rfl (Kd.R_apart' (Kd.R_apart' (HO302.out) (Kd.R_typed HO295.out) (by decide)) (Kd.R_typed HO305.out) (by decide)))); (case side3 => exact kD (Kd.R_reads' HO305.out).2.2); (case side4 => exact (Kd.R_reads' HO305.out).2.1); rintro e w25 ⟨rfl, hb⟩; refine ⟨_, rfl, ?_⟩; replace HO289 := kO HO289 hb; replace HO292 := kO HO292 hb; replace HO295 := kO HO295 hb; replace HO299 := kO HO299 hb; replace HO302 := kO HO302 hb; replace HO305 := kO HO305 hb; replace HB := kH _ hb; (try clear hb); (try clear hb2); (try clear hk); (try clear hi)) | ((with_reducible refine gate_callee (f := 23) rfl ?_); refine gL 31 Try.func23 #[.slice A0 l0.length c0, .slice A1 l1.length c1] ?_; (with_reducible refine (congouref01_Two.calls k _ _ l0 _ _ l1 true _ ?side1 ?side2 ?side3 ?side4 A11.out).mono ?_); (case side1 => exact kC HR0); (case side2 => exact HC0.out); (case side3 => exact kC HR1); (case side4 => exact HC1.out); rintro e w' ⟨rfl, ⟨nd, rfl⟩⟩; refine ⟨_, rfl, ?_⟩))
 (try simp only [Act.put, List.setIfInBounds_toArray, List.set_cons_zero, List.set_cons_succ])
 go_cut [61] (fun v61 wc => ∃ (kq : Nat) (x61_12 : Bool), v61 = .bool x61_12 ∧ Aside0 (congoulaw01_SharesGives.j0 kq l0 l1 l2 t293 t296 t306 t307 x61_12 = some r) ∧ Aside0 (kq ≤ k) ∧ Aside0 (Kd.R k77 77 wc w.heap.size (fun _ => True) v294 t293) ∧ Aside0 (Below w.heap.size w wc))
 case first =>
  have H := HC13.out
  clear HC13
  replace H := Option.bind_eq_some_iff.mp H
  obtain ⟨t310, A260, H⟩ := H
  replace H : (if t310 = true then ((congouref01_Falling.f k l1).bind fun t311 => (congoulaw01_SharesGives.j0 k l0 l1 l2 t293 t296 t306 t307 (!t311))) else (congoulaw01_SharesGives.j0 k l0 l1 l2 t293 t296 t306 t307 true)) = some r := H
  have A26 := Aside0.mk A260
  clear A260
  by_cases c27 : t310 = true
  rotate_left
  ·replace c27 := Bool.eq_false_iff.mpr c27
   subst c27
   have H1 : (congoulaw01_SharesGives.j0 k l0 l1 l2 t293 t296 t306 t307 true) = some r := by rw [if_neg (show ¬ (false = true) by decide)] at H; exact H
   clear H
   have H := H1
   clear H1
   have H' := Aside0.mk H
   clear H
   go_wp2_with (first | ((with_reducible refine gate_callee (f := 37) rfl ?_); refine gL 63 Try.func37 #[.slice A0 l0.length c0] ?_; (with_reducible refine (congouref01_Falling.calls k _ _ l0 false _ ?side1 ?side2 A26.out).mono ?_); (case side1 => exact kC HR0); (case side2 => exact HC0.out); rintro e w' ⟨rfl, ⟨nd, rfl⟩⟩; refine ⟨_, rfl, ?_⟩))
   go_meet
   case rel => exact ⟨_, (true), (by first | rfl | (simp; done) | (simp [*]; done)), H', ⟨by first | omega | exact Nat.le_refl _⟩, ⟨rD (Kd.R_mono HO295.out (fun _ hk => trivial))⟩, ⟨hbC _⟩⟩
  subst c27
  have H1 : ((congouref01_Falling.f k l1).bind fun t311 => (congoulaw01_SharesGives.j0 k l0 l1 l2 t293 t296 t306 t307 (!t311))) = some r := by rw [if_pos rfl] at H; exact H
  clear H
  have H := H1
  clear H1
  replace H := Option.bind_eq_some_iff.mp H
  obtain ⟨t311, A280, H⟩ := H
  replace H : (congoulaw01_SharesGives.j0 k l0 l1 l2 t293 t296 t306 t307 (!t311)) = some r := H
  have A28 := Aside0.mk A280
  clear A280
  have H' := Aside0.mk H
  clear H
  go_wp2_with (first | ((with_reducible refine gate_callee (f := 37) rfl ?_); refine gL 63 Try.func37 #[.slice A0 l0.length c0] ?_; (with_reducible refine (congouref01_Falling.calls k _ _ l0 true _ ?side1 ?side2 A26.out).mono ?_); (case side1 => exact kC HR0); (case side2 => exact HC0.out); rintro e w' ⟨rfl, ⟨nd, rfl⟩⟩; refine ⟨_, rfl, ?_⟩) | (go_at_call 37; (with_reducible refine (congouref01_Falling.calls k _ _ l1 t311 _ ?side1 ?side2 A28.out).mono ?_); (case side1 => repeat (first | exact (Kd.C_below HR1.out (hbC _)) | (with_reducible refine Kd.C_alloc ?_ _) | (with_reducible refine Kd.C_drewN ?_ _) | (with_reducible refine Kd.C_drew ?_))); (case side2 => exact HC1.out); rintro e w' ⟨rfl, ⟨nd, rfl⟩⟩))
  go_meet
  case rel => exact ⟨_, (!t311), (by first | rfl | (simp; done) | (simp [*]; done)), H', ⟨by first | omega | exact Nat.le_refl _⟩, ⟨rD (Kd.R_mono HO295.out (fun _ hk => trivial))⟩, ⟨hbC _⟩⟩
 case rest =>
  clear HC13
  try clear c1
  try clear c2
  try clear p2
  try clear c3
  try clear c8
  try clear c12
  try clear c18
  try clear c23
  try clear c27
  obtain ⟨kq, x61_12, rfl, HA, HJ12, HO_7, HB⟩ := hcut
  cases kq with
  | zero => exact absurd HA.out (by simp [congoulaw01_SharesGives.j0])
  | succ kj12 =>
   have H := HA.out
   clear HA
   simp only [congoulaw01_SharesGives.j0] at H
   by_cases c29 : x61_12 = true
   ·subst c29
    have H1 : (if (t293.length : Int) = 0 then (congoulaw01_SharesGives.j1 kj12 l0 l1 l2 t306 t307 (t296 != 2)) else (congoulaw01_SharesGives.j1 kj12 l0 l1 l2 t306 t307 true)) = some r := by rw [if_pos rfl] at H; exact H
    clear H
    have H := H1
    clear H1
    have HC30 := Aside0.mk H
    clear H
    go_upto_region 8 with (fail)
    go_cut [76] (fun v76 wc => ∃ (kq : Nat) (x76_29 : Bool), v76 = .bool x76_29 ∧ Aside0 (congoulaw01_SharesGives.j1 kq l0 l1 l2 t306 t307 x76_29 = some r) ∧ Aside0 (kq ≤ kj12) ∧ Aside0 (Below w.heap.size w wc))
    case first =>
     have H := HC30.out
     clear HC30
     by_cases c31 : (t293.length : Int) = 0
     ·rw [if_pos c31] at H
      have c31b0 : ((t293.length : Int) == 0) = true := beq_iff_eq.mpr c31
      have c31b1 : ((t293.length : Int) != 0) = false := bne_eq_false_iff_eq.mpr c31
      clear c31
      (first | rw [c31b0] | (simp only [i64_w, i32_w]; rw [c31b0]) | skip)
      have H' := Aside0.mk H
      clear H
      obtain ⟨Ao32, co32, eo32⟩ := Kd.R_slice HO_7.out
      subst eo32
      go_wp2
      go_meet
      case rel => exact ⟨_, ((t296 != 2)), (by first | rfl | (simp; done) | (simp [*]; done)), H', ⟨by have := HJ12.out; first | omega | exact Nat.le_refl _⟩, ⟨hbC _⟩⟩
     rw [if_neg c31] at H
     have c31b0 : ((t293.length : Int) == 0) = false := beq_eq_false_iff_ne.mpr c31
     have c31b1 : ((t293.length : Int) != 0) = true := bne_iff_ne.mpr c31
     have c31b2 : ¬ (t293 = []) := fun h_ => c31 (by rw [h_]; rfl)
     (first | rw [c31b0] | (simp only [i64_w, i32_w]; rw [c31b0]) | skip)
     have H' := Aside0.mk H
     clear H
     obtain ⟨Ao33, co33, eo33⟩ := Kd.R_slice HO_7.out
     subst eo33
     go_wp2
     go_meet
     case rel => exact ⟨_, (true), (by first | rfl | (simp; done) | (simp [*]; done)), H', ⟨by have := HJ12.out; first | omega | exact Nat.le_refl _⟩, ⟨hbC _⟩⟩
    case rest =>
     clear HC30
     try clear c1
     try clear c2
     try clear p2
     try clear c3
     try clear c8
     try clear c12
     try clear c18
     try clear c23
     try clear c27
     try clear c29
     try clear c31
     try clear c31b0
     try clear c31b1
     try clear c31b2
     try clear p2
     obtain ⟨kq, x76_29, rfl, HA, HJ29, HB⟩ := hcut
     cases kq with
     | zero => exact absurd HA.out (by simp [congoulaw01_SharesGives.j1])
     | succ kj29 =>
      have H := HA.out
      clear HA
      simp only [congoulaw01_SharesGives.j1] at H
      by_cases c34 : x76_29 = true
      ·subst c34
       have H1 : (some false) = some r := by rw [if_pos rfl] at H; exact H
       clear H
       have H := H1
       clear H1
       exact absurd (H.trans (congrArg some HRT.out)) (by simp)
      replace c34 := Bool.eq_false_iff.mpr c34
      subst c34
      have H1 : (if t307 = 0 then (if (l2.length : Int) > 60 then ((congoulaw01_awake.f kj29).bind fun t312 => (some t312)) else ((congouref01_Turns.f kj29 l0 l1 l2).bind fun t313 => (if (t306 == t313) = true then ((congoulaw01_awake.f kj29).bind fun t314 => (some t314)) else (some false)))) else (some false)) = some r := by rw [if_neg (show ¬ (false = true) by decide)] at H; exact H
      clear H
      have H := H1
      clear H1
      by_cases c35 : t307 = 0
      rotate_left
      ·rw [if_neg c35] at H
       have c35b0 : (t307 == 0) = false := beq_eq_false_iff_ne.mpr c35
       have c35b1 : (t307 != 0) = true := bne_iff_ne.mpr c35
       exact absurd (H.trans (congrArg some HRT.out)) (by simp)
      rw [if_pos c35] at H
      have c35b0 : (t307 == 0) = true := beq_iff_eq.mpr c35
      have c35b1 : (t307 != 0) = false := bne_eq_false_iff_eq.mpr c35
      clear c35
      by_cases c36 : (l2.length : Int) > 60
      ·rw [if_pos c36] at H
       have c36b0 : decide (60 < (l2.length : Int)) = true := decide_eq_true c36
       have c36b1 : decide (60 < l2.length) = true := decide_eq_true (by omega)
       clear c36
       replace H := Option.bind_eq_some_iff.mp H
       obtain ⟨t312, A370, H⟩ := H
       replace H : (some t312) = some r := H
       have A37 := Aside0.mk A370
       clear A370
       obtain rfl := Option.some.inj H
       go_wp2_with (first | (go_at_call 21; (with_reducible refine (congoulaw01_awake.calls kj29  t312 _ A37.out).mono ?_); rintro e w38 ⟨rfl, hb⟩; replace HB := kH _ hb; (try clear hb); (try clear hb2); (try clear hk); (try clear hi)))
       go_ret
       exact ⟨by first | rfl | (simp [errW_none, errW_some] <;> rfl) | (simp [*, errW_none, errW_some] <;> rfl), hbC _⟩
      rw [if_neg c36] at H
      have c36b0 : decide (60 < (l2.length : Int)) = false := decide_eq_false c36
      have c36b1 : decide (60 < l2.length) = false := decide_eq_false (by omega)
      clear c36
      replace H := Option.bind_eq_some_iff.mp H
      obtain ⟨t313, A390, H⟩ := H
      replace H : (if (t306 == t313) = true then ((congoulaw01_awake.f kj29).bind fun t314 => (some t314)) else (some false)) = some r := H
      have A39 := Aside0.mk A390
      clear A390
      by_cases c40 : (t306 == t313) = true
      rotate_left
      ·rw [if_neg c40] at H
       have c40b0 : (t306 == t313) = false := by simpa using c40
       (try (have c40b1 : decide (t306 = t313) = false := by simpa using c40))
       (try (have c40b2 : (t306 == t313) = false := by simpa using c40))
       (try (have c40b3 : ¬ (t306 = t313) := by simpa using c40))
       clear c40
       exact absurd (H.trans (congrArg some HRT.out)) (by simp)
      rw [if_pos c40] at H
      have c40b0 : (t306 == t313) = true := c40
      (try (have c40b1 : decide (t306 = t313) = true := by simpa using c40))
      (try (have c40b2 : (t306 == t313) = true := by simpa using c40))
      clear c40
      replace H := Option.bind_eq_some_iff.mp H
      obtain ⟨t314, A410, H⟩ := H
      replace H : (some t314) = some r := H
      have A41 := Aside0.mk A410
      clear A410
      obtain rfl := Option.some.inj H
      go_wp2_with (first | (go_at_call 38; (with_reducible refine (congouref01_Turns.calls kj29 _ _ l0 _ _ l1 _ _ l2 t313 _ ?side1 ?side2 ?side3 ?side4 ?side5 ?side6 A39.out).mono ?_); (case side1 => exact kC HR0); (case side2 => exact HC0.out); (case side3 => exact kC HR1); (case side4 => exact HC1.out); (case side5 => exact kC HR2); (case side6 => exact HC2.out); rintro e w42 ⟨rfl, hb⟩; replace HB := kH _ hb; (try clear hb); (try clear hb2); (try clear hk); (try clear hi)) | (go_at_call 21; (with_reducible refine (congoulaw01_awake.calls kj29  t314 _ A41.out).mono ?_); rintro e w43 ⟨rfl, hb⟩; replace HB := kH _ hb; (try clear hb); (try clear hb2); (try clear hk); (try clear hi)))
      go_ret
      exact ⟨by first | rfl | (simp [errW_none, errW_some] <;> rfl) | (simp [*, errW_none, errW_some] <;> rfl), hbC _⟩
   replace c29 := Bool.eq_false_iff.mpr c29
   subst c29
   have H1 : ((congouref01_Uneven.f kj12 l0 l1).bind fun t315 => (if t315 = true then (if t296 = 0 then ((congoulaw01_own.f kj12 t293).bind fun t316 => ((congouref01_Turns.f kj12 l0 l1 t316).bind fun t319 => (congoulaw01_SharesGives.j2 kj12 l0 l1 l2 t306 t307 (!t319)))) else (congoulaw01_SharesGives.j2 kj12 l0 l1 l2 t306 t307 true)) else (if (t293.length : Int) = 0 then (congoulaw01_SharesGives.j3 kj12 l0 l1 l2 t306 t307 (t296 != 4)) else (congoulaw01_SharesGives.j3 kj12 l0 l1 l2 t306 t307 true)))) = some r := by rw [if_neg (show ¬ (false = true) by decide)] at H; exact H
   clear H
   have H := H1
   clear H1
   replace H := Option.bind_eq_some_iff.mp H
   obtain ⟨t315, A440, H⟩ := H
   replace H : (if t315 = true then (if t296 = 0 then ((congoulaw01_own.f kj12 t293).bind fun t316 => ((congouref01_Turns.f kj12 l0 l1 t316).bind fun t319 => (congoulaw01_SharesGives.j2 kj12 l0 l1 l2 t306 t307 (!t319)))) else (congoulaw01_SharesGives.j2 kj12 l0 l1 l2 t306 t307 true)) else (if (t293.length : Int) = 0 then (congoulaw01_SharesGives.j3 kj12 l0 l1 l2 t306 t307 (t296 != 4)) else (congoulaw01_SharesGives.j3 kj12 l0 l1 l2 t306 t307 true))) = some r := H
   have A44 := Aside0.mk A440
   clear A440
   by_cases c45 : t315 = true
   rotate_left
   ·replace c45 := Bool.eq_false_iff.mpr c45
    subst c45
    have H1 : (if (t293.length : Int) = 0 then (congoulaw01_SharesGives.j3 kj12 l0 l1 l2 t306 t307 (t296 != 4)) else (congoulaw01_SharesGives.j3 kj12 l0 l1 l2 t306 t307 true)) = some r := by rw [if_neg (show ¬ (false = true) by decide)] at H; exact H
    clear H
    have H := H1
    clear H1
    have HC65 := Aside0.mk H
    clear H
    go_upto_region 11 with (first | ((with_reducible refine gate_callee (f := 24) rfl ?_); refine gL 80 Try.func24 #[.slice A0 l0.length c0, .slice A1 l1.length c1] ?_; (with_reducible refine (congouref01_Uneven.calls kj12 _ _ l0 _ _ l1 false _ ?side1 ?side2 ?side3 ?side4 A44.out).mono ?_); (case side1 => exact kC HR0); (case side2 => exact HC0.out); (case side3 => exact kC HR1); (case side4 => exact HC1.out); rintro e w66 ⟨rfl, hb⟩; refine ⟨_, rfl, ?_⟩; replace HO_7 := kO HO_7 hb; replace HB := kH _ hb; (try clear hb); (try clear hb2); (try clear hk); (try clear hi)))
    (try simp only [Act.put, List.setIfInBounds_toArray, List.set_cons_zero, List.set_cons_succ])
    go_cut [88] (fun v88 wc => ∃ (kq : Nat) (x88_64 : Bool), v88 = .bool x88_64 ∧ Aside0 (congoulaw01_SharesGives.j3 kq l0 l1 l2 t306 t307 x88_64 = some r) ∧ Aside0 (kq ≤ kj12) ∧ Aside0 (Below w.heap.size w wc))
    case first =>
     have H := HC65.out
     clear HC65
     by_cases c67 : (t293.length : Int) = 0
     ·rw [if_pos c67] at H
      have c67b0 : ((t293.length : Int) == 0) = true := beq_iff_eq.mpr c67
      have c67b1 : ((t293.length : Int) != 0) = false := bne_eq_false_iff_eq.mpr c67
      clear c67
      (first | rw [c67b0] | (simp only [i64_w, i32_w]; rw [c67b0]) | skip)
      have H' := Aside0.mk H
      clear H
      obtain ⟨Ao68, co68, eo68⟩ := Kd.R_slice HO_7.out
      subst eo68
      go_wp2
      go_meet
      case rel => exact ⟨_, ((t296 != 4)), (by first | rfl | (simp; done) | (simp [*]; done)), H', ⟨by have := HJ12.out; first | omega | exact Nat.le_refl _⟩, ⟨hbC _⟩⟩
     rw [if_neg c67] at H
     have c67b0 : ((t293.length : Int) == 0) = false := beq_eq_false_iff_ne.mpr c67
     have c67b1 : ((t293.length : Int) != 0) = true := bne_iff_ne.mpr c67
     have c67b2 : ¬ (t293 = []) := fun h_ => c67 (by rw [h_]; rfl)
     (first | rw [c67b0] | (simp only [i64_w, i32_w]; rw [c67b0]) | skip)
     have H' := Aside0.mk H
     clear H
     obtain ⟨Ao69, co69, eo69⟩ := Kd.R_slice HO_7.out
     subst eo69
     go_wp2
     go_meet
     case rel => exact ⟨_, (true), (by first | rfl | (simp; done) | (simp [*]; done)), H', ⟨by have := HJ12.out; first | omega | exact Nat.le_refl _⟩, ⟨hbC _⟩⟩
    case rest =>
     clear HC65
     try clear c1
     try clear c2
     try clear p2
     try clear c3
     try clear c4
     try clear c5
     try clear c6
     try clear c8
     try clear c12
     try clear c18
     try clear c23
     try clear c24
     try clear c27
     try clear c29
     try clear c31
     try clear c31b0
     try clear c31b1
     try clear c31b2
     try clear c34
     try clear c35
     try clear c35b0
     try clear c35b1
     try clear c36
     try clear c36b0
     try clear c36b1
     try clear c37
     try clear c40
     try clear c40b0
     try clear c40b1
     try clear c40b2
     try clear c45
     try clear c48
     try clear c48b0
     try clear c48b1
     try clear c55
     try clear c56
     try clear c56b0
     try clear c56b1
     try clear c57
     try clear c57b0
     try clear c57b1
     try clear c61
     try clear c61b0
     try clear c61b1
     try clear c61b2
     try clear c67
     try clear c67b0
     try clear c67b1
     try clear c67b2
     try clear p2
     obtain ⟨kq, x88_64, rfl, HA, HJ64, HB⟩ := hcut
     cases kq with
     | zero => exact absurd HA.out (by simp [congoulaw01_SharesGives.j3])
     | succ kj64 =>
      have H := HA.out
      clear HA
      simp only [congoulaw01_SharesGives.j3] at H
      by_cases c70 : x88_64 = true
      ·subst c70
       have H1 : (some false) = some r := by rw [if_pos rfl] at H; exact H
       clear H
       have H := H1
       clear H1
       exact absurd (H.trans (congrArg some HRT.out)) (by simp)
      replace c70 := Bool.eq_false_iff.mpr c70
      subst c70
      have H1 : (if t307 = 0 then (if (l2.length : Int) > 60 then ((congoulaw01_awake.f kj64).bind fun t323 => (some t323)) else ((congouref01_Turns.f kj64 l0 l1 l2).bind fun t324 => (if (t306 == t324) = true then ((congoulaw01_awake.f kj64).bind fun t325 => (some t325)) else (some false)))) else (some false)) = some r := by rw [if_neg (show ¬ (false = true) by decide)] at H; exact H
      clear H
      have H := H1
      clear H1
      by_cases c71 : t307 = 0
      rotate_left
      ·rw [if_neg c71] at H
       have c71b0 : (t307 == 0) = false := beq_eq_false_iff_ne.mpr c71
       have c71b1 : (t307 != 0) = true := bne_iff_ne.mpr c71
       exact absurd (H.trans (congrArg some HRT.out)) (by simp)
      rw [if_pos c71] at H
      have c71b0 : (t307 == 0) = true := beq_iff_eq.mpr c71
      have c71b1 : (t307 != 0) = false := bne_eq_false_iff_eq.mpr c71
      clear c71
      by_cases c72 : (l2.length : Int) > 60
      ·rw [if_pos c72] at H
       have c72b0 : decide (60 < (l2.length : Int)) = true := decide_eq_true c72
       have c72b1 : decide (60 < l2.length) = true := decide_eq_true (by omega)
       clear c72
       replace H := Option.bind_eq_some_iff.mp H
       obtain ⟨t323, A730, H⟩ := H
       replace H : (some t323) = some r := H
       have A73 := Aside0.mk A730
       clear A730
       obtain rfl := Option.some.inj H
       go_wp2_with (first | (go_at_call 21; (with_reducible refine (congoulaw01_awake.calls kj64  t323 _ A73.out).mono ?_); rintro e w74 ⟨rfl, hb⟩; replace HB := kH _ hb; (try clear hb); (try clear hb2); (try clear hk); (try clear hi)))
       go_ret
       exact ⟨by first | rfl | (simp [errW_none, errW_some] <;> rfl) | (simp [*, errW_none, errW_some] <;> rfl), hbC _⟩
      rw [if_neg c72] at H
      have c72b0 : decide (60 < (l2.length : Int)) = false := decide_eq_false c72
      have c72b1 : decide (60 < l2.length) = false := decide_eq_false (by omega)
      clear c72
      replace H := Option.bind_eq_some_iff.mp H
      obtain ⟨t324, A750, H⟩ := H
      replace H : (if (t306 == t324) = true then ((congoulaw01_awake.f kj64).bind fun t325 => (some t325)) else (some false)) = some r := H
      have A75 := Aside0.mk A750
      clear A750
      by_cases c76 : (t306 == t324) = true
      rotate_left
      ·rw [if_neg c76] at H
       have c76b0 : (t306 == t324) = false := by simpa using c76
       (try (have c76b1 : decide (t306 = t324) = false := by simpa using c76))
       (try (have c76b2 : (t306 == t324) = false := by simpa using c76))
       (try (have c76b3 : ¬ (t306 = t324) := by simpa using c76))
       clear c76
       exact absurd (H.trans (congrArg some HRT.out)) (by simp)
      rw [if_pos c76] at H
      have c76b0 : (t306 == t324) = true := c76
      (try (have c76b1 : decide (t306 = t324) = true := by simpa using c76))
      (try (have c76b2 : (t306 == t324) = true := by simpa using c76))
      clear c76
      replace H := Option.bind_eq_some_iff.mp H
      obtain ⟨t325, A770, H⟩ := H
      replace H : (some t325) = some r := H
      have A77 := Aside0.mk A770
      clear A770
      obtain rfl := Option.some.inj H
      go_wp2_with (first | (go_at_call 38; (with_reducible refine (congouref01_Turns.calls kj64 _ _ l0 _ _ l1 _ _ l2 t324 _ ?side1 ?side2 ?side3 ?side4 ?side5 ?side6 A75.out).mono ?_); (case side1 => exact kC HR0); (case side2 => exact HC0.out); (case side3 => exact kC HR1); (case side4 => exact HC1.out); (case side5 => exact kC HR2); (case side6 => exact HC2.out); rintro e w78 ⟨rfl, hb⟩; replace HB := kH _ hb; (try clear hb); (try clear hb2); (try clear hk); (try clear hi)) | (go_at_call 21; (with_reducible refine (congoulaw01_awake.calls kj64  t325 _ A77.out).mono ?_); rintro e w79 ⟨rfl, hb⟩; replace HB := kH _ hb; (try clear hb); (try clear hb2); (try clear hk); (try clear hi)))
      go_ret
      exact ⟨by first | rfl | (simp [errW_none, errW_some] <;> rfl) | (simp [*, errW_none, errW_some] <;> rfl), hbC _⟩
   subst c45
   have H1 : (if t296 = 0 then ((congoulaw01_own.f kj12 t293).bind fun t316 => ((congouref01_Turns.f kj12 l0 l1 t316).bind fun t319 => (congoulaw01_SharesGives.j2 kj12 l0 l1 l2 t306 t307 (!t319)))) else (congoulaw01_SharesGives.j2 kj12 l0 l1 l2 t306 t307 true)) = some r := by rw [if_pos rfl] at H; exact H
   clear H
   have H := H1
   clear H1
   have HC46 := Aside0.mk H
   clear H
   go_upto_region 5 with (first | ((with_reducible refine gate_callee (f := 24) rfl ?_); refine gL 80 Try.func24 #[.slice A0 l0.length c0, .slice A1 l1.length c1] ?_; (with_reducible refine (congouref01_Uneven.calls kj12 _ _ l0 _ _ l1 true _ ?side1 ?side2 ?side3 ?side4 A44.out).mono ?_); (case side1 => exact kC HR0); (case side2 => exact HC0.out); (case side3 => exact kC HR1); (case side4 => exact HC1.out); rintro e w47 ⟨rfl, hb⟩; refine ⟨_, rfl, ?_⟩; replace HO_7 := kO HO_7 hb; replace HB := kH _ hb; (try clear hb); (try clear hb2); (try clear hk); (try clear hi)))
   (try simp only [Act.put, List.setIfInBounds_toArray, List.set_cons_zero, List.set_cons_succ])
   go_cut [60] (fun v60 wc => ∃ (kq : Nat) (x60_45 : Bool), v60 = .bool x60_45 ∧ Aside0 (congoulaw01_SharesGives.j2 kq l0 l1 l2 t306 t307 x60_45 = some r) ∧ Aside0 (kq ≤ kj12) ∧ Aside0 (Below w.heap.size w wc))
   case first =>
    have H := HC46.out
    clear HC46
    by_cases c48 : t296 = 0
    rotate_left
    ·rw [if_neg c48] at H
     have c48b0 : (t296 == 0) = false := beq_eq_false_iff_ne.mpr c48
     have c48b1 : (t296 != 0) = true := bne_iff_ne.mpr c48
     (first | rw [c48b0] | (simp only [i64_w, i32_w]; rw [c48b0]) | skip)
     have H' := Aside0.mk H
     clear H
     go_wp2
     go_meet
     case rel => exact ⟨_, (true), (by first | rfl | (simp; done) | (simp [*]; done)), H', ⟨by have := HJ12.out; first | omega | exact Nat.le_refl _⟩, ⟨hbC _⟩⟩
    rw [if_pos c48] at H
    have c48b0 : (t296 == 0) = true := beq_iff_eq.mpr c48
    have c48b1 : (t296 != 0) = false := bne_eq_false_iff_eq.mpr c48
    clear c48
    (first | rw [c48b0] | (simp only [i64_w, i32_w]; rw [c48b0]) | skip)
    replace H := Option.bind_eq_some_iff.mp H
    obtain ⟨t316, A490, H⟩ := H
    replace H : ((congouref01_Turns.f kj12 l0 l1 t316).bind fun t319 => (congoulaw01_SharesGives.j2 kj12 l0 l1 l2 t306 t307 (!t319))) = some r := H
    have A49 := Aside0.mk A490
    clear A490
    replace H := Option.bind_eq_some_iff.mp H
    obtain ⟨t319, A500, H⟩ := H
    replace H : (congoulaw01_SharesGives.j2 kj12 l0 l1 l2 t306 t307 (!t319)) = some r := H
    have A50 := Aside0.mk A500
    clear A500
    have H' := Aside0.mk H
    clear H
    obtain ⟨Ao51, co51, eo51⟩ := Kd.R_slice HO_7.out
    subst eo51
    go_wp2_with (first | (go_at_call 39; (with_reducible refine (congoulaw01_own.calls kj12 _ _ t293 t316 _ ?side1 ?side2 A49.out).mono ?_); (case side1 => exact kD (Kd.R_reads' HO_7.out).2.2); (case side2 => exact (Kd.R_reads' HO_7.out).2.1); rintro e w52 ⟨v317, rfl, ho0, hb⟩; replace HO_7 := kO HO_7 hb; have HO318 := ak (Kd.R_lower ho0 (below_size (hbC _))); replace HB := kH _ hb; (try clear hb); (try clear hb2); (try clear hk); (try clear hi); (try clear ho0); obtain ⟨Ao53, co53, eo53⟩ := Kd.R_slice HO318.out; subst eo53) | (go_at_call 38; (with_reducible refine (congouref01_Turns.calls kj12 _ _ l0 _ _ l1 _ _ t316 t319 _ ?side1 ?side2 ?side3 ?side4 ?side5 ?side6 A50.out).mono ?_); (case side1 => exact kC HR0); (case side2 => exact HC0.out); (case side3 => exact kC HR1); (case side4 => exact HC1.out); (case side5 => exact kD (Kd.R_reads' HO318.out).2.2); (case side6 => exact (Kd.R_reads' HO318.out).2.1); rintro e w54 ⟨rfl, hb⟩; replace HO_7 := kO HO_7 hb; replace HO318 := kO HO318 hb; replace HB := kH _ hb; (try clear hb); (try clear hb2); (try clear hk); (try clear hi)))
    go_meet
    case rel => exact ⟨_, (!t319), (by first | rfl | (simp; done) | (simp [*]; done)), H', ⟨by have := HJ12.out; first | omega | exact Nat.le_refl _⟩, ⟨hbC _⟩⟩
   case rest =>
    clear HC46
    try clear c1
    try clear c2
    try clear p2
    try clear c3
    try clear c4
    try clear c8
    try clear c12
    try clear c18
    try clear c23
    try clear c24
    try clear c27
    try clear c29
    try clear c31
    try clear c31b0
    try clear c31b1
    try clear c31b2
    try clear c34
    try clear c35
    try clear c35b0
    try clear c35b1
    try clear c36
    try clear c36b0
    try clear c36b1
    try clear c37
    try clear c40
    try clear c40b0
    try clear c40b1
    try clear c40b2
    try clear c45
    try clear c48
    try clear c48b0
    try clear c48b1
    try clear p2
    obtain ⟨kq, x60_45, rfl, HA, HJ45, HB⟩ := hcut
    cases kq with
    | zero => exact absurd HA.out (by simp [congoulaw01_SharesGives.j2])
    | succ kj45 =>
     have H := HA.out
     clear HA
     simp only [congoulaw01_SharesGives.j2] at H
     by_cases c55 : x60_45 = true
     ·subst c55
      have H1 : (some false) = some r := by rw [if_pos rfl] at H; exact H
      clear H
      have H := H1
      clear H1
      exact absurd (H.trans (congrArg some HRT.out)) (by simp)
     replace c55 := Bool.eq_false_iff.mpr c55
     subst c55
     have H1 : (if t307 = 0 then (if (l2.length : Int) > 60 then ((congoulaw01_awake.f kj45).bind fun t320 => (some t320)) else ((congouref01_Turns.f kj45 l0 l1 l2).bind fun t321 => (if (t306 == t321) = true then ((congoulaw01_awake.f kj45).bind fun t322 => (some t322)) else (some false)))) else (some false)) = some r := by rw [if_neg (show ¬ (false = true) by decide)] at H; exact H
     clear H
     have H := H1
     clear H1
     by_cases c56 : t307 = 0
     rotate_left
     ·rw [if_neg c56] at H
      have c56b0 : (t307 == 0) = false := beq_eq_false_iff_ne.mpr c56
      have c56b1 : (t307 != 0) = true := bne_iff_ne.mpr c56
      exact absurd (H.trans (congrArg some HRT.out)) (by simp)
     rw [if_pos c56] at H
     have c56b0 : (t307 == 0) = true := beq_iff_eq.mpr c56
     have c56b1 : (t307 != 0) = false := bne_eq_false_iff_eq.mpr c56
     clear c56
     by_cases c57 : (l2.length : Int) > 60
     ·rw [if_pos c57] at H
      have c57b0 : decide (60 < (l2.length : Int)) = true := decide_eq_true c57
      have c57b1 : decide (60 < l2.length) = true := decide_eq_true (by omega)
      clear c57
      replace H := Option.bind_eq_some_iff.mp H
      obtain ⟨t320, A580, H⟩ := H
      replace H : (some t320) = some r := H
      have A58 := Aside0.mk A580
      clear A580
      obtain rfl := Option.some.inj H
      go_wp2_with (first | (go_at_call 21; (with_reducible refine (congoulaw01_awake.calls kj45  t320 _ A58.out).mono ?_); rintro e w59 ⟨rfl, hb⟩; replace HB := kH _ hb; (try clear hb); (try clear hb2); (try clear hk); (try clear hi)))
      go_ret
      exact ⟨by first | rfl | (simp [errW_none, errW_some] <;> rfl) | (simp [*, errW_none, errW_some] <;> rfl), hbC _⟩
     rw [if_neg c57] at H
     have c57b0 : decide (60 < (l2.length : Int)) = false := decide_eq_false c57
     have c57b1 : decide (60 < l2.length) = false := decide_eq_false (by omega)
     clear c57
     replace H := Option.bind_eq_some_iff.mp H
     obtain ⟨t321, A600, H⟩ := H
     replace H : (if (t306 == t321) = true then ((congoulaw01_awake.f kj45).bind fun t322 => (some t322)) else (some false)) = some r := H
     have A60 := Aside0.mk A600
     clear A600
     by_cases c61 : (t306 == t321) = true
     rotate_left
     ·rw [if_neg c61] at H
      have c61b0 : (t306 == t321) = false := by simpa using c61
      (try (have c61b1 : decide (t306 = t321) = false := by simpa using c61))
      (try (have c61b2 : (t306 == t321) = false := by simpa using c61))
      (try (have c61b3 : ¬ (t306 = t321) := by simpa using c61))
      clear c61
      exact absurd (H.trans (congrArg some HRT.out)) (by simp)
     rw [if_pos c61] at H
     have c61b0 : (t306 == t321) = true := c61
     (try (have c61b1 : decide (t306 = t321) = true := by simpa using c61))
     (try (have c61b2 : (t306 == t321) = true := by simpa using c61))
     clear c61
     replace H := Option.bind_eq_some_iff.mp H
     obtain ⟨t322, A620, H⟩ := H
     replace H : (some t322) = some r := H
     have A62 := Aside0.mk A620
     clear A620
     obtain rfl := Option.some.inj H
     go_wp2_with (first | (go_at_call 38; (with_reducible refine (congouref01_Turns.calls kj45 _ _ l0 _ _ l1 _ _ l2 t321 _ ?side1 ?side2 ?side3 ?side4 ?side5 ?side6 A60.out).mono ?_); (case side1 => exact kC HR0); (case side2 => exact HC0.out); (case side3 => exact kC HR1); (case side4 => exact HC1.out); (case side5 => exact kC HR2); (case side6 => exact HC2.out); rintro e w63 ⟨rfl, hb⟩; replace HB := kH _ hb; (try clear hb); (try clear hb2); (try clear hk); (try clear hi)) | (go_at_call 21; (with_reducible refine (congoulaw01_awake.calls kj45  t322 _ A62.out).mono ?_); rintro e w64 ⟨rfl, hb⟩; replace HB := kH _ hb; (try clear hb); (try clear hb2); (try clear hk); (try clear hi)))
     go_ret
     exact ⟨by first | rfl | (simp [errW_none, errW_some] <;> rfl) | (simp [*, errW_none, errW_some] <;> rfl), hbC _⟩

end Go.Proofs.Ytefmafbbnkkpjaa.X
