-- Written by a program of this work (wip/xprint.py, over the kit's printer) out of the translation.
import Derived.Test.YtefmafbbnkkpjaaX0
import Derived.Test.YtefmafbbnkkpjaaXG2a
import Derived.Test.YtefmafbbnkkpjaaXf21
import Derived.Test.YtefmafbbnkkpjaaXf24
import Derived.Test.YtefmafbbnkkpjaaXf57
import Derived.Test.YtefmafbbnkkpjaaXf58
import Derived.Test.YtefmafbbnkkpjaaE56
namespace Go.Proofs.Ytefmafbbnkkpjaa.X
open Go.RowKit Go.Proofs.YtefmafbbnkkpjaaW.PrintWords Go.Proofs.YtefmafbbnkkpjaaW.PrintLast Go.Proofs.YtefmafbbnkkpjaaW.PrintMore
attribute [local go_sem] max2_int min2_int max_two min_two max_three min_three max_four min_four   -- for this text's walks alone
set_option linter.unusedVariables false
set_option linter.unusedSimpArgs false

/-! ### congoulaw01_SharesMixes: function 15 -/
mutual
def congoulaw01_SharesMixes.j0 : Nat → List Int → List Int → List (List (S62)) → Bool → Int → Bool → Option (Bool)
 | 0, _, _, _, _, _, _ => none
 | k + 1, x0, x1, x2, x9, x10, x70 => if x70 = true then (some false) else (if x10 = 0 then ((congouref01_Mixes.f k x0 x1 x2).bind fun t934 => (if (x9 == t934) = true then ((congoulaw01_awake.f k).bind fun t935 => (some t935)) else (some false))) else (some false))
def congoulaw01_SharesMixes.j1 : Nat → List Int → List Int → List (List (S62)) → Bool → Int → Bool → Option (Bool)
 | 0, _, _, _, _, _, _ => none
 | k + 1, x0, x1, x2, x9, x10, x61 => if x61 = true then (some false) else (if x10 = 0 then ((congouref01_Mixes.f k x0 x1 x2).bind fun t936 => (if (x9 == t936) = true then ((congoulaw01_awake.f k).bind fun t937 => (some t937)) else (some false))) else (some false))
end
def congoulaw01_SharesMixes.f (k : Nat) (l0 : List Int) (l1 : List Int) (l2 : List (List (S62))) : Option (Bool) := (congoulaw01_list.f l0).bind fun t909 => ((congoulaw01_list.f l1).bind fun t912 => ((xMix.f k t909 t912).bind fun bt915 => ((congoulaw01_list.f l0).bind fun t919 => ((congoulaw01_list.f l1).bind fun t922 => ((congoulaw01_matrix.f k l2).bind fun t925 => ((shares_CheckMix.f k t919 t922 t925).bind fun bt928 => ((congouref01_Two.f k l0 l1).bind fun t930 => (if t930 = true then ((congouref01_Uneven.f k l0 l1).bind fun t932 => (if t932 = true then (if bt915.2 = 0 then ((congouref01_Mixes.f k l0 l1 bt915.1).bind fun t933 => (congoulaw01_SharesMixes.j0 k l0 l1 l2 bt928.1 bt928.2 (!t933))) else (congoulaw01_SharesMixes.j0 k l0 l1 l2 bt928.1 bt928.2 true)) else (if (bt915.1.length : Int) = 0 then (congoulaw01_SharesMixes.j1 k l0 l1 l2 bt928.1 bt928.2 (bt915.2 != 4)) else (congoulaw01_SharesMixes.j1 k l0 l1 l2 bt928.1 bt928.2 true)))) else (if (bt915.1.length : Int) = 0 then (if bt928.1 = true then (some false) else (if bt915.2 = 2 then (if bt928.2 = 2 then ((congoulaw01_awake.f k).bind fun t931 => (some t931)) else (some false)) else (some false))) else (some false))))))))))
theorem congoulaw01_SharesMixes.mono_l : ∀ k, (∀ y0 y1 y2 y3 y4 y5, LeO (congoulaw01_SharesMixes.j0 k y0 y1 y2 y3 y4 y5) (congoulaw01_SharesMixes.j0 (k + 1) y0 y1 y2 y3 y4 y5)) ∧ (∀ y0 y1 y2 y3 y4 y5, LeO (congoulaw01_SharesMixes.j1 k y0 y1 y2 y3 y4 y5) (congoulaw01_SharesMixes.j1 (k + 1) y0 y1 y2 y3 y4 y5))
 | 0 => ⟨fun _ _ _ _ _ _ r h => by simp [congoulaw01_SharesMixes.j0] at h, fun _ _ _ _ _ _ r h => by simp [congoulaw01_SharesMixes.j1] at h⟩
 | k + 1 => by
  obtain ⟨ih0, ih1⟩ := congoulaw01_SharesMixes.mono_l k
  refine ⟨?_, ?_⟩
  ·intro y0 y1 y2 y3 y4 y5
   unfold congoulaw01_SharesMixes.j0
   repeat' first
   | (with_reducible exact ih0 _ _ _ _ _ _)
   | (with_reducible exact ih1 _ _ _ _ _ _)
   | (with_reducible exact congoulaw01_awake.mono _)
   | (with_reducible exact congoulaw01_matrix.mono _ _)
   | (with_reducible exact congouref01_Mixes.mono _ _ _ _)
   | (with_reducible exact congouref01_Two.mono _ _ _)
   | (with_reducible exact congouref01_Uneven.mono _ _ _)
   | (with_reducible exact shares_CheckMix.mono _ _ _ _)
   | (with_reducible exact xMix.mono _ _ _)
   | (with_reducible exact LeO.refl _)
   | (with_reducible exact LeO.none _)
   | (with_reducible refine LeO.ite ?_ ?_)
   | (with_reducible refine LeO.bind ?_ (fun _ => ?_))
   | exact ih0 _ _ _ _ _ _
   | exact ih1 _ _ _ _ _ _
   | exact congoulaw01_awake.mono _
   | exact congoulaw01_matrix.mono _ _
   | exact congouref01_Mixes.mono _ _ _ _
   | exact congouref01_Two.mono _ _ _
   | exact congouref01_Uneven.mono _ _ _
   | exact shares_CheckMix.mono _ _ _ _
   | exact xMix.mono _ _ _
   | exact LeO.none _
   | refine LeO.ite ?_ ?_
   | refine LeO.bind ?_ (fun _ => ?_)
  ·intro y0 y1 y2 y3 y4 y5
   unfold congoulaw01_SharesMixes.j1
   repeat' first
   | (with_reducible exact ih0 _ _ _ _ _ _)
   | (with_reducible exact ih1 _ _ _ _ _ _)
   | (with_reducible exact congoulaw01_awake.mono _)
   | (with_reducible exact congoulaw01_matrix.mono _ _)
   | (with_reducible exact congouref01_Mixes.mono _ _ _ _)
   | (with_reducible exact congouref01_Two.mono _ _ _)
   | (with_reducible exact congouref01_Uneven.mono _ _ _)
   | (with_reducible exact shares_CheckMix.mono _ _ _ _)
   | (with_reducible exact xMix.mono _ _ _)
   | (with_reducible exact LeO.refl _)
   | (with_reducible exact LeO.none _)
   | (with_reducible refine LeO.ite ?_ ?_)
   | (with_reducible refine LeO.bind ?_ (fun _ => ?_))
   | exact ih0 _ _ _ _ _ _
   | exact ih1 _ _ _ _ _ _
   | exact congoulaw01_awake.mono _
   | exact congoulaw01_matrix.mono _ _
   | exact congouref01_Mixes.mono _ _ _ _
   | exact congouref01_Two.mono _ _ _
   | exact congouref01_Uneven.mono _ _ _
   | exact shares_CheckMix.mono _ _ _ _
   | exact xMix.mono _ _ _
   | exact LeO.none _
   | refine LeO.ite ?_ ?_
   | refine LeO.bind ?_ (fun _ => ?_)
theorem congoulaw01_SharesMixes.mono : ∀ a0 a1 a2 k, LeO (congoulaw01_SharesMixes.f k a0 a1 a2) (congoulaw01_SharesMixes.f (k + 1) a0 a1 a2) := by
 intro a0 a1 a2 k
 obtain ⟨ih0, ih1⟩ := congoulaw01_SharesMixes.mono_l k
 unfold congoulaw01_SharesMixes.f
 repeat' first
   | (with_reducible exact ih0 _ _ _ _ _ _)
   | (with_reducible exact ih1 _ _ _ _ _ _)
   | (with_reducible exact congoulaw01_awake.mono _)
   | (with_reducible exact congoulaw01_matrix.mono _ _)
   | (with_reducible exact congouref01_Mixes.mono _ _ _ _)
   | (with_reducible exact congouref01_Two.mono _ _ _)
   | (with_reducible exact congouref01_Uneven.mono _ _ _)
   | (with_reducible exact shares_CheckMix.mono _ _ _ _)
   | (with_reducible exact xMix.mono _ _ _)
   | (with_reducible exact LeO.refl _)
   | (with_reducible exact LeO.none _)
   | (with_reducible refine LeO.ite ?_ ?_)
   | (with_reducible refine LeO.bind ?_ (fun _ => ?_))
   | exact ih0 _ _ _ _ _ _
   | exact ih1 _ _ _ _ _ _
   | exact congoulaw01_awake.mono _
   | exact congoulaw01_matrix.mono _ _
   | exact congouref01_Mixes.mono _ _ _ _
   | exact congouref01_Two.mono _ _ _
   | exact congouref01_Uneven.mono _ _ _
   | exact shares_CheckMix.mono _ _ _ _
   | exact xMix.mono _ _ _
   | exact LeO.none _
   | refine LeO.ite ?_ ?_
   | refine LeO.bind ?_ (fun _ => ?_)
set_option maxHeartbeats 8000000 in
set_option maxRecDepth 100000 in
theorem congoulaw01_SharesMixes.calls (k : Nat) (A0 : Option Addr) (c0 : Nat) (l0 : List Int) (A1 : Option Addr) (c1 : Nat) (l1 : List Int) (A2 : Option Addr) (c2 : Nat) (l2 : List (List (S62))) (r : Bool) (w : World) (hr0 : Kd.C (Kd.int .i64) w A0 l0.length l0) (hc0 : l0.length ≤ c0) (hr1 : Kd.C (Kd.int .i64) w A1 l1.length l1) (hc1 : l1.length ≤ c1) (hr2 : Kd.C (Kd.slice 62 k62) w A2 l2.length l2) (hc2 : l2.length ≤ c2) (hrt : r = true) (h : congoulaw01_SharesMixes.f k l0 l1 l2 = some r) :
  Calls Try.prog 15 #[.slice A0 l0.length c0, .slice A1 l1.length c1, .slice A2 l2.length c2] w fun e w' => e = .returned (.bool r) ∧ Below w.heap.size w w' := by
 have HR0 := Aside0.mk hr0
 have HC0 := Aside0.mk hc0
 clear hr0 hc0
 have HR1 := Aside0.mk hr1
 have HC1 := Aside0.mk hc1
 clear hr1 hc1
 have HR2 := Aside0.mk hr2
 have HC2 := Aside0.mk hc2
 clear hr2 hc2
 have HB := ak (Below.refl w.heap.size w)
 have H : ((congoulaw01_list.f l0).bind fun t909 => ((congoulaw01_list.f l1).bind fun t912 => ((xMix.f k t909 t912).bind fun bt915 => ((congoulaw01_list.f l0).bind fun t919 => ((congoulaw01_list.f l1).bind fun t922 => ((congoulaw01_matrix.f k l2).bind fun t925 => ((shares_CheckMix.f k t919 t922 t925).bind fun bt928 => ((congouref01_Two.f k l0 l1).bind fun t930 => (if t930 = true then ((congouref01_Uneven.f k l0 l1).bind fun t932 => (if t932 = true then (if bt915.2 = 0 then ((congouref01_Mixes.f k l0 l1 bt915.1).bind fun t933 => (congoulaw01_SharesMixes.j0 k l0 l1 l2 bt928.1 bt928.2 (!t933))) else (congoulaw01_SharesMixes.j0 k l0 l1 l2 bt928.1 bt928.2 true)) else (if (bt915.1.length : Int) = 0 then (congoulaw01_SharesMixes.j1 k l0 l1 l2 bt928.1 bt928.2 (bt915.2 != 4)) else (congoulaw01_SharesMixes.j1 k l0 l1 l2 bt928.1 bt928.2 true)))) else (if (bt915.1.length : Int) = 0 then (if bt928.1 = true then (some false) else (if bt915.2 = 2 then (if bt928.2 = 2 then ((congoulaw01_awake.f k).bind fun t931 => (some t931)) else (some false)) else (some false))) else (some false))))))))))) = some r := h
 clear h
 have HRT := Aside0.mk hrt
 clear hrt
 replace H := Option.bind_eq_some_iff.mp H
 obtain ⟨t909, A40, H⟩ := H
 replace H : ((congoulaw01_list.f l1).bind fun t912 => ((xMix.f k t909 t912).bind fun bt915 => ((congoulaw01_list.f l0).bind fun t919 => ((congoulaw01_list.f l1).bind fun t922 => ((congoulaw01_matrix.f k l2).bind fun t925 => ((shares_CheckMix.f k t919 t922 t925).bind fun bt928 => ((congouref01_Two.f k l0 l1).bind fun t930 => (if t930 = true then ((congouref01_Uneven.f k l0 l1).bind fun t932 => (if t932 = true then (if bt915.2 = 0 then ((congouref01_Mixes.f k l0 l1 bt915.1).bind fun t933 => (congoulaw01_SharesMixes.j0 k l0 l1 l2 bt928.1 bt928.2 (!t933))) else (congoulaw01_SharesMixes.j0 k l0 l1 l2 bt928.1 bt928.2 true)) else (if (bt915.1.length : Int) = 0 then (congoulaw01_SharesMixes.j1 k l0 l1 l2 bt928.1 bt928.2 (bt915.2 != 4)) else (congoulaw01_SharesMixes.j1 k l0 l1 l2 bt928.1 bt928.2 true)))) else (if (bt915.1.length : Int) = 0 then (if bt928.1 = true then (some false) else (if bt915.2 = 2 then (if bt928.2 = 2 then ((congoulaw01_awake.f k).bind fun t931 => (some t931)) else (some false)) else (some false))) else (some false)))))))))) = some r := H
 have A4 := Aside0.mk A40
 clear A40
 replace H := Option.bind_eq_some_iff.mp H
 obtain ⟨t912, A50, H⟩ := H
 replace H : ((xMix.f k t909 t912).bind fun bt915 => ((congoulaw01_list.f l0).bind fun t919 => ((congoulaw01_list.f l1).bind fun t922 => ((congoulaw01_matrix.f k l2).bind fun t925 => ((shares_CheckMix.f k t919 t922 t925).bind fun bt928 => ((congouref01_Two.f k l0 l1).bind fun t930 => (if t930 = true then ((congouref01_Uneven.f k l0 l1).bind fun t932 => (if t932 = true then (if bt915.2 = 0 then ((congouref01_Mixes.f k l0 l1 bt915.1).bind fun t933 => (congoulaw01_SharesMixes.j0 k l0 l1 l2 bt928.1 bt928.2 (!t933))) else (congoulaw01_SharesMixes.j0 k l0 l1 l2 bt928.1 bt928.2 true)) else (if (bt915.1.length : Int) = 0 then (congoulaw01_SharesMixes.j1 k l0 l1 l2 bt928.1 bt928.2 (bt915.2 != 4)) else (congoulaw01_SharesMixes.j1 k l0 l1 l2 bt928.1 bt928.2 true)))) else (if (bt915.1.length : Int) = 0 then (if bt928.1 = true then (some false) else (if bt915.2 = 2 then (if bt928.2 = 2 then ((congoulaw01_awake.f k).bind fun t931 => (some t931)) else (some false)) else (some false))) else (some false))))))))) = some r := H
 have A5 := Aside0.mk A50
 clear A50
 replace H := Option.bind_eq_some_iff.mp H
 obtain ⟨⟨t915, t916⟩, A60, H⟩ := H
 replace H : ((congoulaw01_list.f l0).bind fun t919 => ((congoulaw01_list.f l1).bind fun t922 => ((congoulaw01_matrix.f k l2).bind fun t925 => ((shares_CheckMix.f k t919 t922 t925).bind fun bt928 => ((congouref01_Two.f k l0 l1).bind fun t930 => (if t930 = true then ((congouref01_Uneven.f k l0 l1).bind fun t932 => (if t932 = true then (if t916 = 0 then ((congouref01_Mixes.f k l0 l1 t915).bind fun t933 => (congoulaw01_SharesMixes.j0 k l0 l1 l2 bt928.1 bt928.2 (!t933))) else (congoulaw01_SharesMixes.j0 k l0 l1 l2 bt928.1 bt928.2 true)) else (if (t915.length : Int) = 0 then (congoulaw01_SharesMixes.j1 k l0 l1 l2 bt928.1 bt928.2 (t916 != 4)) else (congoulaw01_SharesMixes.j1 k l0 l1 l2 bt928.1 bt928.2 true)))) else (if (t915.length : Int) = 0 then (if bt928.1 = true then (some false) else (if t916 = 2 then (if bt928.2 = 2 then ((congoulaw01_awake.f k).bind fun t931 => (some t931)) else (some false)) else (some false))) else (some false)))))))) = some r := H
 have A6 := Aside0.mk A60
 clear A60
 replace H := Option.bind_eq_some_iff.mp H
 obtain ⟨t919, A70, H⟩ := H
 replace H : ((congoulaw01_list.f l1).bind fun t922 => ((congoulaw01_matrix.f k l2).bind fun t925 => ((shares_CheckMix.f k t919 t922 t925).bind fun bt928 => ((congouref01_Two.f k l0 l1).bind fun t930 => (if t930 = true then ((congouref01_Uneven.f k l0 l1).bind fun t932 => (if t932 = true then (if t916 = 0 then ((congouref01_Mixes.f k l0 l1 t915).bind fun t933 => (congoulaw01_SharesMixes.j0 k l0 l1 l2 bt928.1 bt928.2 (!t933))) else (congoulaw01_SharesMixes.j0 k l0 l1 l2 bt928.1 bt928.2 true)) else (if (t915.length : Int) = 0 then (congoulaw01_SharesMixes.j1 k l0 l1 l2 bt928.1 bt928.2 (t916 != 4)) else (congoulaw01_SharesMixes.j1 k l0 l1 l2 bt928.1 bt928.2 true)))) else (if (t915.length : Int) = 0 then (if bt928.1 = true then (some false) else (if t916 = 2 then (if bt928.2 = 2 then ((congoulaw01_awake.f k).bind fun t931 => (some t931)) else (some false)) else (some false))) else (some false))))))) = some r := H
 have A7 := Aside0.mk A70
 clear A70
 replace H := Option.bind_eq_some_iff.mp H
 obtain ⟨t922, A80, H⟩ := H
 replace H : ((congoulaw01_matrix.f k l2).bind fun t925 => ((shares_CheckMix.f k t919 t922 t925).bind fun bt928 => ((congouref01_Two.f k l0 l1).bind fun t930 => (if t930 = true then ((congouref01_Uneven.f k l0 l1).bind fun t932 => (if t932 = true then (if t916 = 0 then ((congouref01_Mixes.f k l0 l1 t915).bind fun t933 => (congoulaw01_SharesMixes.j0 k l0 l1 l2 bt928.1 bt928.2 (!t933))) else (congoulaw01_SharesMixes.j0 k l0 l1 l2 bt928.1 bt928.2 true)) else (if (t915.length : Int) = 0 then (congoulaw01_SharesMixes.j1 k l0 l1 l2 bt928.1 bt928.2 (t916 != 4)) else (congoulaw01_SharesMixes.j1 k l0 l1 l2 bt928.1 bt928.2 true)))) else (if (t915.length : Int) = 0 then (if bt928.1 = true then (some false) else (if t916 = 2 then (if bt928.2 = 2 then ((congoulaw01_awake.f k).bind fun t931 => (some t931)) else (some false)) else (some false))) else (some false)))))) = some r := H
 have A8 := Aside0.mk A80
 clear A80
 replace H := Option.bind_eq_some_iff.mp H
 obtain ⟨t925, A90, H⟩ := H
 replace H : ((shares_CheckMix.f k t919 t922 t925).bind fun bt928 => ((congouref01_Two.f k l0 l1).bind fun t930 => (if t930 = true then ((congouref01_Uneven.f k l0 l1).bind fun t932 => (if t932 = true then (if t916 = 0 then ((congouref01_Mixes.f k l0 l1 t915).bind fun t933 => (congoulaw01_SharesMixes.j0 k l0 l1 l2 bt928.1 bt928.2 (!t933))) else (congoulaw01_SharesMixes.j0 k l0 l1 l2 bt928.1 bt928.2 true)) else (if (t915.length : Int) = 0 then (congoulaw01_SharesMixes.j1 k l0 l1 l2 bt928.1 bt928.2 (t916 != 4)) else (congoulaw01_SharesMixes.j1 k l0 l1 l2 bt928.1 bt928.2 true)))) else (if (t915.length : Int) = 0 then (if bt928.1 = true then (some false) else (if t916 = 2 then (if bt928.2 = 2 then ((congoulaw01_awake.f k).bind fun t931 => (some t931)) else (some false)) else (some false))) else (some false))))) = some r := H
 have A9 := Aside0.mk A90
 clear A90
 replace H := Option.bind_eq_some_iff.mp H
 obtain ⟨⟨t928, t929⟩, A100, H⟩ := H
 replace H : ((congouref01_Two.f k l0 l1).bind fun t930 => (if t930 = true then ((congouref01_Uneven.f k l0 l1).bind fun t932 => (if t932 = true then (if t916 = 0 then ((congouref01_Mixes.f k l0 l1 t915).bind fun t933 => (congoulaw01_SharesMixes.j0 k l0 l1 l2 t928 t929 (!t933))) else (congoulaw01_SharesMixes.j0 k l0 l1 l2 t928 t929 true)) else (if (t915.length : Int) = 0 then (congoulaw01_SharesMixes.j1 k l0 l1 l2 t928 t929 (t916 != 4)) else (congoulaw01_SharesMixes.j1 k l0 l1 l2 t928 t929 true)))) else (if (t915.length : Int) = 0 then (if t928 = true then (some false) else (if t916 = 2 then (if t929 = 2 then ((congoulaw01_awake.f k).bind fun t931 => (some t931)) else (some false)) else (some false))) else (some false)))) = some r := H
 have A10 := Aside0.mk A100
 clear A100
 replace H := Option.bind_eq_some_iff.mp H
 obtain ⟨t930, A110, H⟩ := H
 replace H : (if t930 = true then ((congouref01_Uneven.f k l0 l1).bind fun t932 => (if t932 = true then (if t916 = 0 then ((congouref01_Mixes.f k l0 l1 t915).bind fun t933 => (congoulaw01_SharesMixes.j0 k l0 l1 l2 t928 t929 (!t933))) else (congoulaw01_SharesMixes.j0 k l0 l1 l2 t928 t929 true)) else (if (t915.length : Int) = 0 then (congoulaw01_SharesMixes.j1 k l0 l1 l2 t928 t929 (t916 != 4)) else (congoulaw01_SharesMixes.j1 k l0 l1 l2 t928 t929 true)))) else (if (t915.length : Int) = 0 then (if t928 = true then (some false) else (if t916 = 2 then (if t929 = 2 then ((congoulaw01_awake.f k).bind fun t931 => (some t931)) else (some false)) else (some false))) else (some false))) = some r := H
 have A11 := Aside0.mk A110
 clear A110
 by_cases c12 : t930 = true
 rotate_left
 ·replace c12 := Bool.eq_false_iff.mpr c12
  subst c12
  have H1 : (if (t915.length : Int) = 0 then (if t928 = true then (some false) else (if t916 = 2 then (if t929 = 2 then ((congoulaw01_awake.f k).bind fun t931 => (some t931)) else (some false)) else (some false))) else (some false)) = some r := by rw [if_neg (show ¬ (false = true) by decide)] at H; exact H
  clear H
  have H := H1
  clear H1
  by_cases c64 : (t915.length : Int) = 0
  rotate_left
  ·rw [if_neg c64] at H
   have c64b0 : ((t915.length : Int) == 0) = false := beq_eq_false_iff_ne.mpr c64
   have c64b1 : ((t915.length : Int) != 0) = true := bne_iff_ne.mpr c64
   have c64b2 : ¬ (t915 = []) := fun h_ => c64 (by rw [h_]; rfl)
   exact absurd (H.trans (congrArg some HRT.out)) (by simp)
  rw [if_pos c64] at H
  have c64b0 : ((t915.length : Int) == 0) = true := beq_iff_eq.mpr c64
  have c64b1 : ((t915.length : Int) != 0) = false := bne_eq_false_iff_eq.mpr c64
  clear c64
  by_cases c65 : t928 = true
  ·subst c65
   have H1 : (some false) = some r := by rw [if_pos rfl] at H; exact H
   clear H
   have H := H1
   clear H1
   exact absurd (H.trans (congrArg some HRT.out)) (by simp)
  replace c65 := Bool.eq_false_iff.mpr c65
  subst c65
  have H1 : (if t916 = 2 then (if t929 = 2 then ((congoulaw01_awake.f k).bind fun t931 => (some t931)) else (some false)) else (some false)) = some r := by rw [if_neg (show ¬ (false = true) by decide)] at H; exact H
  clear H
  have H := H1
  clear H1
  by_cases c66 : t916 = 2
  rotate_left
  ·rw [if_neg c66] at H
   have c66b0 : (t916 == 2) = false := beq_eq_false_iff_ne.mpr c66
   have c66b1 : (t916 != 2) = true := bne_iff_ne.mpr c66
   exact absurd (H.trans (congrArg some HRT.out)) (by simp)
  rw [if_pos c66] at H
  have c66b0 : (t916 == 2) = true := beq_iff_eq.mpr c66
  have c66b1 : (t916 != 2) = false := bne_eq_false_iff_eq.mpr c66
  clear c66
  by_cases c67 : t929 = 2
  rotate_left
  ·rw [if_neg c67] at H
   have c67b0 : (t929 == 2) = false := beq_eq_false_iff_ne.mpr c67
   have c67b1 : (t929 != 2) = true := bne_iff_ne.mpr c67
   exact absurd (H.trans (congrArg some HRT.out)) (by simp)
  rw [if_pos c67] at H
  have c67b0 : (t929 == 2) = true := beq_iff_eq.mpr c67
  have c67b1 : (t929 != 2) = false := bne_eq_false_iff_eq.mpr c67
  clear c67
  replace H := Option.bind_eq_some_iff.mp H
  obtain ⟨t931, A680, H⟩ := H
  replace H : (some t931) = some r := H
  have A68 := Aside0.mk A680
  clear A680
  obtain rfl := Option.some.inj H
  go_enter Try.func15, Try.ntmps15
  go_wp2_with (first | ((with_reducible refine gate_callee (f := 18) rfl ?_); refine gL 13 Try.func18 #[.slice A0 l0.length c0] ?_; (with_reducible refine (congoulaw01_list.calls _ _ l0 t909 _ ?side1 ?side2 A4.out).mono ?_); (case side1 => repeat (first | exact HR0.out | (with_reducible refine Kd.C_alloc ?_ _) | (with_reducible refine Kd.C_drewN ?_ _) | (with_reducible refine Kd.C_drew ?_))); (case side2 => exact HC0.out); rintro e w69 ⟨v910, rfl, ho0, hb⟩; refine ⟨_, rfl, ?_⟩; have HO911 := ak (Kd.R_lower ho0 (below_size (hbC _))); replace HB := kH _ hb; (try clear hb); (try clear hb2); (try clear hk); (try clear hi); (try clear ho0)) | ((with_reducible refine gate_callee (f := 18) rfl ?_); refine gL 15 Try.func18 #[.slice A1 l1.length c1] ?_; (with_reducible refine (congoulaw01_list.calls _ _ l1 t912 _ ?side1 ?side2 A5.out).mono ?_); (case side1 => exact kC HR1); (case side2 => exact HC1.out); rintro e w70 ⟨v913, rfl, ho0, hb⟩; refine ⟨_, rfl, ?_⟩; have HO914 := ak (Kd.R_lower (Kd.R_new' ho0 (Kd.R_lt (rC HO911))) (below_size (hbC _))); replace HO911 := ak (Kd.R_elder' (rC HO911) (Kd.R_base ho0) hb); replace HB := kH _ hb; (try clear hb); (try clear hb2); (try clear hk); (try clear hi); (try clear ho0); obtain ⟨Ao71, co71, eo71⟩ := Kd.R_slice HO911.out; subst eo71; obtain ⟨Ao72, co72, eo72⟩ := Kd.R_slice HO914.out; subst eo72) | ((with_reducible refine gate_callee (f := 56) rfl ?_); refine gL 16 Try.func56 #[.slice Ao71 t909.length co71, .slice Ao72 t912.length co72] ?_; (with_reducible refine (xMix.calls k _ _ t909 _ _ t912 t915 t916 _ ?side1 ?side2 ?side3 ?side4 A6.out).mono ?_); (case side1 => exact kD (Kd.R_reads' HO911.out).2.2); (case side2 => exact (Kd.R_reads' HO911.out).2.1); (case side3 => exact kD (Kd.R_reads' HO914.out).2.2); (case side4 => exact (Kd.R_reads' HO914.out).2.1); rintro e w73 ⟨v917, rfl, ho0, hb⟩; refine ⟨_, rfl, ?_⟩; replace HO911 := kO HO911 hb; replace HO914 := kO HO914 hb; have HO918 := ak (Kd.R_lower ho0 (below_size (hbC _))); replace HB := kH _ hb; (try clear hb); (try clear hb2); (try clear hk); (try clear hi); (try clear ho0)) | ((with_reducible refine gate_callee (f := 18) rfl ?_); refine gL 21 Try.func18 #[.slice A0 l0.length c0] ?_; (with_reducible refine (congoulaw01_list.calls _ _ l0 t919 _ ?side1 ?side2 A7.out).mono ?_); (case side1 => exact kC HR0); (case side2 => exact HC0.out); rintro e w74 ⟨v920, rfl, ho0, hb⟩; refine ⟨_, rfl, ?_⟩; replace HO918 := kO HO918 hb; have HO921 := ak (Kd.R_lower (Kd.R_new' (Kd.R_new' ho0 (Kd.R_lt (rC HO911))) (Kd.R_lt (rC HO914))) (below_size (hbC _))); replace HO911 := ak (Kd.R_elder' (rC HO911) (Kd.R_base ho0) hb); replace HO914 := ak (Kd.R_elder' (rC HO914) (Kd.R_base ho0) hb); replace HB := kH _ hb; (try clear hb); (try clear hb2); (try clear hk); (try clear hi); (try clear ho0)) | ((with_reducible refine gate_callee (f := 18) rfl ?_); refine gL 23 Try.func18 #[.slice A1 l1.length c1] ?_; (with_reducible refine (congoulaw01_list.calls _ _ l1 t922 _ ?side1 ?side2 A8.out).mono ?_); (case side1 => exact kC HR1); (case side2 => exact HC1.out); rintro e w75 ⟨v923, rfl, ho0, hb⟩; refine ⟨_, rfl, ?_⟩; replace HO918 := kO HO918 hb; have HO924 := ak (Kd.R_lower (Kd.R_new' (Kd.R_new' (Kd.R_new' ho0 (Kd.R_lt (rC HO911))) (Kd.R_lt (rC HO914))) (Kd.R_lt (rC HO921))) (below_size (hbC _))); replace HO911 := ak (Kd.R_elder' (rC HO911) (Kd.R_base ho0) hb); replace HO914 := ak (Kd.R_elder' (rC HO914) (Kd.R_base ho0) hb); replace HO921 := ak (Kd.R_elder' (rC HO921) (Kd.R_base ho0) hb); replace HB := kH _ hb; (try clear hb); (try clear hb2); (try clear hk); (try clear hi); (try clear ho0)) | ((with_reducible refine gate_callee (f := 46) rfl ?_); refine gL 25 Try.func46 #[.slice A2 l2.length c2] ?_; (with_reducible refine (congoulaw01_matrix.calls k _ _ l2 t925 _ ?side1 ?side2 A9.out).mono ?_); (case side1 => exact kC HR2); (case side2 => exact HC2.out); rintro e w76 ⟨v926, rfl, ho0, hb⟩; replace ho0 := Kd.S_R ho0; refine ⟨_, rfl, ?_⟩; replace HO911 := kO HO911 hb; replace HO914 := kO HO914 hb; replace HO921 := kO HO921 hb; replace HO924 := kO HO924 hb; have HO927 := ak (Kd.R_lower (Kd.R_new' ho0 (Kd.R_lt (rC HO918))) (below_size (hbC _))); replace HO918 := ak (Kd.R_elder' (rC HO918) (Kd.R_base ho0) hb); replace HB := kH _ hb; (try clear hb); (try clear hb2); (try clear hk); (try clear hi); (try clear ho0); obtain ⟨Ao77, co77, eo77⟩ := Kd.R_slice HO921.out; subst eo77; obtain ⟨Ao78, co78, eo78⟩ := Kd.R_slice HO924.out; subst eo78; obtain ⟨Ao79, co79, eo79⟩ := Kd.R_slice HO927.out; subst eo79) | ((with_reducible refine gate_callee (f := 57) rfl ?_); refine gL 26 Try.func57 #[.slice Ao77 t919.length co77, .slice Ao78 t922.length co78, .slice Ao79 t925.length co79] ?_; (with_reducible refine (shares_CheckMix.calls k (fun k_ => some k_ = (.slice Ao77 t919.length co77 : Value).ownBlock) _ _ t919 (fun k_ => some k_ = (.slice Ao78 t922.length co78 : Value).ownBlock) _ _ t922 _ _ t925 false t929 _ ?side1 ?side2 ?side3 ?side4 A10.out).mono ?_); (case side1 => exact Kd.R_V (Kd.R_tight rfl (Kd.R_apart' (Kd.R_apart' (HO921.out) (Kd.R_typed HO918.out) (by decide)) (Kd.R_typed HO927.out) (by decide)))); (case side2 => exact Kd.R_V (Kd.R_tight rfl (Kd.R_apart' (Kd.R_apart' (HO924.out) (Kd.R_typed HO918.out) (by decide)) (Kd.R_typed HO927.out) (by decide)))); (case side3 => exact kD (Kd.R_reads' HO927.out).2.2); (case side4 => exact (Kd.R_reads' HO927.out).2.1); rintro e w80 ⟨rfl, hb⟩; refine ⟨_, rfl, ?_⟩; replace HO911 := kO HO911 hb; replace HO914 := kO HO914 hb; replace HO918 := kO HO918 hb; replace HO921 := kO HO921 hb; replace HO924 := kO HO924 hb; replace HO927 := kO HO927 hb; replace HB := kH _ hb; (try clear hb); (try clear hb2); (try clear hk); (try clear hi)) | ((with_reducible refine gate_callee (f := 23) rfl ?_); refine gL 31 Try.func23 #[.slice A0 l0.length c0, .slice A1 l1.length c1] ?_; (with_reducible refine (congouref01_Two.calls k _ _ l0 _ _ l1 false _ ?side1 ?side2 ?side3 ?side4 A11.out).mono ?_); (case side1 => exact kC HR0); (case side2 => exact HC0.out); (case side3 => exact kC HR1); (case side4 => exact HC1.out); rintro e w' ⟨rfl, ⟨nd, rfl⟩⟩; refine ⟨_, rfl, ?_⟩; obtain ⟨Ao81, co81, eo81⟩ := Kd.R_slice HO918.out; subst eo81) | (go_at_call 21; (with_reducible refine (congoulaw01_awake.calls k  t931 _ A68.out).mono ?_); rintro e w82 ⟨rfl, hb⟩; replace HO911 := kO HO911 hb; replace HO914 := kO HO914 hb; replace HO918 := kO HO918 hb; replace HO921 := kO HO921 hb; replace HO924 := kO HO924 hb; replace HO927 := kO HO927 hb; replace HB := kH _ hb; (try clear hb); (try clear hb2); (try clear hk); (try clear hi)))
  go_ret
  exact ⟨by first | rfl | (simp [errW_none, errW_some] <;> rfl) | (simp [*, errW_none, errW_some] <;> rfl), hbC _⟩
 subst c12
 have H1 : ((congouref01_Uneven.f k l0 l1).bind fun t932 => (if t932 = true then (if t916 = 0 then ((congouref01_Mixes.f k l0 l1 t915).bind fun t933 => (congoulaw01_SharesMixes.j0 k l0 l1 l2 t928 t929 (!t933))) else (congoulaw01_SharesMixes.j0 k l0 l1 l2 t928 t929 true)) else (if (t915.length : Int) = 0 then (congoulaw01_SharesMixes.j1 k l0 l1 l2 t928 t929 (t916 != 4)) else (congoulaw01_SharesMixes.j1 k l0 l1 l2 t928 t929 true)))) = some r := by rw [if_pos rfl] at H; exact H
 clear H
 have H := H1
 clear H1
 replace H := Option.bind_eq_some_iff.mp H
 obtain ⟨t932, A130, H⟩ := H
 replace H : (if t932 = true then (if t916 = 0 then ((congouref01_Mixes.f k l0 l1 t915).bind fun t933 => (congoulaw01_SharesMixes.j0 k l0 l1 l2 t928 t929 (!t933))) else (congoulaw01_SharesMixes.j0 k l0 l1 l2 t928 t929 true)) else (if (t915.length : Int) = 0 then (congoulaw01_SharesMixes.j1 k l0 l1 l2 t928 t929 (t916 != 4)) else (congoulaw01_SharesMixes.j1 k l0 l1 l2 t928 t929 true))) = some r := H
 have A13 := Aside0.mk A130
 clear A130
 by_cases c14 : t932 = true
 rotate_left
 ·replace c14 := Bool.eq_false_iff.mpr c14
  subst c14
  have H1 : (if (t915.length : Int) = 0 then (congoulaw01_SharesMixes.j1 k l0 l1 l2 t928 t929 (t916 != 4)) else (congoulaw01_SharesMixes.j1 k l0 l1 l2 t928 t929 true)) = some r := by rw [if_neg (show ¬ (false = true) by decide)] at H; exact H
  clear H
  have H := H1
  clear H1
  have HC40 := Aside0.mk H
  clear H
  go_enter Try.func15, Try.ntmps15
  go_upto_region 6 with (first | ((with_reducible refine gate_callee (f := 18) rfl ?_); refine gL 13 Try.func18 #[.slice A0 l0.length c0] ?_; (with_reducible refine (congoulaw01_list.calls _ _ l0 t909 _ ?side1 ?side2 A4.out).mono ?_); (case side1 => repeat (first | exact HR0.out | (with_reducible refine Kd.C_alloc ?_ _) | (with_reducible refine Kd.C_drewN ?_ _) | (with_reducible refine Kd.C_drew ?_))); (case side2 => exact HC0.out); rintro e w41 ⟨v910, rfl, ho0, hb⟩; refine ⟨_, rfl, ?_⟩; have HO911 := ak (Kd.R_lower ho0 (below_size (hbC _))); replace HB := kH _ hb; (try clear hb); (try clear hb2); (try clear hk); (try clear hi); (try clear ho0)) | ((with_reducible refine gate_callee (f := 18) rfl ?_); refine gL 15 Try.func18 #[.slice A1 l1.length c1] ?_; (with_reducible refine (congoulaw01_list.calls _ _ l1 t912 _ ?side1 ?side2 A5.out).mono ?_); (case side1 => exact kC HR1); (case side2 => exact HC1.out); rintro e w42 ⟨v913, rfl, ho0, hb⟩; refine ⟨_, rfl, ?_⟩; have HO914 := ak (Kd.R_lower (Kd.R_new' ho0 (Kd.R_lt (rC HO911))) (below_size (hbC _))); replace HO911 := ak (Kd.R_elder' (rC HO911) (Kd.R_base ho0) hb); replace HB := kH _ hb; (try clear hb); (try clear hb2); (try clear hk); (try clear hi); (try clear ho0); obtain ⟨Ao43, co43, eo43⟩ := Kd.R_slice HO911.out; subst eo43; obtain ⟨Ao44, co44, eo44⟩ := Kd.R_slice HO914.out; subst eo44) | ((with_reducible refine gate_callee (f := 56) rfl ?_); refine gL 16 Try.func56 #[.slice Ao43 t909.length co43, .slice Ao44 t912.length co44] ?_; (with_reducible refine (xMix.calls k _ _ t909 _ _ t912 t915 t916 _ ?side1 ?side2 ?side3 ?side4 A6.out).mono ?_); (case side1 => exact kD (Kd.R_reads' HO911.out).2.2); (case side2 => exact (Kd.R_reads' HO911.out).2.1); (case side3 => exact kD (Kd.R_reads' HO914.out).2.2); (case side4 => exact (Kd.R_reads' HO914.out).2.1); rintro e w45 ⟨v917, rfl, ho0, hb⟩; refine ⟨_, rfl, ?_⟩; replace HO911 := kO HO911 hb; replace HO914 := kO HO914 hb; have HO918 := ak (Kd.R_lower ho0 (below_size (hbC _))); replace HB := kH _ hb; (try clear hb); (try clear hb2); (try clear hk); (try clear hi); (try clear ho0)) | ((with_reducible refine gate_callee (f := 18) rfl ?_); refine gL 21 Try.func18 #[.slice A0 l0.length c0] ?_; (with_reducible refine (congoulaw01_list.calls _ _ l0 t919 _ ?side1 ?side2 A7.out).mono ?_); (case side1 => exact kC HR0); (case side2 => exact HC0.out); rintro e w46 ⟨v920, rfl, ho0, hb⟩; refine ⟨_, rfl, ?_⟩; replace HO918 := kO HO918 hb; have HO921 := ak (Kd.R_lower (Kd.R_new' (Kd.R_new' ho0 (Kd.R_lt (rC HO911))) (Kd.R_lt (rC HO914))) (below_size (hbC _))); replace HO911 := ak (Kd.R_elder' (rC HO911) (Kd.R_base ho0) hb); replace HO914 := ak (Kd.R_elder' (rC HO914) (Kd.R_base ho0) hb); replace HB := kH _ hb; (try clear hb); (try clear hb2); (try clear hk); (try clear hi); (try clear ho0)) | ((with_reducible refine gate_callee (f := 18) rfl ?_); refine gL 23 Try.func18 #[.slice A1 l1.length c1] ?_; (with_reducible refine (congoulaw01_list.calls _ _ l1 t922 _ ?side1 ?side2 A8.out).mono ?_); (case side1 => exact kC HR1); (case side2 => exact HC1.out); rintro e w47 ⟨v923, rfl, ho0, hb⟩; refine ⟨_, rfl, ?_⟩; replace HO918 := kO HO918 hb; have HO924 := ak (Kd.R_lower (Kd.R_new' (Kd.R_new' (Kd.R_new' ho0 (Kd.R_lt (rC HO911))) (Kd.R_lt (rC HO914))) (Kd.R_lt (rC HO921))) (below_size (hbC _))); replace HO911 := ak (Kd.R_elder' (rC HO911) (Kd.R_base ho0) hb); replace HO914 := ak (Kd.R_elder' (rC HO914) (Kd.R_base ho0) hb); replace HO921 := ak (Kd.R_elder' (rC HO921) (Kd.R_base ho0) hb); replace HB := kH _ hb; (try clear hb); (try clear hb2); (try clear hk); (try clear hi); (try clear ho0)) | ((with_reducible refine gate_callee (f := 46) rfl ?_); refine gL 25 Try.func46 #[.slice A2 l2.length c2] ?_; (with_reducible refine (congoulaw01_matrix.calls k _ _ l2 t925 _ ?side1 ?side2 A9.out).mono ?_); (case side1 => exact kC HR2); (case side2 => exact HC2.out); rintro e w48 ⟨v926, rfl, ho0, hb⟩; replace ho0 := Kd.S_R ho0; refine ⟨_, rfl, ?_⟩; replace HO911 := kO HO911 hb; replace HO914 := kO HO914 hb; replace HO921 := kO HO921 hb; replace HO924 := kO HO924 hb; have HO927 := ak (Kd.R_lower (Kd.R_new' ho0 (Kd.R_lt (rC HO918))) (below_size (hbC _))); replace HO918 := ak (Kd.R_elder' (rC HO918) (Kd.R_base ho0) hb); replace HB := kH _ hb; (try clear hb); (try clear hb2); (try clear hk); (try clear hi); (try clear ho0); obtain ⟨Ao49, co49, eo49⟩ := Kd.R_slice HO921.out; subst eo49; obtain ⟨Ao50, co50, eo50⟩ := Kd.R_slice HO924.out; subst eo50; obtain ⟨Ao51, co51, eo51⟩ := Kd.R_slice HO927.out; subst eo51) | ((with_reducible refine gate_callee (f := 57) rfl ?_); refine gL 26 Try.func57 #[.slice Ao49 t919.length co49, .slice Ao50 t922.length co50, .slice Ao51 t925.length co51] ?_; (with_reducible refine (shares_CheckMix.calls k (fun k_ => some k_ = (.slice Ao49 t919.length co49 : Value).ownBlock) _ _ t919 (fun k_ => some k_ = (.slice Ao50 t922.length co50 : Value).ownBlock) _ _ t922 _ _ t925 t928 t929 _ ?side1 ?side2 ?side3 ?side4 A10.out).mono ?_); (case side1 => exact Kd.R_V (Kd.R_tight rfl (Kd.R_apart' (Kd.R_apart' (HO921.out) (Kd.R_typed HO918.out) (by decide)) (Kd.R_typed HO927.out) (by decide)))); (case side2 => exact Kd.R_V (Kd.R_tight rfl (Kd.R_apart' (Kd.R_apart' (HO924.out) (Kd.R_typed HO918.out) (by decide)) (Kd.R_typed HO927.out) (by decide)))); (case side3 => exact kD (Kd.R_reads' HO927.out).2.2); (case side4 => exact (Kd.R_reads' HO927.out).2.1); rintro e w52 ⟨rfl, hb⟩; refine ⟨_, rfl, ?_⟩; replace HO911 := kO HO911 hb; replace HO914 := kO HO914 hb; replace HO918 := kO HO918 hb; replace HO921 := kO HO921 hb; replace HO924 := kO HO924 hb; replace HO927 := kO HO927 hb; replace HB := kH _ hb; (try clear hb); (try clear hb2); (try clear hk); (try clear hi)) | ((with_reducible refine gate_callee (f := 23) rfl ?_); refine gL 31 Try.func23 #[.slice A0 l0.length c0, .slice A1 l1.length c1] ?_; (with_reducible refine (congouref01_Two.calls k _ _ l0 _ _ l1 true _ ?side1 ?side2 ?side3 ?side4 A11.out).mono ?_); (case side1 => exact kC HR0); (case side2 => exact HC0.out); (case side3 => exact kC HR1); (case side4 => exact HC1.out); rintro e w' ⟨rfl, ⟨nd, rfl⟩⟩; refine ⟨_, rfl, ?_⟩) | ((with_reducible refine gate_callee (f := 24) rfl ?_); refine gL 53 Try.func24 #[.slice A0 l0.length c0, .slice A1 l1.length c1] ?_; (with_reducible refine (congouref01_Uneven.calls k _ _ l0 _ _ l1 false _ ?side1 ?side2 ?side3 ?side4 A13.out).mono ?_); (case side1 => repeat (first | exact (Kd.C_below HR0.out (hbC _)) | (with_reducible refine Kd.C_alloc ?_ _) | (with_reducible refine Kd.C_drewN ?_ _) | (with_reducible refine Kd.C_drew ?_))); (case side2 => exact HC0.out); (case side3 => repeat (first | exact (Kd.C_below HR1.out (hbC _)) | (with_reducible refine Kd.C_alloc ?_ _) | (with_reducible refine Kd.C_drewN ?_ _) | (with_reducible refine Kd.C_drew ?_))); (case side4 => exact HC1.out); rintro e w53 ⟨rfl, hb⟩; refine ⟨_, rfl, ?_⟩; replace HO911 := kO HO911 hb; replace HO914 := kO HO914 hb; replace HO918 := kO HO918 hb; replace HO921 := kO HO921 hb; replace HO924 := kO HO924 hb; replace HO927 := kO HO927 hb; replace HB := kH _ hb; (try clear hb); (try clear hb2); (try clear hk); (try clear hi)))
  (try simp only [Act.put, List.setIfInBounds_toArray, List.set_cons_zero, List.set_cons_succ])
  go_cut [61] (fun v61 wc => ∃ (kq : Nat) (x61_39 : Bool), v61 = .bool x61_39 ∧ Aside0 (congoulaw01_SharesMixes.j1 kq l0 l1 l2 t928 t929 x61_39 = some r) ∧ Aside0 (kq ≤ k) ∧ Aside0 (Below w.heap.size w wc))
  case first =>
   have H := HC40.out
   clear HC40
   by_cases c54 : (t915.length : Int) = 0
   ·rw [if_pos c54] at H
    have c54b0 : ((t915.length : Int) == 0) = true := beq_iff_eq.mpr c54
    have c54b1 : ((t915.length : Int) != 0) = false := bne_eq_false_iff_eq.mpr c54
    clear c54
    (first | rw [c54b0] | (simp only [i64_w, i32_w]; rw [c54b0]) | skip)
    have H' := Aside0.mk H
    clear H
    obtain ⟨Ao55, co55, eo55⟩ := Kd.R_slice HO918.out
    subst eo55
    go_wp2
    go_meet
    case rel => exact ⟨_, ((t916 != 4)), (by first | rfl | (simp; done) | (simp [*]; done)), H', ⟨by first | omega | exact Nat.le_refl _⟩, ⟨hbC _⟩⟩
   rw [if_neg c54] at H
   have c54b0 : ((t915.length : Int) == 0) = false := beq_eq_false_iff_ne.mpr c54
   have c54b1 : ((t915.length : Int) != 0) = true := bne_iff_ne.mpr c54
   have c54b2 : ¬ (t915 = []) := fun h_ => c54 (by rw [h_]; rfl)
   (first | rw [c54b0] | (simp only [i64_w, i32_w]; rw [c54b0]) | skip)
   have H' := Aside0.mk H
   clear H
   obtain ⟨Ao56, co56, eo56⟩ := Kd.R_slice HO918.out
   subst eo56
   go_wp2
   go_meet
   case rel => exact ⟨_, (true), (by first | rfl | (simp; done) | (simp [*]; done)), H', ⟨by first | omega | exact Nat.le_refl _⟩, ⟨hbC _⟩⟩
  case rest =>
   clear HC40
   try clear c1
   try clear c2
   try clear p2
   try clear c3
   try clear c4
   try clear c5
   try clear c12
   try clear c14
   try clear c15
   try clear c18
   try clear c23
   try clear c24
   try clear c29
   try clear c29b0
   try clear c29b1
   try clear c33
   try clear c34
   try clear c34b0
   try clear c34b1
   try clear c36
   try clear c36b0
   try clear c36b1
   try clear c36b2
   try clear c46
   try clear c54
   try clear c54b0
   try clear c54b1
   try clear c54b2
   try clear c56
   try clear p2
   obtain ⟨kq, x61_39, rfl, HA, HJ39, HB⟩ := hcut
   cases kq with
   | zero => exact absurd HA.out (by simp [congoulaw01_SharesMixes.j1])
   | succ kj39 =>
    have H := HA.out
    clear HA
    simp only [congoulaw01_SharesMixes.j1] at H
    by_cases c57 : x61_39 = true
    ·subst c57
     have H1 : (some false) = some r := by rw [if_pos rfl] at H; exact H
     clear H
     have H := H1
     clear H1
     exact absurd (H.trans (congrArg some HRT.out)) (by simp)
    replace c57 := Bool.eq_false_iff.mpr c57
    subst c57
    have H1 : (if t929 = 0 then ((congouref01_Mixes.f kj39 l0 l1 l2).bind fun t936 => (if (t928 == t936) = true then ((congoulaw01_awake.f kj39).bind fun t937 => (some t937)) else (some false))) else (some false)) = some r := by rw [if_neg (show ¬ (false = true) by decide)] at H; exact H
    clear H
    have H := H1
    clear H1
    by_cases c58 : t929 = 0
    rotate_left
    ·rw [if_neg c58] at H
     have c58b0 : (t929 == 0) = false := beq_eq_false_iff_ne.mpr c58
     have c58b1 : (t929 != 0) = true := bne_iff_ne.mpr c58
     exact absurd (H.trans (congrArg some HRT.out)) (by simp)
    rw [if_pos c58] at H
    have c58b0 : (t929 == 0) = true := beq_iff_eq.mpr c58
    have c58b1 : (t929 != 0) = false := bne_eq_false_iff_eq.mpr c58
    clear c58
    replace H := Option.bind_eq_some_iff.mp H
    obtain ⟨t936, A590, H⟩ := H
    replace H : (if (t928 == t936) = true then ((congoulaw01_awake.f kj39).bind fun t937 => (some t937)) else (some false)) = some r := H
    have A59 := Aside0.mk A590
    clear A590
    by_cases c60 : (t928 == t936) = true
    rotate_left
    ·rw [if_neg c60] at H
     have c60b0 : (t928 == t936) = false := by simpa using c60
     (try (have c60b1 : decide (t928 = t936) = false := by simpa using c60))
     (try (have c60b2 : (t928 == t936) = false := by simpa using c60))
     (try (have c60b3 : ¬ (t928 = t936) := by simpa using c60))
     clear c60
     exact absurd (H.trans (congrArg some HRT.out)) (by simp)
    rw [if_pos c60] at H
    have c60b0 : (t928 == t936) = true := c60
    (try (have c60b1 : decide (t928 = t936) = true := by simpa using c60))
    (try (have c60b2 : (t928 == t936) = true := by simpa using c60))
    clear c60
    replace H := Option.bind_eq_some_iff.mp H
    obtain ⟨t937, A610, H⟩ := H
    replace H : (some t937) = some r := H
    have A61 := Aside0.mk A610
    clear A610
    obtain rfl := Option.some.inj H
    go_wp2_with (first | (go_at_call 58; (with_reducible refine (congouref01_Mixes.calls kj39 _ _ l0 _ _ l1 _ _ l2 t936 _ ?side1 ?side2 ?side3 ?side4 ?side5 ?side6 A59.out).mono ?_); (case side1 => exact kC HR0); (case side2 => exact HC0.out); (case side3 => exact kC HR1); (case side4 => exact HC1.out); (case side5 => exact kC HR2); (case side6 => exact HC2.out); rintro e w62 ⟨rfl, hb⟩; replace HB := kH _ hb; (try clear hb); (try clear hb2); (try clear hk); (try clear hi)) | (go_at_call 21; (with_reducible refine (congoulaw01_awake.calls kj39  t937 _ A61.out).mono ?_); rintro e w63 ⟨rfl, hb⟩; replace HB := kH _ hb; (try clear hb); (try clear hb2); (try clear hk); (try clear hi)))
    go_ret
    exact ⟨by first | rfl | (simp [errW_none, errW_some] <;> rfl) | (simp [*, errW_none, errW_some] <;> rfl), hbC _⟩
 subst c14
 have H1 : (if t916 = 0 then ((congouref01_Mixes.f k l0 l1 t915).bind fun t933 => (congoulaw01_SharesMixes.j0 k l0 l1 l2 t928 t929 (!t933))) else (congoulaw01_SharesMixes.j0 k l0 l1 l2 t928 t929 true)) = some r := by rw [if_pos rfl] at H; exact H
 clear H
 have H := H1
 clear H1
 have HC15 := Aside0.mk H
 clear H
 go_enter Try.func15, Try.ntmps15
 go_upto_region 8 with (first | ((with_reducible refine gate_callee (f := 18) rfl ?_); refine gL 13 Try.func18 #[.slice A0 l0.length c0] ?_; (with_reducible refine (congoulaw01_list.calls _ _ l0 t909 _ ?side1 ?side2 A4.out).mono ?_); (case side1 => repeat (first | exact HR0.out | (with_reducible refine Kd.C_alloc ?_ _) | (with_reducible refine Kd.C_drewN ?_ _) | (with_reducible refine Kd.C_drew ?_))); (case side2 => exact HC0.out); rintro e w16 ⟨v910, rfl, ho0, hb⟩; refine ⟨_, rfl, ?_⟩; have HO911 := ak (Kd.R_lower ho0 (below_size (hbC _))); replace HB := kH _ hb; (try clear hb); (try clear hb2); (try clear hk); (try clear hi); (try clear ho0)) | ((with_reducible refine gate_callee (f := 18) rfl ?_); refine gL 15 Try.func18 #[.slice A1 l1.length c1] ?_; (with_reducible refine (congoulaw01_list.calls _ _ l1 t912 _ ?side1 ?side2 A5.out).mono ?_); (case side1 => exact kC HR1); (case side2 => exact HC1.out); rintro e w17 ⟨v913, rfl, ho0, hb⟩; refine ⟨_, rfl, ?_⟩; have HO914 := ak (Kd.R_lower (Kd.R_new' ho0 (Kd.R_lt (rC HO911))) (below_size (hbC _))); replace HO911 := ak (Kd.R_elder' (rC HO911) (Kd.R_base ho0) hb); replace HB := kH _ hb; (try clear hb); (try clear hb2); (try clear hk); (try clear hi); (try clear ho0); obtain ⟨Ao18, co18, eo18⟩ := Kd.R_slice HO911.out; subst eo18; obtain ⟨Ao19, co19, eo19⟩ := Kd.R_slice HO914.out; subst eo19) | ((with_reducible refine gate_callee (f := 56) rfl ?_); refine gL 16 Try.func56 #[.slice Ao18 t909.length co18, .slice Ao19 t912.length co19] ?_; (with_reducible refine (xMix.calls k _ _ t909 _ _ t912 t915 t916 _ ?side1 ?side2 ?side3 ?side4 A6.out).mono ?_); (case side1 => exact kD (Kd.R_reads' HO911.out).2.2); (case side2 => exact (Kd.R_reads' HO911.out).2.1); (case side3 => exact kD (Kd.R_reads' HO914.out).2.2); (case side4 => exact (Kd.R_reads' HO914.out).2.1); rintro e w20 ⟨v917, rfl, ho0, hb⟩; refine ⟨_, rfl, ?_⟩; replace HO911 := kO HO911 hb; replace HO914 := kO HO914 hb; have HO918 := ak (Kd.R_lower ho0 (below_size (hbC _))); replace HB := kH _ hb; (try clear hb); (try clear hb2); (try clear hk); (try clear hi); (try clear ho0)) | ((with_reducible refine gate_callee (f := 18) rfl ?_); refine gL 21 Try.func18 #[.slice A0 l0.length c0] ?_; (with_reducible refine (congoulaw01_list.calls _ _ l0 t919 _ ?side1 ?side2 A7.out).mono ?_); (case side1 => exact kC HR0); (case side2 => exact HC0.out); rintro e w21 ⟨v920, rfl, ho0, hb⟩; refine ⟨_, rfl, ?_⟩; replace HO918 := kO HO918 hb; have HO921 := ak (Kd.R_lower (Kd.R_new' (Kd.R_new' ho0 (Kd.R_lt (rC HO911))) (Kd.R_lt (rC HO914))) (below_size (hbC _))); replace HO911 := ak (Kd.R_elder' (rC HO911) (Kd.R_base ho0) hb); replace HO914 := ak (Kd.R_elder' (rC HO914) (Kd.R_base ho0) hb); replace HB := kH _ hb; (try clear hb); (try clear hb2); (try clear hk); (try clear hi); (try clear ho0)) | ((with_reducible refine gate_callee (f := 18) rfl ?_); refine gL 23 Try.func18 #[.slice A1 l1.length c1] ?_; (with_reducible refine (congoulaw01_list.calls _ _ l1 t922 _ ?side1 ?side2 A8.out).mono ?_); (case side1 => exact kC HR1); (case side2 => exact HC1.out); rintro e w22 ⟨v923, rfl, ho0, hb⟩; refine ⟨_, rfl, ?_⟩; replace HO918 := kO HO918 hb; have HO924 := ak (Kd.R_lower (Kd.R_new' (Kd.R_new' (Kd.R_new' ho0 (Kd.R_lt (rC HO911))) (Kd.R_lt (rC HO914))) (Kd.R_lt (rC HO921))) (below_size (hbC _))); replace HO911 := ak (Kd.R_elder' (rC HO911) (Kd.R_base ho0) hb); replace HO914 := ak (Kd.R_elder' (rC HO914) (Kd.R_base ho0) hb); replace HO921 := ak (Kd.R_elder' (rC HO921) (Kd.R_base ho0) hb); replace HB := kH _ hb; (try clear hb); (try clear hb2); (try clear hk); (try clear hi); (try clear ho0)) | ((with_reducible refine gate_callee (f := 46) rfl ?_); refine gL 25 Try.func46 #[.slice A2 l2.length c2] ?_; (with_reducible refine (congoulaw01_matrix.calls k _ _ l2 t925 _ ?side1 ?side2 A9.out).mono ?_); (case side1 => exact kC HR2); (case side2 => exact HC2.out); rintro e w23 ⟨v926, rfl, ho0, hb⟩; replace ho0 := Kd.S_R ho0; refine ⟨_, rfl, ?_⟩; replace HO911 := kO HO911 hb; replace HO914 := kO HO914 hb; replace HO921 := kO HO921 hb; replace HO924 := kO HO924 hb; have HO927 := ak (Kd.R_lower (Kd.R_new' ho0 (Kd.R_lt (rC HO918))) (below_size (hbC _))); replace HO918 := ak (Kd.R_elder' (rC HO918) (Kd.R_base ho0) hb); replace HB := kH _ hb; (try clear hb); (try clear hb2); (try clear hk); (try clear hi); (try clear ho0); obtain ⟨Ao24, co24, eo24⟩ := Kd.R_slice HO921.out; subst eo24; obtain ⟨Ao25, co25, eo25⟩ := Kd.R_slice HO924.out; subst eo25; obtain ⟨Ao26, co26, eo26⟩ := Kd.R_slice HO927.out; subst eo26) | ((with_reducible refine gate_callee (f := 57) rfl ?_); refine gL 26 Try.func57 #[.slice Ao24 t919.length co24, .slice Ao25 t922.length co25, .slice Ao26 t925.length co26] ?_; (with_reducible refine (shares_CheckMix.calls k (fun k_ => some k_ = (.slice Ao24 t919.length co24 : Value).ownBlock) _ _ t919 (fun k_ => some k_ = (.slice Ao25 t922.length co25 : Value).ownBlock) _ _ t922 _ _ t925 t928 t929 _ ?side1 ?side2 ?side3 ?side4 A10.out).mono ?_); (case side1 => exact Kd.R_V (Kd.R_tight rfl (Kd.R_apart' (Kd.R_apart' (HO921.out) (Kd.R_typed HO918.out) (by decide)) (Kd.R_typed HO927.out) (by decide)))); (case side2 => exact Kd.R_V (Kd.R_tight rfl (Kd.R_apart' (Kd.R_apart' (HO924.out) (Kd.R_typed HO918.out) (by decide)) (Kd.R_typed HO927.out) (by decide)))); (case side3 => exact kD (Kd.R_reads' HO927.out).2.2); (case side4 => exact (Kd.R_reads' HO927.out).2.1); rintro e w27 ⟨rfl, hb⟩; refine ⟨_, rfl, ?_⟩; replace HO911 := kO HO911 hb; replace HO914 := kO HO914 hb; replace HO918 := kO HO918 hb; replace HO921 := kO HO921 hb; replace HO924 := kO HO924 hb; replace HO927 := kO HO927 hb; replace HB := kH _ hb; (try clear hb); (try clear hb2); (try clear hk); (try clear hi)) | ((with_reducible refine gate_callee (f := 23) rfl ?_); refine gL 31 Try.func23 #[.slice A0 l0.length c0, .slice A1 l1.length c1] ?_; (with_reducible refine (congouref01_Two.calls k _ _ l0 _ _ l1 true _ ?side1 ?side2 ?side3 ?side4 A11.out).mono ?_); (case side1 => exact kC HR0); (case side2 => exact HC0.out); (case side3 => exact kC HR1); (case side4 => exact HC1.out); rintro e w' ⟨rfl, ⟨nd, rfl⟩⟩; refine ⟨_, rfl, ?_⟩) | ((with_reducible refine gate_callee (f := 24) rfl ?_); refine gL 53 Try.func24 #[.slice A0 l0.length c0, .slice A1 l1.length c1] ?_; (with_reducible refine (congouref01_Uneven.calls k _ _ l0 _ _ l1 true _ ?side1 ?side2 ?side3 ?side4 A13.out).mono ?_); (case side1 => repeat (first | exact (Kd.C_below HR0.out (hbC _)) | (with_reducible refine Kd.C_alloc ?_ _) | (with_reducible refine Kd.C_drewN ?_ _) | (with_reducible refine Kd.C_drew ?_))); (case side2 => exact HC0.out); (case side3 => repeat (first | exact (Kd.C_below HR1.out (hbC _)) | (with_reducible refine Kd.C_alloc ?_ _) | (with_reducible refine Kd.C_drewN ?_ _) | (with_reducible refine Kd.C_drew ?_))); (case side4 => exact HC1.out); rintro e w28 ⟨rfl, hb⟩; refine ⟨_, rfl, ?_⟩; replace HO911 := kO HO911 hb; replace HO914 := kO HO914 hb; replace HO918 := kO HO918 hb; replace HO921 := kO HO921 hb; replace HO924 := kO HO924 hb; replace HO927 := kO HO927 hb; replace HB := kH _ hb; (try clear hb); (try clear hb2); (try clear hk); (try clear hi)))
 (try simp only [Act.put, List.setIfInBounds_toArray, List.set_cons_zero, List.set_cons_succ])
 go_cut [70] (fun v70 wc => ∃ (kq : Nat) (x70_14 : Bool), v70 = .bool x70_14 ∧ Aside0 (congoulaw01_SharesMixes.j0 kq l0 l1 l2 t928 t929 x70_14 = some r) ∧ Aside0 (kq ≤ k) ∧ Aside0 (Below w.heap.size w wc))
 case first =>
  have H := HC15.out
  clear HC15
  by_cases c29 : t916 = 0
  rotate_left
  ·rw [if_neg c29] at H
   have c29b0 : (t916 == 0) = false := beq_eq_false_iff_ne.mpr c29
   have c29b1 : (t916 != 0) = true := bne_iff_ne.mpr c29
   (first | rw [c29b0] | (simp only [i64_w, i32_w]; rw [c29b0]) | skip)
   have H' := Aside0.mk H
   clear H
   go_wp2
   go_meet
   case rel => exact ⟨_, (true), (by first | rfl | (simp; done) | (simp [*]; done)), H', ⟨by first | omega | exact Nat.le_refl _⟩, ⟨hbC _⟩⟩
  rw [if_pos c29] at H
  have c29b0 : (t916 == 0) = true := beq_iff_eq.mpr c29
  have c29b1 : (t916 != 0) = false := bne_eq_false_iff_eq.mpr c29
  clear c29
  (first | rw [c29b0] | (simp only [i64_w, i32_w]; rw [c29b0]) | skip)
  replace H := Option.bind_eq_some_iff.mp H
  obtain ⟨t933, A300, H⟩ := H
  replace H : (congoulaw01_SharesMixes.j0 k l0 l1 l2 t928 t929 (!t933)) = some r := H
  have A30 := Aside0.mk A300
  clear A300
  have H' := Aside0.mk H
  clear H
  obtain ⟨Ao31, co31, eo31⟩ := Kd.R_slice HO918.out
  subst eo31
  go_wp2_with (first | (go_at_call 58; (with_reducible refine (congouref01_Mixes.calls k _ _ l0 _ _ l1 _ _ t915 t933 _ ?side1 ?side2 ?side3 ?side4 ?side5 ?side6 A30.out).mono ?_); (case side1 => exact kC HR0); (case side2 => exact HC0.out); (case side3 => exact kC HR1); (case side4 => exact HC1.out); (case side5 => exact kD (Kd.R_reads' HO918.out).2.2); (case side6 => exact (Kd.R_reads' HO918.out).2.1); rintro e w32 ⟨rfl, hb⟩; replace HO911 := kO HO911 hb; replace HO914 := kO HO914 hb; replace HO918 := kO HO918 hb; replace HO921 := kO HO921 hb; replace HO924 := kO HO924 hb; replace HO927 := kO HO927 hb; replace HB := kH _ hb; (try clear hb); (try clear hb2); (try clear hk); (try clear hi)))
  go_meet
  case rel => exact ⟨_, (!t933), (by first | rfl | (simp; done) | (simp [*]; done)), H', ⟨by first | omega | exact Nat.le_refl _⟩, ⟨hbC _⟩⟩
 case rest =>
  clear HC15
  try clear c1
  try clear c2
  try clear p2
  try clear c4
  try clear c5
  try clear c12
  try clear c14
  try clear c15
  try clear c18
  try clear c23
  try clear c24
  try clear c29
  try clear c29b0
  try clear c29b1
  obtain ⟨kq, x70_14, rfl, HA, HJ14, HB⟩ := hcut
  cases kq with
  | zero => exact absurd HA.out (by simp [congoulaw01_SharesMixes.j0])
  | succ kj14 =>
   have H := HA.out
   clear HA
   simp only [congoulaw01_SharesMixes.j0] at H
   by_cases c33 : x70_14 = true
   ·subst c33
    have H1 : (some false) = some r := by rw [if_pos rfl] at H; exact H
    clear H
    have H := H1
    clear H1
    exact absurd (H.trans (congrArg some HRT.out)) (by simp)
   replace c33 := Bool.eq_false_iff.mpr c33
   subst c33
   have H1 : (if t929 = 0 then ((congouref01_Mixes.f kj14 l0 l1 l2).bind fun t934 => (if (t928 == t934) = true then ((congoulaw01_awake.f kj14).bind fun t935 => (some t935)) else (some false))) else (some false)) = some r := by rw [if_neg (show ¬ (false = true) by decide)] at H; exact H
   clear H
   have H := H1
   clear H1
   by_cases c34 : t929 = 0
   rotate_left
   ·rw [if_neg c34] at H
    have c34b0 : (t929 == 0) = false := beq_eq_false_iff_ne.mpr c34
    have c34b1 : (t929 != 0) = true := bne_iff_ne.mpr c34
    exact absurd (H.trans (congrArg some HRT.out)) (by simp)
   rw [if_pos c34] at H
   have c34b0 : (t929 == 0) = true := beq_iff_eq.mpr c34
   have c34b1 : (t929 != 0) = false := bne_eq_false_iff_eq.mpr c34
   clear c34
   replace H := Option.bind_eq_some_iff.mp H
   obtain ⟨t934, A350, H⟩ := H
   replace H : (if (t928 == t934) = true then ((congoulaw01_awake.f kj14).bind fun t935 => (some t935)) else (some false)) = some r := H
   have A35 := Aside0.mk A350
   clear A350
   by_cases c36 : (t928 == t934) = true
   rotate_left
   ·rw [if_neg c36] at H
    have c36b0 : (t928 == t934) = false := by simpa using c36
    (try (have c36b1 : decide (t928 = t934) = false := by simpa using c36))
    (try (have c36b2 : (t928 == t934) = false := by simpa using c36))
    (try (have c36b3 : ¬ (t928 = t934) := by simpa using c36))
    clear c36
    exact absurd (H.trans (congrArg some HRT.out)) (by simp)
   rw [if_pos c36] at H
   have c36b0 : (t928 == t934) = true := c36
   (try (have c36b1 : decide (t928 = t934) = true := by simpa using c36))
   (try (have c36b2 : (t928 == t934) = true := by simpa using c36))
   clear c36
   replace H := Option.bind_eq_some_iff.mp H
   obtain ⟨t935, A370, H⟩ := H
   replace H : (some t935) = some r := H
   have A37 := Aside0.mk A370
   clear A370
   obtain rfl := Option.some.inj H
   go_wp2_with (first | (go_at_call 58; (with_reducible refine (congouref01_Mixes.calls kj14 _ _ l0 _ _ l1 _ _ l2 t934 _ ?side1 ?side2 ?side3 ?side4 ?side5 ?side6 A35.out).mono ?_); (case side1 => exact kC HR0); (case side2 => exact HC0.out); (case side3 => exact kC HR1); (case side4 => exact HC1.out); (case side5 => exact kC HR2); (case side6 => exact HC2.out); rintro e w38 ⟨rfl, hb⟩; replace HB := kH _ hb; (try clear hb); (try clear hb2); (try clear hk); (try clear hi)) | (go_at_call 21; (with_reducible refine (congoulaw01_awake.calls kj14  t935 _ A37.out).mono ?_); rintro e w39 ⟨rfl, hb⟩; replace HB := kH _ hb; (try clear hb); (try clear hb2); (try clear hk); (try clear hi)))
   go_ret
   exact ⟨by first | rfl | (simp [errW_none, errW_some] <;> rfl) | (simp [*, errW_none, errW_some] <;> rfl), hbC _⟩

end Go.Proofs.Ytefmafbbnkkpjaa.X
