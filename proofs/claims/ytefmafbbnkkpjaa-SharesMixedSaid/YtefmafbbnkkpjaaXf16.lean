-- Written by a program of this work (wip/xprint.py, over the kit's printer) out of the translation.
import Derived.Test.YtefmafbbnkkpjaaX0
import Derived.Test.YtefmafbbnkkpjaaXG2a
import Derived.Test.YtefmafbbnkkpjaaXf17
import Derived.Test.YtefmafbbnkkpjaaXf21
import Derived.Test.YtefmafbbnkkpjaaXf57
import Derived.Test.YtefmafbbnkkpjaaE56
namespace Go.Proofs.Ytefmafbbnkkpjaa.X
open Go.RowKit Go.Proofs.YtefmafbbnkkpjaaW.PrintWords Go.Proofs.YtefmafbbnkkpjaaW.PrintLast Go.Proofs.YtefmafbbnkkpjaaW.PrintMore
attribute [local go_sem] max2_int min2_int max_two min_two max_three min_three max_four min_four   -- for this text's walks alone
set_option linter.unusedVariables false
set_option linter.unusedSimpArgs false

/-! ### congoulaw01_SharesMixed: function 16 -/
mutual
def congoulaw01_SharesMixed.j0 : Nat → List Int → List Int → List (List (S62)) → Int → Bool → Int → Bool → Int → Bool → Option (Bool)
 | 0, _, _, _, _, _, _, _, _, _ => none
 | k + 1, x0, x1, x7, x8, x9, x10, x11, x12, x48 => if x48 = true then (if x8 = 2 then (if x10 = x8 then (if x12 = x8 then ((congoulaw01_awake.f k).bind fun t864 => (some t864)) else (some false)) else (some false)) else (some false)) else (if x10 = 0 then (if x9 = true then (congoulaw01_SharesMixed.j1 k x0 x1 x7 x8 x11 (!x11)) else (congoulaw01_SharesMixed.j1 k x0 x1 x7 x8 x11 false)) else (congoulaw01_SharesMixed.j1 k x0 x1 x7 x8 x11 true))
def congoulaw01_SharesMixed.j1 : Nat → List Int → List Int → List (List (S62)) → Int → Bool → Bool → Option (Bool)
 | 0, _, _, _, _, _, _ => none
 | k + 1, x0, x1, x7, x8, x11, x72 => if x72 = true then (some false) else (if x8 = 0 then ((congoulaw01_list.f x0).bind fun t866 => ((congoulaw01_list.f x1).bind fun t869 => ((congoulaw01_matrix.f k x7).bind fun t872 => ((shares_CheckMix.f k t866 t869 t872).bind fun bt875 => (if x11 = true then (if bt875.1 = true then (if bt875.2 = 0 then (if (x7.length : Int) = (x0.length : Int) then ((congoulaw01_awake.f k).bind fun t877 => (some t877)) else (some false)) else (some false)) else (some false)) else (some false)))))) else (if x8 = 4 then (if x11 = true then (some false) else ((congoulaw01_awake.f k).bind fun t865 => (some t865))) else (some false)))
end
def congoulaw01_SharesMixed.f (k : Nat) (l0 : List Int) (l1 : List Int) (l2 : List (List (S62))) : Option (Bool) := (congoulaw01_list.f l0).bind fun t834 => ((congoulaw01_list.f l1).bind fun t837 => ((xMix.f k t834 t837).bind fun bt840 => ((congoulaw01_list.f l0).bind fun t844 => ((congoulaw01_list.f l1).bind fun t847 => ((congoulaw01_matrix.f k l2).bind fun t850 => ((shares_CheckMix.f k t844 t847 t850).bind fun bt853 => ((congoulaw01_list.f l0).bind fun t855 => ((congoulaw01_list.f l1).bind fun t858 => ((shares_Uneven.f k t855 t858).bind fun bt861 => (if bt861.2 = 0 then ((congouref01_Two.f k l0 l1).bind fun t863 => (congoulaw01_SharesMixed.j0 k l0 l1 bt840.1 bt840.2 bt853.1 bt853.2 bt861.1 bt861.2 (!t863))) else (congoulaw01_SharesMixed.j0 k l0 l1 bt840.1 bt840.2 bt853.1 bt853.2 bt861.1 bt861.2 true)))))))))))
theorem congoulaw01_SharesMixed.mono_l : ∀ k, (∀ y0 y1 y2 y3 y4 y5 y6 y7 y8, LeO (congoulaw01_SharesMixed.j0 k y0 y1 y2 y3 y4 y5 y6 y7 y8) (congoulaw01_SharesMixed.j0 (k + 1) y0 y1 y2 y3 y4 y5 y6 y7 y8)) ∧ (∀ y0 y1 y2 y3 y4 y5, LeO (congoulaw01_SharesMixed.j1 k y0 y1 y2 y3 y4 y5) (congoulaw01_SharesMixed.j1 (k + 1) y0 y1 y2 y3 y4 y5))
 | 0 => ⟨fun _ _ _ _ _ _ _ _ _ r h => by simp [congoulaw01_SharesMixed.j0] at h, fun _ _ _ _ _ _ r h => by simp [congoulaw01_SharesMixed.j1] at h⟩
 | k + 1 => by
  obtain ⟨ih0, ih1⟩ := congoulaw01_SharesMixed.mono_l k
  refine ⟨?_, ?_⟩
  ·intro y0 y1 y2 y3 y4 y5 y6 y7 y8
   unfold congoulaw01_SharesMixed.j0
   repeat' first
   | (with_reducible exact ih0 _ _ _ _ _ _ _ _ _)
   | (with_reducible exact ih1 _ _ _ _ _ _)
   | (with_reducible exact congoulaw01_awake.mono _)
   | (with_reducible exact congoulaw01_matrix.mono _ _)
   | (with_reducible exact congouref01_Two.mono _ _ _)
   | (with_reducible exact shares_CheckMix.mono _ _ _ _)
   | (with_reducible exact shares_Uneven.mono _ _ _)
   | (with_reducible exact xMix.mono _ _ _)
   | (with_reducible exact LeO.refl _)
   | (with_reducible exact LeO.none _)
   | (with_reducible refine LeO.ite ?_ ?_)
   | (with_reducible refine LeO.bind ?_ (fun _ => ?_))
   | exact ih0 _ _ _ _ _ _ _ _ _
   | exact ih1 _ _ _ _ _ _
   | exact congoulaw01_awake.mono _
   | exact congoulaw01_matrix.mono _ _
   | exact congouref01_Two.mono _ _ _
   | exact shares_CheckMix.mono _ _ _ _
   | exact shares_Uneven.mono _ _ _
   | exact xMix.mono _ _ _
   | exact LeO.none _
   | refine LeO.ite ?_ ?_
   | refine LeO.bind ?_ (fun _ => ?_)
  ·intro y0 y1 y2 y3 y4 y5
   unfold congoulaw01_SharesMixed.j1
   repeat' first
   | (with_reducible exact ih0 _ _ _ _ _ _ _ _ _)
   | (with_reducible exact ih1 _ _ _ _ _ _)
   | (with_reducible exact congoulaw01_awake.mono _)
   | (with_reducible exact congoulaw01_matrix.mono _ _)
   | (with_reducible exact congouref01_Two.mono _ _ _)
   | (with_reducible exact shares_CheckMix.mono _ _ _ _)
   | (with_reducible exact shares_Uneven.mono _ _ _)
   | (with_reducible exact xMix.mono _ _ _)
   | (with_reducible exact LeO.refl _)
   | (with_reducible exact LeO.none _)
   | (with_reducible refine LeO.ite ?_ ?_)
   | (with_reducible refine LeO.bind ?_ (fun _ => ?_))
   | exact ih0 _ _ _ _ _ _ _ _ _
   | exact ih1 _ _ _ _ _ _
   | exact congoulaw01_awake.mono _
   | exact congoulaw01_matrix.mono _ _
   | exact congouref01_Two.mono _ _ _
   | exact shares_CheckMix.mono _ _ _ _
   | exact shares_Uneven.mono _ _ _
   | exact xMix.mono _ _ _
   | exact LeO.none _
   | refine LeO.ite ?_ ?_
   | refine LeO.bind ?_ (fun _ => ?_)
theorem congoulaw01_SharesMixed.mono : ∀ a0 a1 a2 k, LeO (congoulaw01_SharesMixed.f k a0 a1 a2) (congoulaw01_SharesMixed.f (k + 1) a0 a1 a2) := by
 intro a0 a1 a2 k
 obtain ⟨ih0, ih1⟩ := congoulaw01_SharesMixed.mono_l k
 unfold congoulaw01_SharesMixed.f
 repeat' first
   | (with_reducible exact ih0 _ _ _ _ _ _ _ _ _)
   | (with_reducible exact ih1 _ _ _ _ _ _)
   | (with_reducible exact congoulaw01_awake.mono _)
   | (with_reducible exact congoulaw01_matrix.mono _ _)
   | (with_reducible exact congouref01_Two.mono _ _ _)
   | (with_reducible exact shares_CheckMix.mono _ _ _ _)
   | (with_reducible exact shares_Uneven.mono _ _ _)
   | (with_reducible exact xMix.mono _ _ _)
   | (with_reducible exact LeO.refl _)
   | (with_reducible exact LeO.none _)
   | (with_reducible refine LeO.ite ?_ ?_)
   | (with_reducible refine LeO.bind ?_ (fun _ => ?_))
   | exact ih0 _ _ _ _ _ _ _ _ _
   | exact ih1 _ _ _ _ _ _
   | exact congoulaw01_awake.mono _
   | exact congoulaw01_matrix.mono _ _
   | exact congouref01_Two.mono _ _ _
   | exact shares_CheckMix.mono _ _ _ _
   | exact shares_Uneven.mono _ _ _
   | exact xMix.mono _ _ _
   | exact LeO.none _
   | refine LeO.ite ?_ ?_
   | refine LeO.bind ?_ (fun _ => ?_)
set_option maxHeartbeats 8000000 in
set_option maxRecDepth 100000 in
theorem congoulaw01_SharesMixed.calls (k : Nat) (A0 : Option Addr) (c0 : Nat) (l0 : List Int) (A1 : Option Addr) (c1 : Nat) (l1 : List Int) (A2 : Option Addr) (c2 : Nat) (l2 : List (List (S62))) (r : Bool) (w : World) (hr0 : Kd.C (Kd.int .i64) w A0 l0.length l0) (hc0 : l0.length ≤ c0) (hr1 : Kd.C (Kd.int .i64) w A1 l1.length l1) (hc1 : l1.length ≤ c1) (hr2 : Kd.C (Kd.slice 62 k62) w A2 l2.length l2) (hc2 : l2.length ≤ c2) (hrt : r = true) (h : congoulaw01_SharesMixed.f k l0 l1 l2 = some r) :
  Calls Try.prog 16 #[.slice A0 l0.length c0, .slice A1 l1.length c1, .slice A2 l2.length c2] w fun e w' => e = .returned (.bool r) ∧ Below w.heap.size w w' := by
 have HR0 := Aside0.mk hr0
 have HC0 := Aside0.mk hc0
 clear hr0 hc0
 have HR1 := Aside0.mk hr1
 have HC1 := Aside0.mk hc1
 clear hr1 hc1
 have HR2 := Aside0.mk hr2
 have HC2 := Aside0.mk hc2
 clear hr2 hc2
 have HB := ak (Below.refl w.heap.size w)
 have H : ((congoulaw01_list.f l0).bind fun t834 => ((congoulaw01_list.f l1).bind fun t837 => ((xMix.f k t834 t837).bind fun bt840 => ((congoulaw01_list.f l0).bind fun t844 => ((congoulaw01_list.f l1).bind fun t847 => ((congoulaw01_matrix.f k l2).bind fun t850 => ((shares_CheckMix.f k t844 t847 t850).bind fun bt853 => ((congoulaw01_list.f l0).bind fun t855 => ((congoulaw01_list.f l1).bind fun t858 => ((shares_Uneven.f k t855 t858).bind fun bt861 => (if bt861.2 = 0 then ((congouref01_Two.f k l0 l1).bind fun t863 => (congoulaw01_SharesMixed.j0 k l0 l1 bt840.1 bt840.2 bt853.1 bt853.2 bt861.1 bt861.2 (!t863))) else (congoulaw01_SharesMixed.j0 k l0 l1 bt840.1 bt840.2 bt853.1 bt853.2 bt861.1 bt861.2 true)))))))))))) = some r := h
 clear h
 have HRT := Aside0.mk hrt
 clear hrt
 replace H := Option.bind_eq_some_iff.mp H
 obtain ⟨t834, A40, H⟩ := H
 replace H : ((congoulaw01_list.f l1).bind fun t837 => ((xMix.f k t834 t837).bind fun bt840 => ((congoulaw01_list.f l0).bind fun t844 => ((congoulaw01_list.f l1).bind fun t847 => ((congoulaw01_matrix.f k l2).bind fun t850 => ((shares_CheckMix.f k t844 t847 t850).bind fun bt853 => ((congoulaw01_list.f l0).bind fun t855 => ((congoulaw01_list.f l1).bind fun t858 => ((shares_Uneven.f k t855 t858).bind fun bt861 => (if bt861.2 = 0 then ((congouref01_Two.f k l0 l1).bind fun t863 => (congoulaw01_SharesMixed.j0 k l0 l1 bt840.1 bt840.2 bt853.1 bt853.2 bt861.1 bt861.2 (!t863))) else (congoulaw01_SharesMixed.j0 k l0 l1 bt840.1 bt840.2 bt853.1 bt853.2 bt861.1 bt861.2 true))))))))))) = some r := H
 have A4 := Aside0.mk A40
 clear A40
 replace H := Option.bind_eq_some_iff.mp H
 obtain ⟨t837, A50, H⟩ := H
 replace H : ((xMix.f k t834 t837).bind fun bt840 => ((congoulaw01_list.f l0).bind fun t844 => ((congoulaw01_list.f l1).bind fun t847 => ((congoulaw01_matrix.f k l2).bind fun t850 => ((shares_CheckMix.f k t844 t847 t850).bind fun bt853 => ((congoulaw01_list.f l0).bind fun t855 => ((congoulaw01_list.f l1).bind fun t858 => ((shares_Uneven.f k t855 t858).bind fun bt861 => (if bt861.2 = 0 then ((congouref01_Two.f k l0 l1).bind fun t863 => (congoulaw01_SharesMixed.j0 k l0 l1 bt840.1 bt840.2 bt853.1 bt853.2 bt861.1 bt861.2 (!t863))) else (congoulaw01_SharesMixed.j0 k l0 l1 bt840.1 bt840.2 bt853.1 bt853.2 bt861.1 bt861.2 true)))))))))) = some r := H
 have A5 := Aside0.mk A50
 clear A50
 replace H := Option.bind_eq_some_iff.mp H
 obtain ⟨⟨t840, t841⟩, A60, H⟩ := H
 replace H : ((congoulaw01_list.f l0).bind fun t844 => ((congoulaw01_list.f l1).bind fun t847 => ((congoulaw01_matrix.f k l2).bind fun t850 => ((shares_CheckMix.f k t844 t847 t850).bind fun bt853 => ((congoulaw01_list.f l0).bind fun t855 => ((congoulaw01_list.f l1).bind fun t858 => ((shares_Uneven.f k t855 t858).bind fun bt861 => (if bt861.2 = 0 then ((congouref01_Two.f k l0 l1).bind fun t863 => (congoulaw01_SharesMixed.j0 k l0 l1 t840 t841 bt853.1 bt853.2 bt861.1 bt861.2 (!t863))) else (congoulaw01_SharesMixed.j0 k l0 l1 t840 t841 bt853.1 bt853.2 bt861.1 bt861.2 true))))))))) = some r := H
 have A6 := Aside0.mk A60
 clear A60
 replace H := Option.bind_eq_some_iff.mp H
 obtain ⟨t844, A70, H⟩ := H
 replace H : ((congoulaw01_list.f l1).bind fun t847 => ((congoulaw01_matrix.f k l2).bind fun t850 => ((shares_CheckMix.f k t844 t847 t850).bind fun bt853 => ((congoulaw01_list.f l0).bind fun t855 => ((congoulaw01_list.f l1).bind fun t858 => ((shares_Uneven.f k t855 t858).bind fun bt861 => (if bt861.2 = 0 then ((congouref01_Two.f k l0 l1).bind fun t863 => (congoulaw01_SharesMixed.j0 k l0 l1 t840 t841 bt853.1 bt853.2 bt861.1 bt861.2 (!t863))) else (congoulaw01_SharesMixed.j0 k l0 l1 t840 t841 bt853.1 bt853.2 bt861.1 bt861.2 true)))))))) = some r := H
 have A7 := Aside0.mk A70
 clear A70
 replace H := Option.bind_eq_some_iff.mp H
 obtain ⟨t847, A80, H⟩ := H
 replace H : ((congoulaw01_matrix.f k l2).bind fun t850 => ((shares_CheckMix.f k t844 t847 t850).bind fun bt853 => ((congoulaw01_list.f l0).bind fun t855 => ((congoulaw01_list.f l1).bind fun t858 => ((shares_Uneven.f k t855 t858).bind fun bt861 => (if bt861.2 = 0 then ((congouref01_Two.f k l0 l1).bind fun t863 => (congoulaw01_SharesMixed.j0 k l0 l1 t840 t841 bt853.1 bt853.2 bt861.1 bt861.2 (!t863))) else (congoulaw01_SharesMixed.j0 k l0 l1 t840 t841 bt853.1 bt853.2 bt861.1 bt861.2 true))))))) = some r := H
 have A8 := Aside0.mk A80
 clear A80
 replace H := Option.bind_eq_some_iff.mp H
 obtain ⟨t850, A90, H⟩ := H
 replace H : ((shares_CheckMix.f k t844 t847 t850).bind fun bt853 => ((congoulaw01_list.f l0).bind fun t855 => ((congoulaw01_list.f l1).bind fun t858 => ((shares_Uneven.f k t855 t858).bind fun bt861 => (if bt861.2 = 0 then ((congouref01_Two.f k l0 l1).bind fun t863 => (congoulaw01_SharesMixed.j0 k l0 l1 t840 t841 bt853.1 bt853.2 bt861.1 bt861.2 (!t863))) else (congoulaw01_SharesMixed.j0 k l0 l1 t840 t841 bt853.1 bt853.2 bt861.1 bt861.2 true)))))) = some r := H
 have A9 := Aside0.mk A90
 clear A90
 replace H := Option.bind_eq_some_iff.mp H
 obtain ⟨⟨t853, t854⟩, A100, H⟩ := H
 replace H : ((congoulaw01_list.f l0).bind fun t855 => ((congoulaw01_list.f l1).bind fun t858 => ((shares_Uneven.f k t855 t858).bind fun bt861 => (if bt861.2 = 0 then ((congouref01_Two.f k l0 l1).bind fun t863 => (congoulaw01_SharesMixed.j0 k l0 l1 t840 t841 t853 t854 bt861.1 bt861.2 (!t863))) else (congoulaw01_SharesMixed.j0 k l0 l1 t840 t841 t853 t854 bt861.1 bt861.2 true))))) = some r := H
 have A10 := Aside0.mk A100
 clear A100
 replace H := Option.bind_eq_some_iff.mp H
 obtain ⟨t855, A110, H⟩ := H
 replace H : ((congoulaw01_list.f l1).bind fun t858 => ((shares_Uneven.f k t855 t858).bind fun bt861 => (if bt861.2 = 0 then ((congouref01_Two.f k l0 l1).bind fun t863 => (congoulaw01_SharesMixed.j0 k l0 l1 t840 t841 t853 t854 bt861.1 bt861.2 (!t863))) else (congoulaw01_SharesMixed.j0 k l0 l1 t840 t841 t853 t854 bt861.1 bt861.2 true)))) = some r := H
 have A11 := Aside0.mk A110
 clear A110
 replace H := Option.bind_eq_some_iff.mp H
 obtain ⟨t858, A120, H⟩ := H
 replace H : ((shares_Uneven.f k t855 t858).bind fun bt861 => (if bt861.2 = 0 then ((congouref01_Two.f k l0 l1).bind fun t863 => (congoulaw01_SharesMixed.j0 k l0 l1 t840 t841 t853 t854 bt861.1 bt861.2 (!t863))) else (congoulaw01_SharesMixed.j0 k l0 l1 t840 t841 t853 t854 bt861.1 bt861.2 true))) = some r := H
 have A12 := Aside0.mk A120
 clear A120
 replace H := Option.bind_eq_some_iff.mp H
 obtain ⟨⟨t861, t862⟩, A130, H⟩ := H
 replace H : (if t862 = 0 then ((congouref01_Two.f k l0 l1).bind fun t863 => (congoulaw01_SharesMixed.j0 k l0 l1 t840 t841 t853 t854 t861 t862 (!t863))) else (congoulaw01_SharesMixed.j0 k l0 l1 t840 t841 t853 t854 t861 t862 true)) = some r := H
 have A13 := Aside0.mk A130
 clear A130
 have HC14 := Aside0.mk H
 clear H
 go_enter Try.func16, Try.ntmps16
 go_upto_region 4 with (first | ((with_reducible refine gate_callee (f := 18) rfl ?_); refine gL 17 Try.func18 #[.slice A0 l0.length c0] ?_; (with_reducible refine (congoulaw01_list.calls _ _ l0 t834 _ ?side1 ?side2 A4.out).mono ?_); (case side1 => repeat (first | exact HR0.out | (with_reducible refine Kd.C_alloc ?_ _) | (with_reducible refine Kd.C_drewN ?_ _) | (with_reducible refine Kd.C_drew ?_))); (case side2 => exact HC0.out); rintro e w15 ⟨v835, rfl, ho0, hb⟩; refine ⟨_, rfl, ?_⟩; have HO836 := ak (Kd.R_lower ho0 (below_size (hbC _))); replace HB := kH _ hb; (try clear hb); (try clear hb2); (try clear hk); (try clear hi); (try clear ho0)) | ((with_reducible refine gate_callee (f := 18) rfl ?_); refine gL 19 Try.func18 #[.slice A1 l1.length c1] ?_; (with_reducible refine (congoulaw01_list.calls _ _ l1 t837 _ ?side1 ?side2 A5.out).mono ?_); (case side1 => exact kC HR1); (case side2 => exact HC1.out); rintro e w16 ⟨v838, rfl, ho0, hb⟩; refine ⟨_, rfl, ?_⟩; have HO839 := ak (Kd.R_lower (Kd.R_new' ho0 (Kd.R_lt (rC HO836))) (below_size (hbC _))); replace HO836 := ak (Kd.R_elder' (rC HO836) (Kd.R_base ho0) hb); replace HB := kH _ hb; (try clear hb); (try clear hb2); (try clear hk); (try clear hi); (try clear ho0); obtain ⟨Ao17, co17, eo17⟩ := Kd.R_slice HO836.out; subst eo17; obtain ⟨Ao18, co18, eo18⟩ := Kd.R_slice HO839.out; subst eo18) | ((with_reducible refine gate_callee (f := 56) rfl ?_); refine gL 20 Try.func56 #[.slice Ao17 t834.length co17, .slice Ao18 t837.length co18] ?_; (with_reducible refine (xMix.calls k _ _ t834 _ _ t837 t840 t841 _ ?side1 ?side2 ?side3 ?side4 A6.out).mono ?_); (case side1 => exact kD (Kd.R_reads' HO836.out).2.2); (case side2 => exact (Kd.R_reads' HO836.out).2.1); (case side3 => exact kD (Kd.R_reads' HO839.out).2.2); (case side4 => exact (Kd.R_reads' HO839.out).2.1); rintro e w19 ⟨v842, rfl, ho0, hb⟩; refine ⟨_, rfl, ?_⟩; replace HO836 := kO HO836 hb; replace HO839 := kO HO839 hb; have HO843 := ak (Kd.R_lower ho0 (below_size (hbC _))); replace HB := kH _ hb; (try clear hb); (try clear hb2); (try clear hk); (try clear hi); (try clear ho0)) | ((with_reducible refine gate_callee (f := 18) rfl ?_); refine gL 25 Try.func18 #[.slice A0 l0.length c0] ?_; (with_reducible refine (congoulaw01_list.calls _ _ l0 t844 _ ?side1 ?side2 A7.out).mono ?_); (case side1 => exact kC HR0); (case side2 => exact HC0.out); rintro e w20 ⟨v845, rfl, ho0, hb⟩; refine ⟨_, rfl, ?_⟩; replace HO843 := ak (Kd.R_below (by (with_reducible repeat (first | apply Kd.R_alloc | apply Kd.R_drewN | apply Kd.R_drew)); exact HO843.out) hb); have HO846 := ak (Kd.R_lower (Kd.R_new' (Kd.R_new' ho0 (Kd.R_lt (rC HO836))) (Kd.R_lt (rC HO839))) (below_size (hbC _))); replace HO836 := ak (Kd.R_elder' (rC HO836) (Kd.R_base ho0) hb); replace HO839 := ak (Kd.R_elder' (rC HO839) (Kd.R_base ho0) hb); replace HB := kH _ hb; (try clear hb); (try clear hb2); (try clear hk); (try clear hi); (try clear ho0)) | ((with_reducible refine gate_callee (f := 18) rfl ?_); refine gL 27 Try.func18 #[.slice A1 l1.length c1] ?_; (with_reducible refine (congoulaw01_list.calls _ _ l1 t847 _ ?side1 ?side2 A8.out).mono ?_); (case side1 => exact kC HR1); (case side2 => exact HC1.out); rintro e w21 ⟨v848, rfl, ho0, hb⟩; refine ⟨_, rfl, ?_⟩; replace HO843 := ak (Kd.R_below (by (with_reducible repeat (first | apply Kd.R_alloc | apply Kd.R_drewN | apply Kd.R_drew)); exact HO843.out) hb); have HO849 := ak (Kd.R_lower (Kd.R_new' (Kd.R_new' (Kd.R_new' ho0 (Kd.R_lt (rC HO836))) (Kd.R_lt (rC HO839))) (Kd.R_lt (rC HO846))) (below_size (hbC _))); replace HO836 := ak (Kd.R_elder' (rC HO836) (Kd.R_base ho0) hb); replace HO839 := ak (Kd.R_elder' (rC HO839) (Kd.R_base ho0) hb); replace HO846 := ak (Kd.R_elder' (rC HO846) (Kd.R_base ho0) hb); replace HB := kH _ hb; (try clear hb); (try clear hb2); (try clear hk); (try clear hi); (try clear ho0)) | ((with_reducible refine gate_callee (f := 46) rfl ?_); refine gL 29 Try.func46 #[.slice A2 l2.length c2] ?_; (with_reducible refine (congoulaw01_matrix.calls k _ _ l2 t850 _ ?side1 ?side2 A9.out).mono ?_); (case side1 => exact kC HR2); (case side2 => exact HC2.out); rintro e w22 ⟨v851, rfl, ho0, hb⟩; replace ho0 := Kd.S_R ho0; refine ⟨_, rfl, ?_⟩; replace HO836 := kO HO836 hb; replace HO839 := kO HO839 hb; replace HO846 := kO HO846 hb; replace HO849 := kO HO849 hb; have HO852 := ak (Kd.R_lower (Kd.R_new' ho0 (Kd.R_lt (by (with_reducible repeat (first | apply Kd.R_alloc | apply Kd.R_drewN | apply Kd.R_drew)); exact HO843.out))) (below_size (hbC _))); replace HO843 := ak (Kd.R_elder' (by (with_reducible repeat (first | apply Kd.R_alloc | apply Kd.R_drewN | apply Kd.R_drew)); exact HO843.out) (Kd.R_base ho0) hb); replace HB := kH _ hb; (try clear hb); (try clear hb2); (try clear hk); (try clear hi); (try clear ho0); obtain ⟨Ao23, co23, eo23⟩ := Kd.R_slice HO846.out; subst eo23; obtain ⟨Ao24, co24, eo24⟩ := Kd.R_slice HO849.out; subst eo24; obtain ⟨Ao25, co25, eo25⟩ := Kd.R_slice HO852.out; subst eo25) | ((with_reducible refine gate_callee (f := 57) rfl ?_); refine gL 30 Try.func57 #[.slice Ao23 t844.length co23, .slice Ao24 t847.length co24, .slice Ao25 t850.length co25] ?_; (with_reducible refine (shares_CheckMix.calls k (fun k_ => some k_ = (.slice Ao23 t844.length co23 : Value).ownBlock) _ _ t844 (fun k_ => some k_ = (.slice Ao24 t847.length co24 : Value).ownBlock) _ _ t847 _ _ t850 t853 t854 _ ?side1 ?side2 ?side3 ?side4 A10.out).mono ?_); (case side1 => exact Kd.R_V (Kd.R_tight rfl (Kd.R_apart' (Kd.R_apart' (HO846.out) (Kd.R_typed HO843.out) (by decide)) (Kd.R_typed HO852.out) (by decide)))); (case side2 => exact Kd.R_V (Kd.R_tight rfl (Kd.R_apart' (Kd.R_apart' (HO849.out) (Kd.R_typed HO843.out) (by decide)) (Kd.R_typed HO852.out) (by decide)))); (case side3 => repeat (first | exact (Kd.R_reads' HO852.out).2.2 | (with_reducible refine Kd.C_alloc ?_ _) | (with_reducible refine Kd.C_drewN ?_ _) | (with_reducible refine Kd.C_drew ?_))); (case side4 => exact (Kd.R_reads' HO852.out).2.1); rintro e w26 ⟨rfl, hb⟩; refine ⟨_, rfl, ?_⟩; replace HO836 := kO HO836 hb; replace HO839 := kO HO839 hb; replace HO843 := ak (Kd.R_below (by (with_reducible repeat (first | apply Kd.R_alloc | apply Kd.R_drewN | apply Kd.R_drew)); exact HO843.out) hb); replace HO846 := kO HO846 hb; replace HO849 := kO HO849 hb; replace HO852 := ak (Kd.R_below (by (with_reducible repeat (first | apply Kd.R_alloc | apply Kd.R_drewN | apply Kd.R_drew)); exact HO852.out) hb); replace HB := kH _ hb; (try clear hb); (try clear hb2); (try clear hk); (try clear hi)) | ((with_reducible refine gate_callee (f := 18) rfl ?_); refine gL 35 Try.func18 #[.slice A0 l0.length c0] ?_; (with_reducible refine (congoulaw01_list.calls _ _ l0 t855 _ ?side1 ?side2 A11.out).mono ?_); (case side1 => exact kC HR0); (case side2 => exact HC0.out); rintro e w27 ⟨v856, rfl, ho0, hb⟩; refine ⟨_, rfl, ?_⟩; replace HO843 := ak (Kd.R_below (by (with_reducible repeat (first | apply Kd.R_alloc | apply Kd.R_drewN | apply Kd.R_drew)); exact HO843.out) hb); replace HO852 := ak (Kd.R_below (by (with_reducible repeat (first | apply Kd.R_alloc | apply Kd.R_drewN | apply Kd.R_drew)); exact HO852.out) hb); have HO857 := ak (Kd.R_lower (Kd.R_new' (Kd.R_new' (Kd.R_new' (Kd.R_new' ho0 (Kd.R_lt (rC HO836))) (Kd.R_lt (rC HO839))) (Kd.R_lt (rC HO846))) (Kd.R_lt (rC HO849))) (below_size (hbC _))); replace HO836 := ak (Kd.R_elder' (rC HO836) (Kd.R_base ho0) hb); replace HO839 := ak (Kd.R_elder' (rC HO839) (Kd.R_base ho0) hb); replace HO846 := ak (Kd.R_elder' (rC HO846) (Kd.R_base ho0) hb); replace HO849 := ak (Kd.R_elder' (rC HO849) (Kd.R_base ho0) hb); replace HB := kH _ hb; (try clear hb); (try clear hb2); (try clear hk); (try clear hi); (try clear ho0)) | ((with_reducible refine gate_callee (f := 18) rfl ?_); refine gL 37 Try.func18 #[.slice A1 l1.length c1] ?_; (with_reducible refine (congoulaw01_list.calls _ _ l1 t858 _ ?side1 ?side2 A12.out).mono ?_); (case side1 => exact kC HR1); (case side2 => exact HC1.out); rintro e w28 ⟨v859, rfl, ho0, hb⟩; refine ⟨_, rfl, ?_⟩; replace HO843 := ak (Kd.R_below (by (with_reducible repeat (first | apply Kd.R_alloc | apply Kd.R_drewN | apply Kd.R_drew)); exact HO843.out) hb); replace HO852 := ak (Kd.R_below (by (with_reducible repeat (first | apply Kd.R_alloc | apply Kd.R_drewN | apply Kd.R_drew)); exact HO852.out) hb); have HO860 := ak (Kd.R_lower (Kd.R_new' (Kd.R_new' (Kd.R_new' (Kd.R_new' (Kd.R_new' ho0 (Kd.R_lt (rC HO836))) (Kd.R_lt (rC HO839))) (Kd.R_lt (rC HO846))) (Kd.R_lt (rC HO849))) (Kd.R_lt (rC HO857))) (below_size (hbC _))); replace HO836 := ak (Kd.R_elder' (rC HO836) (Kd.R_base ho0) hb); replace HO839 := ak (Kd.R_elder' (rC HO839) (Kd.R_base ho0) hb); replace HO846 := ak (Kd.R_elder' (rC HO846) (Kd.R_base ho0) hb); replace HO849 := ak (Kd.R_elder' (rC HO849) (Kd.R_base ho0) hb); replace HO857 := ak (Kd.R_elder' (rC HO857) (Kd.R_base ho0) hb); replace HB := kH _ hb; (try clear hb); (try clear hb2); (try clear hk); (try clear hi); (try clear ho0); obtain ⟨Ao29, co29, eo29⟩ := Kd.R_slice HO857.out; subst eo29; obtain ⟨Ao30, co30, eo30⟩ := Kd.R_slice HO860.out; subst eo30) | ((with_reducible refine gate_callee (f := 17) rfl ?_); refine gL 38 Try.func17 #[.slice Ao29 t855.length co29, .slice Ao30 t858.length co30] ?_; (with_reducible refine (shares_Uneven.calls k (fun k_ => some k_ = (.slice Ao29 t855.length co29 : Value).ownBlock) _ _ t855 (fun k_ => some k_ = (.slice Ao30 t858.length co30 : Value).ownBlock) _ _ t858 t861 t862 _ ?side1 ?side2 A13.out).mono ?_); (case side1 => exact Kd.R_V (Kd.R_tight rfl (Kd.R_apart' (Kd.R_apart' (HO857.out) (Kd.R_typed HO843.out) (by decide)) (Kd.R_typed HO852.out) (by decide)))); (case side2 => exact Kd.R_V (Kd.R_tight rfl (Kd.R_apart' (Kd.R_apart' (HO860.out) (Kd.R_typed HO843.out) (by decide)) (Kd.R_typed HO852.out) (by decide)))); rintro e w31 ⟨rfl, hb⟩; refine ⟨_, rfl, ?_⟩; replace HO836 := kO HO836 hb; replace HO839 := kO HO839 hb; replace HO843 := ak (Kd.R_below (by (with_reducible repeat (first | apply Kd.R_alloc | apply Kd.R_drewN | apply Kd.R_drew)); exact HO843.out) hb); replace HO846 := kO HO846 hb; replace HO849 := kO HO849 hb; replace HO852 := ak (Kd.R_below (by (with_reducible repeat (first | apply Kd.R_alloc | apply Kd.R_drewN | apply Kd.R_drew)); exact HO852.out) hb); replace HO857 := kO HO857 hb; replace HO860 := kO HO860 hb; replace HB := kH _ hb; (try clear hb); (try clear hb2); (try clear hk); (try clear hi)))
 (try simp only [Act.put, List.setIfInBounds_toArray, List.set_cons_zero, List.set_cons_succ])
 go_cut [48] (fun v48 wc => ∃ (kq : Nat) (x48_13 : Bool), v48 = .bool x48_13 ∧ Aside0 (congoulaw01_SharesMixed.j0 kq l0 l1 t840 t841 t853 t854 t861 t862 x48_13 = some r) ∧ Aside0 (kq ≤ k) ∧ Aside0 (Kd.R (Kd.slice 62 k62) 52 wc w.heap.size (fun _ => True) v842 t840) ∧ Aside0 (Below w.heap.size w wc))
 case first =>
  have H := HC14.out
  clear HC14
  by_cases c32 : t862 = 0
  rotate_left
  ·rw [if_neg c32] at H
   have c32b0 : (t862 == 0) = false := beq_eq_false_iff_ne.mpr c32
   have c32b1 : (t862 != 0) = true := bne_iff_ne.mpr c32
   (first | rw [c32b0] | (simp only [i64_w, i32_w]; rw [c32b0]) | skip)
   have H' := Aside0.mk H
   clear H
   go_wp2
   go_meet
   case rel => exact ⟨_, (true), (by first | rfl | (simp; done) | (simp [*]; done)), H', ⟨by first | omega | exact Nat.le_refl _⟩, ⟨by (with_reducible repeat (first | apply Kd.R_alloc | apply Kd.R_drewN | apply Kd.R_drew)); exact Kd.R_mono HO843.out (fun _ hk => trivial)⟩, ⟨hbC _⟩⟩
  rw [if_pos c32] at H
  have c32b0 : (t862 == 0) = true := beq_iff_eq.mpr c32
  have c32b1 : (t862 != 0) = false := bne_eq_false_iff_eq.mpr c32
  clear c32
  (first | rw [c32b0] | (simp only [i64_w, i32_w]; rw [c32b0]) | skip)
  replace H := Option.bind_eq_some_iff.mp H
  obtain ⟨t863, A330, H⟩ := H
  replace H : (congoulaw01_SharesMixed.j0 k l0 l1 t840 t841 t853 t854 t861 t862 (!t863)) = some r := H
  have A33 := Aside0.mk A330
  clear A330
  have H' := Aside0.mk H
  clear H
  go_wp2_with (first | (go_at_call 23; (with_reducible refine (congouref01_Two.calls k _ _ l0 _ _ l1 t863 _ ?side1 ?side2 ?side3 ?side4 A33.out).mono ?_); (case side1 => exact kC HR0); (case side2 => exact HC0.out); (case side3 => exact kC HR1); (case side4 => exact HC1.out); rintro e w' ⟨rfl, ⟨nd, rfl⟩⟩))
  go_meet
  case rel => exact ⟨_, (!t863), (by first | rfl | (simp; done) | (simp [*]; done)), H', ⟨by first | omega | exact Nat.le_refl _⟩, ⟨by (with_reducible repeat (first | apply Kd.R_alloc | apply Kd.R_drewN | apply Kd.R_drew)); exact Kd.R_mono HO843.out (fun _ hk => trivial)⟩, ⟨hbC _⟩⟩
 case rest =>
  clear HC14
  try clear c1
  try clear c2
  try clear p2
  try clear c3
  try clear c4
  try clear c5
  try clear c16
  try clear c17
  try clear c18
  try clear c32
  try clear c32b0
  try clear c32b1
  obtain ⟨kq, x48_13, rfl, HA, HJ13, HO_7, HB⟩ := hcut
  cases kq with
  | zero => exact absurd HA.out (by simp [congoulaw01_SharesMixed.j0])
  | succ kj13 =>
   have H := HA.out
   clear HA
   simp only [congoulaw01_SharesMixed.j0] at H
   by_cases c34 : x48_13 = true
   ·subst c34
    have H1 : (if t841 = 2 then (if t854 = t841 then (if t862 = t841 then ((congoulaw01_awake.f kj13).bind fun t864 => (some t864)) else (some false)) else (some false)) else (some false)) = some r := by rw [if_pos rfl] at H; exact H
    clear H
    have H := H1
    clear H1
    by_cases c35 : t841 = 2
    rotate_left
    ·rw [if_neg c35] at H
     have c35b0 : (t841 == 2) = false := beq_eq_false_iff_ne.mpr c35
     have c35b1 : (t841 != 2) = true := bne_iff_ne.mpr c35
     exact absurd (H.trans (congrArg some HRT.out)) (by simp)
    rw [if_pos c35] at H
    have c35b0 : (t841 == 2) = true := beq_iff_eq.mpr c35
    have c35b1 : (t841 != 2) = false := bne_eq_false_iff_eq.mpr c35
    clear c35
    by_cases c36 : t854 = t841
    rotate_left
    ·rw [if_neg c36] at H
     have c36b0 : (t854 == t841) = false := beq_eq_false_iff_ne.mpr c36
     have c36b1 : (t854 != t841) = true := bne_iff_ne.mpr c36
     exact absurd (H.trans (congrArg some HRT.out)) (by simp)
    rw [if_pos c36] at H
    have c36b0 : (t854 == t841) = true := beq_iff_eq.mpr c36
    have c36b1 : (t854 != t841) = false := bne_eq_false_iff_eq.mpr c36
    clear c36
    by_cases c37 : t862 = t841
    rotate_left
    ·rw [if_neg c37] at H
     have c37b0 : (t862 == t841) = false := beq_eq_false_iff_ne.mpr c37
     have c37b1 : (t862 != t841) = true := bne_iff_ne.mpr c37
     exact absurd (H.trans (congrArg some HRT.out)) (by simp)
    rw [if_pos c37] at H
    have c37b0 : (t862 == t841) = true := beq_iff_eq.mpr c37
    have c37b1 : (t862 != t841) = false := bne_eq_false_iff_eq.mpr c37
    clear c37
    replace H := Option.bind_eq_some_iff.mp H
    obtain ⟨t864, A380, H⟩ := H
    replace H : (some t864) = some r := H
    have A38 := Aside0.mk A380
    clear A380
    obtain rfl := Option.some.inj H
    go_wp2_with (first | (go_at_call 21; (with_reducible refine (congoulaw01_awake.calls kj13  t864 _ A38.out).mono ?_); rintro e w39 ⟨rfl, hb⟩; replace HO_7 := ak (Kd.R_below (by (with_reducible repeat (first | apply Kd.R_alloc | apply Kd.R_drewN | apply Kd.R_drew)); exact HO_7.out) hb); replace HB := kH _ hb; (try clear hb); (try clear hb2); (try clear hk); (try clear hi)))
    go_ret
    exact ⟨by first | rfl | (simp [errW_none, errW_some] <;> rfl) | (simp [*, errW_none, errW_some] <;> rfl), hbC _⟩
   replace c34 := Bool.eq_false_iff.mpr c34
   subst c34
   have H1 : (if t854 = 0 then (if t853 = true then (congoulaw01_SharesMixed.j1 kj13 l0 l1 t840 t841 t861 (!t861)) else (congoulaw01_SharesMixed.j1 kj13 l0 l1 t840 t841 t861 false)) else (congoulaw01_SharesMixed.j1 kj13 l0 l1 t840 t841 t861 true)) = some r := by rw [if_neg (show ¬ (false = true) by decide)] at H; exact H
   clear H
   have H := H1
   clear H1
   have HC40 := Aside0.mk H
   clear H
   go_upto_region 6 with (fail)
   go_cut [72] (fun v72 wc => ∃ (kq : Nat) (x72_39 : Bool), v72 = .bool x72_39 ∧ Aside0 (congoulaw01_SharesMixed.j1 kq l0 l1 t840 t841 t861 x72_39 = some r) ∧ Aside0 (kq ≤ kj13) ∧ Aside0 (Kd.R (Kd.slice 62 k62) 52 wc w.heap.size (fun _ => True) v842 t840) ∧ Aside0 (Below w.heap.size w wc))
   case first =>
    have H := HC40.out
    clear HC40
    by_cases c41 : t854 = 0
    rotate_left
    ·rw [if_neg c41] at H
     have c41b0 : (t854 == 0) = false := beq_eq_false_iff_ne.mpr c41
     have c41b1 : (t854 != 0) = true := bne_iff_ne.mpr c41
     (first | rw [c41b0] | (simp only [i64_w, i32_w]; rw [c41b0]) | skip)
     have H' := Aside0.mk H
     clear H
     go_wp2
     go_meet
     case rel => exact ⟨_, (true), (by first | rfl | (simp; done) | (simp [*]; done)), H', ⟨by have := HJ13.out; first | omega | exact Nat.le_refl _⟩, ⟨by (with_reducible repeat (first | apply Kd.R_alloc | apply Kd.R_drewN | apply Kd.R_drew)); exact HO_7.out⟩, ⟨hbC _⟩⟩
    rw [if_pos c41] at H
    have c41b0 : (t854 == 0) = true := beq_iff_eq.mpr c41
    have c41b1 : (t854 != 0) = false := bne_eq_false_iff_eq.mpr c41
    clear c41
    (first | rw [c41b0] | (simp only [i64_w, i32_w]; rw [c41b0]) | skip)
    by_cases c42 : t853 = true
    ·subst c42
     have H1 : (congoulaw01_SharesMixed.j1 kj13 l0 l1 t840 t841 t861 (!t861)) = some r := by rw [if_pos rfl] at H; exact H
     clear H
     have H := H1
     clear H1
     have H' := Aside0.mk H
     clear H
     go_wp2
     go_meet
     case rel => exact ⟨_, (!t861), (by first | rfl | (simp; done) | (simp [*]; done)), H', ⟨by have := HJ13.out; first | omega | exact Nat.le_refl _⟩, ⟨by (with_reducible repeat (first | apply Kd.R_alloc | apply Kd.R_drewN | apply Kd.R_drew)); exact HO_7.out⟩, ⟨hbC _⟩⟩
    replace c42 := Bool.eq_false_iff.mpr c42
    subst c42
    have H1 : (congoulaw01_SharesMixed.j1 kj13 l0 l1 t840 t841 t861 false) = some r := by rw [if_neg (show ¬ (false = true) by decide)] at H; exact H
    clear H
    have H := H1
    clear H1
    have H' := Aside0.mk H
    clear H
    go_wp2
    go_meet
    case rel => exact ⟨_, (false), (by first | rfl | (simp; done) | (simp [*]; done)), H', ⟨by have := HJ13.out; first | omega | exact Nat.le_refl _⟩, ⟨by (with_reducible repeat (first | apply Kd.R_alloc | apply Kd.R_drewN | apply Kd.R_drew)); exact HO_7.out⟩, ⟨hbC _⟩⟩
   case rest =>
    clear HC40
    try clear c1
    try clear c2
    try clear p2
    try clear c3
    try clear c4
    try clear c5
    try clear c16
    try clear c17
    try clear c18
    try clear c32
    try clear c32b0
    try clear c32b1
    try clear c34
    try clear c35
    try clear c35b0
    try clear c35b1
    try clear c36
    try clear c36b0
    try clear c36b1
    try clear c37
    try clear c37b0
    try clear c37b1
    try clear c41
    try clear c41b0
    try clear c41b1
    try clear c42
    try clear p2
    obtain ⟨kq, x72_39, rfl, HA, HJ39, HO_7, HB⟩ := hcut
    cases kq with
    | zero => exact absurd HA.out (by simp [congoulaw01_SharesMixed.j1])
    | succ kj39 =>
     have H := HA.out
     clear HA
     simp only [congoulaw01_SharesMixed.j1] at H
     by_cases c43 : x72_39 = true
     ·subst c43
      have H1 : (some false) = some r := by rw [if_pos rfl] at H; exact H
      clear H
      have H := H1
      clear H1
      exact absurd (H.trans (congrArg some HRT.out)) (by simp)
     replace c43 := Bool.eq_false_iff.mpr c43
     subst c43
     have H1 : (if t841 = 0 then ((congoulaw01_list.f l0).bind fun t866 => ((congoulaw01_list.f l1).bind fun t869 => ((congoulaw01_matrix.f kj39 t840).bind fun t872 => ((shares_CheckMix.f kj39 t866 t869 t872).bind fun bt875 => (if t861 = true then (if bt875.1 = true then (if bt875.2 = 0 then (if (t840.length : Int) = (l0.length : Int) then ((congoulaw01_awake.f kj39).bind fun t877 => (some t877)) else (some false)) else (some false)) else (some false)) else (some false)))))) else (if t841 = 4 then (if t861 = true then (some false) else ((congoulaw01_awake.f kj39).bind fun t865 => (some t865))) else (some false))) = some r := by rw [if_neg (show ¬ (false = true) by decide)] at H; exact H
     clear H
     have H := H1
     clear H1
     by_cases c44 : t841 = 0
     rotate_left
     ·rw [if_neg c44] at H
      have c44b0 : (t841 == 0) = false := beq_eq_false_iff_ne.mpr c44
      have c44b1 : (t841 != 0) = true := bne_iff_ne.mpr c44
      by_cases c63 : t841 = 4
      rotate_left
      ·rw [if_neg c63] at H
       have c63b0 : (t841 == 4) = false := beq_eq_false_iff_ne.mpr c63
       have c63b1 : (t841 != 4) = true := bne_iff_ne.mpr c63
       exact absurd (H.trans (congrArg some HRT.out)) (by simp)
      rw [if_pos c63] at H
      have c63b0 : (t841 == 4) = true := beq_iff_eq.mpr c63
      have c63b1 : (t841 != 4) = false := bne_eq_false_iff_eq.mpr c63
      clear c63
      by_cases c64 : t861 = true
      ·subst c64
       have H1 : (some false) = some r := by rw [if_pos rfl] at H; exact H
       clear H
       have H := H1
       clear H1
       exact absurd (H.trans (congrArg some HRT.out)) (by simp)
      replace c64 := Bool.eq_false_iff.mpr c64
      subst c64
      have H1 : ((congoulaw01_awake.f kj39).bind fun t865 => (some t865)) = some r := by rw [if_neg (show ¬ (false = true) by decide)] at H; exact H
      clear H
      have H := H1
      clear H1
      replace H := Option.bind_eq_some_iff.mp H
      obtain ⟨t865, A650, H⟩ := H
      replace H : (some t865) = some r := H
      have A65 := Aside0.mk A650
      clear A650
      obtain rfl := Option.some.inj H
      go_wp2_with (first | (go_at_call 21; (with_reducible refine (congoulaw01_awake.calls kj39  t865 _ A65.out).mono ?_); rintro e w66 ⟨rfl, hb⟩; replace HO_7 := ak (Kd.R_below (by (with_reducible repeat (first | apply Kd.R_alloc | apply Kd.R_drewN | apply Kd.R_drew)); exact HO_7.out) hb); replace HB := kH _ hb; (try clear hb); (try clear hb2); (try clear hk); (try clear hi)))
      go_ret
      exact ⟨by first | rfl | (simp [errW_none, errW_some] <;> rfl) | (simp [*, errW_none, errW_some] <;> rfl), hbC _⟩
     rw [if_pos c44] at H
     have c44b0 : (t841 == 0) = true := beq_iff_eq.mpr c44
     have c44b1 : (t841 != 0) = false := bne_eq_false_iff_eq.mpr c44
     clear c44
     replace H := Option.bind_eq_some_iff.mp H
     obtain ⟨t866, A450, H⟩ := H
     replace H : ((congoulaw01_list.f l1).bind fun t869 => ((congoulaw01_matrix.f kj39 t840).bind fun t872 => ((shares_CheckMix.f kj39 t866 t869 t872).bind fun bt875 => (if t861 = true then (if bt875.1 = true then (if bt875.2 = 0 then (if (t840.length : Int) = (l0.length : Int) then ((congoulaw01_awake.f kj39).bind fun t877 => (some t877)) else (some false)) else (some false)) else (some false)) else (some false))))) = some r := H
     have A45 := Aside0.mk A450
     clear A450
     replace H := Option.bind_eq_some_iff.mp H
     obtain ⟨t869, A460, H⟩ := H
     replace H : ((congoulaw01_matrix.f kj39 t840).bind fun t872 => ((shares_CheckMix.f kj39 t866 t869 t872).bind fun bt875 => (if t861 = true then (if bt875.1 = true then (if bt875.2 = 0 then (if (t840.length : Int) = (l0.length : Int) then ((congoulaw01_awake.f kj39).bind fun t877 => (some t877)) else (some false)) else (some false)) else (some false)) else (some false)))) = some r := H
     have A46 := Aside0.mk A460
     clear A460
     replace H := Option.bind_eq_some_iff.mp H
     obtain ⟨t872, A470, H⟩ := H
     replace H : ((shares_CheckMix.f kj39 t866 t869 t872).bind fun bt875 => (if t861 = true then (if bt875.1 = true then (if bt875.2 = 0 then (if (t840.length : Int) = (l0.length : Int) then ((congoulaw01_awake.f kj39).bind fun t877 => (some t877)) else (some false)) else (some false)) else (some false)) else (some false))) = some r := H
     have A47 := Aside0.mk A470
     clear A470
     replace H := Option.bind_eq_some_iff.mp H
     obtain ⟨⟨t875, t876⟩, A480, H⟩ := H
     replace H : (if t861 = true then (if t875 = true then (if t876 = 0 then (if (t840.length : Int) = (l0.length : Int) then ((congoulaw01_awake.f kj39).bind fun t877 => (some t877)) else (some false)) else (some false)) else (some false)) else (some false)) = some r := H
     have A48 := Aside0.mk A480
     clear A480
     by_cases c49 : t861 = true
     rotate_left
     ·replace c49 := Bool.eq_false_iff.mpr c49
      subst c49
      have H1 : (some false) = some r := by rw [if_neg (show ¬ (false = true) by decide)] at H; exact H
      clear H
      have H := H1
      clear H1
      exact absurd (H.trans (congrArg some HRT.out)) (by simp)
     subst c49
     have H1 : (if t875 = true then (if t876 = 0 then (if (t840.length : Int) = (l0.length : Int) then ((congoulaw01_awake.f kj39).bind fun t877 => (some t877)) else (some false)) else (some false)) else (some false)) = some r := by rw [if_pos rfl] at H; exact H
     clear H
     have H := H1
     clear H1
     by_cases c50 : t875 = true
     rotate_left
     ·replace c50 := Bool.eq_false_iff.mpr c50
      subst c50
      have H1 : (some false) = some r := by rw [if_neg (show ¬ (false = true) by decide)] at H; exact H
      clear H
      have H := H1
      clear H1
      exact absurd (H.trans (congrArg some HRT.out)) (by simp)
     subst c50
     have H1 : (if t876 = 0 then (if (t840.length : Int) = (l0.length : Int) then ((congoulaw01_awake.f kj39).bind fun t877 => (some t877)) else (some false)) else (some false)) = some r := by rw [if_pos rfl] at H; exact H
     clear H
     have H := H1
     clear H1
     by_cases c51 : t876 = 0
     rotate_left
     ·rw [if_neg c51] at H
      have c51b0 : (t876 == 0) = false := beq_eq_false_iff_ne.mpr c51
      have c51b1 : (t876 != 0) = true := bne_iff_ne.mpr c51
      exact absurd (H.trans (congrArg some HRT.out)) (by simp)
     rw [if_pos c51] at H
     have c51b0 : (t876 == 0) = true := beq_iff_eq.mpr c51
     have c51b1 : (t876 != 0) = false := bne_eq_false_iff_eq.mpr c51
     clear c51
     by_cases c52 : (t840.length : Int) = (l0.length : Int)
     rotate_left
     ·rw [if_neg c52] at H
      have c52b0 : ((t840.length : Int) == (l0.length : Int)) = false := beq_eq_false_iff_ne.mpr c52
      have c52b1 : ((t840.length : Int) != (l0.length : Int)) = true := bne_iff_ne.mpr c52
      have c52b2 : (t840.length == l0.length) = false := by first | simpa using c52 | (simp at c52 ⊢; omega)
      exact absurd (H.trans (congrArg some HRT.out)) (by simp)
     rw [if_pos c52] at H
     have c52b0 : ((t840.length : Int) == (l0.length : Int)) = true := beq_iff_eq.mpr c52
     have c52b1 : ((t840.length : Int) != (l0.length : Int)) = false := bne_eq_false_iff_eq.mpr c52
     have c52b2 : (t840.length == l0.length) = true := by first | simpa using c52 | (simp at c52 ⊢; omega)
     clear c52
     replace H := Option.bind_eq_some_iff.mp H
     obtain ⟨t877, A530, H⟩ := H
     replace H : (some t877) = some r := H
     have A53 := Aside0.mk A530
     clear A530
     obtain rfl := Option.some.inj H
     go_wp2_with (first | ((with_reducible refine gate_callee (f := 18) rfl ?_); refine gL 86 Try.func18 #[.slice A0 l0.length c0] ?_; (with_reducible refine (congoulaw01_list.calls _ _ l0 t866 _ ?side1 ?side2 A45.out).mono ?_); (case side1 => exact kC HR0); (case side2 => exact HC0.out); rintro e w54 ⟨v867, rfl, ho0, hb⟩; refine ⟨_, rfl, ?_⟩; replace HO_7 := ak (Kd.R_below (by (with_reducible repeat (first | apply Kd.R_alloc | apply Kd.R_drewN | apply Kd.R_drew)); exact HO_7.out) hb); have HO868 := ak (Kd.R_lower ho0 (below_size (hbC _))); replace HB := kH _ hb; (try clear hb); (try clear hb2); (try clear hk); (try clear hi); (try clear ho0)) | ((with_reducible refine gate_callee (f := 18) rfl ?_); refine gL 88 Try.func18 #[.slice A1 l1.length c1] ?_; (with_reducible refine (congoulaw01_list.calls _ _ l1 t869 _ ?side1 ?side2 A46.out).mono ?_); (case side1 => exact kC HR1); (case side2 => exact HC1.out); rintro e w55 ⟨v870, rfl, ho0, hb⟩; refine ⟨_, rfl, ?_⟩; replace HO_7 := ak (Kd.R_below (by (with_reducible repeat (first | apply Kd.R_alloc | apply Kd.R_drewN | apply Kd.R_drew)); exact HO_7.out) hb); have HO871 := ak (Kd.R_lower (Kd.R_new' ho0 (Kd.R_lt (rC HO868))) (below_size (hbC _))); replace HO868 := ak (Kd.R_elder' (rC HO868) (Kd.R_base ho0) hb); replace HB := kH _ hb; (try clear hb); (try clear hb2); (try clear hk); (try clear hi); (try clear ho0); obtain ⟨Ao56, co56, eo56⟩ := Kd.R_slice HO_7.out; subst eo56) | ((with_reducible refine gate_callee (f := 46) rfl ?_); refine gL 90 Try.func46 #[.slice Ao56 t840.length co56] ?_; (with_reducible refine (congoulaw01_matrix.calls kj39 _ _ t840 t872 _ ?side1 ?side2 A47.out).mono ?_); (case side1 => repeat (first | exact (Kd.R_reads' HO_7.out).2.2 | (with_reducible refine Kd.C_alloc ?_ _) | (with_reducible refine Kd.C_drewN ?_ _) | (with_reducible refine Kd.C_drew ?_))); (case side2 => exact (Kd.R_reads' HO_7.out).2.1); rintro e w57 ⟨v873, rfl, ho0, hb⟩; replace ho0 := Kd.S_R ho0; refine ⟨_, rfl, ?_⟩; replace HO868 := kO HO868 hb; replace HO871 := kO HO871 hb; have HO874 := ak (Kd.R_lower (Kd.R_new' ho0 (Kd.R_lt (by (with_reducible repeat (first | apply Kd.R_alloc | apply Kd.R_drewN | apply Kd.R_drew)); exact HO_7.out))) (below_size (hbC _))); replace HO_7 := ak (Kd.R_elder' (by (with_reducible repeat (first | apply Kd.R_alloc | apply Kd.R_drewN | apply Kd.R_drew)); exact HO_7.out) (Kd.R_base ho0) hb); replace HB := kH _ hb; (try clear hb); (try clear hb2); (try clear hk); (try clear hi); (try clear ho0); obtain ⟨Ao58, co58, eo58⟩ := Kd.R_slice HO868.out; subst eo58; obtain ⟨Ao59, co59, eo59⟩ := Kd.R_slice HO871.out; subst eo59; obtain ⟨Ao60, co60, eo60⟩ := Kd.R_slice HO874.out; subst eo60) | ((with_reducible refine gate_callee (f := 57) rfl ?_); refine gL 91 Try.func57 #[.slice Ao58 t866.length co58, .slice Ao59 t869.length co59, .slice Ao60 t872.length co60] ?_; (with_reducible refine (shares_CheckMix.calls kj39 (fun k_ => some k_ = (.slice Ao58 t866.length co58 : Value).ownBlock) _ _ t866 (fun k_ => some k_ = (.slice Ao59 t869.length co59 : Value).ownBlock) _ _ t869 _ _ t872 true t876 _ ?side1 ?side2 ?side3 ?side4 A48.out).mono ?_); (case side1 => exact Kd.R_V (Kd.R_tight rfl (Kd.R_apart' (Kd.R_apart' (HO868.out) (Kd.R_typed HO_7.out) (by decide)) (Kd.R_typed HO874.out) (by decide)))); (case side2 => exact Kd.R_V (Kd.R_tight rfl (Kd.R_apart' (Kd.R_apart' (HO871.out) (Kd.R_typed HO_7.out) (by decide)) (Kd.R_typed HO874.out) (by decide)))); (case side3 => repeat (first | exact (Kd.R_reads' HO874.out).2.2 | (with_reducible refine Kd.C_alloc ?_ _) | (with_reducible refine Kd.C_drewN ?_ _) | (with_reducible refine Kd.C_drew ?_))); (case side4 => exact (Kd.R_reads' HO874.out).2.1); rintro e w61 ⟨rfl, hb⟩; refine ⟨_, rfl, ?_⟩; replace HO_7 := ak (Kd.R_below (by (with_reducible repeat (first | apply Kd.R_alloc | apply Kd.R_drewN | apply Kd.R_drew)); exact HO_7.out) hb); replace HO868 := kO HO868 hb; replace HO871 := kO HO871 hb; replace HO874 := ak (Kd.R_below (by (with_reducible repeat (first | apply Kd.R_alloc | apply Kd.R_drewN | apply Kd.R_drew)); exact HO874.out) hb); replace HB := kH _ hb; (try clear hb); (try clear hb2); (try clear hk); (try clear hi)) | (go_at_call 21; (with_reducible refine (congoulaw01_awake.calls kj39  t877 _ A53.out).mono ?_); rintro e w62 ⟨rfl, hb⟩; replace HO_7 := ak (Kd.R_below (by (with_reducible repeat (first | apply Kd.R_alloc | apply Kd.R_drewN | apply Kd.R_drew)); exact HO_7.out) hb); replace HO868 := kO HO868 hb; replace HO871 := kO HO871 hb; replace HO874 := ak (Kd.R_below (by (with_reducible repeat (first | apply Kd.R_alloc | apply Kd.R_drewN | apply Kd.R_drew)); exact HO874.out) hb); replace HB := kH _ hb; (try clear hb); (try clear hb2); (try clear hk); (try clear hi)))
     go_ret
     exact ⟨by first | rfl | (simp [errW_none, errW_some] <;> rfl) | (simp [*, errW_none, errW_some] <;> rfl), hbC _⟩

end Go.Proofs.Ytefmafbbnkkpjaa.X
