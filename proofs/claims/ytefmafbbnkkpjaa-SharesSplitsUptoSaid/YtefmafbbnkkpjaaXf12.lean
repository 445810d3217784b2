-- Written by a program of this work (wip/xprint.py, over the kit's printer) out of the translation.
import Derived.Test.YtefmafbbnkkpjaaX0
import Derived.Test.YtefmafbbnkkpjaaXG2a
import Derived.Test.YtefmafbbnkkpjaaXG3a
import Derived.Test.YtefmafbbnkkpjaaXf21
import Derived.Test.YtefmafbbnkkpjaaXf50
import Derived.Test.YtefmafbbnkkpjaaXf51
import Derived.Test.YtefmafbbnkkpjaaE45
import Derived.Test.YtefmafbbnkkpjaaE47
namespace Go.Proofs.Ytefmafbbnkkpjaa.X
open Go.RowKit Go.Proofs.YtefmafbbnkkpjaaW.PrintWords Go.Proofs.YtefmafbbnkkpjaaW.PrintLast Go.Proofs.YtefmafbbnkkpjaaW.PrintMore
attribute [local go_sem] max2_int min2_int max_two min_two max_three min_three max_four min_four   -- for this text's walks alone
set_option linter.unusedVariables false
set_option linter.unusedSimpArgs false

/-! ### congoulaw01_SharesSplits: function 12 -/
def congoulaw01_SharesSplits.j0 : Nat → List (List (S62)) → List (List Int) → List (S62) → List (List Int) → List (S62) → Int → Bool → Int → Bool → Option (Bool)
 | 0, _, _, _, _, _, _, _, _, _ => none
 | k + 1, x0, x1, x2, x7, x8, x9, x10, x11, x43 => if x43 = true then (if (wrap64 ((x7.length : Int) + (x8.length : Int))) = 0 then (if x10 = true then (some false) else (if x9 = 2 then (if x11 = 2 then ((congoulaw01_awake.f k).bind fun t950 => (some t950)) else (some false)) else (some false))) else (some false)) else (if x9 = 0 then ((congouref01_Splits.f k x0 x7 x8).bind fun t951 => (if t951 = true then (if x11 = 0 then ((congoulaw01_awake.f k).bind fun t952 => (if t952 = true then ((congouref01_Splits.f k x0 x1 x2).bind fun t953 => (some (x10 == t953))) else (some false))) else (some false)) else (some false))) else (some false))
def congoulaw01_SharesSplits.f (k : Nat) (l0 : List (List (S62))) (l1 : List (List Int)) (l2 : List (S62)) : Option (Bool) := (congoulaw01_matrix.f k l0).bind fun t928 => ((xSplit.f k t928).bind fun bt931 => ((congoulaw01_matrix.f k l0).bind fun t938 => ((congoulaw01_table.f k l1).bind fun t941 => ((congoulaw01_fracs.f l2).bind fun t944 => ((xCheckSplit.f k t938 t941 t944).bind fun bt947 => (if (l0.length : Int) < 1 then (congoulaw01_SharesSplits.j0 k l0 l1 l2 bt931.1 bt931.2.1 bt931.2.2 bt947.1 bt947.2 true) else (if (l0.length : Int) > 5 then (congoulaw01_SharesSplits.j0 k l0 l1 l2 bt931.1 bt931.2.1 bt931.2.2 bt947.1 bt947.2 true) else ((congouref01_Mixture.f k l0 (l0.length : Int) 10000).bind fun t949 => (congoulaw01_SharesSplits.j0 k l0 l1 l2 bt931.1 bt931.2.1 bt931.2.2 bt947.1 bt947.2 (t949 == 0))))))))))
theorem congoulaw01_SharesSplits.mono_l : ∀ k, (∀ y0 y1 y2 y3 y4 y5 y6 y7 y8, LeO (congoulaw01_SharesSplits.j0 k y0 y1 y2 y3 y4 y5 y6 y7 y8) (congoulaw01_SharesSplits.j0 (k + 1) y0 y1 y2 y3 y4 y5 y6 y7 y8))
 | 0 => fun _ _ _ _ _ _ _ _ _ r h => by simp [congoulaw01_SharesSplits.j0] at h
 | k + 1 => by
  have ih0 := congoulaw01_SharesSplits.mono_l k
  ·intro y0 y1 y2 y3 y4 y5 y6 y7 y8
   unfold congoulaw01_SharesSplits.j0
   repeat' first
   | (with_reducible exact ih0 _ _ _ _ _ _ _ _ _)
   | (with_reducible exact congoulaw01_awake.mono _)
   | (with_reducible exact congoulaw01_matrix.mono _ _)
   | (with_reducible exact congoulaw01_table.mono _ _)
   | (with_reducible exact congouref01_Mixture.mono _ _ _ _)
   | (with_reducible exact congouref01_Splits.mono _ _ _ _)
   | (with_reducible exact xCheckSplit.mono _ _ _ _)
   | (with_reducible exact xSplit.mono _ _)
   | (with_reducible exact LeO.refl _)
   | (with_reducible exact LeO.none _)
   | (with_reducible refine LeO.ite ?_ ?_)
   | (with_reducible refine LeO.bind ?_ (fun _ => ?_))
   | exact ih0 _ _ _ _ _ _ _ _ _
   | exact congoulaw01_awake.mono _
   | exact congoulaw01_matrix.mono _ _
   | exact congoulaw01_table.mono _ _
   | exact congouref01_Mixture.mono _ _ _ _
   | exact congouref01_Splits.mono _ _ _ _
   | exact xCheckSplit.mono _ _ _ _
   | exact xSplit.mono _ _
   | exact LeO.none _
   | refine LeO.ite ?_ ?_
   | refine LeO.bind ?_ (fun _ => ?_)
theorem congoulaw01_SharesSplits.mono : ∀ a0 a1 a2 k, LeO (congoulaw01_SharesSplits.f k a0 a1 a2) (congoulaw01_SharesSplits.f (k + 1) a0 a1 a2) := by
 intro a0 a1 a2 k
 have ih0 := congoulaw01_SharesSplits.mono_l k
 unfold congoulaw01_SharesSplits.f
 repeat' first
   | (with_reducible exact ih0 _ _ _ _ _ _ _ _ _)
   | (with_reducible exact congoulaw01_awake.mono _)
   | (with_reducible exact congoulaw01_matrix.mono _ _)
   | (with_reducible exact congoulaw01_table.mono _ _)
   | (with_reducible exact congouref01_Mixture.mono _ _ _ _)
   | (with_reducible exact congouref01_Splits.mono _ _ _ _)
   | (with_reducible exact xCheckSplit.mono _ _ _ _)
   | (with_reducible exact xSplit.mono _ _)
   | (with_reducible exact LeO.refl _)
   | (with_reducible exact LeO.none _)
   | (with_reducible refine LeO.ite ?_ ?_)
   | (with_reducible refine LeO.bind ?_ (fun _ => ?_))
   | exact ih0 _ _ _ _ _ _ _ _ _
   | exact congoulaw01_awake.mono _
   | exact congoulaw01_matrix.mono _ _
   | exact congoulaw01_table.mono _ _
   | exact congouref01_Mixture.mono _ _ _ _
   | exact congouref01_Splits.mono _ _ _ _
   | exact xCheckSplit.mono _ _ _ _
   | exact xSplit.mono _ _
   | exact LeO.none _
   | refine LeO.ite ?_ ?_
   | refine LeO.bind ?_ (fun _ => ?_)
set_option maxHeartbeats 8000000 in
set_option maxRecDepth 100000 in
theorem congoulaw01_SharesSplits.calls (k : Nat) (A0 : Option Addr) (c0 : Nat) (l0 : List (List (S62))) (A1 : Option Addr) (c1 : Nat) (l1 : List (List Int)) (A2 : Option Addr) (c2 : Nat) (l2 : List (S62)) (r : Bool) (w : World) (hr0 : Kd.C (Kd.slice 62 k62) w A0 l0.length l0) (hc0 : l0.length ≤ c0) (hr1 : Kd.C (Kd.slice 3 (Kd.int .i64)) w A1 l1.length l1) (hc1 : l1.length ≤ c1) (hr2 : Kd.C k62 w A2 l2.length l2) (hc2 : l2.length ≤ c2) (hrt : r = true) (h : congoulaw01_SharesSplits.f k l0 l1 l2 = some r) :
  Calls Try.prog 12 #[.slice A0 l0.length c0, .slice A1 l1.length c1, .slice A2 l2.length c2] w fun e w' => e = .returned (.bool r) ∧ Below w.heap.size w w' := by
 have HR0 := Aside0.mk hr0
 have HC0 := Aside0.mk hc0
 clear hr0 hc0
 have HR1 := Aside0.mk hr1
 have HC1 := Aside0.mk hc1
 clear hr1 hc1
 have HR2 := Aside0.mk hr2
 have HC2 := Aside0.mk hc2
 clear hr2 hc2
 have HB := ak (Below.refl w.heap.size w)
 have H : ((congoulaw01_matrix.f k l0).bind fun t928 => ((xSplit.f k t928).bind fun bt931 => ((congoulaw01_matrix.f k l0).bind fun t938 => ((congoulaw01_table.f k l1).bind fun t941 => ((congoulaw01_fracs.f l2).bind fun t944 => ((xCheckSplit.f k t938 t941 t944).bind fun bt947 => (if (l0.length : Int) < 1 then (congoulaw01_SharesSplits.j0 k l0 l1 l2 bt931.1 bt931.2.1 bt931.2.2 bt947.1 bt947.2 true) else (if (l0.length : Int) > 5 then (congoulaw01_SharesSplits.j0 k l0 l1 l2 bt931.1 bt931.2.1 bt931.2.2 bt947.1 bt947.2 true) else ((congouref01_Mixture.f k l0 (l0.length : Int) 10000).bind fun t949 => (congoulaw01_SharesSplits.j0 k l0 l1 l2 bt931.1 bt931.2.1 bt931.2.2 bt947.1 bt947.2 (t949 == 0))))))))))) = some r := h
 clear h
 have HRT := Aside0.mk hrt
 clear hrt
 replace H := Option.bind_eq_some_iff.mp H
 obtain ⟨t928, A40, H⟩ := H
 replace H : ((xSplit.f k t928).bind fun bt931 => ((congoulaw01_matrix.f k l0).bind fun t938 => ((congoulaw01_table.f k l1).bind fun t941 => ((congoulaw01_fracs.f l2).bind fun t944 => ((xCheckSplit.f k t938 t941 t944).bind fun bt947 => (if (l0.length : Int) < 1 then (congoulaw01_SharesSplits.j0 k l0 l1 l2 bt931.1 bt931.2.1 bt931.2.2 bt947.1 bt947.2 true) else (if (l0.length : Int) > 5 then (congoulaw01_SharesSplits.j0 k l0 l1 l2 bt931.1 bt931.2.1 bt931.2.2 bt947.1 bt947.2 true) else ((congouref01_Mixture.f k l0 (l0.length : Int) 10000).bind fun t949 => (congoulaw01_SharesSplits.j0 k l0 l1 l2 bt931.1 bt931.2.1 bt931.2.2 bt947.1 bt947.2 (t949 == 0)))))))))) = some r := H
 have A4 := Aside0.mk A40
 clear A40
 replace H := Option.bind_eq_some_iff.mp H
 obtain ⟨⟨t931, t932, t933⟩, A50, H⟩ := H
 replace H : ((congoulaw01_matrix.f k l0).bind fun t938 => ((congoulaw01_table.f k l1).bind fun t941 => ((congoulaw01_fracs.f l2).bind fun t944 => ((xCheckSplit.f k t938 t941 t944).bind fun bt947 => (if (l0.length : Int) < 1 then (congoulaw01_SharesSplits.j0 k l0 l1 l2 t931 t932 t933 bt947.1 bt947.2 true) else (if (l0.length : Int) > 5 then (congoulaw01_SharesSplits.j0 k l0 l1 l2 t931 t932 t933 bt947.1 bt947.2 true) else ((congouref01_Mixture.f k l0 (l0.length : Int) 10000).bind fun t949 => (congoulaw01_SharesSplits.j0 k l0 l1 l2 t931 t932 t933 bt947.1 bt947.2 (t949 == 0))))))))) = some r := H
 have A5 := Aside0.mk A50
 clear A50
 replace H := Option.bind_eq_some_iff.mp H
 obtain ⟨t938, A60, H⟩ := H
 replace H : ((congoulaw01_table.f k l1).bind fun t941 => ((congoulaw01_fracs.f l2).bind fun t944 => ((xCheckSplit.f k t938 t941 t944).bind fun bt947 => (if (l0.length : Int) < 1 then (congoulaw01_SharesSplits.j0 k l0 l1 l2 t931 t932 t933 bt947.1 bt947.2 true) else (if (l0.length : Int) > 5 then (congoulaw01_SharesSplits.j0 k l0 l1 l2 t931 t932 t933 bt947.1 bt947.2 true) else ((congouref01_Mixture.f k l0 (l0.length : Int) 10000).bind fun t949 => (congoulaw01_SharesSplits.j0 k l0 l1 l2 t931 t932 t933 bt947.1 bt947.2 (t949 == 0)))))))) = some r := H
 have A6 := Aside0.mk A60
 clear A60
 replace H := Option.bind_eq_some_iff.mp H
 obtain ⟨t941, A70, H⟩ := H
 replace H : ((congoulaw01_fracs.f l2).bind fun t944 => ((xCheckSplit.f k t938 t941 t944).bind fun bt947 => (if (l0.length : Int) < 1 then (congoulaw01_SharesSplits.j0 k l0 l1 l2 t931 t932 t933 bt947.1 bt947.2 true) else (if (l0.length : Int) > 5 then (congoulaw01_SharesSplits.j0 k l0 l1 l2 t931 t932 t933 bt947.1 bt947.2 true) else ((congouref01_Mixture.f k l0 (l0.length : Int) 10000).bind fun t949 => (congoulaw01_SharesSplits.j0 k l0 l1 l2 t931 t932 t933 bt947.1 bt947.2 (t949 == 0))))))) = some r := H
 have A7 := Aside0.mk A70
 clear A70
 replace H := Option.bind_eq_some_iff.mp H
 obtain ⟨t944, A80, H⟩ := H
 replace H : ((xCheckSplit.f k t938 t941 t944).bind fun bt947 => (if (l0.length : Int) < 1 then (congoulaw01_SharesSplits.j0 k l0 l1 l2 t931 t932 t933 bt947.1 bt947.2 true) else (if (l0.length : Int) > 5 then (congoulaw01_SharesSplits.j0 k l0 l1 l2 t931 t932 t933 bt947.1 bt947.2 true) else ((congouref01_Mixture.f k l0 (l0.length : Int) 10000).bind fun t949 => (congoulaw01_SharesSplits.j0 k l0 l1 l2 t931 t932 t933 bt947.1 bt947.2 (t949 == 0)))))) = some r := H
 have A8 := Aside0.mk A80
 clear A80
 replace H := Option.bind_eq_some_iff.mp H
 obtain ⟨⟨t947, t948⟩, A90, H⟩ := H
 replace H : (if (l0.length : Int) < 1 then (congoulaw01_SharesSplits.j0 k l0 l1 l2 t931 t932 t933 t947 t948 true) else (if (l0.length : Int) > 5 then (congoulaw01_SharesSplits.j0 k l0 l1 l2 t931 t932 t933 t947 t948 true) else ((congouref01_Mixture.f k l0 (l0.length : Int) 10000).bind fun t949 => (congoulaw01_SharesSplits.j0 k l0 l1 l2 t931 t932 t933 t947 t948 (t949 == 0))))) = some r := H
 have A9 := Aside0.mk A90
 clear A90
 have HC10 := Aside0.mk H
 clear H
 go_enter Try.func12, Try.ntmps12
 go_upto_region 3 with (first | ((with_reducible refine gate_callee (f := 46) rfl ?_); refine gL 14 Try.func46 #[.slice A0 l0.length c0] ?_; (with_reducible refine (congoulaw01_matrix.calls k _ _ l0 t928 _ ?side1 ?side2 A4.out).mono ?_); (case side1 => repeat (first | exact HR0.out | (with_reducible refine Kd.C_alloc ?_ _) | (with_reducible refine Kd.C_drewN ?_ _) | (with_reducible refine Kd.C_drew ?_))); (case side2 => exact HC0.out); rintro e w11 ⟨v929, rfl, ho0, hb⟩; refine ⟨_, rfl, ?_⟩; have HO930 := ak (Kd.S_lower ho0 (below_size (hbC _))); replace HB := kH _ hb; (try clear hb); (try clear hb2); (try clear hk); (try clear hi); (try clear ho0); obtain ⟨Ao12, co12, eo12⟩ := Kd.S_slice HO930.out; subst eo12) | ((with_reducible refine gate_callee (f := 45) rfl ?_); refine gL 15 Try.func45 #[.slice Ao12 t928.length co12] ?_; (with_reducible refine (xSplit.calls k _ _ t928 t931 t932 t933 _ ?side1 ?side2 A5.out).mono ?_); (case side1 => repeat (first | exact (Kd.S_reads' HO930.out).2.2 | (with_reducible refine Kd.C_alloc ?_ _) | (with_reducible refine Kd.C_drewN ?_ _) | (with_reducible refine Kd.C_drew ?_))); (case side2 => exact (Kd.S_reads' HO930.out).2.1); rintro e w13 ⟨v934, v936, rfl, ho0, ho1, hb⟩; refine ⟨_, rfl, ?_⟩; replace HO930 := ak (Kd.S_elder' (by (with_reducible repeat (first | apply Kd.S_alloc | apply Kd.S_drewN | apply Kd.S_drew)); exact HO930.out) (Kd.R_base ho1) hb); have HO935 := ak (Kd.S_lower ho0 (below_size (hbC _))); have HO937 := ak (Kd.R_lower ho1 (below_size (hbC _))); replace HB := kH _ hb; (try clear hb); (try clear hb2); (try clear hk); (try clear hi); (try clear ho0); (try clear ho1)) | ((with_reducible refine gate_callee (f := 46) rfl ?_); refine gL 21 Try.func46 #[.slice A0 l0.length c0] ?_; (with_reducible refine (congoulaw01_matrix.calls k _ _ l0 t938 _ ?side1 ?side2 A6.out).mono ?_); (case side1 => exact kC HR0); (case side2 => exact HC0.out); rintro e w14 ⟨v939, rfl, ho0, hb⟩; refine ⟨_, rfl, ?_⟩; replace HO935 := ak (Kd.S_below (by (with_reducible repeat (first | apply Kd.S_alloc | apply Kd.S_drewN | apply Kd.S_drew)); exact HO935.out) hb); have HO940 := ak (Kd.S_lower (Kd.S_new' (Kd.S_new' ho0 (Kd.S_lt (by (with_reducible repeat (first | apply Kd.S_alloc | apply Kd.S_drewN | apply Kd.S_drew)); exact HO930.out))) (Kd.R_lt (rC HO937))) (below_size (hbC _))); replace HO930 := ak (Kd.S_elder' (by (with_reducible repeat (first | apply Kd.S_alloc | apply Kd.S_drewN | apply Kd.S_drew)); exact HO930.out) (Kd.S_base ho0) hb); replace HO937 := kO HO937 hb; replace HB := kH _ hb; (try clear hb); (try clear hb2); (try clear hk); (try clear hi); (try clear ho0)) | ((with_reducible refine gate_callee (f := 48) rfl ?_); refine gL 23 Try.func48 #[.slice A1 l1.length c1] ?_; (with_reducible refine (congoulaw01_table.calls k _ _ l1 t941 _ ?side1 ?side2 A7.out).mono ?_); (case side1 => exact kC HR1); (case side2 => exact HC1.out); rintro e w15 ⟨v942, rfl, ho0, hb⟩; refine ⟨_, rfl, ?_⟩; replace HO930 := ak (Kd.S_below (by (with_reducible repeat (first | apply Kd.S_alloc | apply Kd.S_drewN | apply Kd.S_drew)); exact HO930.out) hb); replace HO937 := kO HO937 hb; replace HO940 := ak (Kd.S_below (by (with_reducible repeat (first | apply Kd.S_alloc | apply Kd.S_drewN | apply Kd.S_drew)); exact HO940.out) hb); have HO943 := ak (Kd.S_lower (Kd.S_new' ho0 (Kd.S_lt (by (with_reducible repeat (first | apply Kd.S_alloc | apply Kd.S_drewN | apply Kd.S_drew)); exact HO935.out))) (below_size (hbC _))); replace HO935 := ak (Kd.S_elder' (by (with_reducible repeat (first | apply Kd.S_alloc | apply Kd.S_drewN | apply Kd.S_drew)); exact HO935.out) (Kd.S_base ho0) hb); replace HB := kH _ hb; (try clear hb); (try clear hb2); (try clear hk); (try clear hi); (try clear ho0)) | ((with_reducible refine gate_callee (f := 49) rfl ?_); refine gL 25 Try.func49 #[.slice A2 l2.length c2] ?_; (with_reducible refine (congoulaw01_fracs.calls _ _ l2 t944 _ ?side1 ?side2 A8.out).mono ?_); (case side1 => exact kC HR2); (case side2 => exact HC2.out); rintro e w16 ⟨v945, rfl, ho0, hb⟩; refine ⟨_, rfl, ?_⟩; replace HO930 := ak (Kd.S_elder' (by (with_reducible repeat (first | apply Kd.S_alloc | apply Kd.S_drewN | apply Kd.S_drew)); exact HO930.out) (Kd.R_base ho0) hb); replace HO935 := ak (Kd.S_below (by (with_reducible repeat (first | apply Kd.S_alloc | apply Kd.S_drewN | apply Kd.S_drew)); exact HO935.out) hb); replace HO940 := ak (Kd.S_elder' (by (with_reducible repeat (first | apply Kd.S_alloc | apply Kd.S_drewN | apply Kd.S_drew)); exact HO940.out) (Kd.R_base ho0) hb); replace HO943 := ak (Kd.S_below (by (with_reducible repeat (first | apply Kd.S_alloc | apply Kd.S_drewN | apply Kd.S_drew)); exact HO943.out) hb); have HO946 := ak (Kd.R_lower (Kd.R_new' ho0 (Kd.R_lt (rC HO937))) (below_size (hbC _))); replace HO937 := ak (Kd.R_elder' (rC HO937) (Kd.R_base ho0) hb); replace HB := kH _ hb; (try clear hb); (try clear hb2); (try clear hk); (try clear hi); (try clear ho0); obtain ⟨Ao17, co17, eo17⟩ := Kd.S_slice HO940.out; subst eo17; obtain ⟨Ao18, co18, eo18⟩ := Kd.S_slice HO943.out; subst eo18; obtain ⟨Ao19, co19, eo19⟩ := Kd.R_slice HO946.out; subst eo19) | ((with_reducible refine gate_callee (f := 47) rfl ?_); refine gL 26 Try.func47 #[.slice Ao17 t938.length co17, .slice Ao18 t941.length co18, .slice Ao19 t944.length co19] ?_; (with_reducible refine (xCheckSplit.calls k _ _ t938 _ _ t941 _ _ t944 t947 t948 _ ?side1 ?side2 ?side3 ?side4 ?side5 ?side6 A9.out).mono ?_); (case side1 => repeat (first | exact (Kd.S_reads' HO940.out).2.2 | (with_reducible refine Kd.C_alloc ?_ _) | (with_reducible refine Kd.C_drewN ?_ _) | (with_reducible refine Kd.C_drew ?_))); (case side2 => exact (Kd.S_reads' HO940.out).2.1); (case side3 => repeat (first | exact (Kd.S_reads' HO943.out).2.2 | (with_reducible refine Kd.C_alloc ?_ _) | (with_reducible refine Kd.C_drewN ?_ _) | (with_reducible refine Kd.C_drew ?_))); (case side4 => exact (Kd.S_reads' HO943.out).2.1); (case side5 => exact kD (Kd.R_reads' HO946.out).2.2); (case side6 => exact (Kd.R_reads' HO946.out).2.1); rintro e w20 ⟨rfl, hb⟩; refine ⟨_, rfl, ?_⟩; replace HO930 := ak (Kd.S_below (by (with_reducible repeat (first | apply Kd.S_alloc | apply Kd.S_drewN | apply Kd.S_drew)); exact HO930.out) hb); replace HO935 := ak (Kd.S_below (by (with_reducible repeat (first | apply Kd.S_alloc | apply Kd.S_drewN | apply Kd.S_drew)); exact HO935.out) hb); replace HO937 := kO HO937 hb; replace HO940 := ak (Kd.S_below (by (with_reducible repeat (first | apply Kd.S_alloc | apply Kd.S_drewN | apply Kd.S_drew)); exact HO940.out) hb); replace HO943 := ak (Kd.S_below (by (with_reducible repeat (first | apply Kd.S_alloc | apply Kd.S_drewN | apply Kd.S_drew)); exact HO943.out) hb); replace HO946 := kO HO946 hb; replace HB := kH _ hb; (try clear hb); (try clear hb2); (try clear hk); (try clear hi)))
 (try simp only [Act.put, List.setIfInBounds_toArray, List.set_cons_zero, List.set_cons_succ])
 go_cut [43] (fun v43 wc => ∃ (kq : Nat) (x43_9 : Bool), v43 = .bool x43_9 ∧ Aside0 (congoulaw01_SharesSplits.j0 kq l0 l1 l2 t931 t932 t933 t947 t948 x43_9 = some r) ∧ Aside0 (kq ≤ k) ∧ Aside0 (Kd.S (Kd.slice 3 (Kd.int .i64)) 22 wc w.heap.size (fun _ => True) v934 t931) ∧ Aside0 (Kd.R k62 62 wc w.heap.size (fun _ => True) v936 t932) ∧ Aside0 (Below w.heap.size w wc))
 case first =>
  have H := HC10.out
  clear HC10
  by_cases c21 : (l0.length : Int) < 1
  ·rw [if_pos c21] at H
   have c21b0 : decide ((l0.length : Int) < 1) = true := decide_eq_true c21
   have c21b1 : decide (l0.length < 1) = true := decide_eq_true (by omega)
   clear c21
   (first | rw [c21b0] | (simp only [i64_w, i32_w]; rw [c21b0]) | skip)
   have H' := Aside0.mk H
   clear H
   go_wp2
   go_meet
   case rel => exact ⟨_, (true), (by first | rfl | (simp; done) | (simp [*]; done)), H', ⟨by first | omega | exact Nat.le_refl _⟩, ⟨by (with_reducible repeat (first | apply Kd.S_alloc | apply Kd.S_drewN | apply Kd.S_drew)); exact Kd.S_mono HO935.out (fun _ hk => trivial)⟩, ⟨rD (Kd.R_mono HO937.out (fun _ hk => trivial))⟩, ⟨hbC _⟩⟩
  rw [if_neg c21] at H
  have c21b0 : decide ((l0.length : Int) < 1) = false := decide_eq_false c21
  have c21b1 : decide (l0.length < 1) = false := decide_eq_false (by omega)
  clear c21
  (first | rw [c21b0] | (simp only [i64_w, i32_w]; rw [c21b0]) | skip)
  by_cases c22 : (l0.length : Int) > 5
  ·rw [if_pos c22] at H
   have c22b0 : decide (5 < (l0.length : Int)) = true := decide_eq_true c22
   have c22b1 : decide (5 < l0.length) = true := decide_eq_true (by omega)
   clear c22
   have H' := Aside0.mk H
   clear H
   go_wp2
   go_meet
   case rel => exact ⟨_, (true), (by first | rfl | (simp; done) | (simp [*]; done)), H', ⟨by first | omega | exact Nat.le_refl _⟩, ⟨by (with_reducible repeat (first | apply Kd.S_alloc | apply Kd.S_drewN | apply Kd.S_drew)); exact Kd.S_mono HO935.out (fun _ hk => trivial)⟩, ⟨rD (Kd.R_mono HO937.out (fun _ hk => trivial))⟩, ⟨hbC _⟩⟩
  rw [if_neg c22] at H
  have c22b0 : decide (5 < (l0.length : Int)) = false := decide_eq_false c22
  have c22b1 : decide (5 < l0.length) = false := decide_eq_false (by omega)
  clear c22
  replace H := Option.bind_eq_some_iff.mp H
  obtain ⟨t949, A230, H⟩ := H
  replace H : (congoulaw01_SharesSplits.j0 k l0 l1 l2 t931 t932 t933 t947 t948 (t949 == 0)) = some r := H
  have A23 := Aside0.mk A230
  clear A230
  have H' := Aside0.mk H
  clear H
  go_wp2_with (first | (go_at_call 50; (with_reducible refine (congouref01_Mixture.calls k _ _ l0 (l0.length : Int) 10000 t949 _ ?side1 ?side2 A23.out).mono ?_); (case side1 => exact kC HR0); (case side2 => exact HC0.out); rintro e w24 ⟨rfl, hb⟩; replace HO930 := ak (Kd.S_below (by (with_reducible repeat (first | apply Kd.S_alloc | apply Kd.S_drewN | apply Kd.S_drew)); exact HO930.out) hb); replace HO935 := ak (Kd.S_below (by (with_reducible repeat (first | apply Kd.S_alloc | apply Kd.S_drewN | apply Kd.S_drew)); exact HO935.out) hb); replace HO937 := kO HO937 hb; replace HO940 := ak (Kd.S_below (by (with_reducible repeat (first | apply Kd.S_alloc | apply Kd.S_drewN | apply Kd.S_drew)); exact HO940.out) hb); replace HO943 := ak (Kd.S_below (by (with_reducible repeat (first | apply Kd.S_alloc | apply Kd.S_drewN | apply Kd.S_drew)); exact HO943.out) hb); replace HO946 := kO HO946 hb; replace HB := kH _ hb; (try clear hb); (try clear hb2); (try clear hk); (try clear hi)))
  go_meet
  case rel => exact ⟨_, ((t949 == 0)), (by first | rfl | (simp; done) | (simp [*]; done)), H', ⟨by first | omega | exact Nat.le_refl _⟩, ⟨by (with_reducible repeat (first | apply Kd.S_alloc | apply Kd.S_drewN | apply Kd.S_drew)); exact Kd.S_mono HO935.out (fun _ hk => trivial)⟩, ⟨rD (Kd.R_mono HO937.out (fun _ hk => trivial))⟩, ⟨hbC _⟩⟩
 case rest =>
  clear HC10
  try clear c1
  try clear c2
  try clear p2
  try clear c4
  try clear c12
  try clear c21
  try clear c21b0
  try clear c21b1
  try clear c22
  try clear c22b0
  try clear c22b1
  obtain ⟨kq, x43_9, rfl, HA, HJ9, HO_7, HO_8, HB⟩ := hcut
  cases kq with
  | zero => exact absurd HA.out (by simp [congoulaw01_SharesSplits.j0])
  | succ kj9 =>
   have H := HA.out
   clear HA
   simp only [congoulaw01_SharesSplits.j0] at H
   by_cases c25 : x43_9 = true
   ·subst c25
    have H1 : (if (wrap64 ((t931.length : Int) + (t932.length : Int))) = 0 then (if t947 = true then (some false) else (if t933 = 2 then (if t948 = 2 then ((congoulaw01_awake.f kj9).bind fun t950 => (some t950)) else (some false)) else (some false))) else (some false)) = some r := by rw [if_pos rfl] at H; exact H
    clear H
    have H := H1
    clear H1
    by_cases c26 : (wrap64 ((t931.length : Int) + (t932.length : Int))) = 0
    rotate_left
    ·rw [if_neg c26] at H
     have c26b0 : ((wrap64 ((t931.length : Int) + (t932.length : Int))) == 0) = false := beq_eq_false_iff_ne.mpr c26
     have c26b1 : ((wrap64 ((t931.length : Int) + (t932.length : Int))) != 0) = true := bne_iff_ne.mpr c26
     exact absurd (H.trans (congrArg some HRT.out)) (by simp)
    rw [if_pos c26] at H
    have c26b0 : ((wrap64 ((t931.length : Int) + (t932.length : Int))) == 0) = true := beq_iff_eq.mpr c26
    have c26b1 : ((wrap64 ((t931.length : Int) + (t932.length : Int))) != 0) = false := bne_eq_false_iff_eq.mpr c26
    clear c26
    by_cases c27 : t947 = true
    ·subst c27
     have H1 : (some false) = some r := by rw [if_pos rfl] at H; exact H
     clear H
     have H := H1
     clear H1
     exact absurd (H.trans (congrArg some HRT.out)) (by simp)
    replace c27 := Bool.eq_false_iff.mpr c27
    subst c27
    have H1 : (if t933 = 2 then (if t948 = 2 then ((congoulaw01_awake.f kj9).bind fun t950 => (some t950)) else (some false)) else (some false)) = some r := by rw [if_neg (show ¬ (false = true) by decide)] at H; exact H
    clear H
    have H := H1
    clear H1
    by_cases c28 : t933 = 2
    rotate_left
    ·rw [if_neg c28] at H
     have c28b0 : (t933 == 2) = false := beq_eq_false_iff_ne.mpr c28
     have c28b1 : (t933 != 2) = true := bne_iff_ne.mpr c28
     exact absurd (H.trans (congrArg some HRT.out)) (by simp)
    rw [if_pos c28] at H
    have c28b0 : (t933 == 2) = true := beq_iff_eq.mpr c28
    have c28b1 : (t933 != 2) = false := bne_eq_false_iff_eq.mpr c28
    clear c28
    by_cases c29 : t948 = 2
    rotate_left
    ·rw [if_neg c29] at H
     have c29b0 : (t948 == 2) = false := beq_eq_false_iff_ne.mpr c29
     have c29b1 : (t948 != 2) = true := bne_iff_ne.mpr c29
     exact absurd (H.trans (congrArg some HRT.out)) (by simp)
    rw [if_pos c29] at H
    have c29b0 : (t948 == 2) = true := beq_iff_eq.mpr c29
    have c29b1 : (t948 != 2) = false := bne_eq_false_iff_eq.mpr c29
    clear c29
    replace H := Option.bind_eq_some_iff.mp H
    obtain ⟨t950, A300, H⟩ := H
    replace H : (some t950) = some r := H
    have A30 := Aside0.mk A300
    clear A300
    obtain rfl := Option.some.inj H
    obtain ⟨Ao31, co31, eo31⟩ := Kd.S_slice HO_7.out
    subst eo31
    obtain ⟨Ao32, co32, eo32⟩ := Kd.R_slice HO_8.out
    subst eo32
    go_wp2_with (first | (go_at_call 21; (with_reducible refine (congoulaw01_awake.calls kj9  t950 _ A30.out).mono ?_); rintro e w33 ⟨rfl, hb⟩; replace HO_7 := ak (Kd.S_below (by (with_reducible repeat (first | apply Kd.S_alloc | apply Kd.S_drewN | apply Kd.S_drew)); exact HO_7.out) hb); replace HO_8 := kO HO_8 hb; replace HB := kH _ hb; (try clear hb); (try clear hb2); (try clear hk); (try clear hi)))
    go_ret
    exact ⟨by first | rfl | (simp [errW_none, errW_some] <;> rfl) | (simp [*, errW_none, errW_some] <;> rfl), hbC _⟩
   replace c25 := Bool.eq_false_iff.mpr c25
   subst c25
   have H1 : (if t933 = 0 then ((congouref01_Splits.f kj9 l0 t931 t932).bind fun t951 => (if t951 = true then (if t948 = 0 then ((congoulaw01_awake.f kj9).bind fun t952 => (if t952 = true then ((congouref01_Splits.f kj9 l0 l1 l2).bind fun t953 => (some (t947 == t953))) else (some false))) else (some false)) else (some false))) else (some false)) = some r := by rw [if_neg (show ¬ (false = true) by decide)] at H; exact H
   clear H
   have H := H1
   clear H1
   by_cases c34 : t933 = 0
   rotate_left
   ·rw [if_neg c34] at H
    have c34b0 : (t933 == 0) = false := beq_eq_false_iff_ne.mpr c34
    have c34b1 : (t933 != 0) = true := bne_iff_ne.mpr c34
    exact absurd (H.trans (congrArg some HRT.out)) (by simp)
   rw [if_pos c34] at H
   have c34b0 : (t933 == 0) = true := beq_iff_eq.mpr c34
   have c34b1 : (t933 != 0) = false := bne_eq_false_iff_eq.mpr c34
   clear c34
   replace H := Option.bind_eq_some_iff.mp H
   obtain ⟨t951, A350, H⟩ := H
   replace H : (if t951 = true then (if t948 = 0 then ((congoulaw01_awake.f kj9).bind fun t952 => (if t952 = true then ((congouref01_Splits.f kj9 l0 l1 l2).bind fun t953 => (some (t947 == t953))) else (some false))) else (some false)) else (some false)) = some r := H
   have A35 := Aside0.mk A350
   clear A350
   by_cases c36 : t951 = true
   rotate_left
   ·replace c36 := Bool.eq_false_iff.mpr c36
    subst c36
    have H1 : (some false) = some r := by rw [if_neg (show ¬ (false = true) by decide)] at H; exact H
    clear H
    have H := H1
    clear H1
    exact absurd (H.trans (congrArg some HRT.out)) (by simp)
   subst c36
   have H1 : (if t948 = 0 then ((congoulaw01_awake.f kj9).bind fun t952 => (if t952 = true then ((congouref01_Splits.f kj9 l0 l1 l2).bind fun t953 => (some (t947 == t953))) else (some false))) else (some false)) = some r := by rw [if_pos rfl] at H; exact H
   clear H
   have H := H1
   clear H1
   by_cases c37 : t948 = 0
   rotate_left
   ·rw [if_neg c37] at H
    have c37b0 : (t948 == 0) = false := beq_eq_false_iff_ne.mpr c37
    have c37b1 : (t948 != 0) = true := bne_iff_ne.mpr c37
    exact absurd (H.trans (congrArg some HRT.out)) (by simp)
   rw [if_pos c37] at H
   have c37b0 : (t948 == 0) = true := beq_iff_eq.mpr c37
   have c37b1 : (t948 != 0) = false := bne_eq_false_iff_eq.mpr c37
   clear c37
   replace H := Option.bind_eq_some_iff.mp H
   obtain ⟨t952, A380, H⟩ := H
   replace H : (if t952 = true then ((congouref01_Splits.f kj9 l0 l1 l2).bind fun t953 => (some (t947 == t953))) else (some false)) = some r := H
   have A38 := Aside0.mk A380
   clear A380
   by_cases c39 : t952 = true
   rotate_left
   ·replace c39 := Bool.eq_false_iff.mpr c39
    subst c39
    have H1 : (some false) = some r := by rw [if_neg (show ¬ (false = true) by decide)] at H; exact H
    clear H
    have H := H1
    clear H1
    exact absurd (H.trans (congrArg some HRT.out)) (by simp)
   subst c39
   have H1 : ((congouref01_Splits.f kj9 l0 l1 l2).bind fun t953 => (some (t947 == t953))) = some r := by rw [if_pos rfl] at H; exact H
   clear H
   have H := H1
   clear H1
   replace H := Option.bind_eq_some_iff.mp H
   obtain ⟨t953, A400, H⟩ := H
   replace H : (some (t947 == t953)) = some r := H
   have A40 := Aside0.mk A400
   clear A400
   obtain rfl := Option.some.inj H
   obtain ⟨Ao41, co41, eo41⟩ := Kd.S_slice HO_7.out
   subst eo41
   obtain ⟨Ao42, co42, eo42⟩ := Kd.R_slice HO_8.out
   subst eo42
   go_wp2_with (first | (go_at_call 51; (with_reducible refine (congouref01_Splits.calls kj9 _ _ l0 _ _ t931 _ _ t932 true _ ?side1 ?side2 ?side3 ?side4 ?side5 ?side6 A35.out).mono ?_); (case side1 => exact kC HR0); (case side2 => exact HC0.out); (case side3 => repeat (first | exact (Kd.S_reads' HO_7.out).2.2 | (with_reducible refine Kd.C_alloc ?_ _) | (with_reducible refine Kd.C_drewN ?_ _) | (with_reducible refine Kd.C_drew ?_))); (case side4 => exact (Kd.S_reads' HO_7.out).2.1); (case side5 => exact kD (Kd.R_reads' HO_8.out).2.2); (case side6 => exact (Kd.R_reads' HO_8.out).2.1); rintro e w43 ⟨rfl, hb⟩; replace HO_7 := ak (Kd.S_below (by (with_reducible repeat (first | apply Kd.S_alloc | apply Kd.S_drewN | apply Kd.S_drew)); exact HO_7.out) hb); replace HO_8 := kO HO_8 hb; replace HB := kH _ hb; (try clear hb); (try clear hb2); (try clear hk); (try clear hi)) | (go_at_call 21; (with_reducible refine (congoulaw01_awake.calls kj9  true _ A38.out).mono ?_); rintro e w44 ⟨rfl, hb⟩; replace HO_7 := ak (Kd.S_below (by (with_reducible repeat (first | apply Kd.S_alloc | apply Kd.S_drewN | apply Kd.S_drew)); exact HO_7.out) hb); replace HO_8 := kO HO_8 hb; replace HB := kH _ hb; (try clear hb); (try clear hb2); (try clear hk); (try clear hi)) | ((with_reducible refine gate_callee (f := 51) rfl ?_); refine gL 86 Try.func51 #[.slice A0 l0.length c0, .slice A1 l1.length c1, .slice A2 l2.length c2] ?_; (with_reducible refine (congouref01_Splits.calls kj9 _ _ l0 _ _ l1 _ _ l2 t953 _ ?side1 ?side2 ?side3 ?side4 ?side5 ?side6 A40.out).mono ?_); (case side1 => exact kC HR0); (case side2 => exact HC0.out); (case side3 => exact kC HR1); (case side4 => exact HC1.out); (case side5 => exact kC HR2); (case side6 => exact HC2.out); rintro e w45 ⟨rfl, hb⟩; refine ⟨_, rfl, ?_⟩; replace HO_7 := ak (Kd.S_below (by (with_reducible repeat (first | apply Kd.S_alloc | apply Kd.S_drewN | apply Kd.S_drew)); exact HO_7.out) hb); replace HO_8 := kO HO_8 hb; replace HB := kH _ hb; (try clear hb); (try clear hb2); (try clear hk); (try clear hi)))
   go_ret
   exact ⟨by first | rfl | (simp [errW_none, errW_some] <;> rfl) | (simp [*, errW_none, errW_some] <;> rfl), hbC _⟩

end Go.Proofs.Ytefmafbbnkkpjaa.X
