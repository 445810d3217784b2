-- Written by a program of this work (wip/xprint.py, over the kit's printer) out of the translation.
import Derived.Test.YtefmafbbnkkpjaaX0
import Derived.Test.YtefmafbbnkkpjaaXG2a
import Derived.Test.YtefmafbbnkkpjaaXf21
import Derived.Test.YtefmafbbnkkpjaaXf25
import Derived.Test.YtefmafbbnkkpjaaXf27
namespace Go.Proofs.Ytefmafbbnkkpjaa.X
open Go.RowKit Go.Proofs.YtefmafbbnkkpjaaW.PrintWords Go.Proofs.YtefmafbbnkkpjaaW.PrintLast Go.Proofs.YtefmafbbnkkpjaaW.PrintMore
attribute [local go_sem] max2_int min2_int max_two min_two max_three min_three max_four min_four   -- for this text's walks alone
set_option linter.unusedVariables false
set_option linter.unusedSimpArgs false

/-! ### congoulaw01_SharesPowers: function 4 -/
def congoulaw01_SharesPowers.f (k : Nat) (l0 : List Int) (l1 : List Int) : Option (Bool) := (congoulaw01_list.f l0).bind fun t671 => ((congoulaw01_list.f l1).bind fun t674 => ((shares_Power.f k t671 t674).bind fun bt677 => ((congouref01_Few.f k l0 l1).bind fun t679 => (if t679 = true then ((congouref01_Power.f k l0 l1).bind fun t680 => (if bt677.1 = t680 then (if bt677.2 = 0 then ((congoulaw01_awake.f k).bind fun t681 => (some t681)) else (some false)) else (some false))) else (if bt677.1 = 0 then (if bt677.2 = 2 then ((congoulaw01_awake.f k).bind fun t682 => (some t682)) else (some false)) else (some false))))))
theorem congoulaw01_SharesPowers.mono : ∀ a0 a1 k, LeO (congoulaw01_SharesPowers.f k a0 a1) (congoulaw01_SharesPowers.f (k + 1) a0 a1) := by
 intro a0 a1 k
 unfold congoulaw01_SharesPowers.f
 repeat' first
   | (with_reducible exact congoulaw01_awake.mono _)
   | (with_reducible exact congouref01_Few.mono _ _ _)
   | (with_reducible exact congouref01_Power.mono _ _ _)
   | (with_reducible exact shares_Power.mono _ _ _)
   | (with_reducible exact LeO.refl _)
   | (with_reducible exact LeO.none _)
   | (with_reducible refine LeO.ite ?_ ?_)
   | (with_reducible refine LeO.bind ?_ (fun _ => ?_))
   | exact congoulaw01_awake.mono _
   | exact congouref01_Few.mono _ _ _
   | exact congouref01_Power.mono _ _ _
   | exact shares_Power.mono _ _ _
   | exact LeO.none _
   | refine LeO.ite ?_ ?_
   | refine LeO.bind ?_ (fun _ => ?_)
set_option maxHeartbeats 8000000 in
set_option maxRecDepth 100000 in
theorem congoulaw01_SharesPowers.calls (k : Nat) (A0 : Option Addr) (c0 : Nat) (l0 : List Int) (A1 : Option Addr) (c1 : Nat) (l1 : List Int) (r : Bool) (w : World) (hr0 : Kd.C (Kd.int .i64) w A0 l0.length l0) (hc0 : l0.length ≤ c0) (hr1 : Kd.C (Kd.int .i64) w A1 l1.length l1) (hc1 : l1.length ≤ c1) (hrt : r = true) (h : congoulaw01_SharesPowers.f k l0 l1 = some r) :
  Calls Try.prog 4 #[.slice A0 l0.length c0, .slice A1 l1.length c1] w fun e w' => e = .returned (.bool r) ∧ Below w.heap.size w w' := by
 have HR0 := Aside0.mk hr0
 have HC0 := Aside0.mk hc0
 clear hr0 hc0
 have HR1 := Aside0.mk hr1
 have HC1 := Aside0.mk hc1
 clear hr1 hc1
 have HB := ak (Below.refl w.heap.size w)
 have H : ((congoulaw01_list.f l0).bind fun t671 => ((congoulaw01_list.f l1).bind fun t674 => ((shares_Power.f k t671 t674).bind fun bt677 => ((congouref01_Few.f k l0 l1).bind fun t679 => (if t679 = true then ((congouref01_Power.f k l0 l1).bind fun t680 => (if bt677.1 = t680 then (if bt677.2 = 0 then ((congoulaw01_awake.f k).bind fun t681 => (some t681)) else (some false)) else (some false))) else (if bt677.1 = 0 then (if bt677.2 = 2 then ((congoulaw01_awake.f k).bind fun t682 => (some t682)) else (some false)) else (some false))))))) = some r := h
 clear h
 have HRT := Aside0.mk hrt
 clear hrt
 replace H := Option.bind_eq_some_iff.mp H
 obtain ⟨t671, A30, H⟩ := H
 replace H : ((congoulaw01_list.f l1).bind fun t674 => ((shares_Power.f k t671 t674).bind fun bt677 => ((congouref01_Few.f k l0 l1).bind fun t679 => (if t679 = true then ((congouref01_Power.f k l0 l1).bind fun t680 => (if bt677.1 = t680 then (if bt677.2 = 0 then ((congoulaw01_awake.f k).bind fun t681 => (some t681)) else (some false)) else (some false))) else (if bt677.1 = 0 then (if bt677.2 = 2 then ((congoulaw01_awake.f k).bind fun t682 => (some t682)) else (some false)) else (some false)))))) = some r := H
 have A3 := Aside0.mk A30
 clear A30
 replace H := Option.bind_eq_some_iff.mp H
 obtain ⟨t674, A40, H⟩ := H
 replace H : ((shares_Power.f k t671 t674).bind fun bt677 => ((congouref01_Few.f k l0 l1).bind fun t679 => (if t679 = true then ((congouref01_Power.f k l0 l1).bind fun t680 => (if bt677.1 = t680 then (if bt677.2 = 0 then ((congoulaw01_awake.f k).bind fun t681 => (some t681)) else (some false)) else (some false))) else (if bt677.1 = 0 then (if bt677.2 = 2 then ((congoulaw01_awake.f k).bind fun t682 => (some t682)) else (some false)) else (some false))))) = some r := H
 have A4 := Aside0.mk A40
 clear A40
 replace H := Option.bind_eq_some_iff.mp H
 obtain ⟨⟨t677, t678⟩, A50, H⟩ := H
 replace H : ((congouref01_Few.f k l0 l1).bind fun t679 => (if t679 = true then ((congouref01_Power.f k l0 l1).bind fun t680 => (if t677 = t680 then (if t678 = 0 then ((congoulaw01_awake.f k).bind fun t681 => (some t681)) else (some false)) else (some false))) else (if t677 = 0 then (if t678 = 2 then ((congoulaw01_awake.f k).bind fun t682 => (some t682)) else (some false)) else (some false)))) = some r := H
 have A5 := Aside0.mk A50
 clear A50
 replace H := Option.bind_eq_some_iff.mp H
 obtain ⟨t679, A60, H⟩ := H
 replace H : (if t679 = true then ((congouref01_Power.f k l0 l1).bind fun t680 => (if t677 = t680 then (if t678 = 0 then ((congoulaw01_awake.f k).bind fun t681 => (some t681)) else (some false)) else (some false))) else (if t677 = 0 then (if t678 = 2 then ((congoulaw01_awake.f k).bind fun t682 => (some t682)) else (some false)) else (some false))) = some r := H
 have A6 := Aside0.mk A60
 clear A60
 by_cases c7 : t679 = true
 rotate_left
 ·replace c7 := Bool.eq_false_iff.mpr c7
  subst c7
  have H1 : (if t677 = 0 then (if t678 = 2 then ((congoulaw01_awake.f k).bind fun t682 => (some t682)) else (some false)) else (some false)) = some r := by rw [if_neg (show ¬ (false = true) by decide)] at H; exact H
  clear H
  have H := H1
  clear H1
  by_cases c19 : t677 = 0
  rotate_left
  ·rw [if_neg c19] at H
   have c19b0 : (t677 == 0) = false := beq_eq_false_iff_ne.mpr c19
   have c19b1 : (t677 != 0) = true := bne_iff_ne.mpr c19
   exact absurd (H.trans (congrArg some HRT.out)) (by simp)
  rw [if_pos c19] at H
  have c19b0 : (t677 == 0) = true := beq_iff_eq.mpr c19
  have c19b1 : (t677 != 0) = false := bne_eq_false_iff_eq.mpr c19
  clear c19
  by_cases c20 : t678 = 2
  rotate_left
  ·rw [if_neg c20] at H
   have c20b0 : (t678 == 2) = false := beq_eq_false_iff_ne.mpr c20
   have c20b1 : (t678 != 2) = true := bne_iff_ne.mpr c20
   exact absurd (H.trans (congrArg some HRT.out)) (by simp)
  rw [if_pos c20] at H
  have c20b0 : (t678 == 2) = true := beq_iff_eq.mpr c20
  have c20b1 : (t678 != 2) = false := bne_eq_false_iff_eq.mpr c20
  clear c20
  replace H := Option.bind_eq_some_iff.mp H
  obtain ⟨t682, A210, H⟩ := H
  replace H : (some t682) = some r := H
  have A21 := Aside0.mk A210
  clear A210
  obtain rfl := Option.some.inj H
  go_enter Try.func4, Try.ntmps4
  go_wp2_with (first | ((with_reducible refine gate_callee (f := 18) rfl ?_); refine gL 9 Try.func18 #[.slice A0 l0.length c0] ?_; (with_reducible refine (congoulaw01_list.calls _ _ l0 t671 _ ?side1 ?side2 A3.out).mono ?_); (case side1 => repeat (first | exact HR0.out | (with_reducible refine Kd.C_alloc ?_ _) | (with_reducible refine Kd.C_drewN ?_ _) | (with_reducible refine Kd.C_drew ?_))); (case side2 => exact HC0.out); rintro e w22 ⟨v672, rfl, ho0, hb⟩; refine ⟨_, rfl, ?_⟩; have HO673 := ak (Kd.R_lower ho0 (below_size (hbC _))); replace HB := kH _ hb; (try clear hb); (try clear hb2); (try clear hk); (try clear hi); (try clear ho0)) | ((with_reducible refine gate_callee (f := 18) rfl ?_); refine gL 11 Try.func18 #[.slice A1 l1.length c1] ?_; (with_reducible refine (congoulaw01_list.calls _ _ l1 t674 _ ?side1 ?side2 A4.out).mono ?_); (case side1 => exact kC HR1); (case side2 => exact HC1.out); rintro e w23 ⟨v675, rfl, ho0, hb⟩; refine ⟨_, rfl, ?_⟩; have HO676 := ak (Kd.R_lower (Kd.R_new' ho0 (Kd.R_lt (rC HO673))) (below_size (hbC _))); replace HO673 := ak (Kd.R_elder' (rC HO673) (Kd.R_base ho0) hb); replace HB := kH _ hb; (try clear hb); (try clear hb2); (try clear hk); (try clear hi); (try clear ho0); obtain ⟨Ao24, co24, eo24⟩ := Kd.R_slice HO673.out; subst eo24; obtain ⟨Ao25, co25, eo25⟩ := Kd.R_slice HO676.out; subst eo25) | ((with_reducible refine gate_callee (f := 25) rfl ?_); refine gL 12 Try.func25 #[.slice Ao24 t671.length co24, .slice Ao25 t674.length co25] ?_; (with_reducible refine (shares_Power.calls k (fun k_ => some k_ = (.slice Ao24 t671.length co24 : Value).ownBlock) _ _ t671 (fun k_ => some k_ = (.slice Ao25 t674.length co25 : Value).ownBlock) _ _ t674 t677 t678 _ ?side1 ?side2 A5.out).mono ?_); (case side1 => exact Kd.R_V (Kd.R_tight rfl (HO673.out))); (case side2 => exact Kd.R_V (Kd.R_tight rfl (HO676.out))); rintro e w26 ⟨rfl, hb⟩; refine ⟨_, rfl, ?_⟩; replace HO673 := kO HO673 hb; replace HO676 := kO HO676 hb; replace HB := kH _ hb; (try clear hb); (try clear hb2); (try clear hk); (try clear hi)) | ((with_reducible refine gate_callee (f := 26) rfl ?_); refine gL 17 Try.func26 #[.slice A0 l0.length c0, .slice A1 l1.length c1] ?_; (with_reducible refine (congouref01_Few.calls k _ _ l0 _ _ l1 false _ ?side1 ?side2 ?side3 ?side4 A6.out).mono ?_); (case side1 => exact kC HR0); (case side2 => exact HC0.out); (case side3 => exact kC HR1); (case side4 => exact HC1.out); rintro e w' ⟨rfl, ⟨nd, rfl⟩⟩; refine ⟨_, rfl, ?_⟩) | (go_at_call 21; (with_reducible refine (congoulaw01_awake.calls k  t682 _ A21.out).mono ?_); rintro e w27 ⟨rfl, hb⟩; replace HO673 := kO HO673 hb; replace HO676 := kO HO676 hb; replace HB := kH _ hb; (try clear hb); (try clear hb2); (try clear hk); (try clear hi)))
  go_ret
  exact ⟨by first | rfl | (simp [errW_none, errW_some] <;> rfl) | (simp [*, errW_none, errW_some] <;> rfl), hbC _⟩
 subst c7
 have H1 : ((congouref01_Power.f k l0 l1).bind fun t680 => (if t677 = t680 then (if t678 = 0 then ((congoulaw01_awake.f k).bind fun t681 => (some t681)) else (some false)) else (some false))) = some r := by rw [if_pos rfl] at H; exact H
 clear H
 have H := H1
 clear H1
 replace H := Option.bind_eq_some_iff.mp H
 obtain ⟨t680, A80, H⟩ := H
 replace H : (if t677 = t680 then (if t678 = 0 then ((congoulaw01_awake.f k).bind fun t681 => (some t681)) else (some false)) else (some false)) = some r := H
 have A8 := Aside0.mk A80
 clear A80
 by_cases c9 : t677 = t680
 rotate_left
 ·rw [if_neg c9] at H
  have c9b0 : (t677 == t680) = false := beq_eq_false_iff_ne.mpr c9
  have c9b1 : (t677 != t680) = true := bne_iff_ne.mpr c9
  exact absurd (H.trans (congrArg some HRT.out)) (by simp)
 rw [if_pos c9] at H
 have c9b0 : (t677 == t680) = true := beq_iff_eq.mpr c9
 have c9b1 : (t677 != t680) = false := bne_eq_false_iff_eq.mpr c9
 clear c9
 by_cases c10 : t678 = 0
 rotate_left
 ·rw [if_neg c10] at H
  have c10b0 : (t678 == 0) = false := beq_eq_false_iff_ne.mpr c10
  have c10b1 : (t678 != 0) = true := bne_iff_ne.mpr c10
  exact absurd (H.trans (congrArg some HRT.out)) (by simp)
 rw [if_pos c10] at H
 have c10b0 : (t678 == 0) = true := beq_iff_eq.mpr c10
 have c10b1 : (t678 != 0) = false := bne_eq_false_iff_eq.mpr c10
 clear c10
 replace H := Option.bind_eq_some_iff.mp H
 obtain ⟨t681, A110, H⟩ := H
 replace H : (some t681) = some r := H
 have A11 := Aside0.mk A110
 clear A110
 obtain rfl := Option.some.inj H
 go_enter Try.func4, Try.ntmps4
 go_wp2_with (first | ((with_reducible refine gate_callee (f := 18) rfl ?_); refine gL 9 Try.func18 #[.slice A0 l0.length c0] ?_; (with_reducible refine (congoulaw01_list.calls _ _ l0 t671 _ ?side1 ?side2 A3.out).mono ?_); (case side1 => repeat (first | exact HR0.out | (with_reducible refine Kd.C_alloc ?_ _) | (with_reducible refine Kd.C_drewN ?_ _) | (with_reducible refine Kd.C_drew ?_))); (case side2 => exact HC0.out); rintro e w12 ⟨v672, rfl, ho0, hb⟩; refine ⟨_, rfl, ?_⟩; have HO673 := ak (Kd.R_lower ho0 (below_size (hbC _))); replace HB := kH _ hb; (try clear hb); (try clear hb2); (try clear hk); (try clear hi); (try clear ho0)) | ((with_reducible refine gate_callee (f := 18) rfl ?_); refine gL 11 Try.func18 #[.slice A1 l1.length c1] ?_; (with_reducible refine (congoulaw01_list.calls _ _ l1 t674 _ ?side1 ?side2 A4.out).mono ?_); (case side1 => exact kC HR1); (case side2 => exact HC1.out); rintro e w13 ⟨v675, rfl, ho0, hb⟩; refine ⟨_, rfl, ?_⟩; have HO676 := ak (Kd.R_lower (Kd.R_new' ho0 (Kd.R_lt (rC HO673))) (below_size (hbC _))); replace HO673 := ak (Kd.R_elder' (rC HO673) (Kd.R_base ho0) hb); replace HB := kH _ hb; (try clear hb); (try clear hb2); (try clear hk); (try clear hi); (try clear ho0); obtain ⟨Ao14, co14, eo14⟩ := Kd.R_slice HO673.out; subst eo14; obtain ⟨Ao15, co15, eo15⟩ := Kd.R_slice HO676.out; subst eo15) | ((with_reducible refine gate_callee (f := 25) rfl ?_); refine gL 12 Try.func25 #[.slice Ao14 t671.length co14, .slice Ao15 t674.length co15] ?_; (with_reducible refine (shares_Power.calls k (fun k_ => some k_ = (.slice Ao14 t671.length co14 : Value).ownBlock) _ _ t671 (fun k_ => some k_ = (.slice Ao15 t674.length co15 : Value).ownBlock) _ _ t674 t677 t678 _ ?side1 ?side2 A5.out).mono ?_); (case side1 => exact Kd.R_V (Kd.R_tight rfl (HO673.out))); (case side2 => exact Kd.R_V (Kd.R_tight rfl (HO676.out))); rintro e w16 ⟨rfl, hb⟩; refine ⟨_, rfl, ?_⟩; replace HO673 := kO HO673 hb; replace HO676 := kO HO676 hb; replace HB := kH _ hb; (try clear hb); (try clear hb2); (try clear hk); (try clear hi)) | ((with_reducible refine gate_callee (f := 26) rfl ?_); refine gL 17 Try.func26 #[.slice A0 l0.length c0, .slice A1 l1.length c1] ?_; (with_reducible refine (congouref01_Few.calls k _ _ l0 _ _ l1 true _ ?side1 ?side2 ?side3 ?side4 A6.out).mono ?_); (case side1 => exact kC HR0); (case side2 => exact HC0.out); (case side3 => exact kC HR1); (case side4 => exact HC1.out); rintro e w' ⟨rfl, ⟨nd, rfl⟩⟩; refine ⟨_, rfl, ?_⟩) | ((with_reducible refine gate_callee (f := 27) rfl ?_); refine gL 31 Try.func27 #[.slice A0 l0.length c0, .slice A1 l1.length c1] ?_; (with_reducible refine (congouref01_Power.calls k _ _ l0 _ _ l1 t680 _ ?side1 ?side2 ?side3 ?side4 A8.out).mono ?_); (case side1 => repeat (first | exact (Kd.C_below HR0.out (hbC _)) | (with_reducible refine Kd.C_alloc ?_ _) | (with_reducible refine Kd.C_drewN ?_ _) | (with_reducible refine Kd.C_drew ?_))); (case side2 => exact HC0.out); (case side3 => repeat (first | exact (Kd.C_below HR1.out (hbC _)) | (with_reducible refine Kd.C_alloc ?_ _) | (with_reducible refine Kd.C_drewN ?_ _) | (with_reducible refine Kd.C_drew ?_))); (case side4 => exact HC1.out); rintro e w17 ⟨rfl, hb⟩; refine ⟨_, rfl, ?_⟩; replace HO673 := kO HO673 hb; replace HO676 := kO HO676 hb; replace HB := kH _ hb; (try clear hb); (try clear hb2); (try clear hk); (try clear hi)) | (go_at_call 21; (with_reducible refine (congoulaw01_awake.calls k  t681 _ A11.out).mono ?_); rintro e w18 ⟨rfl, hb⟩; replace HO673 := kO HO673 hb; replace HO676 := kO HO676 hb; replace HB := kH _ hb; (try clear hb); (try clear hb2); (try clear hk); (try clear hi)))
 go_ret
 exact ⟨by first | rfl | (simp [errW_none, errW_some] <;> rfl) | (simp [*, errW_none, errW_some] <;> rfl), hbC _⟩

/-- THE ONE PURE STATEMENT of congoulaw01_SharesPowers: yours. -/
def congoulaw01_SharesPowers.Pure : Prop := ∀ (l0 : List Int) (l1 : List Int), l0.length ≤ maxLen → l0.length * 8 ≤ 140737488351232 → (∀ x ∈ l0, (Lit.int .i64 x).wf = true) → l1.length ≤ maxLen → l1.length * 8 ≤ 140737488351232 → (∀ x ∈ l1, (Lit.int .i64 x).wf = true) → ∃ k, congoulaw01_SharesPowers.f k l0 l1 = some true
theorem congoulaw01_SharesPowers.walk (P : congoulaw01_SharesPowers.Pure) (a0 : Option Addr) (len0 cap0 : Nat) (z0 : List Int) (a1 : Option Addr) (len1 cap1 : Nat) (z1 : List Int) (w : World) (w0 : (a0 = none ∧ len0 = 0 ∧ cap0 = 0 ∧ z0 = []) ∨ ∃ x, a0 = some x ∧ len0 ≤ cap0 ∧ cap0 ≤ maxLen ∧ z0.length = cap0 ∧ (∀ i, i < z0.length → w.cell? (x.add i) = some (.int .i64 (z0.getD i 0))) ∧ ∀ n ∈ z0, (Lit.int .i64 n).wf = true) (y0 : len0 * 8 ≤ 140737488351232) (w1 : (a1 = none ∧ len1 = 0 ∧ cap1 = 0 ∧ z1 = []) ∨ ∃ x, a1 = some x ∧ len1 ≤ cap1 ∧ cap1 ≤ maxLen ∧ z1.length = cap1 ∧ (∀ i, i < z1.length → w.cell? (x.add i) = some (.int .i64 (z1.getD i 0))) ∧ ∀ n ∈ z1, (Lit.int .i64 n).wf = true) (y1 : len1 * 8 ≤ 140737488351232) :
  Calls Try.prog 4 #[.slice a0 len0 cap0, .slice a1 len1 cap1] w fun e w' => e = .returned (.bool true) ∧ Below w.heap.size w w' := by
 obtain ⟨l0, rfl, hr0, hm0, hw0, hc0⟩ := ReadsInt.ofRowC w0
 obtain ⟨l1, rfl, hr1, hm1, hw1, hc1⟩ := ReadsInt.ofRowC w1
 obtain ⟨k, h⟩ := P l0 l1 hm0 y0 hw0 hm1 y1 hw1
 refine (congoulaw01_SharesPowers.calls k _ _ l0 _ _ l1 true w (Kd.C_of_reads (d := (0 : Int)) (h1 := fun _ => rfl) hr0) hc0 (Kd.C_of_reads (d := (0 : Int)) (h1 := fun _ => rfl) hr1) hc1 rfl h).mono ?_
 rintro e w' ⟨rfl, hd⟩
 exact ⟨rfl, hd⟩

end Go.Proofs.Ytefmafbbnkkpjaa.X
