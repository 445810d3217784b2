-- Written by a program of this work (wip/xprint.py, over the kit's printer) out of the translation.
import Derived.Test.YtefmafbbnkkpjaaX0
import Derived.Test.YtefmafbbnkkpjaaXG1a
import Derived.Test.YtefmafbbnkkpjaaXG2a
import Derived.Test.YtefmafbbnkkpjaaXG3a
import Derived.Test.YtefmafbbnkkpjaaXf21
import Derived.Test.YtefmafbbnkkpjaaE45
import Derived.Test.YtefmafbbnkkpjaaE47
namespace Go.Proofs.Ytefmafbbnkkpjaa.X
open Go.RowKit Go.Proofs.YtefmafbbnkkpjaaW.PrintWords Go.Proofs.YtefmafbbnkkpjaaW.PrintLast Go.Proofs.YtefmafbbnkkpjaaW.PrintMore
attribute [local go_sem] max2_int min2_int max_two min_two max_three min_three max_four min_four   -- for this text's walks alone
set_option linter.unusedVariables false
set_option linter.unusedSimpArgs false

/-! ### congoulaw01_SharesParted: function 13 -/
mutual
def congoulaw01_SharesParted.j0 : Nat → List (List (S62)) → List (List Int) → List (S62) → Int → Bool → Option (Bool)
 | 0, _, _, _, _, _ => none
 | k + 1, x0, x3, x4, x5, x25 => if x25 = true then (if x5 = 2 then ((congoulaw01_awake.f k).bind fun t964 => (some t964)) else (some false)) else (if (x3.length : Int) = (x4.length : Int) then (congoulaw01_SharesParted.j1 k x0 x3 x4 (decide ((x3.length : Int) > 100))) else (congoulaw01_SharesParted.j1 k x0 x3 x4 true))
def congoulaw01_SharesParted.j1 : Nat → List (List (S62)) → List (List Int) → List (S62) → Bool → Option (Bool)
 | 0, _, _, _, _ => none
 | k + 1, x0, x3, x4, x40 => if x40 = true then (some false) else ((congoulaw01_matrix.f k x0).bind fun t965 => ((congoulaw01_table.f k x3).bind fun t968 => ((api_Frac_52.f x4).bind fun t971 => ((xCheckSplit.f k t965 t968 t971).bind fun bt974 => (if bt974.1 = true then (congoulaw01_SharesParted.j2 k x0 x3 (bt974.2 != 0)) else (congoulaw01_SharesParted.j2 k x0 x3 true))))))
def congoulaw01_SharesParted.j2 : Nat → List (List (S62)) → List (List Int) → Bool → Option (Bool)
 | 0, _, _, _ => none
 | k + 1, x0, x3, x56 => if x56 = true then (some false) else (congoulaw01_SharesParted.l0 k x0 x3 (x3.length : Int) 0)
def congoulaw01_SharesParted.l0 : Nat → List (List (S62)) → List (List Int) → Int → Int → Option (Bool)
 | 0, _, _, _, _ => none
 | k + 1, x0, x57, x58, x59 => if x59 < x58 then (if 0 ≤ x59 then (if x59 < (x57.length : Int) then (congoulaw01_SharesParted.l1 k x0 x57 x58 x59 (rd_L1 x57 x59) ((rd_L1 x57 x59).length : Int) 0) else (none)) else (none)) else ((congoulaw01_awake.f k).bind fun t976 => (some t976))
def congoulaw01_SharesParted.l1 : Nat → List (List (S62)) → List (List Int) → Int → Int → List Int → Int → Int → Option (Bool)
 | 0, _, _, _, _, _, _, _ => none
 | k + 1, x0, x57, x58, x59, x63, x64, x65 => if x65 < x64 then (if 0 ≤ x65 then (if x65 < (x63.length : Int) then (if x65 ≥ (x0.length : Int) then (some false) else (if (rd x63 x65) < 0 then (some false) else (if x65 < (x0.length : Int) then (if (rd x63 x65) ≥ ((rd_L5 x0 x65).length : Int) then (some false) else (if 0 ≤ (rd x63 x65) then (if (rd x63 x65) < ((rd_L5 x0 x65).length : Int) then (if ((rd_T62 (rd_L5 x0 x65) (rd x63 x65)).f0) < 1 then (some false) else (congoulaw01_SharesParted.l1 k x0 x57 x58 x59 x63 x64 (wrap64 (x65 + 1)))) else (none)) else (none))) else (none)))) else (none)) else (none)) else (congoulaw01_SharesParted.l0 k x0 x57 x58 (wrap64 (x59 + 1)))
end
def congoulaw01_SharesParted.f (k : Nat) (l0 : List (List (S62))) : Option (Bool) := (congoulaw01_matrix.f k l0).bind fun t954 => ((xSplit.f k t954).bind fun bt957 => (if bt957.2.2 = 0 then (congoulaw01_SharesParted.j0 k l0 bt957.1 bt957.2.1 bt957.2.2 (decide ((l0.length : Int) > 5))) else (congoulaw01_SharesParted.j0 k l0 bt957.1 bt957.2.1 bt957.2.2 true)))
theorem congoulaw01_SharesParted.mono_l : ∀ k, (∀ y0 y1 y2 y3 y4, LeO (congoulaw01_SharesParted.j0 k y0 y1 y2 y3 y4) (congoulaw01_SharesParted.j0 (k + 1) y0 y1 y2 y3 y4)) ∧ (∀ y0 y1 y2 y3, LeO (congoulaw01_SharesParted.j1 k y0 y1 y2 y3) (congoulaw01_SharesParted.j1 (k + 1) y0 y1 y2 y3)) ∧ (∀ y0 y1 y2, LeO (congoulaw01_SharesParted.j2 k y0 y1 y2) (congoulaw01_SharesParted.j2 (k + 1) y0 y1 y2)) ∧ (∀ y0 y1 y2 y3, LeO (congoulaw01_SharesParted.l0 k y0 y1 y2 y3) (congoulaw01_SharesParted.l0 (k + 1) y0 y1 y2 y3)) ∧ (∀ y0 y1 y2 y3 y4 y5 y6, LeO (congoulaw01_SharesParted.l1 k y0 y1 y2 y3 y4 y5 y6) (congoulaw01_SharesParted.l1 (k + 1) y0 y1 y2 y3 y4 y5 y6))
 | 0 => ⟨fun _ _ _ _ _ r h => by simp [congoulaw01_SharesParted.j0] at h, fun _ _ _ _ r h => by simp [congoulaw01_SharesParted.j1] at h, fun _ _ _ r h => by simp [congoulaw01_SharesParted.j2] at h, fun _ _ _ _ r h => by simp [congoulaw01_SharesParted.l0] at h, fun _ _ _ _ _ _ _ r h => by simp [congoulaw01_SharesParted.l1] at h⟩
 | k + 1 => by
  obtain ⟨ih0, ih1, ih2, ih3, ih4⟩ := congoulaw01_SharesParted.mono_l k
  refine ⟨?_, ?_, ?_, ?_, ?_⟩
  ·intro y0 y1 y2 y3 y4
   unfold congoulaw01_SharesParted.j0
   repeat' first
   | (with_reducible exact ih0 _ _ _ _ _)
   | (with_reducible exact ih1 _ _ _ _)
   | (with_reducible exact ih2 _ _ _)
   | (with_reducible exact ih3 _ _ _ _)
   | (with_reducible exact ih4 _ _ _ _ _ _ _)
   | (with_reducible exact congoulaw01_awake.mono _)
   | (with_reducible exact congoulaw01_matrix.mono _ _)
   | (with_reducible exact congoulaw01_table.mono _ _)
   | (with_reducible exact xCheckSplit.mono _ _ _ _)
   | (with_reducible exact xSplit.mono _ _)
   | (with_reducible exact LeO.refl _)
   | (with_reducible exact LeO.none _)
   | (with_reducible refine LeO.ite ?_ ?_)
   | (with_reducible refine LeO.bind ?_ (fun _ => ?_))
   | exact ih0 _ _ _ _ _
   | exact ih1 _ _ _ _
   | exact ih2 _ _ _
   | exact ih3 _ _ _ _
   | exact ih4 _ _ _ _ _ _ _
   | exact congoulaw01_awake.mono _
   | exact congoulaw01_matrix.mono _ _
   | exact congoulaw01_table.mono _ _
   | exact xCheckSplit.mono _ _ _ _
   | exact xSplit.mono _ _
   | exact LeO.none _
   | refine LeO.ite ?_ ?_
   | refine LeO.bind ?_ (fun _ => ?_)
  ·intro y0 y1 y2 y3
   unfold congoulaw01_SharesParted.j1
   repeat' first
   | (with_reducible exact ih0 _ _ _ _ _)
   | (with_reducible exact ih1 _ _ _ _)
   | (with_reducible exact ih2 _ _ _)
   | (with_reducible exact ih3 _ _ _ _)
   | (with_reducible exact ih4 _ _ _ _ _ _ _)
   | (with_reducible exact congoulaw01_awake.mono _)
   | (with_reducible exact congoulaw01_matrix.mono _ _)
   | (with_reducible exact congoulaw01_table.mono _ _)
   | (with_reducible exact xCheckSplit.mono _ _ _ _)
   | (with_reducible exact xSplit.mono _ _)
   | (with_reducible exact LeO.refl _)
   | (with_reducible exact LeO.none _)
   | (with_reducible refine LeO.ite ?_ ?_)
   | (with_reducible refine LeO.bind ?_ (fun _ => ?_))
   | exact ih0 _ _ _ _ _
   | exact ih1 _ _ _ _
   | exact ih2 _ _ _
   | exact ih3 _ _ _ _
   | exact ih4 _ _ _ _ _ _ _
   | exact congoulaw01_awake.mono _
   | exact congoulaw01_matrix.mono _ _
   | exact congoulaw01_table.mono _ _
   | exact xCheckSplit.mono _ _ _ _
   | exact xSplit.mono _ _
   | exact LeO.none _
   | refine LeO.ite ?_ ?_
   | refine LeO.bind ?_ (fun _ => ?_)
  ·intro y0 y1 y2
   unfold congoulaw01_SharesParted.j2
   repeat' first
   | (with_reducible exact ih0 _ _ _ _ _)
   | (with_reducible exact ih1 _ _ _ _)
   | (with_reducible exact ih2 _ _ _)
   | (with_reducible exact ih3 _ _ _ _)
   | (with_reducible exact ih4 _ _ _ _ _ _ _)
   | (with_reducible exact congoulaw01_awake.mono _)
   | (with_reducible exact congoulaw01_matrix.mono _ _)
   | (with_reducible exact congoulaw01_table.mono _ _)
   | (with_reducible exact xCheckSplit.mono _ _ _ _)
   | (with_reducible exact xSplit.mono _ _)
   | (with_reducible exact LeO.refl _)
   | (with_reducible exact LeO.none _)
   | (with_reducible refine LeO.ite ?_ ?_)
   | (with_reducible refine LeO.bind ?_ (fun _ => ?_))
   | exact ih0 _ _ _ _ _
   | exact ih1 _ _ _ _
   | exact ih2 _ _ _
   | exact ih3 _ _ _ _
   | exact ih4 _ _ _ _ _ _ _
   | exact congoulaw01_awake.mono _
   | exact congoulaw01_matrix.mono _ _
   | exact congoulaw01_table.mono _ _
   | exact xCheckSplit.mono _ _ _ _
   | exact xSplit.mono _ _
   | exact LeO.none _
   | refine LeO.ite ?_ ?_
   | refine LeO.bind ?_ (fun _ => ?_)
  ·intro y0 y1 y2 y3
   unfold congoulaw01_SharesParted.l0
   repeat' first
   | (with_reducible exact ih0 _ _ _ _ _)
   | (with_reducible exact ih1 _ _ _ _)
   | (with_reducible exact ih2 _ _ _)
   | (with_reducible exact ih3 _ _ _ _)
   | (with_reducible exact ih4 _ _ _ _ _ _ _)
   | (with_reducible exact congoulaw01_awake.mono _)
   | (with_reducible exact congoulaw01_matrix.mono _ _)
   | (with_reducible exact congoulaw01_table.mono _ _)
   | (with_reducible exact xCheckSplit.mono _ _ _ _)
   | (with_reducible exact xSplit.mono _ _)
   | (with_reducible exact LeO.refl _)
   | (with_reducible exact LeO.none _)
   | (with_reducible refine LeO.ite ?_ ?_)
   | (with_reducible refine LeO.bind ?_ (fun _ => ?_))
   | exact ih0 _ _ _ _ _
   | exact ih1 _ _ _ _
   | exact ih2 _ _ _
   | exact ih3 _ _ _ _
   | exact ih4 _ _ _ _ _ _ _
   | exact congoulaw01_awake.mono _
   | exact congoulaw01_matrix.mono _ _
   | exact congoulaw01_table.mono _ _
   | exact xCheckSplit.mono _ _ _ _
   | exact xSplit.mono _ _
   | exact LeO.none _
   | refine LeO.ite ?_ ?_
   | refine LeO.bind ?_ (fun _ => ?_)
  ·intro y0 y1 y2 y3 y4 y5 y6
   unfold congoulaw01_SharesParted.l1
   repeat' first
   | (with_reducible exact ih0 _ _ _ _ _)
   | (with_reducible exact ih1 _ _ _ _)
   | (with_reducible exact ih2 _ _ _)
   | (with_reducible exact ih3 _ _ _ _)
   | (with_reducible exact ih4 _ _ _ _ _ _ _)
   | (with_reducible exact congoulaw01_awake.mono _)
   | (with_reducible exact congoulaw01_matrix.mono _ _)
   | (with_reducible exact congoulaw01_table.mono _ _)
   | (with_reducible exact xCheckSplit.mono _ _ _ _)
   | (with_reducible exact xSplit.mono _ _)
   | (with_reducible exact LeO.refl _)
   | (with_reducible exact LeO.none _)
   | (with_reducible refine LeO.ite ?_ ?_)
   | (with_reducible refine LeO.bind ?_ (fun _ => ?_))
   | exact ih0 _ _ _ _ _
   | exact ih1 _ _ _ _
   | exact ih2 _ _ _
   | exact ih3 _ _ _ _
   | exact ih4 _ _ _ _ _ _ _
   | exact congoulaw01_awake.mono _
   | exact congoulaw01_matrix.mono _ _
   | exact congoulaw01_table.mono _ _
   | exact xCheckSplit.mono _ _ _ _
   | exact xSplit.mono _ _
   | exact LeO.none _
   | refine LeO.ite ?_ ?_
   | refine LeO.bind ?_ (fun _ => ?_)
theorem congoulaw01_SharesParted.mono : ∀ a0 k, LeO (congoulaw01_SharesParted.f k a0) (congoulaw01_SharesParted.f (k + 1) a0) := by
 intro a0 k
 obtain ⟨ih0, ih1, ih2, ih3, ih4⟩ := congoulaw01_SharesParted.mono_l k
 unfold congoulaw01_SharesParted.f
 repeat' first
   | (with_reducible exact ih0 _ _ _ _ _)
   | (with_reducible exact ih1 _ _ _ _)
   | (with_reducible exact ih2 _ _ _)
   | (with_reducible exact ih3 _ _ _ _)
   | (with_reducible exact ih4 _ _ _ _ _ _ _)
   | (with_reducible exact congoulaw01_awake.mono _)
   | (with_reducible exact congoulaw01_matrix.mono _ _)
   | (with_reducible exact congoulaw01_table.mono _ _)
   | (with_reducible exact xCheckSplit.mono _ _ _ _)
   | (with_reducible exact xSplit.mono _ _)
   | (with_reducible exact LeO.refl _)
   | (with_reducible exact LeO.none _)
   | (with_reducible refine LeO.ite ?_ ?_)
   | (with_reducible refine LeO.bind ?_ (fun _ => ?_))
   | exact ih0 _ _ _ _ _
   | exact ih1 _ _ _ _
   | exact ih2 _ _ _
   | exact ih3 _ _ _ _
   | exact ih4 _ _ _ _ _ _ _
   | exact congoulaw01_awake.mono _
   | exact congoulaw01_matrix.mono _ _
   | exact congoulaw01_table.mono _ _
   | exact xCheckSplit.mono _ _ _ _
   | exact xSplit.mono _ _
   | exact LeO.none _
   | refine LeO.ite ?_ ?_
   | refine LeO.bind ?_ (fun _ => ?_)
set_option maxHeartbeats 8000000 in
set_option maxRecDepth 100000 in
theorem congoulaw01_SharesParted.calls (k : Nat) (A0 : Option Addr) (c0 : Nat) (l0 : List (List (S62))) (r : Bool) (w : World) (hr0 : Kd.C (Kd.slice 62 k62) w A0 l0.length l0) (hc0 : l0.length ≤ c0) (hrt : r = true) (h : congoulaw01_SharesParted.f k l0 = some r) :
  Calls Try.prog 13 #[.slice A0 l0.length c0] w fun e w' => e = .returned (.bool r) ∧ Below w.heap.size w w' := by
 have HR0 := Aside0.mk hr0
 have HC0 := Aside0.mk hc0
 clear hr0 hc0
 have HB := ak (Below.refl w.heap.size w)
 have H : ((congoulaw01_matrix.f k l0).bind fun t954 => ((xSplit.f k t954).bind fun bt957 => (if bt957.2.2 = 0 then (congoulaw01_SharesParted.j0 k l0 bt957.1 bt957.2.1 bt957.2.2 (decide ((l0.length : Int) > 5))) else (congoulaw01_SharesParted.j0 k l0 bt957.1 bt957.2.1 bt957.2.2 true)))) = some r := h
 clear h
 have HRT := Aside0.mk hrt
 clear hrt
 replace H := Option.bind_eq_some_iff.mp H
 obtain ⟨t954, A20, H⟩ := H
 replace H : ((xSplit.f k t954).bind fun bt957 => (if bt957.2.2 = 0 then (congoulaw01_SharesParted.j0 k l0 bt957.1 bt957.2.1 bt957.2.2 (decide ((l0.length : Int) > 5))) else (congoulaw01_SharesParted.j0 k l0 bt957.1 bt957.2.1 bt957.2.2 true))) = some r := H
 have A2 := Aside0.mk A20
 clear A20
 replace H := Option.bind_eq_some_iff.mp H
 obtain ⟨⟨t957, t958, t959⟩, A30, H⟩ := H
 replace H : (if t959 = 0 then (congoulaw01_SharesParted.j0 k l0 t957 t958 t959 (decide ((l0.length : Int) > 5))) else (congoulaw01_SharesParted.j0 k l0 t957 t958 t959 true)) = some r := H
 have A3 := Aside0.mk A30
 clear A30
 have HC4 := Aside0.mk H
 clear H
 go_enter Try.func13, Try.ntmps13
 go_upto_region 2 with (first | ((with_reducible refine gate_callee (f := 46) rfl ?_); refine gL 14 Try.func46 #[.slice A0 l0.length c0] ?_; (with_reducible refine (congoulaw01_matrix.calls k _ _ l0 t954 _ ?side1 ?side2 A2.out).mono ?_); (case side1 => repeat (first | exact HR0.out | (with_reducible refine Kd.C_alloc ?_ _) | (with_reducible refine Kd.C_drewN ?_ _) | (with_reducible refine Kd.C_drew ?_))); (case side2 => exact HC0.out); rintro e w5 ⟨v955, rfl, ho0, hb⟩; refine ⟨_, rfl, ?_⟩; have HO956 := ak (Kd.S_lower ho0 (below_size (hbC _))); replace HB := kH _ hb; (try clear hb); (try clear hb2); (try clear hk); (try clear hi); (try clear ho0); obtain ⟨Ao6, co6, eo6⟩ := Kd.S_slice HO956.out; subst eo6) | ((with_reducible refine gate_callee (f := 45) rfl ?_); refine gL 15 Try.func45 #[.slice Ao6 t954.length co6] ?_; (with_reducible refine (xSplit.calls k _ _ t954 t957 t958 t959 _ ?side1 ?side2 A3.out).mono ?_); (case side1 => repeat (first | exact (Kd.S_reads' HO956.out).2.2 | (with_reducible refine Kd.C_alloc ?_ _) | (with_reducible refine Kd.C_drewN ?_ _) | (with_reducible refine Kd.C_drew ?_))); (case side2 => exact (Kd.S_reads' HO956.out).2.1); rintro e w7 ⟨v960, v962, rfl, ho0, ho1, hb⟩; refine ⟨_, rfl, ?_⟩; replace HO956 := ak (Kd.S_elder' (by (with_reducible repeat (first | apply Kd.S_alloc | apply Kd.S_drewN | apply Kd.S_drew)); exact HO956.out) (Kd.R_base ho1) hb); have HO961 := ak (Kd.S_lower ho0 (below_size (hbC _))); have HO963 := ak (Kd.R_lower ho1 (below_size (hbC _))); replace HB := kH _ hb; (try clear hb); (try clear hb2); (try clear hk); (try clear hi); (try clear ho0); (try clear ho1)))
 (try simp only [Act.put, List.setIfInBounds_toArray, List.set_cons_zero, List.set_cons_succ])
 go_cut [25] (fun v25 wc => ∃ (kq : Nat) (x25_3 : Bool), v25 = .bool x25_3 ∧ Aside0 (congoulaw01_SharesParted.j0 kq l0 t957 t958 t959 x25_3 = some r) ∧ Aside0 (kq ≤ k) ∧ Aside0 (Kd.S (Kd.slice 3 (Kd.int .i64)) 22 wc w.heap.size (fun _ => True) v960 t957) ∧ Aside0 (Kd.R k62 62 wc w.heap.size (fun _ => True) v962 t958) ∧ Aside0 (Below w.heap.size w wc))
 case first =>
  have H := HC4.out
  clear HC4
  by_cases c8 : t959 = 0
  rotate_left
  ·rw [if_neg c8] at H
   have c8b0 : (t959 == 0) = false := beq_eq_false_iff_ne.mpr c8
   have c8b1 : (t959 != 0) = true := bne_iff_ne.mpr c8
   (first | rw [c8b0] | (simp only [i64_w, i32_w]; rw [c8b0]) | skip)
   have H' := Aside0.mk H
   clear H
   go_wp2
   go_meet
   case rel => exact ⟨_, (true), (by first | rfl | (simp; done) | (simp [*]; done)), H', ⟨by first | omega | exact Nat.le_refl _⟩, ⟨by (with_reducible repeat (first | apply Kd.S_alloc | apply Kd.S_drewN | apply Kd.S_drew)); exact HO961.out⟩, ⟨rC HO963⟩, ⟨hbC _⟩⟩
  rw [if_pos c8] at H
  have c8b0 : (t959 == 0) = true := beq_iff_eq.mpr c8
  have c8b1 : (t959 != 0) = false := bne_eq_false_iff_eq.mpr c8
  clear c8
  (first | rw [c8b0] | (simp only [i64_w, i32_w]; rw [c8b0]) | skip)
  have H' := Aside0.mk H
  clear H
  go_wp2
  go_meet
  case rel => exact ⟨_, (decide ((l0.length : Int) > 5)), (by first | rfl | (simp; done) | (simp [*]; done)), H', ⟨by first | omega | exact Nat.le_refl _⟩, ⟨by (with_reducible repeat (first | apply Kd.S_alloc | apply Kd.S_drewN | apply Kd.S_drew)); exact HO961.out⟩, ⟨rC HO963⟩, ⟨hbC _⟩⟩
 case rest =>
  clear HC4
  try clear c1
  try clear p2
  try clear c4
  try clear c8
  try clear c8b0
  try clear c8b1
  obtain ⟨kq, x25_3, rfl, HA, HJ3, HO_3, HO_4, HB⟩ := hcut
  cases kq with
  | zero => exact absurd HA.out (by simp [congoulaw01_SharesParted.j0])
  | succ kj3 =>
   have H := HA.out
   clear HA
   simp only [congoulaw01_SharesParted.j0] at H
   by_cases c9 : x25_3 = true
   ·subst c9
    have H1 : (if t959 = 2 then ((congoulaw01_awake.f kj3).bind fun t964 => (some t964)) else (some false)) = some r := by rw [if_pos rfl] at H; exact H
    clear H
    have H := H1
    clear H1
    by_cases c10 : t959 = 2
    rotate_left
    ·rw [if_neg c10] at H
     have c10b0 : (t959 == 2) = false := beq_eq_false_iff_ne.mpr c10
     have c10b1 : (t959 != 2) = true := bne_iff_ne.mpr c10
     exact absurd (H.trans (congrArg some HRT.out)) (by simp)
    rw [if_pos c10] at H
    have c10b0 : (t959 == 2) = true := beq_iff_eq.mpr c10
    have c10b1 : (t959 != 2) = false := bne_eq_false_iff_eq.mpr c10
    clear c10
    replace H := Option.bind_eq_some_iff.mp H
    obtain ⟨t964, A110, H⟩ := H
    replace H : (some t964) = some r := H
    have A11 := Aside0.mk A110
    clear A110
    obtain rfl := Option.some.inj H
    go_wp2_with (first | (go_at_call 21; (with_reducible refine (congoulaw01_awake.calls kj3  t964 _ A11.out).mono ?_); rintro e w12 ⟨rfl, hb⟩; replace HO_3 := ak (Kd.S_below (by (with_reducible repeat (first | apply Kd.S_alloc | apply Kd.S_drewN | apply Kd.S_drew)); exact HO_3.out) hb); replace HO_4 := kO HO_4 hb; replace HB := kH _ hb; (try clear hb); (try clear hb2); (try clear hk); (try clear hi)))
    go_ret
    exact ⟨by first | rfl | (simp [errW_none, errW_some] <;> rfl) | (simp [*, errW_none, errW_some] <;> rfl), hbC _⟩
   replace c9 := Bool.eq_false_iff.mpr c9
   subst c9
   have H1 : (if (t957.length : Int) = (t958.length : Int) then (congoulaw01_SharesParted.j1 kj3 l0 t957 t958 (decide ((t957.length : Int) > 100))) else (congoulaw01_SharesParted.j1 kj3 l0 t957 t958 true)) = some r := by rw [if_neg (show ¬ (false = true) by decide)] at H; exact H
   clear H
   have H := H1
   clear H1
   have HC13 := Aside0.mk H
   clear H
   go_upto_region 4 with (fail)
   go_cut [40] (fun v40 wc => ∃ (kq : Nat) (x40_12 : Bool), v40 = .bool x40_12 ∧ Aside0 (congoulaw01_SharesParted.j1 kq l0 t957 t958 x40_12 = some r) ∧ Aside0 (kq ≤ kj3) ∧ Aside0 (Kd.S (Kd.slice 3 (Kd.int .i64)) 22 wc w.heap.size (fun _ => True) v960 t957) ∧ Aside0 (Kd.R k62 62 wc w.heap.size (fun _ => True) v962 t958) ∧ Aside0 (Below w.heap.size w wc))
   case first =>
    have H := HC13.out
    clear HC13
    by_cases c14 : (t957.length : Int) = (t958.length : Int)
    rotate_left
    ·rw [if_neg c14] at H
     have c14b0 : ((t957.length : Int) == (t958.length : Int)) = false := beq_eq_false_iff_ne.mpr c14
     have c14b1 : ((t957.length : Int) != (t958.length : Int)) = true := bne_iff_ne.mpr c14
     have c14b2 : (t957.length == t958.length) = false := by first | simpa using c14 | (simp at c14 ⊢; omega)
     (first | rw [c14b0] | (simp only [i64_w, i32_w]; rw [c14b0]) | skip)
     have H' := Aside0.mk H
     clear H
     obtain ⟨Ao17, co17, eo17⟩ := Kd.S_slice HO_3.out
     subst eo17
     obtain ⟨Ao18, co18, eo18⟩ := Kd.R_slice HO_4.out
     subst eo18
     go_wp2
     go_meet
     case rel => exact ⟨_, (true), (by first | rfl | (simp; done) | (simp [*]; done)), H', ⟨by have := HJ3.out; first | omega | exact Nat.le_refl _⟩, ⟨by (with_reducible repeat (first | apply Kd.S_alloc | apply Kd.S_drewN | apply Kd.S_drew)); exact HO_3.out⟩, ⟨rC HO_4⟩, ⟨hbC _⟩⟩
    rw [if_pos c14] at H
    have c14b0 : ((t957.length : Int) == (t958.length : Int)) = true := beq_iff_eq.mpr c14
    have c14b1 : ((t957.length : Int) != (t958.length : Int)) = false := bne_eq_false_iff_eq.mpr c14
    have c14b2 : (t957.length == t958.length) = true := by first | simpa using c14 | (simp at c14 ⊢; omega)
    clear c14
    (first | rw [c14b0] | (simp only [i64_w, i32_w]; rw [c14b0]) | skip)
    have H' := Aside0.mk H
    clear H
    obtain ⟨Ao15, co15, eo15⟩ := Kd.S_slice HO_3.out
    subst eo15
    obtain ⟨Ao16, co16, eo16⟩ := Kd.R_slice HO_4.out
    subst eo16
    go_wp2
    go_meet
    case rel => exact ⟨_, (decide ((t957.length : Int) > 100)), (by first | rfl | (simp; done) | (simp [*]; done)), H', ⟨by have := HJ3.out; first | omega | exact Nat.le_refl _⟩, ⟨by (with_reducible repeat (first | apply Kd.S_alloc | apply Kd.S_drewN | apply Kd.S_drew)); exact HO_3.out⟩, ⟨rC HO_4⟩, ⟨hbC _⟩⟩
   case rest =>
    clear HC13
    try clear c1
    try clear p2
    try clear c4
    try clear c8
    try clear c8b0
    try clear c8b1
    try clear c9
    try clear c10
    try clear c10b0
    try clear c10b1
    try clear c13
    try clear c14
    try clear c14b0
    try clear c14b1
    try clear c14b2
    try clear p2
    obtain ⟨kq, x40_12, rfl, HA, HJ12, HO_3, HO_4, HB⟩ := hcut
    cases kq with
    | zero => exact absurd HA.out (by simp [congoulaw01_SharesParted.j1])
    | succ kj12 =>
     have H := HA.out
     clear HA
     simp only [congoulaw01_SharesParted.j1] at H
     by_cases c19 : x40_12 = true
     ·subst c19
      have H1 : (some false) = some r := by rw [if_pos rfl] at H; exact H
      clear H
      have H := H1
      clear H1
      exact absurd (H.trans (congrArg some HRT.out)) (by simp)
     replace c19 := Bool.eq_false_iff.mpr c19
     subst c19
     have H1 : ((congoulaw01_matrix.f kj12 l0).bind fun t965 => ((congoulaw01_table.f kj12 t957).bind fun t968 => ((api_Frac_52.f t958).bind fun t971 => ((xCheckSplit.f kj12 t965 t968 t971).bind fun bt974 => (if bt974.1 = true then (congoulaw01_SharesParted.j2 kj12 l0 t957 (bt974.2 != 0)) else (congoulaw01_SharesParted.j2 kj12 l0 t957 true)))))) = some r := by rw [if_neg (show ¬ (false = true) by decide)] at H; exact H
     clear H
     have H := H1
     clear H1
     replace H := Option.bind_eq_some_iff.mp H
     obtain ⟨t965, A200, H⟩ := H
     replace H : ((congoulaw01_table.f kj12 t957).bind fun t968 => ((api_Frac_52.f t958).bind fun t971 => ((xCheckSplit.f kj12 t965 t968 t971).bind fun bt974 => (if bt974.1 = true then (congoulaw01_SharesParted.j2 kj12 l0 t957 (bt974.2 != 0)) else (congoulaw01_SharesParted.j2 kj12 l0 t957 true))))) = some r := H
     have A20 := Aside0.mk A200
     clear A200
     replace H := Option.bind_eq_some_iff.mp H
     obtain ⟨t968, A210, H⟩ := H
     replace H : ((api_Frac_52.f t958).bind fun t971 => ((xCheckSplit.f kj12 t965 t968 t971).bind fun bt974 => (if bt974.1 = true then (congoulaw01_SharesParted.j2 kj12 l0 t957 (bt974.2 != 0)) else (congoulaw01_SharesParted.j2 kj12 l0 t957 true)))) = some r := H
     have A21 := Aside0.mk A210
     clear A210
     replace H := Option.bind_eq_some_iff.mp H
     obtain ⟨t971, A220, H⟩ := H
     replace H : ((xCheckSplit.f kj12 t965 t968 t971).bind fun bt974 => (if bt974.1 = true then (congoulaw01_SharesParted.j2 kj12 l0 t957 (bt974.2 != 0)) else (congoulaw01_SharesParted.j2 kj12 l0 t957 true))) = some r := H
     have A22 := Aside0.mk A220
     clear A220
     replace H := Option.bind_eq_some_iff.mp H
     obtain ⟨⟨t974, t975⟩, A230, H⟩ := H
     replace H : (if t974 = true then (congoulaw01_SharesParted.j2 kj12 l0 t957 (t975 != 0)) else (congoulaw01_SharesParted.j2 kj12 l0 t957 true)) = some r := H
     have A23 := Aside0.mk A230
     clear A230
     have HC24 := Aside0.mk H
     clear H
     go_upto_region 7 with (first | ((with_reducible refine gate_callee (f := 46) rfl ?_); refine gL 43 Try.func46 #[.slice A0 l0.length c0] ?_; (with_reducible refine (congoulaw01_matrix.calls kj12 _ _ l0 t965 _ ?side1 ?side2 A20.out).mono ?_); (case side1 => exact kC HR0); (case side2 => exact HC0.out); rintro e w25 ⟨v966, rfl, ho0, hb⟩; refine ⟨_, rfl, ?_⟩; replace HO_3 := ak (Kd.S_below (by (with_reducible repeat (first | apply Kd.S_alloc | apply Kd.S_drewN | apply Kd.S_drew)); exact HO_3.out) hb); have HO967 := ak (Kd.S_lower (Kd.S_new' ho0 (Kd.R_lt (rC HO_4))) (below_size (hbC _))); replace HO_4 := kO HO_4 hb; replace HB := kH _ hb; (try clear hb); (try clear hb2); (try clear hk); (try clear hi); (try clear ho0); obtain ⟨Ao26, co26, eo26⟩ := Kd.S_slice HO_3.out; subst eo26) | ((with_reducible refine gate_callee (f := 48) rfl ?_); refine gL 45 Try.func48 #[.slice Ao26 t957.length co26] ?_; (with_reducible refine (congoulaw01_table.calls kj12 _ _ t957 t968 _ ?side1 ?side2 A21.out).mono ?_); (case side1 => repeat (first | exact (Kd.S_reads' HO_3.out).2.2 | (with_reducible refine Kd.C_alloc ?_ _) | (with_reducible refine Kd.C_drewN ?_ _) | (with_reducible refine Kd.C_drew ?_))); (case side2 => exact (Kd.S_reads' HO_3.out).2.1); rintro e w27 ⟨v969, rfl, ho0, hb⟩; refine ⟨_, rfl, ?_⟩; replace HO_4 := kO HO_4 hb; replace HO967 := ak (Kd.S_below (by (with_reducible repeat (first | apply Kd.S_alloc | apply Kd.S_drewN | apply Kd.S_drew)); exact HO967.out) hb); have HO970 := ak (Kd.S_lower (Kd.S_new' ho0 (Kd.S_lt (by (with_reducible repeat (first | apply Kd.S_alloc | apply Kd.S_drewN | apply Kd.S_drew)); exact HO_3.out))) (below_size (hbC _))); replace HO_3 := ak (Kd.S_elder' (by (with_reducible repeat (first | apply Kd.S_alloc | apply Kd.S_drewN | apply Kd.S_drew)); exact HO_3.out) (Kd.S_base ho0) hb); replace HB := kH _ hb; (try clear hb); (try clear hb2); (try clear hk); (try clear hi); (try clear ho0); obtain ⟨Ao28, co28, eo28⟩ := Kd.R_slice HO_4.out; subst eo28) | ((with_reducible refine gate_callee (f := 52) rfl ?_); refine gL 47 Try.func52 #[.slice Ao28 t958.length co28] ?_; (with_reducible refine (api_Frac_52.calls _ _ t958 t971 _ ?side1 ?side2 A22.out).mono ?_); (case side1 => exact kD (Kd.R_reads' HO_4.out).2.2); (case side2 => exact (Kd.R_reads' HO_4.out).2.1); rintro e w29 ⟨v972, rfl, ho0, hb⟩; refine ⟨_, rfl, ?_⟩; replace HO_3 := ak (Kd.S_below (by (with_reducible repeat (first | apply Kd.S_alloc | apply Kd.S_drewN | apply Kd.S_drew)); exact HO_3.out) hb); replace HO967 := ak (Kd.S_elder' (by (with_reducible repeat (first | apply Kd.S_alloc | apply Kd.S_drewN | apply Kd.S_drew)); exact HO967.out) (Kd.R_base ho0) hb); replace HO970 := ak (Kd.S_below (by (with_reducible repeat (first | apply Kd.S_alloc | apply Kd.S_drewN | apply Kd.S_drew)); exact HO970.out) hb); have HO973 := ak (Kd.R_lower (Kd.R_new' ho0 (Kd.R_lt (rC HO_4))) (below_size (hbC _))); replace HO_4 := ak (Kd.R_elder' (rC HO_4) (Kd.R_base ho0) hb); replace HB := kH _ hb; (try clear hb); (try clear hb2); (try clear hk); (try clear hi); (try clear ho0); obtain ⟨Ao30, co30, eo30⟩ := Kd.S_slice HO967.out; subst eo30; obtain ⟨Ao31, co31, eo31⟩ := Kd.S_slice HO970.out; subst eo31; obtain ⟨Ao32, co32, eo32⟩ := Kd.R_slice HO973.out; subst eo32) | ((with_reducible refine gate_callee (f := 47) rfl ?_); refine gL 48 Try.func47 #[.slice Ao30 t965.length co30, .slice Ao31 t968.length co31, .slice Ao32 t971.length co32] ?_; (with_reducible refine (xCheckSplit.calls kj12 _ _ t965 _ _ t968 _ _ t971 t974 t975 _ ?side1 ?side2 ?side3 ?side4 ?side5 ?side6 A23.out).mono ?_); (case side1 => repeat (first | exact (Kd.S_reads' HO967.out).2.2 | (with_reducible refine Kd.C_alloc ?_ _) | (with_reducible refine Kd.C_drewN ?_ _) | (with_reducible refine Kd.C_drew ?_))); (case side2 => exact (Kd.S_reads' HO967.out).2.1); (case side3 => repeat (first | exact (Kd.S_reads' HO970.out).2.2 | (with_reducible refine Kd.C_alloc ?_ _) | (with_reducible refine Kd.C_drewN ?_ _) | (with_reducible refine Kd.C_drew ?_))); (case side4 => exact (Kd.S_reads' HO970.out).2.1); (case side5 => exact kD (Kd.R_reads' HO973.out).2.2); (case side6 => exact (Kd.R_reads' HO973.out).2.1); rintro e w33 ⟨rfl, hb⟩; refine ⟨_, rfl, ?_⟩; replace HO_3 := ak (Kd.S_below (by (with_reducible repeat (first | apply Kd.S_alloc | apply Kd.S_drewN | apply Kd.S_drew)); exact HO_3.out) hb); replace HO_4 := kO HO_4 hb; replace HO967 := ak (Kd.S_below (by (with_reducible repeat (first | apply Kd.S_alloc | apply Kd.S_drewN | apply Kd.S_drew)); exact HO967.out) hb); replace HO970 := ak (Kd.S_below (by (with_reducible repeat (first | apply Kd.S_alloc | apply Kd.S_drewN | apply Kd.S_drew)); exact HO970.out) hb); replace HO973 := kO HO973 hb; replace HB := kH _ hb; (try clear hb); (try clear hb2); (try clear hk); (try clear hi)))
     (try simp only [Act.put, List.setIfInBounds_toArray, List.set_cons_zero, List.set_cons_succ])
     go_cut [56] (fun v56 wc => ∃ (kq : Nat) (x56_23 : Bool), v56 = .bool x56_23 ∧ Aside0 (congoulaw01_SharesParted.j2 kq l0 t957 x56_23 = some r) ∧ Aside0 (kq ≤ kj12) ∧ Aside0 (Kd.S (Kd.slice 3 (Kd.int .i64)) 22 wc w.heap.size (fun _ => True) (.slice Ao26 t957.length co26) t957) ∧ Aside0 (Below w.heap.size w wc))
     case first =>
      have H := HC24.out
      clear HC24
      by_cases c34 : t974 = true
      ·subst c34
       have H1 : (congoulaw01_SharesParted.j2 kj12 l0 t957 (t975 != 0)) = some r := by rw [if_pos rfl] at H; exact H
       clear H
       have H := H1
       clear H1
       have H' := Aside0.mk H
       clear H
       go_wp2
       go_meet
       case rel => exact ⟨_, ((t975 != 0)), (by first | rfl | (simp; done) | (simp [*]; done)), H', ⟨by have := HJ3.out; have := HJ12.out; first | omega | exact Nat.le_refl _⟩, ⟨by (with_reducible repeat (first | apply Kd.S_alloc | apply Kd.S_drewN | apply Kd.S_drew)); exact Kd.S_mono HO_3.out (fun _ hk => trivial)⟩, ⟨hbC _⟩⟩
      replace c34 := Bool.eq_false_iff.mpr c34
      subst c34
      have H1 : (congoulaw01_SharesParted.j2 kj12 l0 t957 true) = some r := by rw [if_neg (show ¬ (false = true) by decide)] at H; exact H
      clear H
      have H := H1
      clear H1
      have H' := Aside0.mk H
      clear H
      go_wp2
      go_meet
      case rel => exact ⟨_, (true), (by first | rfl | (simp; done) | (simp [*]; done)), H', ⟨by have := HJ3.out; have := HJ12.out; first | omega | exact Nat.le_refl _⟩, ⟨by (with_reducible repeat (first | apply Kd.S_alloc | apply Kd.S_drewN | apply Kd.S_drew)); exact Kd.S_mono HO_3.out (fun _ hk => trivial)⟩, ⟨hbC _⟩⟩
     case rest =>
      clear HC24
      try clear c1
      try clear p2
      try clear c3
      try clear c4
      try clear c5
      try clear c8
      try clear c8b0
      try clear c8b1
      try clear c9
      try clear c10
      try clear c10b0
      try clear c10b1
      try clear c13
      try clear c14
      try clear c14b0
      try clear c14b1
      try clear c14b2
      try clear c19
      try clear c34
      try clear p2
      obtain ⟨kq, x56_23, rfl, HA, HJ23, HO_3, HB⟩ := hcut
      cases kq with
      | zero => exact absurd HA.out (by simp [congoulaw01_SharesParted.j2])
      | succ kj23 =>
       have H := HA.out
       clear HA
       simp only [congoulaw01_SharesParted.j2] at H
       by_cases c35 : x56_23 = true
       ·subst c35
        have H1 : (some false) = some r := by rw [if_pos rfl] at H; exact H
        clear H
        have H := H1
        clear H1
        exact absurd (H.trans (congrArg some HRT.out)) (by simp)
       replace c35 := Bool.eq_false_iff.mpr c35
       subst c35
       have H1 : (congoulaw01_SharesParted.l0 kj23 l0 t957 (t957.length : Int) 0) = some r := by rw [if_neg (show ¬ (false = true) by decide)] at H; exact H
       clear H
       have H := H1
       clear H1
       have H' := Aside0.mk H
       clear H
       go_wp2
       go_loopg [59] kj23 (fun kq v59 w' => ∃ (x59_4 : Int), v59 = .int .i64 x59_4 ∧ Aside0 (congoulaw01_SharesParted.l0 kq l0 t957 (t957.length : Int) x59_4 = some r) ∧ Aside0 (kq ≤ kj23) ∧ Aside0 (Kd.S (Kd.slice 3 (Kd.int .i64)) 22 w' w.heap.size (fun _ => True) (.slice Ao26 t957.length co26) t957) ∧ Aside0 (Below w.heap.size w w'))
       case atStart => exact ⟨(0), (by first | rfl | (simp; done) | (simp [*]; done)), H', ⟨Nat.le_refl _⟩, ⟨by (with_reducible repeat (first | apply Kd.S_alloc | apply Kd.S_drewN | apply Kd.S_drew)); exact HO_3.out⟩, ⟨hbC _⟩⟩
       case round =>
        clear H'
        try clear c1
        try clear p2
        try clear c3
        try clear c4
        try clear c5
        try clear c8
        try clear c8b0
        try clear c8b1
        try clear c9
        try clear c10
        try clear c10b0
        try clear c10b1
        try clear c13
        try clear c14
        try clear c14b0
        try clear c14b1
        try clear c14b2
        try clear c19
        try clear c34
        try clear c35
        try clear p2
        obtain ⟨x59_4, rfl, HA, HK4, HO_57, HB⟩ := hrel
        cases gk with
        | zero => exact absurd HA.out (by simp [congoulaw01_SharesParted.l0])
        | succ k4 =>
         have H := HA.out
         clear HA
         simp only [congoulaw01_SharesParted.l0] at H
         by_cases c36 : x59_4 < (t957.length : Int)
         rotate_left
         ·rw [if_neg c36] at H
          have c36b0 : decide (x59_4 < (t957.length : Int)) = false := decide_eq_false c36
          clear c36
          replace H := Option.bind_eq_some_iff.mp H
          obtain ⟨t976, A490, H⟩ := H
          replace H : (some t976) = some r := H
          have A49 := Aside0.mk A490
          clear A490
          obtain rfl := Option.some.inj H
          go_wp2_with (first | ((with_reducible refine gate_callee (f := 21) rfl ?_); refine gL 100 Try.func21 #[] ?_; (with_reducible refine (congoulaw01_awake.calls k4  t976 _ A49.out).mono ?_); rintro e w50 ⟨rfl, hb⟩; refine ⟨_, rfl, ?_⟩; replace HO_57 := ak (Kd.S_below (by (with_reducible repeat (first | apply Kd.S_alloc | apply Kd.S_drewN | apply Kd.S_drew)); exact HO_57.out) hb); replace HB := kH _ hb; (try clear hb); (try clear hb2); (try clear hk); (try clear hi)))
          go_ret
          exact ⟨by first | rfl | (simp [errW_none, errW_some] <;> rfl) | (simp [*, errW_none, errW_some] <;> rfl), hbC _⟩
         rw [if_pos c36] at H
         have c36b0 : decide (x59_4 < (t957.length : Int)) = true := decide_eq_true c36
         clear c36
         by_cases c37 : 0 ≤ x59_4
         rotate_left
         ·rw [if_neg c37] at H
          exact absurd H (by simp)
         rw [if_pos c37] at H
         have c37b0 : decide (0 ≤ x59_4) = true := decide_eq_true c37
         clear c37
         by_cases c38 : x59_4 < (t957.length : Int)
         rotate_left
         ·rw [if_neg c38] at H
          exact absurd H (by simp)
         rw [if_pos c38] at H
         have c38b0 : decide (x59_4 < (t957.length : Int)) = true := decide_eq_true c38
         clear c38
         have H' := Aside0.mk H
         clear H
         have p977 : 0 ≤ (x59_4 : Int) := dA
         have q977 : x59_4 < (t957.length : Int) := dA
         obtain ⟨ad977, A977_0, c977_0, e977, hx977_0, hl977_0, hi977_0⟩ := at_L1 (Kd.S_reads' HO_57.out).2.2 x59_4 p977 q977
         cases e977
         obtain ⟨ce977, hce977, hMe977, hcc977⟩ := Kd.S_get HO_57.out [] x59_4 p977 (by first | exact q977 | exact dA | (have e_ := (Kd.S_reads' HO_57.out).1; omega))
         obtain ⟨ve977_0, rfl, ge977_0⟩ := hMe977
         have hv977_0 := hcc977 0 _ rfl
         rw [Nat.add_zero, show ((Kd.slice 3 (Kd.int .i64))).sz = 1 from rfl, Nat.mul_one] at hv977_0
         replace hv977_0 := Option.some.inj (hv977_0.symm.trans hx977_0)
         rw [hv977_0] at ge977_0
         have HL977_0 := ak (show Kd.R (Kd.int .i64) 3 _ _ _ _ (rd_L1 t957 x59_4) from ge977_0)
         clear hv977_0 ge977_0
         clear hcc977 hce977
         have HR977_0 := Aside0.mk hi977_0
         have HC977_0 := Aside0.mk hl977_0
         clear hi977_0 hl977_0
         replace p977 := eq_true p977
         replace q977 := eq_true q977
         go_wp2
         go_loopg [65] k4 (fun kq v65 w' => ∃ (x65_5 : Int), v65 = .int .i64 x65_5 ∧ Aside0 (congoulaw01_SharesParted.l1 kq l0 t957 (t957.length : Int) x59_4 (rd_L1 t957 x59_4) ((rd_L1 t957 x59_4).length : Int) x65_5 = some r) ∧ Aside0 (kq ≤ k4) ∧ Aside0 (Kd.S (Kd.slice 3 (Kd.int .i64)) 22 w' w.heap.size (fun _ => True) (.slice (some ad977) t957.length co26) t957) ∧ Aside0 (Kd.C (Kd.int .i64) w' A977_0 (rd_L1 t957 x59_4).length (rd_L1 t957 x59_4)) ∧ Aside0 (Below w.heap.size w w'))
         case atStart => exact ⟨(0), (by first | rfl | (simp; done) | (simp [*]; done)), H', ⟨Nat.le_refl _⟩, ⟨by (with_reducible repeat (first | apply Kd.S_alloc | apply Kd.S_drewN | apply Kd.S_drew)); exact HO_57.out⟩, ⟨by repeat (first | (with_reducible exact HR977_0.out) | (with_reducible refine Kd.C_alloc ?_ _) | (with_reducible refine Kd.C_drewN ?_ _) | (with_reducible refine Kd.C_drew ?_) | exact HR977_0.out)⟩, ⟨hbC _⟩⟩
         case round =>
          clear H'
          try clear c1
          try clear p2
          try clear c3
          try clear c4
          try clear c5
          try clear c8
          try clear c8b0
          try clear c8b1
          try clear c9
          try clear p9
          try clear q9
          try clear hx9
          try clear c10
          try clear c10b0
          try clear c10b1
          try clear c13
          try clear c14
          try clear c14b0
          try clear c14b1
          try clear c14b2
          try clear c19
          try clear c34
          try clear c35
          try clear c36
          try clear c36b0
          try clear c37
          try clear c37b0
          try clear c38
          try clear c38b0
          try clear hx977_0
          try clear p2
          try clear p977
          try clear q977
          obtain ⟨x65_5, rfl, HA, HK5, HO_57, HR977_0, HB⟩ := hrel
          cases gk with
          | zero => exact absurd HA.out (by simp [congoulaw01_SharesParted.l1])
          | succ k5 =>
           have H := HA.out
           clear HA
           simp only [congoulaw01_SharesParted.l1] at H
           by_cases c39 : x65_5 < ((rd_L1 t957 x59_4).length : Int)
           rotate_left
           ·rw [if_neg c39] at H
            have c39b0 : decide (x65_5 < ((rd_L1 t957 x59_4).length : Int)) = false := decide_eq_false c39
            clear c39
            have H' := Aside0.mk H
            clear H
            go_wp2
            go_roundg k5
            case measure => have := HJ3.out; have := HJ12.out; have := HJ23.out; have := HK4.out; have := HK5.out; omega
            case rel => exact ⟨(wrap64 (x59_4 + 1)), (by first | rfl | (simp; done) | (simp [*]; done)), H', ⟨by have := HJ3.out; have := HJ12.out; have := HJ23.out; have := HK4.out; have := HK5.out; omega⟩, ⟨by (with_reducible repeat (first | apply Kd.S_alloc | apply Kd.S_drewN | apply Kd.S_drew)); exact HO_57.out⟩, ⟨hbC _⟩⟩
           rw [if_pos c39] at H
           have c39b0 : decide (x65_5 < ((rd_L1 t957 x59_4).length : Int)) = true := decide_eq_true c39
           clear c39
           by_cases c40 : 0 ≤ x65_5
           rotate_left
           ·rw [if_neg c40] at H
            exact absurd H (by simp)
           rw [if_pos c40] at H
           have c40b0 : decide (0 ≤ x65_5) = true := decide_eq_true c40
           clear c40
           by_cases c41 : x65_5 < ((rd_L1 t957 x59_4).length : Int)
           rotate_left
           ·rw [if_neg c41] at H
            exact absurd H (by simp)
           rw [if_pos c41] at H
           have c41b0 : decide (x65_5 < ((rd_L1 t957 x59_4).length : Int)) = true := decide_eq_true c41
           clear c41
           by_cases c42 : x65_5 ≥ (l0.length : Int)
           ·rw [if_pos c42] at H
            have c42b0 : decide ((l0.length : Int) ≤ x65_5) = true := decide_eq_true c42
            clear c42
            exact absurd (H.trans (congrArg some HRT.out)) (by simp)
           rw [if_neg c42] at H
           have c42b0 : decide ((l0.length : Int) ≤ x65_5) = false := decide_eq_false c42
           clear c42
           by_cases c43 : (rd (rd_L1 t957 x59_4) x65_5) < 0
           ·rw [if_pos c43] at H
            have c43b0 : decide ((rd (rd_L1 t957 x59_4) x65_5) < 0) = true := decide_eq_true c43
            clear c43
            exact absurd (H.trans (congrArg some HRT.out)) (by simp)
           rw [if_neg c43] at H
           have c43b0 : decide ((rd (rd_L1 t957 x59_4) x65_5) < 0) = false := decide_eq_false c43
           clear c43
           by_cases c44 : x65_5 < (l0.length : Int)
           rotate_left
           ·rw [if_neg c44] at H
            exact absurd H (by simp)
           rw [if_pos c44] at H
           have c44b0 : decide (x65_5 < (l0.length : Int)) = true := decide_eq_true c44
           clear c44
           by_cases c45 : (rd (rd_L1 t957 x59_4) x65_5) ≥ ((rd_L5 l0 x65_5).length : Int)
           ·rw [if_pos c45] at H
            have c45b0 : decide (((rd_L5 l0 x65_5).length : Int) ≤ (rd (rd_L1 t957 x59_4) x65_5)) = true := decide_eq_true c45
            clear c45
            exact absurd (H.trans (congrArg some HRT.out)) (by simp)
           rw [if_neg c45] at H
           have c45b0 : decide (((rd_L5 l0 x65_5).length : Int) ≤ (rd (rd_L1 t957 x59_4) x65_5)) = false := decide_eq_false c45
           clear c45
           by_cases c46 : 0 ≤ (rd (rd_L1 t957 x59_4) x65_5)
           rotate_left
           ·rw [if_neg c46] at H
            exact absurd H (by simp)
           rw [if_pos c46] at H
           have c46b0 : decide (0 ≤ (rd (rd_L1 t957 x59_4) x65_5)) = true := decide_eq_true c46
           clear c46
           by_cases c47 : (rd (rd_L1 t957 x59_4) x65_5) < ((rd_L5 l0 x65_5).length : Int)
           rotate_left
           ·rw [if_neg c47] at H
            exact absurd H (by simp)
           rw [if_pos c47] at H
           have c47b0 : decide ((rd (rd_L1 t957 x59_4) x65_5) < ((rd_L5 l0 x65_5).length : Int)) = true := decide_eq_true c47
           clear c47
           by_cases c48 : ((rd_T62 (rd_L5 l0 x65_5) (rd (rd_L1 t957 x59_4) x65_5)).f0) < 1
           ·rw [if_pos c48] at H
            have c48b0 : decide (((rd_T62 (rd_L5 l0 x65_5) (rd (rd_L1 t957 x59_4) x65_5)).f0) < 1) = true := decide_eq_true c48
            clear c48
            exact absurd (H.trans (congrArg some HRT.out)) (by simp)
           rw [if_neg c48] at H
           have c48b0 : decide (((rd_T62 (rd_L5 l0 x65_5) (rd (rd_L1 t957 x59_4) x65_5)).f0) < 1) = false := decide_eq_false c48
           clear c48
           have H' := Aside0.mk H
           clear H
           have p978 : 0 ≤ (x65_5 : Int) := dA
           have q978 : x65_5 < ((rd_L1 t957 x59_4).length : Int) := dA
           obtain ⟨ad978, e978, hx978_0⟩ := Kd.at_int HR977_0.out x65_5 p978 q978
           cases e978
           try replace hx978_0 := (HB.out.cell (World.block_lt_of_cell? w _ hx978_0)).trans hx978_0
           replace p978 := eq_true p978
           replace q978 := eq_true q978
           have p979 : 0 ≤ (x65_5 : Int) := dA
           have q979 : x65_5 < (l0.length : Int) := dA
           obtain ⟨ad979, A979_0, c979_0, e979, hx979_0, hl979_0, hi979_0⟩ := at_L5 HR0.out x65_5 p979 q979
           cases e979
           try replace hx979_0 := (HB.out.cell (World.block_lt_of_cell? w _ hx979_0)).trans hx979_0
           have HR979_0 := Aside0.mk hi979_0
           have HC979_0 := Aside0.mk hl979_0
           clear hi979_0 hl979_0
           replace p979 := eq_true p979
           replace q979 := eq_true q979
           have p980 : 0 ≤ (x65_5 : Int) := dA
           have q980 : x65_5 < (l0.length : Int) := dA
           obtain ⟨ad980, A980_0, c980_0, e980, hx980_0, hl980_0, hi980_0⟩ := at_L5 HR0.out x65_5 p980 q980
           obtain rfl : ad979 = ad980 := (by injection e980)
           try replace hx980_0 := (HB.out.cell (World.block_lt_of_cell? w _ hx980_0)).trans hx980_0
           have HR980_0 := Aside0.mk hi980_0
           have HC980_0 := Aside0.mk hl980_0
           clear hi980_0 hl980_0
           replace p980 := eq_true p980
           replace q980 := eq_true q980
           have ea_ := Option.some.inj (hx979_0.symm.trans hx980_0)
           injection ea_ with ea_ en_ ec_
           subst ea_
           subst ec_
           clear en_
           have p981 : 0 ≤ ((rd (rd_L1 t957 x59_4) x65_5) : Int) := dA
           have q981 : (rd (rd_L1 t957 x59_4) x65_5) < ((rd_L5 l0 x65_5).length : Int) := dA
           obtain ⟨ad981, e981, hx981_0, hx981_1⟩ := at_T62 HR980_0.out (rd (rd_L1 t957 x59_4) x65_5) p981 q981
           cases e981
           try replace hx981_0 := (HB.out.cell (World.block_lt_of_cell? w _ hx981_0)).trans hx981_0
           try replace hx981_1 := (HB.out.cell (World.block_lt_of_cell? w _ hx981_1)).trans hx981_1
           replace p981 := eq_true p981
           replace q981 := eq_true q981
           go_wp2
           go_roundg k5
           case measure => have := HJ3.out; have := HJ12.out; have := HJ23.out; have := HK4.out; have := HK5.out; omega
           case rel => exact ⟨(wrap64 (x65_5 + 1)), (by first | rfl | (simp; done) | (simp [*]; done)), H', ⟨by have := HJ3.out; have := HJ12.out; have := HJ23.out; have := HK4.out; have := HK5.out; omega⟩, ⟨by (with_reducible repeat (first | apply Kd.S_alloc | apply Kd.S_drewN | apply Kd.S_drew)); exact HO_57.out⟩, ⟨by repeat (first | (with_reducible exact HR977_0.out) | (with_reducible refine Kd.C_alloc ?_ _) | (with_reducible refine Kd.C_drewN ?_ _) | (with_reducible refine Kd.C_drew ?_) | exact HR977_0.out)⟩, ⟨hbC _⟩⟩

end Go.Proofs.Ytefmafbbnkkpjaa.X
