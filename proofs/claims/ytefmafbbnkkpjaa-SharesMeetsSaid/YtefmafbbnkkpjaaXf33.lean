-- Written by a program of this work (wip/xprint.py, over the kit's printer) out of the translation.
import Derived.Test.YtefmafbbnkkpjaaX0
import Derived.Test.YtefmafbbnkkpjaaXG1a
import Derived.Test.YtefmafbbnkkpjaaXf24
import Derived.Test.YtefmafbbnkkpjaaXf70
namespace Go.Proofs.Ytefmafbbnkkpjaa.X
open Go.RowKit Go.Proofs.YtefmafbbnkkpjaaW.PrintWords Go.Proofs.YtefmafbbnkkpjaaW.PrintLast Go.Proofs.YtefmafbbnkkpjaaW.PrintMore
attribute [local go_sem] max2_int min2_int max_two min_two max_three min_three max_four min_four   -- for this text's walks alone
set_option linter.unusedVariables false
set_option linter.unusedSimpArgs false

/-! ### congouref01_Join: function 33 -/
def congouref01_Join.l0 : Nat → List Int → List Int → List Int → List (List Int) → Int → Int → Option (List Int)
 | 0, _, _, _, _, _, _ => none
 | k + 1, x0, x1, x5, x10, x11, x12 => if x12 < x11 then (if 0 ≤ x12 then (if x12 < (x10.length : Int) then ((congouref01_Uneven.f k (rd_L1 x10 x12) x0).bind fun t607 => (if t607 = true then ((congouref01_Uneven.f k (rd_L1 x10 x12) x1).bind fun t608 => (if t608 = true then (if (x5.length : Int) = 0 then (if 1 ≤ (rd_L1 x10 x12).length then (congouref01_Join.l0 k x0 x1 (rd_L1 x10 x12) x10 x11 (wrap64 (x12 + 1))) else none) else ((congouref01_Uneven.f k x5 (rd_L1 x10 x12)).bind fun t609 => (if t609 = true then (if 1 ≤ (rd_L1 x10 x12).length then (congouref01_Join.l0 k x0 x1 (rd_L1 x10 x12) x10 x11 (wrap64 (x12 + 1))) else none) else (congouref01_Join.l0 k x0 x1 x5 x10 x11 (wrap64 (x12 + 1)))))) else (congouref01_Join.l0 k x0 x1 x5 x10 x11 (wrap64 (x12 + 1))))) else (congouref01_Join.l0 k x0 x1 x5 x10 x11 (wrap64 (x12 + 1))))) else (none)) else (none)) else (some x5)
def congouref01_Join.f (k : Nat) (l0 : List Int) (l1 : List Int) : Option (List Int) := (congouref01_sum.f k l0 12).bind fun t602 => ((congouref01_All.f k t602 12).bind fun t603 => (congouref01_Join.l0 k l0 l1 ([] : List Int) t603 (t603.length : Int) 0))
theorem congouref01_Join.mono_l : ∀ k, (∀ y0 y1 y2 y3 y4 y5, LeO (congouref01_Join.l0 k y0 y1 y2 y3 y4 y5) (congouref01_Join.l0 (k + 1) y0 y1 y2 y3 y4 y5))
 | 0 => fun _ _ _ _ _ _ r h => by simp [congouref01_Join.l0] at h
 | k + 1 => by
  have ih0 := congouref01_Join.mono_l k
  ·intro y0 y1 y2 y3 y4 y5
   unfold congouref01_Join.l0
   repeat' first
   | (with_reducible exact ih0 _ _ _ _ _ _)
   | (with_reducible exact congouref01_All.mono _ _ _)
   | (with_reducible exact congouref01_Uneven.mono _ _ _)
   | (with_reducible exact congouref01_sum.mono _ _ _)
   | (with_reducible exact LeO.refl _)
   | (with_reducible exact LeO.none _)
   | (with_reducible refine LeO.ite ?_ ?_)
   | (with_reducible refine LeO.bind ?_ (fun _ => ?_))
   | exact ih0 _ _ _ _ _ _
   | exact congouref01_All.mono _ _ _
   | exact congouref01_Uneven.mono _ _ _
   | exact congouref01_sum.mono _ _ _
   | exact LeO.none _
   | refine LeO.ite ?_ ?_
   | refine LeO.bind ?_ (fun _ => ?_)
theorem congouref01_Join.mono : ∀ a0 a1 k, LeO (congouref01_Join.f k a0 a1) (congouref01_Join.f (k + 1) a0 a1) := by
 intro a0 a1 k
 have ih0 := congouref01_Join.mono_l k
 unfold congouref01_Join.f
 repeat' first
   | (with_reducible exact ih0 _ _ _ _ _ _)
   | (with_reducible exact congouref01_All.mono _ _ _)
   | (with_reducible exact congouref01_Uneven.mono _ _ _)
   | (with_reducible exact congouref01_sum.mono _ _ _)
   | (with_reducible exact LeO.refl _)
   | (with_reducible exact LeO.none _)
   | (with_reducible refine LeO.ite ?_ ?_)
   | (with_reducible refine LeO.bind ?_ (fun _ => ?_))
   | exact ih0 _ _ _ _ _ _
   | exact congouref01_All.mono _ _ _
   | exact congouref01_Uneven.mono _ _ _
   | exact congouref01_sum.mono _ _ _
   | exact LeO.none _
   | refine LeO.ite ?_ ?_
   | refine LeO.bind ?_ (fun _ => ?_)
theorem congouref01_Join.nileq {P : Program} (w : World) (t e : TypeId) (a : Option Addr) (l c : Nat) (h : P.underlying t = some (.slice e)) : (binOp .eql t (.slice a l c) (.slice none 0 0)).run P w = .ok (.bool a.isNone) w := by
 have hh : ∀ d : Nat, (Op.equalIn (d + 1) t (.slice a l c) (.slice none 0 0)).run P w = .ok a.isNone w := fun d => by cases a <;> simp [Op.equalIn, run_underlying h]
 simp only [binOp]
 simp [Op.equal, Op.maxDepth, hh 9999]
set_option maxHeartbeats 8000000 in
set_option maxRecDepth 100000 in
theorem congouref01_Join.calls (k : Nat) (P0_ : Nat → Prop) (A0 : Option Addr) (c0 : Nat) (l0 : List Int) (A1 : Option Addr) (c1 : Nat) (l1 : List Int) (r : List Int) (w : World) (hs0 : Kd.V (Kd.int .i64) 3 w w.heap.size (fun k_ => P0_ k_) (.slice A0 l0.length c0) l0) (hr1 : Kd.C (Kd.int .i64) w A1 l1.length l1) (hc1 : l1.length ≤ c1) (h : congouref01_Join.f k l0 l1 = some r) :
  Calls Try.prog 33 #[.slice A0 l0.length c0, .slice A1 l1.length c1] w fun e w' => ∃ v0_ : Value, e = .returned (v0_) ∧ Kd.V (Kd.int .i64) 3 w' w.heap.size (fun k_ => (P0_ k_ ∨ w.heap.size ≤ k_)) v0_ r ∧ Below w.heap.size w w' := by
 have HO0 := ak (show Kd.V (Kd.int .i64) 3 w w.heap.size (fun k_ => (P0_ k_ ∨ w.heap.size ≤ k_)) (.slice A0 l0.length c0) l0 from Kd.V_mono hs0 (fun k_ hk => .inl hk))
 have HR1 := Aside0.mk hr1
 have HC1 := Aside0.mk hc1
 clear hr1 hc1
 have HB := ak (Below.refl w.heap.size w)
 have H : ((congouref01_sum.f k l0 12).bind fun t602 => ((congouref01_All.f k t602 12).bind fun t603 => (congouref01_Join.l0 k l0 l1 ([] : List Int) t603 (t603.length : Int) 0))) = some r := h
 clear h
 replace H := Option.bind_eq_some_iff.mp H
 obtain ⟨t602, A30, H⟩ := H
 replace H : ((congouref01_All.f k t602 12).bind fun t603 => (congouref01_Join.l0 k l0 l1 ([] : List Int) t603 (t603.length : Int) 0)) = some r := H
 have A3 := Aside0.mk A30
 clear A30
 replace H := Option.bind_eq_some_iff.mp H
 obtain ⟨t603, A40, H⟩ := H
 replace H : (congouref01_Join.l0 k l0 l1 ([] : List Int) t603 (t603.length : Int) 0) = some r := H
 have A4 := Aside0.mk A40
 clear A40
 have H' := Aside0.mk H
 clear H
 go_enter Try.func33, Try.ntmps33
 go_wp2_with (first | ((with_reducible refine gate_callee (f := 62) rfl ?_); refine gL 9 Try.func62 #[.slice A0 l0.length c0, .int .i64 12] ?_; (with_reducible refine (congouref01_sum.calls k _ _ l0 12 t602 _ ?side1 ?side2 A3.out).mono ?_); (case side1 => repeat (first | exact (Kd.V_reads' HO0.out).2.2 | (with_reducible refine Kd.C_alloc ?_ _) | (with_reducible refine Kd.C_drewN ?_ _) | (with_reducible refine Kd.C_drew ?_))); (case side2 => exact (Kd.V_reads' HO0.out).2.1); rintro e w' ⟨rfl, ⟨nd, rfl⟩⟩; refine ⟨_, rfl, ?_⟩) | ((with_reducible refine gate_callee (f := 70) rfl ?_); refine gL 10 Try.func70 #[.int .i64 t602, .int .i64 12] ?_; (with_reducible refine (congouref01_All.calls k t602 12 t603 _ A4.out).mono ?_); rintro e w5 ⟨v604, rfl, ho0, hb⟩; refine ⟨_, rfl, ?_⟩; replace HO0 := ak (Kd.V_elder' (by (with_reducible repeat (first | apply Kd.V_alloc | apply Kd.V_drewN | apply Kd.V_drew)); exact HO0.out) (Kd.S_base ho0) hb); have HO605 := ak (Kd.S_lower (Kd.S_newM (M := fun k_ => (w.heap.size ≤ k_)) ho0 (below_size (hbC _)) (fun k_ h_ => h_)) (below_size (hbC _))); replace HB := kH _ hb; (try clear hb); (try clear hb2); (try clear hk); (try clear hi); (try clear ho0); obtain ⟨Ao6, co6, eo6⟩ := Kd.S_slice HO605.out; subst eo6))
 go_loopg [5, 12] k (fun kq v5 v12 w' => ∃ (x5_1 : List Int) (x12_1 : Int), v12 = .int .i64 x12_1 ∧ Aside0 (congouref01_Join.l0 kq l0 l1 x5_1 t603 (t603.length : Int) x12_1 = some r) ∧ Aside0 (kq ≤ k) ∧ Aside0 (Kd.V (Kd.int .i64) 3 w' w.heap.size (fun k_ => (P0_ k_ ∨ w.heap.size ≤ k_) ∧ some k_ ≠ ((.slice Ao6 t603.length co6) : Value).ownBlock) (.slice A0 l0.length c0) l0) ∧ Aside0 (Kd.V (Kd.int .i64) 3 w' w.heap.size (fun k_ => (P0_ k_ ∨ w.heap.size ≤ k_) ∧ some k_ ≠ ((.slice Ao6 t603.length co6) : Value).ownBlock) v5 x5_1) ∧ Aside0 ((x5_1 = [] ∧ v5 = .slice none 0 0) ∨ (x5_1 ≠ [] ∧ ∃ ad9 n9 k9, v5 = .slice (some ad9) n9 k9)) ∧ Aside0 (Kd.S (Kd.slice 3 (Kd.int .i64)) 22 w' w.heap.size (fun k_ => (w.heap.size ≤ k_)) (.slice Ao6 t603.length co6) t603) ∧ Aside0 (Below w.heap.size w w'))
 case atStart => exact ⟨(([] : List Int)), (0), (by first | rfl | (simp; done) | (simp [*]; done)), H', ⟨Nat.le_refl _⟩, ⟨by (with_reducible repeat (first | apply Kd.V_alloc | apply Kd.V_drewN | apply Kd.V_drew)); exact HO0.out⟩, ⟨Kd.V_nil _ _ _ _ _⟩, ⟨.inl ⟨rfl, rfl⟩⟩, ⟨by (with_reducible repeat (first | apply Kd.S_alloc | apply Kd.S_drewN | apply Kd.S_drew)); exact Kd.S_mono HO605.out (fun _ hk => hk.1)⟩, ⟨hbC _⟩⟩
 case round =>
  clear H'
  try clear c1
  try clear p2
  try clear c3
  try clear c6
  obtain ⟨x5_1, x12_1, rfl, HA, HK1, HO_0, HO_5, HN, HO_10, HB⟩ := hrel
  cases gk with
  | zero => exact absurd HA.out (by simp [congouref01_Join.l0])
  | succ k1 =>
   have H := HA.out
   clear HA
   simp only [congouref01_Join.l0] at H
   by_cases c7 : x12_1 < (t603.length : Int)
   rotate_left
   ·rw [if_neg c7] at H
    have c7b0 : decide (x12_1 < (t603.length : Int)) = false := decide_eq_false c7
    clear c7
    obtain rfl := Option.some.inj H
    go_wp2
    go_ret
    exact ⟨_, by first | rfl | (simp [errW_none, errW_some] <;> rfl) | (simp [*, errW_none, errW_some] <;> rfl), by (with_reducible repeat (first | apply Kd.V_alloc | apply Kd.V_drewN | apply Kd.V_drew)); exact Kd.V_mono HO_5.out (fun _ hk => hk.1), hbC _⟩
   rw [if_pos c7] at H
   have c7b0 : decide (x12_1 < (t603.length : Int)) = true := decide_eq_true c7
   clear c7
   by_cases c8 : 0 ≤ x12_1
   rotate_left
   ·rw [if_neg c8] at H
    exact absurd H (by simp)
   rw [if_pos c8] at H
   have c8b0 : decide (0 ≤ x12_1) = true := decide_eq_true c8
   clear c8
   by_cases c9 : x12_1 < (t603.length : Int)
   rotate_left
   ·rw [if_neg c9] at H
    exact absurd H (by simp)
   rw [if_pos c9] at H
   have c9b0 : decide (x12_1 < (t603.length : Int)) = true := decide_eq_true c9
   clear c9
   replace H := Option.bind_eq_some_iff.mp H
   obtain ⟨t607, A100, H⟩ := H
   replace H : (if t607 = true then ((congouref01_Uneven.f k1 (rd_L1 t603 x12_1) l1).bind fun t608 => (if t608 = true then (if (x5_1.length : Int) = 0 then (if 1 ≤ (rd_L1 t603 x12_1).length then (congouref01_Join.l0 k1 l0 l1 (rd_L1 t603 x12_1) t603 (t603.length : Int) (wrap64 (x12_1 + 1))) else none) else ((congouref01_Uneven.f k1 x5_1 (rd_L1 t603 x12_1)).bind fun t609 => (if t609 = true then (if 1 ≤ (rd_L1 t603 x12_1).length then (congouref01_Join.l0 k1 l0 l1 (rd_L1 t603 x12_1) t603 (t603.length : Int) (wrap64 (x12_1 + 1))) else none) else (congouref01_Join.l0 k1 l0 l1 x5_1 t603 (t603.length : Int) (wrap64 (x12_1 + 1)))))) else (congouref01_Join.l0 k1 l0 l1 x5_1 t603 (t603.length : Int) (wrap64 (x12_1 + 1))))) else (congouref01_Join.l0 k1 l0 l1 x5_1 t603 (t603.length : Int) (wrap64 (x12_1 + 1)))) = some r := H
   have A10 := Aside0.mk A100
   clear A100
   by_cases c11 : t607 = true
   rotate_left
   ·replace c11 := Bool.eq_false_iff.mpr c11
    subst c11
    have H1 : (congouref01_Join.l0 k1 l0 l1 x5_1 t603 (t603.length : Int) (wrap64 (x12_1 + 1))) = some r := by rw [if_neg (show ¬ (false = true) by decide)] at H; exact H
    clear H
    have H := H1
    clear H1
    have H' := Aside0.mk H
    clear H
    have p606 : 0 ≤ (x12_1 : Int) := dA
    have q606 : x12_1 < (t603.length : Int) := dA
    obtain ⟨ad606, A606_0, c606_0, e606, hx606_0, hl606_0, hi606_0⟩ := at_L1 (Kd.S_reads' HO_10.out).2.2 x12_1 p606 q606
    cases e606
    obtain ⟨ce606, hce606, hMe606, hcc606⟩ := Kd.S_get HO_10.out [] x12_1 p606 (by first | exact q606 | exact dA | (have e_ := (Kd.S_reads' HO_10.out).1; omega))
    obtain ⟨ve606_0, rfl, ge606_0⟩ := hMe606
    have hv606_0 := hcc606 0 _ rfl
    rw [Nat.add_zero, show ((Kd.slice 3 (Kd.int .i64))).sz = 1 from rfl, Nat.mul_one] at hv606_0
    replace hv606_0 := Option.some.inj (hv606_0.symm.trans hx606_0)
    rw [hv606_0] at ge606_0
    have HL606_0 := ak (show Kd.R (Kd.int .i64) 3 _ _ _ _ (rd_L1 t603 x12_1) from ge606_0)
    clear hv606_0 ge606_0
    clear hcc606 hce606
    have HR606_0 := Aside0.mk hi606_0
    have HC606_0 := Aside0.mk hl606_0
    clear hi606_0 hl606_0
    replace p606 := eq_true p606
    replace q606 := eq_true q606
    go_wp2_with (first | ((with_reducible refine gate_callee (f := 24) rfl ?_); refine gL 18 Try.func24 #[.slice A606_0 (rd_L1 t603 x12_1).length c606_0, .slice A0 l0.length c0] ?_; (with_reducible refine (congouref01_Uneven.calls k1 _ _ (rd_L1 t603 x12_1) _ _ l0 false _ ?side1 ?side2 ?side3 ?side4 A10.out).mono ?_); (case side1 => repeat (first | exact (by repeat (first | (with_reducible exact HR606_0.out) | (with_reducible refine Kd.C_alloc ?_ _) | (with_reducible refine Kd.C_drewN ?_ _) | (with_reducible refine Kd.C_drew ?_) | exact HR606_0.out)) | (with_reducible refine Kd.C_alloc ?_ _) | (with_reducible refine Kd.C_drewN ?_ _) | (with_reducible refine Kd.C_drew ?_))); (case side2 => exact HC606_0.out); (case side3 => repeat (first | exact (Kd.V_reads' HO_0.out).2.2 | (with_reducible refine Kd.C_alloc ?_ _) | (with_reducible refine Kd.C_drewN ?_ _) | (with_reducible refine Kd.C_drew ?_))); (case side4 => exact (Kd.V_reads' HO_0.out).2.1); rintro e w29 ⟨rfl, hb⟩; refine ⟨_, rfl, ?_⟩; replace HO_0 := ak (Kd.V_below (by (with_reducible repeat (first | apply Kd.V_alloc | apply Kd.V_drewN | apply Kd.V_drew)); exact HO_0.out) hb); replace HO_5 := ak (Kd.V_below (by (with_reducible repeat (first | apply Kd.V_alloc | apply Kd.V_drewN | apply Kd.V_drew)); exact HO_5.out) hb); replace HO_10 := ak (Kd.S_below (by (with_reducible repeat (first | apply Kd.S_alloc | apply Kd.S_drewN | apply Kd.S_drew)); exact HO_10.out) hb); replace HL606_0 := ak (Kd.R_below (rD (HL606_0.out)) hb); replace HR606_0 := ak (Kd.C_below (by repeat (first | (with_reducible exact HR606_0.out) | (with_reducible refine Kd.C_alloc ?_ _) | (with_reducible refine Kd.C_drewN ?_ _) | (with_reducible refine Kd.C_drew ?_) | exact HR606_0.out)) hb); replace HB := kH _ hb; (try clear hb); (try clear hb2); (try clear hk); (try clear hi)))
    go_roundg k1
    case measure => have := HK1.out; omega
    case rel => exact ⟨(x5_1), (wrap64 (x12_1 + 1)), (by first | rfl | (simp; done) | (simp [*]; done)), H', ⟨by have := HK1.out; omega⟩, ⟨by (with_reducible repeat (first | apply Kd.V_alloc | apply Kd.V_drewN | apply Kd.V_drew)); exact HO_0.out⟩, ⟨by (with_reducible repeat (first | apply Kd.V_alloc | apply Kd.V_drewN | apply Kd.V_drew)); exact HO_5.out⟩, HN, ⟨by (with_reducible repeat (first | apply Kd.S_alloc | apply Kd.S_drewN | apply Kd.S_drew)); exact HO_10.out⟩, ⟨hbC _⟩⟩
   subst c11
   have H1 : ((congouref01_Uneven.f k1 (rd_L1 t603 x12_1) l1).bind fun t608 => (if t608 = true then (if (x5_1.length : Int) = 0 then (if 1 ≤ (rd_L1 t603 x12_1).length then (congouref01_Join.l0 k1 l0 l1 (rd_L1 t603 x12_1) t603 (t603.length : Int) (wrap64 (x12_1 + 1))) else none) else ((congouref01_Uneven.f k1 x5_1 (rd_L1 t603 x12_1)).bind fun t609 => (if t609 = true then (if 1 ≤ (rd_L1 t603 x12_1).length then (congouref01_Join.l0 k1 l0 l1 (rd_L1 t603 x12_1) t603 (t603.length : Int) (wrap64 (x12_1 + 1))) else none) else (congouref01_Join.l0 k1 l0 l1 x5_1 t603 (t603.length : Int) (wrap64 (x12_1 + 1)))))) else (congouref01_Join.l0 k1 l0 l1 x5_1 t603 (t603.length : Int) (wrap64 (x12_1 + 1))))) = some r := by rw [if_pos rfl] at H; exact H
   clear H
   have H := H1
   clear H1
   replace H := Option.bind_eq_some_iff.mp H
   obtain ⟨t608, A120, H⟩ := H
   replace H : (if t608 = true then (if (x5_1.length : Int) = 0 then (if 1 ≤ (rd_L1 t603 x12_1).length then (congouref01_Join.l0 k1 l0 l1 (rd_L1 t603 x12_1) t603 (t603.length : Int) (wrap64 (x12_1 + 1))) else none) else ((congouref01_Uneven.f k1 x5_1 (rd_L1 t603 x12_1)).bind fun t609 => (if t609 = true then (if 1 ≤ (rd_L1 t603 x12_1).length then (congouref01_Join.l0 k1 l0 l1 (rd_L1 t603 x12_1) t603 (t603.length : Int) (wrap64 (x12_1 + 1))) else none) else (congouref01_Join.l0 k1 l0 l1 x5_1 t603 (t603.length : Int) (wrap64 (x12_1 + 1)))))) else (congouref01_Join.l0 k1 l0 l1 x5_1 t603 (t603.length : Int) (wrap64 (x12_1 + 1)))) = some r := H
   have A12 := Aside0.mk A120
   clear A120
   by_cases c13 : t608 = true
   rotate_left
   ·replace c13 := Bool.eq_false_iff.mpr c13
    subst c13
    have H1 : (congouref01_Join.l0 k1 l0 l1 x5_1 t603 (t603.length : Int) (wrap64 (x12_1 + 1))) = some r := by rw [if_neg (show ¬ (false = true) by decide)] at H; exact H
    clear H
    have H := H1
    clear H1
    have H' := Aside0.mk H
    clear H
    have p606 : 0 ≤ (x12_1 : Int) := dA
    have q606 : x12_1 < (t603.length : Int) := dA
    obtain ⟨ad606, A606_0, c606_0, e606, hx606_0, hl606_0, hi606_0⟩ := at_L1 (Kd.S_reads' HO_10.out).2.2 x12_1 p606 q606
    cases e606
    obtain ⟨ce606, hce606, hMe606, hcc606⟩ := Kd.S_get HO_10.out [] x12_1 p606 (by first | exact q606 | exact dA | (have e_ := (Kd.S_reads' HO_10.out).1; omega))
    obtain ⟨ve606_0, rfl, ge606_0⟩ := hMe606
    have hv606_0 := hcc606 0 _ rfl
    rw [Nat.add_zero, show ((Kd.slice 3 (Kd.int .i64))).sz = 1 from rfl, Nat.mul_one] at hv606_0
    replace hv606_0 := Option.some.inj (hv606_0.symm.trans hx606_0)
    rw [hv606_0] at ge606_0
    have HL606_0 := ak (show Kd.R (Kd.int .i64) 3 _ _ _ _ (rd_L1 t603 x12_1) from ge606_0)
    clear hv606_0 ge606_0
    clear hcc606 hce606
    have HR606_0 := Aside0.mk hi606_0
    have HC606_0 := Aside0.mk hl606_0
    clear hi606_0 hl606_0
    replace p606 := eq_true p606
    replace q606 := eq_true q606
    go_wp2_with (first | ((with_reducible refine gate_callee (f := 24) rfl ?_); refine gL 18 Try.func24 #[.slice A606_0 (rd_L1 t603 x12_1).length c606_0, .slice A0 l0.length c0] ?_; (with_reducible refine (congouref01_Uneven.calls k1 _ _ (rd_L1 t603 x12_1) _ _ l0 true _ ?side1 ?side2 ?side3 ?side4 A10.out).mono ?_); (case side1 => repeat (first | exact (by repeat (first | (with_reducible exact HR606_0.out) | (with_reducible refine Kd.C_alloc ?_ _) | (with_reducible refine Kd.C_drewN ?_ _) | (with_reducible refine Kd.C_drew ?_) | exact HR606_0.out)) | (with_reducible refine Kd.C_alloc ?_ _) | (with_reducible refine Kd.C_drewN ?_ _) | (with_reducible refine Kd.C_drew ?_))); (case side2 => exact HC606_0.out); (case side3 => repeat (first | exact (Kd.V_reads' HO_0.out).2.2 | (with_reducible refine Kd.C_alloc ?_ _) | (with_reducible refine Kd.C_drewN ?_ _) | (with_reducible refine Kd.C_drew ?_))); (case side4 => exact (Kd.V_reads' HO_0.out).2.1); rintro e w27 ⟨rfl, hb⟩; refine ⟨_, rfl, ?_⟩; replace HO_0 := ak (Kd.V_below (by (with_reducible repeat (first | apply Kd.V_alloc | apply Kd.V_drewN | apply Kd.V_drew)); exact HO_0.out) hb); replace HO_5 := ak (Kd.V_below (by (with_reducible repeat (first | apply Kd.V_alloc | apply Kd.V_drewN | apply Kd.V_drew)); exact HO_5.out) hb); replace HO_10 := ak (Kd.S_below (by (with_reducible repeat (first | apply Kd.S_alloc | apply Kd.S_drewN | apply Kd.S_drew)); exact HO_10.out) hb); replace HL606_0 := ak (Kd.R_below (rD (HL606_0.out)) hb); replace HR606_0 := ak (Kd.C_below (by repeat (first | (with_reducible exact HR606_0.out) | (with_reducible refine Kd.C_alloc ?_ _) | (with_reducible refine Kd.C_drewN ?_ _) | (with_reducible refine Kd.C_drew ?_) | exact HR606_0.out)) hb); replace HB := kH _ hb; (try clear hb); (try clear hb2); (try clear hk); (try clear hi)) | (go_at_call 24; (with_reducible refine (congouref01_Uneven.calls k1 _ _ (rd_L1 t603 x12_1) _ _ l1 false _ ?side1 ?side2 ?side3 ?side4 A12.out).mono ?_); (case side1 => repeat (first | exact (by repeat (first | (with_reducible exact HR606_0.out) | (with_reducible refine Kd.C_alloc ?_ _) | (with_reducible refine Kd.C_drewN ?_ _) | (with_reducible refine Kd.C_drew ?_) | exact HR606_0.out)) | (with_reducible refine Kd.C_alloc ?_ _) | (with_reducible refine Kd.C_drewN ?_ _) | (with_reducible refine Kd.C_drew ?_))); (case side2 => exact HC606_0.out); (case side3 => exact kC HR1); (case side4 => exact HC1.out); rintro e w28 ⟨rfl, hb⟩; replace HO_0 := ak (Kd.V_below (by (with_reducible repeat (first | apply Kd.V_alloc | apply Kd.V_drewN | apply Kd.V_drew)); exact HO_0.out) hb); replace HO_5 := ak (Kd.V_below (by (with_reducible repeat (first | apply Kd.V_alloc | apply Kd.V_drewN | apply Kd.V_drew)); exact HO_5.out) hb); replace HO_10 := ak (Kd.S_below (by (with_reducible repeat (first | apply Kd.S_alloc | apply Kd.S_drewN | apply Kd.S_drew)); exact HO_10.out) hb); replace HL606_0 := ak (Kd.R_below (rD (HL606_0.out)) hb); replace HR606_0 := ak (Kd.C_below (by repeat (first | (with_reducible exact HR606_0.out) | (with_reducible refine Kd.C_alloc ?_ _) | (with_reducible refine Kd.C_drewN ?_ _) | (with_reducible refine Kd.C_drew ?_) | exact HR606_0.out)) hb); replace HB := kH _ hb; (try clear hb); (try clear hb2); (try clear hk); (try clear hi)))
    go_roundg k1
    case measure => have := HK1.out; omega
    case rel => exact ⟨(x5_1), (wrap64 (x12_1 + 1)), (by first | rfl | (simp; done) | (simp [*]; done)), H', ⟨by have := HK1.out; omega⟩, ⟨by (with_reducible repeat (first | apply Kd.V_alloc | apply Kd.V_drewN | apply Kd.V_drew)); exact HO_0.out⟩, ⟨by (with_reducible repeat (first | apply Kd.V_alloc | apply Kd.V_drewN | apply Kd.V_drew)); exact HO_5.out⟩, HN, ⟨by (with_reducible repeat (first | apply Kd.S_alloc | apply Kd.S_drewN | apply Kd.S_drew)); exact HO_10.out⟩, ⟨hbC _⟩⟩
   subst c13
   have H1 : (if (x5_1.length : Int) = 0 then (if 1 ≤ (rd_L1 t603 x12_1).length then (congouref01_Join.l0 k1 l0 l1 (rd_L1 t603 x12_1) t603 (t603.length : Int) (wrap64 (x12_1 + 1))) else none) else ((congouref01_Uneven.f k1 x5_1 (rd_L1 t603 x12_1)).bind fun t609 => (if t609 = true then (if 1 ≤ (rd_L1 t603 x12_1).length then (congouref01_Join.l0 k1 l0 l1 (rd_L1 t603 x12_1) t603 (t603.length : Int) (wrap64 (x12_1 + 1))) else none) else (congouref01_Join.l0 k1 l0 l1 x5_1 t603 (t603.length : Int) (wrap64 (x12_1 + 1)))))) = some r := by rw [if_pos rfl] at H; exact H
   clear H
   have H := H1
   clear H1
   by_cases c14 : (x5_1.length : Int) = 0
   ·rw [if_pos c14] at H
    have h9_ := HN.out.resolve_right (fun h_ => h_.1 (List.length_eq_zero_iff.mp (by omega)))
    clear HN
    obtain ⟨h9a_, h9b_⟩ := h9_
    subst h9b_
    clear h9a_
    have hnil : ∀ W, (binOp .eql 22 (.slice none 0 0) (.slice none 0 0)).run Try.prog W = .ok (.bool true) W := fun W => congouref01_Join.nileq W _ _ _ _ _ Try.underlying22
    have hne9 : 1 ≤ (rd_L1 t603 x12_1).length := by
     by_cases h_ : 1 ≤ (rd_L1 t603 x12_1).length
     ·exact h_
     rw [if_neg h_] at H; exact absurd H (by simp)
    rw [if_pos hne9] at H
    have HNE := Aside0.mk hne9
    clear hne9
    have c14b0 : ((x5_1.length : Int) == 0) = true := beq_iff_eq.mpr c14
    have c14b1 : ((x5_1.length : Int) != 0) = false := bne_eq_false_iff_eq.mpr c14
    clear c14
    have H' := Aside0.mk H
    clear H
    have p606 : 0 ≤ (x12_1 : Int) := dA
    have q606 : x12_1 < (t603.length : Int) := dA
    obtain ⟨ad606, A606_0, c606_0, e606, hx606_0, hl606_0, hi606_0⟩ := at_L1 (Kd.S_reads' HO_10.out).2.2 x12_1 p606 q606
    cases e606
    obtain ⟨ce606, hce606, hMe606, hcc606⟩ := Kd.S_get HO_10.out [] x12_1 p606 (by first | exact q606 | exact dA | (have e_ := (Kd.S_reads' HO_10.out).1; omega))
    obtain ⟨ve606_0, rfl, ge606_0⟩ := hMe606
    have hv606_0 := hcc606 0 _ rfl
    rw [Nat.add_zero, show ((Kd.slice 3 (Kd.int .i64))).sz = 1 from rfl, Nat.mul_one] at hv606_0
    replace hv606_0 := Option.some.inj (hv606_0.symm.trans hx606_0)
    rw [hv606_0] at ge606_0
    have HL606_0 := ak (show Kd.R (Kd.int .i64) 3 _ _ _ _ (rd_L1 t603 x12_1) from ge606_0)
    clear hv606_0 ge606_0
    clear hcc606 hce606
    have HR606_0 := Aside0.mk hi606_0
    have HC606_0 := Aside0.mk hl606_0
    obtain ⟨adB, eB, _⟩ := HR606_0.out.2.2 (by have := HNE.out; omega)
    have HAB := Aside0.mk eB
    clear eB
    clear hi606_0 hl606_0
    replace p606 := eq_true p606
    replace q606 := eq_true q606
    go_wp2_with (first | ((with_reducible refine gate_callee (f := 24) rfl ?_); refine gL 18 Try.func24 #[.slice A606_0 (rd_L1 t603 x12_1).length c606_0, .slice A0 l0.length c0] ?_; (with_reducible refine (congouref01_Uneven.calls k1 _ _ (rd_L1 t603 x12_1) _ _ l0 true _ ?side1 ?side2 ?side3 ?side4 A10.out).mono ?_); (case side1 => repeat (first | exact (by repeat (first | (with_reducible exact HR606_0.out) | (with_reducible refine Kd.C_alloc ?_ _) | (with_reducible refine Kd.C_drewN ?_ _) | (with_reducible refine Kd.C_drew ?_) | exact HR606_0.out)) | (with_reducible refine Kd.C_alloc ?_ _) | (with_reducible refine Kd.C_drewN ?_ _) | (with_reducible refine Kd.C_drew ?_))); (case side2 => exact HC606_0.out); (case side3 => repeat (first | exact (Kd.V_reads' HO_0.out).2.2 | (with_reducible refine Kd.C_alloc ?_ _) | (with_reducible refine Kd.C_drewN ?_ _) | (with_reducible refine Kd.C_drew ?_))); (case side4 => exact (Kd.V_reads' HO_0.out).2.1); rintro e w15 ⟨rfl, hb⟩; refine ⟨_, rfl, ?_⟩; replace HO_0 := ak (Kd.V_below (by (with_reducible repeat (first | apply Kd.V_alloc | apply Kd.V_drewN | apply Kd.V_drew)); exact HO_0.out) hb); replace HO_5 := ak (Kd.V_below (by (with_reducible repeat (first | apply Kd.V_alloc | apply Kd.V_drewN | apply Kd.V_drew)); exact HO_5.out) hb); replace HO_10 := ak (Kd.S_below (by (with_reducible repeat (first | apply Kd.S_alloc | apply Kd.S_drewN | apply Kd.S_drew)); exact HO_10.out) hb); replace HL606_0 := ak (Kd.R_below (rD (HL606_0.out)) hb); replace HR606_0 := ak (Kd.C_below (by repeat (first | (with_reducible exact HR606_0.out) | (with_reducible refine Kd.C_alloc ?_ _) | (with_reducible refine Kd.C_drewN ?_ _) | (with_reducible refine Kd.C_drew ?_) | exact HR606_0.out)) hb); replace HB := kH _ hb; (try clear hb); (try clear hb2); (try clear hk); (try clear hi)) | (go_at_call 24; (with_reducible refine (congouref01_Uneven.calls k1 _ _ (rd_L1 t603 x12_1) _ _ l1 true _ ?side1 ?side2 ?side3 ?side4 A12.out).mono ?_); (case side1 => repeat (first | exact (by repeat (first | (with_reducible exact HR606_0.out) | (with_reducible refine Kd.C_alloc ?_ _) | (with_reducible refine Kd.C_drewN ?_ _) | (with_reducible refine Kd.C_drew ?_) | exact HR606_0.out)) | (with_reducible refine Kd.C_alloc ?_ _) | (with_reducible refine Kd.C_drewN ?_ _) | (with_reducible refine Kd.C_drew ?_))); (case side2 => exact HC606_0.out); (case side3 => exact kC HR1); (case side4 => exact HC1.out); rintro e w16 ⟨rfl, hb⟩; replace HO_0 := ak (Kd.V_below (by (with_reducible repeat (first | apply Kd.V_alloc | apply Kd.V_drewN | apply Kd.V_drew)); exact HO_0.out) hb); replace HO_5 := ak (Kd.V_below (by (with_reducible repeat (first | apply Kd.V_alloc | apply Kd.V_drewN | apply Kd.V_drew)); exact HO_5.out) hb); replace HO_10 := ak (Kd.S_below (by (with_reducible repeat (first | apply Kd.S_alloc | apply Kd.S_drewN | apply Kd.S_drew)); exact HO_10.out) hb); replace HL606_0 := ak (Kd.R_below (rD (HL606_0.out)) hb); replace HR606_0 := ak (Kd.C_below (by repeat (first | (with_reducible exact HR606_0.out) | (with_reducible refine Kd.C_alloc ?_ _) | (with_reducible refine Kd.C_drewN ?_ _) | (with_reducible refine Kd.C_drew ?_) | exact HR606_0.out)) hb); replace HB := kH _ hb; (try clear hb); (try clear hb2); (try clear hk); (try clear hi)))
    go_roundg k1
    case measure => have := HK1.out; omega
    case rel => exact ⟨(rd_L1 t603 x12_1), (wrap64 (x12_1 + 1)), (by first | rfl | (simp; done) | (simp [*]; done)), H', ⟨by have := HK1.out; omega⟩, ⟨by (with_reducible repeat (first | apply Kd.V_alloc | apply Kd.V_drewN | apply Kd.V_drew)); exact HO_0.out⟩, ⟨Kd.V_mono (Kd.R_V (rD (HL606_0.out))) (fun k_ hk => ⟨.inr hk.1, hk.2⟩)⟩, ⟨.inr ⟨by have := HNE.out; intro h_; rw [h_] at this; simp at this, adB, _, _, by rw [HAB.out]⟩⟩, ⟨by (with_reducible repeat (first | apply Kd.S_alloc | apply Kd.S_drewN | apply Kd.S_drew)); exact HO_10.out⟩, ⟨hbC _⟩⟩
   rw [if_neg c14] at H
   have c14b0 : ((x5_1.length : Int) == 0) = false := beq_eq_false_iff_ne.mpr c14
   have c14b1 : ((x5_1.length : Int) != 0) = true := bne_iff_ne.mpr c14
   have c14b2 : ¬ (x5_1 = []) := fun h_ => c14 (by rw [h_]; rfl)
   have h9_ := HN.out.resolve_left (fun h_ => c14 (by rw [h_.1]; rfl))
   obtain ⟨_, ad9, n9, k9, e9⟩ := h9_
   obtain ⟨Ao99, co99, eo99⟩ := Kd.V_slice HO_5.out
   subst eo99
   obtain rfl : Ao99 = some ad9 := by injection e9
   clear e9
   have hnil : ∀ W, (binOp .eql 22 (.slice (some ad9) x5_1.length co99) (.slice none 0 0)).run Try.prog W = .ok (.bool false) W := fun W => congouref01_Join.nileq W _ _ _ _ _ Try.underlying22
   replace H := Option.bind_eq_some_iff.mp H
   obtain ⟨t609, A170, H⟩ := H
   replace H : (if t609 = true then (if 1 ≤ (rd_L1 t603 x12_1).length then (congouref01_Join.l0 k1 l0 l1 (rd_L1 t603 x12_1) t603 (t603.length : Int) (wrap64 (x12_1 + 1))) else none) else (congouref01_Join.l0 k1 l0 l1 x5_1 t603 (t603.length : Int) (wrap64 (x12_1 + 1)))) = some r := H
   have A17 := Aside0.mk A170
   clear A170
   by_cases c18 : t609 = true
   rotate_left
   ·replace c18 := Bool.eq_false_iff.mpr c18
    subst c18
    have H1 : (congouref01_Join.l0 k1 l0 l1 x5_1 t603 (t603.length : Int) (wrap64 (x12_1 + 1))) = some r := by rw [if_neg (show ¬ (false = true) by decide)] at H; exact H
    clear H
    have H := H1
    clear H1
    have H' := Aside0.mk H
    clear H
    have p606 : 0 ≤ (x12_1 : Int) := dA
    have q606 : x12_1 < (t603.length : Int) := dA
    obtain ⟨ad606, A606_0, c606_0, e606, hx606_0, hl606_0, hi606_0⟩ := at_L1 (Kd.S_reads' HO_10.out).2.2 x12_1 p606 q606
    cases e606
    obtain ⟨ce606, hce606, hMe606, hcc606⟩ := Kd.S_get HO_10.out [] x12_1 p606 (by first | exact q606 | exact dA | (have e_ := (Kd.S_reads' HO_10.out).1; omega))
    obtain ⟨ve606_0, rfl, ge606_0⟩ := hMe606
    have hv606_0 := hcc606 0 _ rfl
    rw [Nat.add_zero, show ((Kd.slice 3 (Kd.int .i64))).sz = 1 from rfl, Nat.mul_one] at hv606_0
    replace hv606_0 := Option.some.inj (hv606_0.symm.trans hx606_0)
    rw [hv606_0] at ge606_0
    have HL606_0 := ak (show Kd.R (Kd.int .i64) 3 _ _ _ _ (rd_L1 t603 x12_1) from ge606_0)
    clear hv606_0 ge606_0
    clear hcc606 hce606
    have HR606_0 := Aside0.mk hi606_0
    have HC606_0 := Aside0.mk hl606_0
    clear hi606_0 hl606_0
    replace p606 := eq_true p606
    replace q606 := eq_true q606
    go_wp2_with (first | ((with_reducible refine gate_callee (f := 24) rfl ?_); refine gL 18 Try.func24 #[.slice A606_0 (rd_L1 t603 x12_1).length c606_0, .slice A0 l0.length c0] ?_; (with_reducible refine (congouref01_Uneven.calls k1 _ _ (rd_L1 t603 x12_1) _ _ l0 true _ ?side1 ?side2 ?side3 ?side4 A10.out).mono ?_); (case side1 => repeat (first | exact (by repeat (first | (with_reducible exact HR606_0.out) | (with_reducible refine Kd.C_alloc ?_ _) | (with_reducible refine Kd.C_drewN ?_ _) | (with_reducible refine Kd.C_drew ?_) | exact HR606_0.out)) | (with_reducible refine Kd.C_alloc ?_ _) | (with_reducible refine Kd.C_drewN ?_ _) | (with_reducible refine Kd.C_drew ?_))); (case side2 => exact HC606_0.out); (case side3 => repeat (first | exact (Kd.V_reads' HO_0.out).2.2 | (with_reducible refine Kd.C_alloc ?_ _) | (with_reducible refine Kd.C_drewN ?_ _) | (with_reducible refine Kd.C_drew ?_))); (case side4 => exact (Kd.V_reads' HO_0.out).2.1); rintro e w23 ⟨rfl, hb⟩; refine ⟨_, rfl, ?_⟩; replace HO_0 := ak (Kd.V_below (by (with_reducible repeat (first | apply Kd.V_alloc | apply Kd.V_drewN | apply Kd.V_drew)); exact HO_0.out) hb); replace HO_5 := ak (Kd.V_below (by (with_reducible repeat (first | apply Kd.V_alloc | apply Kd.V_drewN | apply Kd.V_drew)); exact HO_5.out) hb); replace HO_10 := ak (Kd.S_below (by (with_reducible repeat (first | apply Kd.S_alloc | apply Kd.S_drewN | apply Kd.S_drew)); exact HO_10.out) hb); replace HL606_0 := ak (Kd.R_below (rD (HL606_0.out)) hb); replace HR606_0 := ak (Kd.C_below (by repeat (first | (with_reducible exact HR606_0.out) | (with_reducible refine Kd.C_alloc ?_ _) | (with_reducible refine Kd.C_drewN ?_ _) | (with_reducible refine Kd.C_drew ?_) | exact HR606_0.out)) hb); replace HB := kH _ hb; (try clear hb); (try clear hb2); (try clear hk); (try clear hi)) | (go_at_call 24; (with_reducible refine (congouref01_Uneven.calls k1 _ _ (rd_L1 t603 x12_1) _ _ l1 true _ ?side1 ?side2 ?side3 ?side4 A12.out).mono ?_); (case side1 => repeat (first | exact (by repeat (first | (with_reducible exact HR606_0.out) | (with_reducible refine Kd.C_alloc ?_ _) | (with_reducible refine Kd.C_drewN ?_ _) | (with_reducible refine Kd.C_drew ?_) | exact HR606_0.out)) | (with_reducible refine Kd.C_alloc ?_ _) | (with_reducible refine Kd.C_drewN ?_ _) | (with_reducible refine Kd.C_drew ?_))); (case side2 => exact HC606_0.out); (case side3 => exact kC HR1); (case side4 => exact HC1.out); rintro e w24 ⟨rfl, hb⟩; replace HO_0 := ak (Kd.V_below (by (with_reducible repeat (first | apply Kd.V_alloc | apply Kd.V_drewN | apply Kd.V_drew)); exact HO_0.out) hb); replace HO_5 := ak (Kd.V_below (by (with_reducible repeat (first | apply Kd.V_alloc | apply Kd.V_drewN | apply Kd.V_drew)); exact HO_5.out) hb); replace HO_10 := ak (Kd.S_below (by (with_reducible repeat (first | apply Kd.S_alloc | apply Kd.S_drewN | apply Kd.S_drew)); exact HO_10.out) hb); replace HL606_0 := ak (Kd.R_below (rD (HL606_0.out)) hb); replace HR606_0 := ak (Kd.C_below (by repeat (first | (with_reducible exact HR606_0.out) | (with_reducible refine Kd.C_alloc ?_ _) | (with_reducible refine Kd.C_drewN ?_ _) | (with_reducible refine Kd.C_drew ?_) | exact HR606_0.out)) hb); replace HB := kH _ hb; (try clear hb); (try clear hb2); (try clear hk); (try clear hi)) | (go_at_call 24; (with_reducible refine (congouref01_Uneven.calls k1 _ _ x5_1 _ _ (rd_L1 t603 x12_1) false _ ?side1 ?side2 ?side3 ?side4 A17.out).mono ?_); (case side1 => repeat (first | exact (Kd.V_reads' HO_5.out).2.2 | (with_reducible refine Kd.C_alloc ?_ _) | (with_reducible refine Kd.C_drewN ?_ _) | (with_reducible refine Kd.C_drew ?_))); (case side2 => exact (Kd.V_reads' HO_5.out).2.1); (case side3 => repeat (first | exact (by repeat (first | (with_reducible exact HR606_0.out) | (with_reducible refine Kd.C_alloc ?_ _) | (with_reducible refine Kd.C_drewN ?_ _) | (with_reducible refine Kd.C_drew ?_) | exact HR606_0.out)) | (with_reducible refine Kd.C_alloc ?_ _) | (with_reducible refine Kd.C_drewN ?_ _) | (with_reducible refine Kd.C_drew ?_))); (case side4 => exact HC606_0.out); rintro e w26 ⟨rfl, hb⟩; replace HO_0 := ak (Kd.V_below (by (with_reducible repeat (first | apply Kd.V_alloc | apply Kd.V_drewN | apply Kd.V_drew)); exact HO_0.out) hb); replace HO_5 := ak (Kd.V_below (by (with_reducible repeat (first | apply Kd.V_alloc | apply Kd.V_drewN | apply Kd.V_drew)); exact HO_5.out) hb); replace HO_10 := ak (Kd.S_below (by (with_reducible repeat (first | apply Kd.S_alloc | apply Kd.S_drewN | apply Kd.S_drew)); exact HO_10.out) hb); replace HL606_0 := ak (Kd.R_below (rD (HL606_0.out)) hb); replace HR606_0 := ak (Kd.C_below (by repeat (first | (with_reducible exact HR606_0.out) | (with_reducible refine Kd.C_alloc ?_ _) | (with_reducible refine Kd.C_drewN ?_ _) | (with_reducible refine Kd.C_drew ?_) | exact HR606_0.out)) hb); replace HB := kH _ hb; (try clear hb); (try clear hb2); (try clear hk); (try clear hi)))
    go_roundg k1
    case measure => have := HK1.out; omega
    case rel => exact ⟨(x5_1), (wrap64 (x12_1 + 1)), (by first | rfl | (simp; done) | (simp [*]; done)), H', ⟨by have := HK1.out; omega⟩, ⟨by (with_reducible repeat (first | apply Kd.V_alloc | apply Kd.V_drewN | apply Kd.V_drew)); exact HO_0.out⟩, ⟨by (with_reducible repeat (first | apply Kd.V_alloc | apply Kd.V_drewN | apply Kd.V_drew)); exact HO_5.out⟩, HN, ⟨by (with_reducible repeat (first | apply Kd.S_alloc | apply Kd.S_drewN | apply Kd.S_drew)); exact HO_10.out⟩, ⟨hbC _⟩⟩
   subst c18
   have H1 : (if 1 ≤ (rd_L1 t603 x12_1).length then (congouref01_Join.l0 k1 l0 l1 (rd_L1 t603 x12_1) t603 (t603.length : Int) (wrap64 (x12_1 + 1))) else none) = some r := by rw [if_pos rfl] at H; exact H
   clear H
   have H := H1
   clear H1
   have hne9 : 1 ≤ (rd_L1 t603 x12_1).length := by
    by_cases h_ : 1 ≤ (rd_L1 t603 x12_1).length
    ·exact h_
    rw [if_neg h_] at H; exact absurd H (by simp)
   rw [if_pos hne9] at H
   have HNE := Aside0.mk hne9
   clear hne9
   have H' := Aside0.mk H
   clear H
   have p606 : 0 ≤ (x12_1 : Int) := dA
   have q606 : x12_1 < (t603.length : Int) := dA
   obtain ⟨ad606, A606_0, c606_0, e606, hx606_0, hl606_0, hi606_0⟩ := at_L1 (Kd.S_reads' HO_10.out).2.2 x12_1 p606 q606
   cases e606
   obtain ⟨ce606, hce606, hMe606, hcc606⟩ := Kd.S_get HO_10.out [] x12_1 p606 (by first | exact q606 | exact dA | (have e_ := (Kd.S_reads' HO_10.out).1; omega))
   obtain ⟨ve606_0, rfl, ge606_0⟩ := hMe606
   have hv606_0 := hcc606 0 _ rfl
   rw [Nat.add_zero, show ((Kd.slice 3 (Kd.int .i64))).sz = 1 from rfl, Nat.mul_one] at hv606_0
   replace hv606_0 := Option.some.inj (hv606_0.symm.trans hx606_0)
   rw [hv606_0] at ge606_0
   have HL606_0 := ak (show Kd.R (Kd.int .i64) 3 _ _ _ _ (rd_L1 t603 x12_1) from ge606_0)
   clear hv606_0 ge606_0
   clear hcc606 hce606
   have HR606_0 := Aside0.mk hi606_0
   have HC606_0 := Aside0.mk hl606_0
   obtain ⟨adB, eB, _⟩ := HR606_0.out.2.2 (by have := HNE.out; omega)
   have HAB := Aside0.mk eB
   clear eB
   clear hi606_0 hl606_0
   replace p606 := eq_true p606
   replace q606 := eq_true q606
   go_wp2_with (first | ((with_reducible refine gate_callee (f := 24) rfl ?_); refine gL 18 Try.func24 #[.slice A606_0 (rd_L1 t603 x12_1).length c606_0, .slice A0 l0.length c0] ?_; (with_reducible refine (congouref01_Uneven.calls k1 _ _ (rd_L1 t603 x12_1) _ _ l0 true _ ?side1 ?side2 ?side3 ?side4 A10.out).mono ?_); (case side1 => repeat (first | exact (by repeat (first | (with_reducible exact HR606_0.out) | (with_reducible refine Kd.C_alloc ?_ _) | (with_reducible refine Kd.C_drewN ?_ _) | (with_reducible refine Kd.C_drew ?_) | exact HR606_0.out)) | (with_reducible refine Kd.C_alloc ?_ _) | (with_reducible refine Kd.C_drewN ?_ _) | (with_reducible refine Kd.C_drew ?_))); (case side2 => exact HC606_0.out); (case side3 => repeat (first | exact (Kd.V_reads' HO_0.out).2.2 | (with_reducible refine Kd.C_alloc ?_ _) | (with_reducible refine Kd.C_drewN ?_ _) | (with_reducible refine Kd.C_drew ?_))); (case side4 => exact (Kd.V_reads' HO_0.out).2.1); rintro e w19 ⟨rfl, hb⟩; refine ⟨_, rfl, ?_⟩; replace HO_0 := ak (Kd.V_below (by (with_reducible repeat (first | apply Kd.V_alloc | apply Kd.V_drewN | apply Kd.V_drew)); exact HO_0.out) hb); replace HO_5 := ak (Kd.V_below (by (with_reducible repeat (first | apply Kd.V_alloc | apply Kd.V_drewN | apply Kd.V_drew)); exact HO_5.out) hb); replace HO_10 := ak (Kd.S_below (by (with_reducible repeat (first | apply Kd.S_alloc | apply Kd.S_drewN | apply Kd.S_drew)); exact HO_10.out) hb); replace HL606_0 := ak (Kd.R_below (rD (HL606_0.out)) hb); replace HR606_0 := ak (Kd.C_below (by repeat (first | (with_reducible exact HR606_0.out) | (with_reducible refine Kd.C_alloc ?_ _) | (with_reducible refine Kd.C_drewN ?_ _) | (with_reducible refine Kd.C_drew ?_) | exact HR606_0.out)) hb); replace HB := kH _ hb; (try clear hb); (try clear hb2); (try clear hk); (try clear hi)) | (go_at_call 24; (with_reducible refine (congouref01_Uneven.calls k1 _ _ (rd_L1 t603 x12_1) _ _ l1 true _ ?side1 ?side2 ?side3 ?side4 A12.out).mono ?_); (case side1 => repeat (first | exact (by repeat (first | (with_reducible exact HR606_0.out) | (with_reducible refine Kd.C_alloc ?_ _) | (with_reducible refine Kd.C_drewN ?_ _) | (with_reducible refine Kd.C_drew ?_) | exact HR606_0.out)) | (with_reducible refine Kd.C_alloc ?_ _) | (with_reducible refine Kd.C_drewN ?_ _) | (with_reducible refine Kd.C_drew ?_))); (case side2 => exact HC606_0.out); (case side3 => exact kC HR1); (case side4 => exact HC1.out); rintro e w20 ⟨rfl, hb⟩; replace HO_0 := ak (Kd.V_below (by (with_reducible repeat (first | apply Kd.V_alloc | apply Kd.V_drewN | apply Kd.V_drew)); exact HO_0.out) hb); replace HO_5 := ak (Kd.V_below (by (with_reducible repeat (first | apply Kd.V_alloc | apply Kd.V_drewN | apply Kd.V_drew)); exact HO_5.out) hb); replace HO_10 := ak (Kd.S_below (by (with_reducible repeat (first | apply Kd.S_alloc | apply Kd.S_drewN | apply Kd.S_drew)); exact HO_10.out) hb); replace HL606_0 := ak (Kd.R_below (rD (HL606_0.out)) hb); replace HR606_0 := ak (Kd.C_below (by repeat (first | (with_reducible exact HR606_0.out) | (with_reducible refine Kd.C_alloc ?_ _) | (with_reducible refine Kd.C_drewN ?_ _) | (with_reducible refine Kd.C_drew ?_) | exact HR606_0.out)) hb); replace HB := kH _ hb; (try clear hb); (try clear hb2); (try clear hk); (try clear hi)) | (go_at_call 24; (with_reducible refine (congouref01_Uneven.calls k1 _ _ x5_1 _ _ (rd_L1 t603 x12_1) true _ ?side1 ?side2 ?side3 ?side4 A17.out).mono ?_); (case side1 => repeat (first | exact (Kd.V_reads' HO_5.out).2.2 | (with_reducible refine Kd.C_alloc ?_ _) | (with_reducible refine Kd.C_drewN ?_ _) | (with_reducible refine Kd.C_drew ?_))); (case side2 => exact (Kd.V_reads' HO_5.out).2.1); (case side3 => repeat (first | exact (by repeat (first | (with_reducible exact HR606_0.out) | (with_reducible refine Kd.C_alloc ?_ _) | (with_reducible refine Kd.C_drewN ?_ _) | (with_reducible refine Kd.C_drew ?_) | exact HR606_0.out)) | (with_reducible refine Kd.C_alloc ?_ _) | (with_reducible refine Kd.C_drewN ?_ _) | (with_reducible refine Kd.C_drew ?_))); (case side4 => exact HC606_0.out); rintro e w22 ⟨rfl, hb⟩; replace HO_0 := ak (Kd.V_below (by (with_reducible repeat (first | apply Kd.V_alloc | apply Kd.V_drewN | apply Kd.V_drew)); exact HO_0.out) hb); replace HO_5 := ak (Kd.V_below (by (with_reducible repeat (first | apply Kd.V_alloc | apply Kd.V_drewN | apply Kd.V_drew)); exact HO_5.out) hb); replace HO_10 := ak (Kd.S_below (by (with_reducible repeat (first | apply Kd.S_alloc | apply Kd.S_drewN | apply Kd.S_drew)); exact HO_10.out) hb); replace HL606_0 := ak (Kd.R_below (rD (HL606_0.out)) hb); replace HR606_0 := ak (Kd.C_below (by repeat (first | (with_reducible exact HR606_0.out) | (with_reducible refine Kd.C_alloc ?_ _) | (with_reducible refine Kd.C_drewN ?_ _) | (with_reducible refine Kd.C_drew ?_) | exact HR606_0.out)) hb); replace HB := kH _ hb; (try clear hb); (try clear hb2); (try clear hk); (try clear hi)))
   go_roundg k1
   case measure => have := HK1.out; omega
   case rel => exact ⟨(rd_L1 t603 x12_1), (wrap64 (x12_1 + 1)), (by first | rfl | (simp; done) | (simp [*]; done)), H', ⟨by have := HK1.out; omega⟩, ⟨by (with_reducible repeat (first | apply Kd.V_alloc | apply Kd.V_drewN | apply Kd.V_drew)); exact HO_0.out⟩, ⟨Kd.V_mono (Kd.R_V (rD (HL606_0.out))) (fun k_ hk => ⟨.inr hk.1, hk.2⟩)⟩, ⟨.inr ⟨by have := HNE.out; intro h_; rw [h_] at this; simp at this, adB, _, _, by rw [HAB.out]⟩⟩, ⟨by (with_reducible repeat (first | apply Kd.S_alloc | apply Kd.S_drewN | apply Kd.S_drew)); exact HO_10.out⟩, ⟨hbC _⟩⟩

end Go.Proofs.Ytefmafbbnkkpjaa.X
