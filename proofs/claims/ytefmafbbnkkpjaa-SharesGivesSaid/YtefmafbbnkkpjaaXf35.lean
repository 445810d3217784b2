-- Written by a program of this work (wip/xprint.py, over the kit's printer) out of the translation.
import Derived.Test.YtefmafbbnkkpjaaX0
import Derived.Test.YtefmafbbnkkpjaaXG1a
import Derived.Test.YtefmafbbnkkpjaaXG2a
import Derived.Test.YtefmafbbnkkpjaaXf74
namespace Go.Proofs.Ytefmafbbnkkpjaa.X
open Go.RowKit Go.Proofs.YtefmafbbnkkpjaaW.PrintWords Go.Proofs.YtefmafbbnkkpjaaW.PrintLast Go.Proofs.YtefmafbbnkkpjaaW.PrintMore
attribute [local go_sem] max2_int min2_int max_two min_two max_three min_three max_four min_four   -- for this text's walks alone
set_option linter.unusedVariables false
set_option linter.unusedSimpArgs false

/-! ### shares_CheckGives: function 35 -/
def shares_CheckGives.l0 : Nat → List Int → List Int → List (S77) → Int → Int → Option (Bool × Int)
 | 0, _, _, _, _, _ => none
 | k + 1, x1, x8, x18, x19, x20 => if x20 < x19 then (if 0 ≤ x20 then (if x20 < (x18.length : Int) then ((shares_Give_do.f ((rd_T77 x18 x20).f0) ((rd_T77 x18 x20).f1) ((rd_T77 x18 x20).f2) x8).bind fun bt257 => (if bt257.1 = true then (shares_CheckGives.l0 k x1 bt257.2 x18 x19 (wrap64 (x20 + 1))) else (some (false, 0)))) else (none)) else (none)) else ((slices_Equal_int_int.f k x8 x1).bind fun t259 => (some (t259, 0)))
def shares_CheckGives.f (k : Nat) (l0 : List Int) (l1 : List Int) (l2 : List (S77)) : Option (Bool × Int) := (shares_are.f k (([l0, l1] : List (List Int)))).bind fun t251 => (if t251 = true then ((slices_Clone_int_int.f l0).bind fun t252 => (shares_CheckGives.l0 k l1 t252 l2 (l2.length : Int) 0)) else (some (false, 2)))
theorem shares_CheckGives.mono_l : ∀ k, (∀ y0 y1 y2 y3 y4, LeO (shares_CheckGives.l0 k y0 y1 y2 y3 y4) (shares_CheckGives.l0 (k + 1) y0 y1 y2 y3 y4))
 | 0 => fun _ _ _ _ _ r h => by simp [shares_CheckGives.l0] at h
 | k + 1 => by
  have ih0 := shares_CheckGives.mono_l k
  ·intro y0 y1 y2 y3 y4
   unfold shares_CheckGives.l0
   repeat' first
   | (with_reducible exact ih0 _ _ _ _ _)
   | (with_reducible exact shares_are.mono _ _)
   | (with_reducible exact slices_Equal_int_int.mono _ _ _)
   | (with_reducible exact LeO.refl _)
   | (with_reducible exact LeO.none _)
   | (with_reducible refine LeO.ite ?_ ?_)
   | (with_reducible refine LeO.bind ?_ (fun _ => ?_))
   | exact ih0 _ _ _ _ _
   | exact shares_are.mono _ _
   | exact slices_Equal_int_int.mono _ _ _
   | exact LeO.none _
   | refine LeO.ite ?_ ?_
   | refine LeO.bind ?_ (fun _ => ?_)
theorem shares_CheckGives.mono : ∀ a0 a1 a2 k, LeO (shares_CheckGives.f k a0 a1 a2) (shares_CheckGives.f (k + 1) a0 a1 a2) := by
 intro a0 a1 a2 k
 have ih0 := shares_CheckGives.mono_l k
 unfold shares_CheckGives.f
 repeat' first
   | (with_reducible exact ih0 _ _ _ _ _)
   | (with_reducible exact shares_are.mono _ _)
   | (with_reducible exact slices_Equal_int_int.mono _ _ _)
   | (with_reducible exact LeO.refl _)
   | (with_reducible exact LeO.none _)
   | (with_reducible refine LeO.ite ?_ ?_)
   | (with_reducible refine LeO.bind ?_ (fun _ => ?_))
   | exact ih0 _ _ _ _ _
   | exact shares_are.mono _ _
   | exact slices_Equal_int_int.mono _ _ _
   | exact LeO.none _
   | refine LeO.ite ?_ ?_
   | refine LeO.bind ?_ (fun _ => ?_)
set_option maxHeartbeats 8000000 in
set_option maxRecDepth 100000 in
theorem shares_CheckGives.calls (k : Nat) (P0_ : Nat → Prop) (A0 : Option Addr) (c0 : Nat) (l0 : List Int) (P1_ : Nat → Prop) (A1 : Option Addr) (c1 : Nat) (l1 : List Int) (A2 : Option Addr) (c2 : Nat) (l2 : List (S77)) (r1 : Bool) (r2 : Int) (w : World) (hs0 : Kd.V (Kd.int .i64) 3 w w.heap.size (fun k_ => P0_ k_) (.slice A0 l0.length c0) l0) (hs1 : Kd.V (Kd.int .i64) 3 w w.heap.size (fun k_ => P1_ k_) (.slice A1 l1.length c1) l1) (hr2 : Kd.C k77 w A2 l2.length l2) (hc2 : l2.length ≤ c2) (h : shares_CheckGives.f k l0 l1 l2 = some (r1, r2)) :
  Calls Try.prog 35 #[.slice A0 l0.length c0, .slice A1 l1.length c1, .slice A2 l2.length c2] w fun e w' => e = .returned (.tuple #[.bool r1, .int .i64 r2]) ∧ Below w.heap.size w w' := by
 have hu77 := Try.underlying77
 have HO0 := ak (show Kd.V (Kd.int .i64) 3 w w.heap.size (fun k_ => ((P0_ k_ ∨ P1_ k_) ∨ w.heap.size ≤ k_)) (.slice A0 l0.length c0) l0 from Kd.V_mono hs0 (fun k_ hk => .inl (.inl hk)))
 have HO1 := ak (show Kd.V (Kd.int .i64) 3 w w.heap.size (fun k_ => ((P0_ k_ ∨ P1_ k_) ∨ w.heap.size ≤ k_)) (.slice A1 l1.length c1) l1 from Kd.V_mono hs1 (fun k_ hk => .inl (.inr hk)))
 have HR2 := Aside0.mk hr2
 have HC2 := Aside0.mk hc2
 clear hr2 hc2
 have HB := ak (Below.refl w.heap.size w)
 have H : ((shares_are.f k (([l0, l1] : List (List Int)))).bind fun t251 => (if t251 = true then ((slices_Clone_int_int.f l0).bind fun t252 => (shares_CheckGives.l0 k l1 t252 l2 (l2.length : Int) 0)) else (some (false, 2)))) = some (r1, r2) := h
 clear h
 obtain ⟨y248, hy248⟩ : ∃ y_ : List (List Int), y_ = (([l0, l1] : List (List Int))) := ⟨_, rfl⟩
 replace H : ((shares_are.f k y248).bind fun t251 => (if t251 = true then ((slices_Clone_int_int.f l0).bind fun t252 => (shares_CheckGives.l0 k l1 t252 l2 (l2.length : Int) 0)) else (some (false, 2)))) = some (r1, r2) := by first | (rw [hy248]; with_reducible exact H) | (have H2_ := (Option.bind_some _ _).symm.trans H; rw [hy248]; with_reducible exact H2_) | (have H2_ := (Option.bind_some _ _).symm.trans H; with_reducible exact H2_) | with_reducible exact H | (rw [hy248]; exact H) | exact H
 have Ny248 := Aside0.mk hy248
 clear hy248
 replace H := Option.bind_eq_some_iff.mp H
 obtain ⟨t251, A40, H⟩ := H
 replace H : (if t251 = true then ((slices_Clone_int_int.f l0).bind fun t252 => (shares_CheckGives.l0 k l1 t252 l2 (l2.length : Int) 0)) else (some (false, 2))) = some (r1, r2) := H
 have A4 := Aside0.mk A40
 clear A40
 by_cases c5 : t251 = true
 rotate_left
 ·replace c5 := Bool.eq_false_iff.mpr c5
  subst c5
  have H1 : (some (false, 2)) = some (r1, r2) := by rw [if_neg (show ¬ (false = true) by decide)] at H; exact H
  clear H
  have H := H1
  clear H1
  simp only [Option.some.injEq, Prod.mk.injEq] at H
  obtain ⟨rfl, rfl⟩ := H
  go_enter Try.func35, Try.ntmps35
  go_wp2_with (first | ((with_reducible refine gate_dst (N := 13) rfl ?_); refine Kd.N_lit (Kd.slice 3 (Kd.int .i64)) _ 22 ?hg (N' := 13) ?hd (xs := ([l0, l1] : List (List Int))) (inner := [.slice A0 l0.length c0, .slice A1 l1.length c1]) (ok := (fun k_ => ((P0_ k_ ∨ P1_ k_) ∨ w.heap.size ≤ k_))) (okp := (fun k_ => ((P0_ k_ ∨ P1_ k_) ∨ w.heap.size ≤ k_))) ?hr ?hp (fun _ hk => hk) ((show ∀ k_, w.heap.size ≤ k_ → (fun k_ => ((P0_ k_ ∨ P1_ k_) ∨ w.heap.size ≤ k_)) k_ from fun k_ hk => (.inr (Nat.le_trans (below_size (hbC _)) hk))) _ (Nat.le_refl _)) (Below.refl _ _) (Nat.le_refl _) (by simp) ?_; (case hd => rfl); (case hg => rfl); (case hr => first | (go_simp; done) | (go_simp; rfl)); (case hp => exact (Reps.one (show Kd.FK (Kd.slice 3 (Kd.int .i64)) _ _ l0 [.slice A0 l0.length c0] from (Kd.FK_slice_mk (Kd.V_reads' (Kd.V_mono (ok' := (fun k_ => ((P0_ k_ ∨ P1_ k_) ∨ w.heap.size ≤ k_))) (HO0.out) (fun k_ hk => hk))).2.1 (Kd.V_F (Kd.V_mono (ok' := (fun k_ => ((P0_ k_ ∨ P1_ k_) ∨ w.heap.size ≤ k_))) (HO0.out) (fun k_ hk => hk))))) (Reps.one (show Kd.FK (Kd.slice 3 (Kd.int .i64)) _ _ l1 [.slice A1 l1.length c1] from (Kd.FK_slice_mk (Kd.V_reads' (Kd.V_mono (ok' := (fun k_ => ((P0_ k_ ∨ P1_ k_) ∨ w.heap.size ≤ k_))) (HO1.out) (fun k_ hk => hk))).2.1 (Kd.V_F (Kd.V_mono (ok' := (fun k_ => ((P0_ k_ ∨ P1_ k_) ∨ w.heap.size ≤ k_))) (HO1.out) (fun k_ hk => hk))))) (Reps.none _ _)))); intro v249 w31 ho32 hb hg_ hnew_; clear hg_ hnew_; (first | rw [← Ny248.out] at ho32 | (simp only [Int.reduceToNat] at ho32; rw [← Ny248.out] at ho32)); replace HO0 := ak (Kd.V_elder' (by (with_reducible repeat (first | apply Kd.V_alloc | apply Kd.V_drewN | apply Kd.V_drew)); exact HO0.out) (Kd.N_base ho32) hb); replace HO1 := ak (Kd.V_elder' (by (with_reducible repeat (first | apply Kd.V_alloc | apply Kd.V_drewN | apply Kd.V_drew)); exact HO1.out) (Kd.N_base ho32) hb); have HO250 := ak (Kd.N_lower ho32 (below_size (hbC _))); replace HB := kH _ hb; clear hb ho32; obtain ⟨Ao33, co33, eo33⟩ := Kd.N_slice HO250.out; subst eo33) | ((with_reducible refine gate_callee (f := 59) rfl ?_); refine gL 14 Try.func59 #[.slice Ao33 y248.length co33] ?_; (with_reducible refine (shares_are.calls k _ _ y248 false _ ?side1 ?side2 A4.out).mono ?_); (case side1 => repeat (first | exact (Kd.N_reads' HO250.out).2.2 | (with_reducible refine Kd.C_alloc ?_ _) | (with_reducible refine Kd.C_drewN ?_ _) | (with_reducible refine Kd.C_drew ?_))); (case side2 => exact (Kd.N_reads' HO250.out).2.1); rintro e w34 ⟨rfl, hb⟩; refine ⟨_, rfl, ?_⟩; replace HO0 := ak (Kd.V_below (by (with_reducible repeat (first | apply Kd.V_alloc | apply Kd.V_drewN | apply Kd.V_drew)); exact HO0.out) hb); replace HO1 := ak (Kd.V_below (by (with_reducible repeat (first | apply Kd.V_alloc | apply Kd.V_drewN | apply Kd.V_drew)); exact HO1.out) hb); replace HO250 := ak (Kd.N_below (by (with_reducible repeat (first | apply Kd.N_alloc | apply Kd.N_drewN | apply Kd.N_drew)); exact HO250.out) hb); replace HB := kH _ hb; (try clear hb); (try clear hb2); (try clear hk); (try clear hi)))
  go_ret2
  exact ⟨by first | rfl | (simp [errW_none, errW_some] <;> rfl) | (simp [*, errW_none, errW_some] <;> rfl), hbC _⟩
 subst c5
 have H1 : ((slices_Clone_int_int.f l0).bind fun t252 => (shares_CheckGives.l0 k l1 t252 l2 (l2.length : Int) 0)) = some (r1, r2) := by rw [if_pos rfl] at H; exact H
 clear H
 have H := H1
 clear H1
 replace H := Option.bind_eq_some_iff.mp H
 obtain ⟨t252, A60, H⟩ := H
 replace H : (shares_CheckGives.l0 k l1 t252 l2 (l2.length : Int) 0) = some (r1, r2) := H
 have A6 := Aside0.mk A60
 clear A60
 have H' := Aside0.mk H
 clear H
 go_enter Try.func35, Try.ntmps35
 go_wp2_with (first | ((with_reducible refine gate_dst (N := 13) rfl ?_); refine Kd.N_lit (Kd.slice 3 (Kd.int .i64)) _ 22 ?hg (N' := 13) ?hd (xs := ([l0, l1] : List (List Int))) (inner := [.slice A0 l0.length c0, .slice A1 l1.length c1]) (ok := (fun k_ => ((P0_ k_ ∨ P1_ k_) ∨ w.heap.size ≤ k_))) (okp := (fun k_ => ((P0_ k_ ∨ P1_ k_) ∨ w.heap.size ≤ k_))) ?hr ?hp (fun _ hk => hk) ((show ∀ k_, w.heap.size ≤ k_ → (fun k_ => ((P0_ k_ ∨ P1_ k_) ∨ w.heap.size ≤ k_)) k_ from fun k_ hk => (.inr (Nat.le_trans (below_size (hbC _)) hk))) _ (Nat.le_refl _)) (Below.refl _ _) (Nat.le_refl _) (by simp) ?_; (case hd => rfl); (case hg => rfl); (case hr => first | (go_simp; done) | (go_simp; rfl)); (case hp => exact (Reps.one (show Kd.FK (Kd.slice 3 (Kd.int .i64)) _ _ l0 [.slice A0 l0.length c0] from (Kd.FK_slice_mk (Kd.V_reads' (Kd.V_mono (ok' := (fun k_ => ((P0_ k_ ∨ P1_ k_) ∨ w.heap.size ≤ k_))) (HO0.out) (fun k_ hk => hk))).2.1 (Kd.V_F (Kd.V_mono (ok' := (fun k_ => ((P0_ k_ ∨ P1_ k_) ∨ w.heap.size ≤ k_))) (HO0.out) (fun k_ hk => hk))))) (Reps.one (show Kd.FK (Kd.slice 3 (Kd.int .i64)) _ _ l1 [.slice A1 l1.length c1] from (Kd.FK_slice_mk (Kd.V_reads' (Kd.V_mono (ok' := (fun k_ => ((P0_ k_ ∨ P1_ k_) ∨ w.heap.size ≤ k_))) (HO1.out) (fun k_ hk => hk))).2.1 (Kd.V_F (Kd.V_mono (ok' := (fun k_ => ((P0_ k_ ∨ P1_ k_) ∨ w.heap.size ≤ k_))) (HO1.out) (fun k_ hk => hk))))) (Reps.none _ _)))); intro v249 w7 ho8 hb hg_ hnew_; clear hg_ hnew_; (first | rw [← Ny248.out] at ho8 | (simp only [Int.reduceToNat] at ho8; rw [← Ny248.out] at ho8)); replace HO0 := ak (Kd.V_elder' (by (with_reducible repeat (first | apply Kd.V_alloc | apply Kd.V_drewN | apply Kd.V_drew)); exact HO0.out) (Kd.N_base ho8) hb); replace HO1 := ak (Kd.V_elder' (by (with_reducible repeat (first | apply Kd.V_alloc | apply Kd.V_drewN | apply Kd.V_drew)); exact HO1.out) (Kd.N_base ho8) hb); have HO250 := ak (Kd.N_lower ho8 (below_size (hbC _))); replace HB := kH _ hb; clear hb ho8; obtain ⟨Ao9, co9, eo9⟩ := Kd.N_slice HO250.out; subst eo9) | ((with_reducible refine gate_callee (f := 59) rfl ?_); refine gL 14 Try.func59 #[.slice Ao9 y248.length co9] ?_; (with_reducible refine (shares_are.calls k _ _ y248 true _ ?side1 ?side2 A4.out).mono ?_); (case side1 => repeat (first | exact (Kd.N_reads' HO250.out).2.2 | (with_reducible refine Kd.C_alloc ?_ _) | (with_reducible refine Kd.C_drewN ?_ _) | (with_reducible refine Kd.C_drew ?_))); (case side2 => exact (Kd.N_reads' HO250.out).2.1); rintro e w10 ⟨rfl, hb⟩; refine ⟨_, rfl, ?_⟩; replace HO0 := ak (Kd.V_below (by (with_reducible repeat (first | apply Kd.V_alloc | apply Kd.V_drewN | apply Kd.V_drew)); exact HO0.out) hb); replace HO1 := ak (Kd.V_below (by (with_reducible repeat (first | apply Kd.V_alloc | apply Kd.V_drewN | apply Kd.V_drew)); exact HO1.out) hb); replace HO250 := ak (Kd.N_below (by (with_reducible repeat (first | apply Kd.N_alloc | apply Kd.N_drewN | apply Kd.N_drew)); exact HO250.out) hb); replace HB := kH _ hb; (try clear hb); (try clear hb2); (try clear hk); (try clear hi)) | ((with_reducible refine gate_callee (f := 42) rfl ?_); refine gL 17 Try.func42 #[.slice A0 l0.length c0] ?_; (with_reducible refine (slices_Clone_int_int.calls _ _ l0 t252 _ ?side1 ?side2 A6.out).mono ?_); (case side1 => repeat (first | exact (Kd.V_reads' HO0.out).2.2 | (with_reducible refine Kd.C_alloc ?_ _) | (with_reducible refine Kd.C_drewN ?_ _) | (with_reducible refine Kd.C_drew ?_))); (case side2 => exact (Kd.V_reads' HO0.out).2.1); rintro e w11 ⟨v253, rfl, ho0, hb⟩; refine ⟨_, rfl, ?_⟩; replace HO0 := ak (Kd.V_elder' (by (with_reducible repeat (first | apply Kd.V_alloc | apply Kd.V_drewN | apply Kd.V_drew)); exact HO0.out) (Kd.R_base ho0) hb); replace HO1 := ak (Kd.V_elder' (by (with_reducible repeat (first | apply Kd.V_alloc | apply Kd.V_drewN | apply Kd.V_drew)); exact HO1.out) (Kd.R_base ho0) hb); replace HO250 := ak (Kd.N_elder' (by (with_reducible repeat (first | apply Kd.N_alloc | apply Kd.N_drewN | apply Kd.N_drew)); exact HO250.out) (Kd.R_base ho0) hb); have HO254 := ak (Kd.R_lower (Kd.R_newM (M := fun k_ => (w.heap.size ≤ k_)) ho0 (below_size (hbC _)) (fun k_ h_ => h_)) (below_size (hbC _))); replace HB := kH _ hb; (try clear hb); (try clear hb2); (try clear hk); (try clear hi); (try clear ho0)))
 go_loopg [20] k (fun kq v20 w' => ∃ (x8_1 : List Int) (x20_1 : Int), v20 = .int .i64 x20_1 ∧ Aside0 (shares_CheckGives.l0 kq l1 x8_1 l2 (l2.length : Int) x20_1 = some (r1, r2)) ∧ Aside0 (kq ≤ k) ∧ Aside0 (Kd.V (Kd.int .i64) 3 w' w.heap.size (fun k_ => ((P0_ k_ ∨ P1_ k_) ∨ w.heap.size ≤ k_) ∧ nb k_ v253) (.slice A1 l1.length c1) l1) ∧ Aside0 (Kd.R (Kd.int .i64) 3 w' w.heap.size (fun k_ => (w.heap.size ≤ k_)) v253 x8_1) ∧ Aside0 (Below w.heap.size w w'))
 case atStart => exact ⟨(t252), (0), (by first | rfl | (simp; done) | (simp [*]; done)), H', ⟨Nat.le_refl _⟩, ⟨by (with_reducible repeat (first | apply Kd.V_alloc | apply Kd.V_drewN | apply Kd.V_drew)); exact Kd.V_mono HO1.out (fun _ hk => ⟨hk.1.1, hk.2⟩)⟩, ⟨rD (Kd.R_mono HO254.out (fun _ hk => hk.1))⟩, ⟨hbC _⟩⟩
 case round =>
  clear H'
  try clear c1
  try clear c2
  try clear p2
  try clear c3
  try clear c4
  try clear c5
  obtain ⟨x8_1, x20_1, rfl, HA, HK1, HO_1, HO_8, HB⟩ := hrel
  cases gk with
  | zero => exact absurd HA.out (by simp [shares_CheckGives.l0])
  | succ k1 =>
   have H := HA.out
   clear HA
   simp only [shares_CheckGives.l0] at H
   by_cases c12 : x20_1 < (l2.length : Int)
   rotate_left
   ·rw [if_neg c12] at H
    have c12b0 : decide (x20_1 < (l2.length : Int)) = false := decide_eq_false c12
    clear c12
    replace H := Option.bind_eq_some_iff.mp H
    obtain ⟨t259, A290, H⟩ := H
    replace H : (some (t259, 0)) = some (r1, r2) := H
    have A29 := Aside0.mk A290
    clear A290
    simp only [Option.some.injEq, Prod.mk.injEq] at H
    obtain ⟨rfl, rfl⟩ := H
    obtain ⟨Ao30, co30, eo30⟩ := Kd.R_slice HO_8.out
    subst eo30
    go_wp2_with (first | ((with_reducible refine gate_callee (f := 31) rfl ?_); refine gL 31 Try.func31 #[.slice Ao30 x8_1.length co30, .slice A1 l1.length c1] ?_; (with_reducible refine (slices_Equal_int_int.calls k1 _ _ x8_1 _ _ l1 t259 _ ?side1 ?side2 ?side3 ?side4 A29.out).mono ?_); (case side1 => exact kD (Kd.R_reads' HO_8.out).2.2); (case side2 => exact (Kd.R_reads' HO_8.out).2.1); (case side3 => repeat (first | exact (Kd.V_reads' HO_1.out).2.2 | (with_reducible refine Kd.C_alloc ?_ _) | (with_reducible refine Kd.C_drewN ?_ _) | (with_reducible refine Kd.C_drew ?_))); (case side4 => exact (Kd.V_reads' HO_1.out).2.1); rintro e w' ⟨rfl, ⟨nd, rfl⟩⟩; refine ⟨_, rfl, ?_⟩))
    go_ret2
    exact ⟨by first | rfl | (simp [errW_none, errW_some] <;> rfl) | (simp [*, errW_none, errW_some] <;> rfl), hbC _⟩
   rw [if_pos c12] at H
   have c12b0 : decide (x20_1 < (l2.length : Int)) = true := decide_eq_true c12
   clear c12
   by_cases c13 : 0 ≤ x20_1
   rotate_left
   ·rw [if_neg c13] at H
    exact absurd H (by simp)
   rw [if_pos c13] at H
   have c13b0 : decide (0 ≤ x20_1) = true := decide_eq_true c13
   clear c13
   by_cases c14 : x20_1 < (l2.length : Int)
   rotate_left
   ·rw [if_neg c14] at H
    exact absurd H (by simp)
   rw [if_pos c14] at H
   have c14b0 : decide (x20_1 < (l2.length : Int)) = true := decide_eq_true c14
   clear c14
   replace H := Option.bind_eq_some_iff.mp H
   obtain ⟨⟨t257, t258⟩, A150, H⟩ := H
   replace H : (if t257 = true then (shares_CheckGives.l0 k1 l1 t258 l2 (l2.length : Int) (wrap64 (x20_1 + 1))) else (some (false, 0))) = some (r1, r2) := H
   have A15 := Aside0.mk A150
   clear A150
   by_cases c16 : t257 = true
   rotate_left
   ·replace c16 := Bool.eq_false_iff.mpr c16
    subst c16
    have H1 : (some (false, 0)) = some (r1, r2) := by rw [if_neg (show ¬ (false = true) by decide)] at H; exact H
    clear H
    have H := H1
    clear H1
    simp only [Option.some.injEq, Prod.mk.injEq] at H
    obtain ⟨rfl, rfl⟩ := H
    have p255 : 0 ≤ (x20_1 : Int) := dA
    have q255 : x20_1 < (l2.length : Int) := dA
    obtain ⟨ad255, e255, hx255_0, hx255_1, hx255_2⟩ := at_T77 HR2.out x20_1 p255 q255
    cases e255
    try replace hx255_0 := (HB.out.cell (World.block_lt_of_cell? w _ hx255_0)).trans hx255_0
    try replace hx255_1 := (HB.out.cell (World.block_lt_of_cell? w _ hx255_1)).trans hx255_1
    try replace hx255_2 := (HB.out.cell (World.block_lt_of_cell? w _ hx255_2)).trans hx255_2
    replace p255 := eq_true p255
    replace q255 := eq_true q255
    go_wp2_with (first | ((with_reducible refine gate_dst (N := 10) rfl ?_); refine bE 10 #[.int .i64 0, .int .i64 0, .int .i64 0] 77 ?_; intro gb256 hg w23 hbox hb; replace HO_1 := ak (Kd.V_below (Kd.V_elderB (by (with_reducible repeat (first | apply Kd.V_alloc | apply Kd.V_drewN | apply Kd.V_drew)); exact HO_1.out) gb256 (Nat.le_of_eq hg.symm)) hb); replace HO_8 := kO HO_8 hb; have BK256 := ak (hbox); have GW256 := kG w hg; have GE256 := kG w hg; replace HB := kH _ hb; clear hb hbox hg; have hcz24_0 : w23.cell? ⟨gb256, 0, none⟩ = some (.int .i64 0) := bc BK256 0; have hcz24_1 : w23.cell? ⟨gb256, 1, none⟩ = some (.int .i64 0) := bc BK256 1; have hcz24_2 : w23.cell? ⟨gb256, 2, none⟩ = some (.int .i64 0) := bc BK256 2; have hfz24_0 := fz BK256 0; have hfz24_1 := fz BK256 1; have hfz24_2 := fz BK256 2) | ((with_reducible refine gate_store (t := 77) (p := 10) rfl ?_); refine store_event (t := 77) (p := 10) (v := ?vo_w25) (w1 := (((w23.setCell ⟨gb256, 0, none⟩ (.int .i64 ((rd_T77 l2 x20_1).f0))).setCell ⟨gb256, 1, none⟩ (.int .i64 ((rd_T77 l2 x20_1).f1))).setCell ⟨gb256, 2, none⟩ (.int .i64 ((rd_T77 l2 x20_1).f2)))) ?hg ?ho ?hn ?hr ?_; (case ho => rfl); (case hg => rfl); (case hn => rfl); (case hr => first | (go_simp; done) | (go_simp; rfl)); intro w25 hw; have n0_ : Aside0 (Kd.V (Kd.int .i64) 3 w25 w.heap.size (fun k_ => ((P0_ k_ ∨ P1_ k_) ∨ w.heap.size ≤ k_) ∧ nb k_ v253 ∧ k_ ≠ gb256) (.slice A1 l1.length c1) l1) := ⟨(by rw [hw]; exact (by (with_reducible repeat (first | apply Kd.V_alloc | apply Kd.V_drewN | apply Kd.V_drew)); exact Kd.V_mono (Kd.V_far (p := ⟨gb256, 2, none⟩) (Kd.V_far (p := ⟨gb256, 1, none⟩) (Kd.V_far (p := ⟨gb256, 0, none⟩) (Kd.V_mono HO_1.out (fun k_ hk => (⟨hk, hk.2⟩ : _ ∧ k_ ≠ gb256))) (fun _ hk => hk.2) (.int .i64 ((rd_T77 l2 x20_1).f0))) (fun _ hk => hk.2) (.int .i64 ((rd_T77 l2 x20_1).f1))) (fun _ hk => hk.2) (.int .i64 ((rd_T77 l2 x20_1).f2))) (fun _ hk => ⟨hk.1.1.1, ⟨hk.1.1.2, hk.1.2⟩⟩)))⟩; have n1_ : Aside0 (Kd.R (Kd.int .i64) 3 w25 w.heap.size (fun k_ => (w.heap.size ≤ k_)) v253 x8_1) := ⟨(by rw [hw]; exact (rD (Kd.R_mono (Kd.R_far (p := ⟨gb256, 2, none⟩) (Kd.R_far (p := ⟨gb256, 1, none⟩) (Kd.R_far (p := ⟨gb256, 0, none⟩) (Kd.R_types HO_8.out BK256.out (by decide)) (fun _ hk => hk.2) (.int .i64 ((rd_T77 l2 x20_1).f0))) (fun _ hk => hk.2) (.int .i64 ((rd_T77 l2 x20_1).f1))) (fun _ hk => hk.2) (.int .i64 ((rd_T77 l2 x20_1).f2))) (fun _ hk => hk.1))))⟩; have n2_ : Aside0 (w25.heap[gb256]? = some (.cells #[.int .i64 ((rd_T77 l2 x20_1).f0), .int .i64 ((rd_T77 l2 x20_1).f1), .int .i64 ((rd_T77 l2 x20_1).f2)] 77 (0, 0))) := ⟨(by rw [hw]; exact (by (with_reducible repeat (first | refine blk_drewN ?_ _ | refine blk_drew ?_ | refine blk_alloc ?_ _)); refine blk_put (cs := #[.int .i64 ((rd_T77 l2 x20_1).f0), .int .i64 ((rd_T77 l2 x20_1).f1), .int .i64 0]) ?_ 2 _ rfl; (with_reducible repeat (first | refine blk_drewN ?_ _ | refine blk_drew ?_ | refine blk_alloc ?_ _)); refine blk_put (cs := #[.int .i64 ((rd_T77 l2 x20_1).f0), .int .i64 0, .int .i64 0]) ?_ 1 _ rfl; (with_reducible repeat (first | refine blk_drewN ?_ _ | refine blk_drew ?_ | refine blk_alloc ?_ _)); refine blk_put (cs := #[.int .i64 0, .int .i64 0, .int .i64 0]) ?_ 0 _ rfl; (with_reducible repeat (first | refine blk_drewN ?_ _ | refine blk_drew ?_ | refine blk_alloc ?_ _)); exact BK256.out))⟩; have n3_ : Aside0 (Below w.heap.size w w25) := ⟨(by rw [hw]; exact (hbC _))⟩; clear hw; clear HO_1; clear HO_8; clear BK256; clear HB; have HO_1 := n0_; have HO_8 := n1_; have BK256 := n2_; have HB := n3_; clear n0_ n1_ n2_ n3_; have hcz26_0 : w25.cell? ⟨gb256, 0, none⟩ = some (.int .i64 ((rd_T77 l2 x20_1).f0)) := bc BK256 0; have hcz26_1 : w25.cell? ⟨gb256, 1, none⟩ = some (.int .i64 ((rd_T77 l2 x20_1).f1)) := bc BK256 1; have hcz26_2 : w25.cell? ⟨gb256, 2, none⟩ = some (.int .i64 ((rd_T77 l2 x20_1).f2)) := bc BK256 2; have hfz26_0 := fz BK256 0; have hfz26_1 := fz BK256 1; have hfz26_2 := fz BK256 2; obtain ⟨Ao27, co27, eo27⟩ := Kd.R_slice HO_8.out; subst eo27) | ((with_reducible refine gate_callee (f := 74) rfl ?_); refine gL 26 Try.func74 #[.agg #[.int .i64 ((rd_T77 l2 x20_1).f0), .int .i64 ((rd_T77 l2 x20_1).f1), .int .i64 ((rd_T77 l2 x20_1).f2)], .slice Ao27 x8_1.length co27] ?_; (with_reducible refine (shares_Give_do.calls ((rd_T77 l2 x20_1).f0) ((rd_T77 l2 x20_1).f1) ((rd_T77 l2 x20_1).f2) (fun k_ => some k_ = (.slice Ao27 x8_1.length co27 : Value).ownBlock) (.slice Ao27 x8_1.length co27) x8_1 false t258 w _ ?side1 ?side2 A15.out).mono ?_); (case side1 => repeat (first | (with_reducible first | exact HB.out | apply below_alloc | apply pw_below_drewN | apply below_drew1 | refine below_set ?_ GE256.out) | exact HB.out)); (case side2 => exact Kd.R_tight rfl HO_8.out); rintro e w28 ⟨rfl, hy0, hb, hkp⟩; refine ⟨_, rfl, ?_⟩; replace HO_1 := ak (Kd.V_mono (ok' := fun k_ => ((P0_ k_ ∨ P1_ k_) ∨ w.heap.size ≤ k_) ∧ nb k_ (.slice Ao27 x8_1.length co27) ∧ k_ ≠ gb256) (Kd.V_keptB (HO_1.out) hkp (fun k_ hk_ hs_ => (hk_.2.1) hs_)) (fun k_ hk_ => ⟨hk_.1.1, hk_.1.2.1, hk_.1.2.2⟩)); replace BK256 := ak (blk_kept (bkC BK256) hkp (fun hs_ => (fun e_ => (Kd.R_ne HO_8.out BK256.out (by decide)) e_) hs_)); replace HO_8 := ak (Kd.R_reok rfl hy0 (fun k_ e_ => HO_8.out.1 k_ e_)); replace HB := ak (hb); (try clear hb); (try clear hkp); (try clear hy0)))
    go_ret2
    exact ⟨by first | rfl | (simp [errW_none, errW_some] <;> rfl) | (simp [*, errW_none, errW_some] <;> rfl), hbC _⟩
   subst c16
   have H1 : (shares_CheckGives.l0 k1 l1 t258 l2 (l2.length : Int) (wrap64 (x20_1 + 1))) = some (r1, r2) := by rw [if_pos rfl] at H; exact H
   clear H
   have H := H1
   clear H1
   have H' := Aside0.mk H
   clear H
   have p255 : 0 ≤ (x20_1 : Int) := dA
   have q255 : x20_1 < (l2.length : Int) := dA
   obtain ⟨ad255, e255, hx255_0, hx255_1, hx255_2⟩ := at_T77 HR2.out x20_1 p255 q255
   cases e255
   try replace hx255_0 := (HB.out.cell (World.block_lt_of_cell? w _ hx255_0)).trans hx255_0
   try replace hx255_1 := (HB.out.cell (World.block_lt_of_cell? w _ hx255_1)).trans hx255_1
   try replace hx255_2 := (HB.out.cell (World.block_lt_of_cell? w _ hx255_2)).trans hx255_2
   replace p255 := eq_true p255
   replace q255 := eq_true q255
   go_wp2_with (first | ((with_reducible refine gate_dst (N := 10) rfl ?_); refine bE 10 #[.int .i64 0, .int .i64 0, .int .i64 0] 77 ?_; intro gb256 hg w17 hbox hb; replace HO_1 := ak (Kd.V_below (Kd.V_elderB (by (with_reducible repeat (first | apply Kd.V_alloc | apply Kd.V_drewN | apply Kd.V_drew)); exact HO_1.out) gb256 (Nat.le_of_eq hg.symm)) hb); replace HO_8 := kO HO_8 hb; have BK256 := ak (hbox); have GW256 := kG w hg; have GE256 := kG w hg; replace HB := kH _ hb; clear hb hbox hg; have hcz18_0 : w17.cell? ⟨gb256, 0, none⟩ = some (.int .i64 0) := bc BK256 0; have hcz18_1 : w17.cell? ⟨gb256, 1, none⟩ = some (.int .i64 0) := bc BK256 1; have hcz18_2 : w17.cell? ⟨gb256, 2, none⟩ = some (.int .i64 0) := bc BK256 2; have hfz18_0 := fz BK256 0; have hfz18_1 := fz BK256 1; have hfz18_2 := fz BK256 2) | ((with_reducible refine gate_store (t := 77) (p := 10) rfl ?_); refine store_event (t := 77) (p := 10) (v := ?vo_w19) (w1 := (((w17.setCell ⟨gb256, 0, none⟩ (.int .i64 ((rd_T77 l2 x20_1).f0))).setCell ⟨gb256, 1, none⟩ (.int .i64 ((rd_T77 l2 x20_1).f1))).setCell ⟨gb256, 2, none⟩ (.int .i64 ((rd_T77 l2 x20_1).f2)))) ?hg ?ho ?hn ?hr ?_; (case ho => rfl); (case hg => rfl); (case hn => rfl); (case hr => first | (go_simp; done) | (go_simp; rfl)); intro w19 hw; have n0_ : Aside0 (Kd.V (Kd.int .i64) 3 w19 w.heap.size (fun k_ => ((P0_ k_ ∨ P1_ k_) ∨ w.heap.size ≤ k_) ∧ nb k_ v253 ∧ k_ ≠ gb256) (.slice A1 l1.length c1) l1) := ⟨(by rw [hw]; exact (by (with_reducible repeat (first | apply Kd.V_alloc | apply Kd.V_drewN | apply Kd.V_drew)); exact Kd.V_mono (Kd.V_far (p := ⟨gb256, 2, none⟩) (Kd.V_far (p := ⟨gb256, 1, none⟩) (Kd.V_far (p := ⟨gb256, 0, none⟩) (Kd.V_mono HO_1.out (fun k_ hk => (⟨hk, hk.2⟩ : _ ∧ k_ ≠ gb256))) (fun _ hk => hk.2) (.int .i64 ((rd_T77 l2 x20_1).f0))) (fun _ hk => hk.2) (.int .i64 ((rd_T77 l2 x20_1).f1))) (fun _ hk => hk.2) (.int .i64 ((rd_T77 l2 x20_1).f2))) (fun _ hk => ⟨hk.1.1.1, ⟨hk.1.1.2, hk.1.2⟩⟩)))⟩; have n1_ : Aside0 (Kd.R (Kd.int .i64) 3 w19 w.heap.size (fun k_ => (w.heap.size ≤ k_)) v253 x8_1) := ⟨(by rw [hw]; exact (rD (Kd.R_mono (Kd.R_far (p := ⟨gb256, 2, none⟩) (Kd.R_far (p := ⟨gb256, 1, none⟩) (Kd.R_far (p := ⟨gb256, 0, none⟩) (Kd.R_types HO_8.out BK256.out (by decide)) (fun _ hk => hk.2) (.int .i64 ((rd_T77 l2 x20_1).f0))) (fun _ hk => hk.2) (.int .i64 ((rd_T77 l2 x20_1).f1))) (fun _ hk => hk.2) (.int .i64 ((rd_T77 l2 x20_1).f2))) (fun _ hk => hk.1))))⟩; have n2_ : Aside0 (w19.heap[gb256]? = some (.cells #[.int .i64 ((rd_T77 l2 x20_1).f0), .int .i64 ((rd_T77 l2 x20_1).f1), .int .i64 ((rd_T77 l2 x20_1).f2)] 77 (0, 0))) := ⟨(by rw [hw]; exact (by (with_reducible repeat (first | refine blk_drewN ?_ _ | refine blk_drew ?_ | refine blk_alloc ?_ _)); refine blk_put (cs := #[.int .i64 ((rd_T77 l2 x20_1).f0), .int .i64 ((rd_T77 l2 x20_1).f1), .int .i64 0]) ?_ 2 _ rfl; (with_reducible repeat (first | refine blk_drewN ?_ _ | refine blk_drew ?_ | refine blk_alloc ?_ _)); refine blk_put (cs := #[.int .i64 ((rd_T77 l2 x20_1).f0), .int .i64 0, .int .i64 0]) ?_ 1 _ rfl; (with_reducible repeat (first | refine blk_drewN ?_ _ | refine blk_drew ?_ | refine blk_alloc ?_ _)); refine blk_put (cs := #[.int .i64 0, .int .i64 0, .int .i64 0]) ?_ 0 _ rfl; (with_reducible repeat (first | refine blk_drewN ?_ _ | refine blk_drew ?_ | refine blk_alloc ?_ _)); exact BK256.out))⟩; have n3_ : Aside0 (Below w.heap.size w w19) := ⟨(by rw [hw]; exact (hbC _))⟩; clear hw; clear HO_1; clear HO_8; clear BK256; clear HB; have HO_1 := n0_; have HO_8 := n1_; have BK256 := n2_; have HB := n3_; clear n0_ n1_ n2_ n3_; have hcz20_0 : w19.cell? ⟨gb256, 0, none⟩ = some (.int .i64 ((rd_T77 l2 x20_1).f0)) := bc BK256 0; have hcz20_1 : w19.cell? ⟨gb256, 1, none⟩ = some (.int .i64 ((rd_T77 l2 x20_1).f1)) := bc BK256 1; have hcz20_2 : w19.cell? ⟨gb256, 2, none⟩ = some (.int .i64 ((rd_T77 l2 x20_1).f2)) := bc BK256 2; have hfz20_0 := fz BK256 0; have hfz20_1 := fz BK256 1; have hfz20_2 := fz BK256 2; obtain ⟨Ao21, co21, eo21⟩ := Kd.R_slice HO_8.out; subst eo21) | ((with_reducible refine gate_callee (f := 74) rfl ?_); refine gL 26 Try.func74 #[.agg #[.int .i64 ((rd_T77 l2 x20_1).f0), .int .i64 ((rd_T77 l2 x20_1).f1), .int .i64 ((rd_T77 l2 x20_1).f2)], .slice Ao21 x8_1.length co21] ?_; (with_reducible refine (shares_Give_do.calls ((rd_T77 l2 x20_1).f0) ((rd_T77 l2 x20_1).f1) ((rd_T77 l2 x20_1).f2) (fun k_ => some k_ = (.slice Ao21 x8_1.length co21 : Value).ownBlock) (.slice Ao21 x8_1.length co21) x8_1 true t258 w _ ?side1 ?side2 A15.out).mono ?_); (case side1 => repeat (first | (with_reducible first | exact HB.out | apply below_alloc | apply pw_below_drewN | apply below_drew1 | refine below_set ?_ GE256.out) | exact HB.out)); (case side2 => exact Kd.R_tight rfl HO_8.out); rintro e w22 ⟨rfl, hy0, hb, hkp⟩; refine ⟨_, rfl, ?_⟩; replace HO_1 := ak (Kd.V_mono (ok' := fun k_ => ((P0_ k_ ∨ P1_ k_) ∨ w.heap.size ≤ k_) ∧ nb k_ (.slice Ao21 x8_1.length co21) ∧ k_ ≠ gb256) (Kd.V_keptB (HO_1.out) hkp (fun k_ hk_ hs_ => (hk_.2.1) hs_)) (fun k_ hk_ => ⟨hk_.1.1, hk_.1.2.1, hk_.1.2.2⟩)); replace BK256 := ak (blk_kept (bkC BK256) hkp (fun hs_ => (fun e_ => (Kd.R_ne HO_8.out BK256.out (by decide)) e_) hs_)); replace HO_8 := ak (Kd.R_reok rfl hy0 (fun k_ e_ => HO_8.out.1 k_ e_)); replace HB := ak (hb); (try clear hb); (try clear hkp); (try clear hy0)))
   go_roundg k1
   case measure => have := HK1.out; omega
   case rel => exact ⟨(t258), (wrap64 (x20_1 + 1)), (by first | rfl | (simp; done) | (simp [*]; done)), H', ⟨by have := HK1.out; omega⟩, ⟨by (with_reducible repeat (first | apply Kd.V_alloc | apply Kd.V_drewN | apply Kd.V_drew)); exact Kd.V_mono HO_1.out (fun _ hk => ⟨hk.1, hk.2.1⟩)⟩, ⟨rC HO_8⟩, ⟨hbC _⟩⟩

end Go.Proofs.Ytefmafbbnkkpjaa.X
