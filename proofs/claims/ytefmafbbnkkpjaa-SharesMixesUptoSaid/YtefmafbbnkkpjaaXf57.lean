-- Written by a program of this work (wip/xprint.py, over the kit's printer) out of the translation.
import Derived.Test.YtefmafbbnkkpjaaX0
import Derived.Test.YtefmafbbnkkpjaaXG2a
import Derived.Test.YtefmafbbnkkpjaaXf98
import Derived.Test.YtefmafbbnkkpjaaE97
namespace Go.Proofs.Ytefmafbbnkkpjaa.X
open Go.RowKit Go.Proofs.YtefmafbbnkkpjaaW.PrintWords Go.Proofs.YtefmafbbnkkpjaaW.PrintLast Go.Proofs.YtefmafbbnkkpjaaW.PrintMore
attribute [local go_sem] max2_int min2_int max_two min_two max_three min_three max_four min_four   -- for this text's walks alone
set_option linter.unusedVariables false
set_option linter.unusedSimpArgs false

/-! ### shares_CheckMix: function 57 -/
mutual
def shares_CheckMix.l0 : Nat → List Int → List Int → Int → List (List Int) → Int → Int → Option (Bool × Int)
 | 0, _, _, _, _, _, _ => none
 | k + 1, x0, x1, x8, x38, x39, x40 => if x40 < x39 then (if 0 ≤ x40 then (if x40 < (x38.length : Int) then (shares_CheckMix.l1 k x0 x1 x8 x40 0 x38 x39 x40 (rd_L1 x38 x40) ((rd_L1 x38 x40).length : Int) 0) else (none)) else (none)) else (some (true, 0))
def shares_CheckMix.l1 : Nat → List Int → List Int → Int → Int → Int → List (List Int) → Int → Int → List Int → Int → Int → Option (Bool × Int)
 | 0, _, _, _, _, _, _, _, _, _, _, _ => none
 | k + 1, x0, x1, x8, x11, x13, x38, x39, x40, x45, x46, x47 => if x47 < x46 then (if 0 ≤ x47 then (if x47 < (x45.length : Int) then (if x47 < (x0.length : Int) then (shares_CheckMix.l1 k x0 x1 x8 x11 (wrap64 (x13 + (wrap64 ((rd x45 x47) * (rd x0 x47))))) x38 x39 x40 x45 x46 (wrap64 (x47 + 1))) else (none)) else (none)) else (none)) else (if 0 ≤ x11 then (if x11 < (x1.length : Int) then (if x13 = (wrap64 ((rd x1 x11) * x8)) then (shares_CheckMix.l0 k x0 x1 x8 x38 x39 (wrap64 (x40 + 1))) else (some (false, 0))) else (none)) else (none))
end
def shares_CheckMix.f (k : Nat) (l0 : List Int) (l1 : List Int) (l2 : List (List (S62))) : Option (Bool × Int) := (shares_are.f k (([l0, l1] : List (List Int)))).bind fun t892 => (if t892 = true then ((xCommon.f k l2 (l0.length : Int) 10000000).bind fun bt893 => (if bt893.2 = true then ((shares_mixture_parts.f k l2 bt893.1).bind fun bt895 => (if bt895.2 = true then (shares_CheckMix.l0 k l0 l1 bt893.1 bt895.1 (bt895.1.length : Int) 0) else (some (false, 0)))) else (some (false, 0)))) else (some (false, 2)))
theorem shares_CheckMix.mono_l : ∀ k, (∀ y0 y1 y2 y3 y4 y5, LeO (shares_CheckMix.l0 k y0 y1 y2 y3 y4 y5) (shares_CheckMix.l0 (k + 1) y0 y1 y2 y3 y4 y5)) ∧ (∀ y0 y1 y2 y3 y4 y5 y6 y7 y8 y9 y10, LeO (shares_CheckMix.l1 k y0 y1 y2 y3 y4 y5 y6 y7 y8 y9 y10) (shares_CheckMix.l1 (k + 1) y0 y1 y2 y3 y4 y5 y6 y7 y8 y9 y10))
 | 0 => ⟨fun _ _ _ _ _ _ r h => by simp [shares_CheckMix.l0] at h, fun _ _ _ _ _ _ _ _ _ _ _ r h => by simp [shares_CheckMix.l1] at h⟩
 | k + 1 => by
  obtain ⟨ih0, ih1⟩ := shares_CheckMix.mono_l k
  refine ⟨?_, ?_⟩
  ·intro y0 y1 y2 y3 y4 y5
   unfold shares_CheckMix.l0
   repeat' first
   | (with_reducible exact ih0 _ _ _ _ _ _)
   | (with_reducible exact ih1 _ _ _ _ _ _ _ _ _ _ _)
   | (with_reducible exact shares_are.mono _ _)
   | (with_reducible exact shares_mixture_parts.mono _ _ _)
   | (with_reducible exact xCommon.mono _ _ _ _)
   | (with_reducible exact LeO.refl _)
   | (with_reducible exact LeO.none _)
   | (with_reducible refine LeO.ite ?_ ?_)
   | (with_reducible refine LeO.bind ?_ (fun _ => ?_))
   | exact ih0 _ _ _ _ _ _
   | exact ih1 _ _ _ _ _ _ _ _ _ _ _
   | exact shares_are.mono _ _
   | exact shares_mixture_parts.mono _ _ _
   | exact xCommon.mono _ _ _ _
   | exact LeO.none _
   | refine LeO.ite ?_ ?_
   | refine LeO.bind ?_ (fun _ => ?_)
  ·intro y0 y1 y2 y3 y4 y5 y6 y7 y8 y9 y10
   unfold shares_CheckMix.l1
   repeat' first
   | (with_reducible exact ih0 _ _ _ _ _ _)
   | (with_reducible exact ih1 _ _ _ _ _ _ _ _ _ _ _)
   | (with_reducible exact shares_are.mono _ _)
   | (with_reducible exact shares_mixture_parts.mono _ _ _)
   | (with_reducible exact xCommon.mono _ _ _ _)
   | (with_reducible exact LeO.refl _)
   | (with_reducible exact LeO.none _)
   | (with_reducible refine LeO.ite ?_ ?_)
   | (with_reducible refine LeO.bind ?_ (fun _ => ?_))
   | exact ih0 _ _ _ _ _ _
   | exact ih1 _ _ _ _ _ _ _ _ _ _ _
   | exact shares_are.mono _ _
   | exact shares_mixture_parts.mono _ _ _
   | exact xCommon.mono _ _ _ _
   | exact LeO.none _
   | refine LeO.ite ?_ ?_
   | refine LeO.bind ?_ (fun _ => ?_)
theorem shares_CheckMix.mono : ∀ a0 a1 a2 k, LeO (shares_CheckMix.f k a0 a1 a2) (shares_CheckMix.f (k + 1) a0 a1 a2) := by
 intro a0 a1 a2 k
 obtain ⟨ih0, ih1⟩ := shares_CheckMix.mono_l k
 unfold shares_CheckMix.f
 repeat' first
   | (with_reducible exact ih0 _ _ _ _ _ _)
   | (with_reducible exact ih1 _ _ _ _ _ _ _ _ _ _ _)
   | (with_reducible exact shares_are.mono _ _)
   | (with_reducible exact shares_mixture_parts.mono _ _ _)
   | (with_reducible exact xCommon.mono _ _ _ _)
   | (with_reducible exact LeO.refl _)
   | (with_reducible exact LeO.none _)
   | (with_reducible refine LeO.ite ?_ ?_)
   | (with_reducible refine LeO.bind ?_ (fun _ => ?_))
   | exact ih0 _ _ _ _ _ _
   | exact ih1 _ _ _ _ _ _ _ _ _ _ _
   | exact shares_are.mono _ _
   | exact shares_mixture_parts.mono _ _ _
   | exact xCommon.mono _ _ _ _
   | exact LeO.none _
   | refine LeO.ite ?_ ?_
   | refine LeO.bind ?_ (fun _ => ?_)
set_option maxHeartbeats 8000000 in
set_option maxRecDepth 100000 in
theorem shares_CheckMix.calls (k : Nat) (P0_ : Nat → Prop) (A0 : Option Addr) (c0 : Nat) (l0 : List Int) (P1_ : Nat → Prop) (A1 : Option Addr) (c1 : Nat) (l1 : List Int) (A2 : Option Addr) (c2 : Nat) (l2 : List (List (S62))) (r1 : Bool) (r2 : Int) (w : World) (hs0 : Kd.V (Kd.int .i64) 3 w w.heap.size (fun k_ => P0_ k_) (.slice A0 l0.length c0) l0) (hs1 : Kd.V (Kd.int .i64) 3 w w.heap.size (fun k_ => P1_ k_) (.slice A1 l1.length c1) l1) (hr2 : Kd.C (Kd.slice 62 k62) w A2 l2.length l2) (hc2 : l2.length ≤ c2) (h : shares_CheckMix.f k l0 l1 l2 = some (r1, r2)) :
  Calls Try.prog 57 #[.slice A0 l0.length c0, .slice A1 l1.length c1, .slice A2 l2.length c2] w fun e w' => e = .returned (.tuple #[.bool r1, .int .i64 r2]) ∧ Below w.heap.size w w' := by
 have HO0 := ak (show Kd.V (Kd.int .i64) 3 w w.heap.size (fun k_ => ((P0_ k_ ∨ P1_ k_) ∨ w.heap.size ≤ k_)) (.slice A0 l0.length c0) l0 from Kd.V_mono hs0 (fun k_ hk => .inl (.inl hk)))
 have HO1 := ak (show Kd.V (Kd.int .i64) 3 w w.heap.size (fun k_ => ((P0_ k_ ∨ P1_ k_) ∨ w.heap.size ≤ k_)) (.slice A1 l1.length c1) l1 from Kd.V_mono hs1 (fun k_ hk => .inl (.inr hk)))
 have HR2 := Aside0.mk hr2
 have HC2 := Aside0.mk hc2
 clear hr2 hc2
 have HB := ak (Below.refl w.heap.size w)
 have H : ((shares_are.f k (([l0, l1] : List (List Int)))).bind fun t892 => (if t892 = true then ((xCommon.f k l2 (l0.length : Int) 10000000).bind fun bt893 => (if bt893.2 = true then ((shares_mixture_parts.f k l2 bt893.1).bind fun bt895 => (if bt895.2 = true then (shares_CheckMix.l0 k l0 l1 bt893.1 bt895.1 (bt895.1.length : Int) 0) else (some (false, 0)))) else (some (false, 0)))) else (some (false, 2)))) = some (r1, r2) := h
 clear h
 obtain ⟨y889, hy889⟩ : ∃ y_ : List (List Int), y_ = (([l0, l1] : List (List Int))) := ⟨_, rfl⟩
 replace H : ((shares_are.f k y889).bind fun t892 => (if t892 = true then ((xCommon.f k l2 (l0.length : Int) 10000000).bind fun bt893 => (if bt893.2 = true then ((shares_mixture_parts.f k l2 bt893.1).bind fun bt895 => (if bt895.2 = true then (shares_CheckMix.l0 k l0 l1 bt893.1 bt895.1 (bt895.1.length : Int) 0) else (some (false, 0)))) else (some (false, 0)))) else (some (false, 2)))) = some (r1, r2) := by first | (rw [hy889]; with_reducible exact H) | (have H2_ := (Option.bind_some _ _).symm.trans H; rw [hy889]; with_reducible exact H2_) | (have H2_ := (Option.bind_some _ _).symm.trans H; with_reducible exact H2_) | with_reducible exact H | (rw [hy889]; exact H) | exact H
 have Ny889 := Aside0.mk hy889
 clear hy889
 replace H := Option.bind_eq_some_iff.mp H
 obtain ⟨t892, A40, H⟩ := H
 replace H : (if t892 = true then ((xCommon.f k l2 (l0.length : Int) 10000000).bind fun bt893 => (if bt893.2 = true then ((shares_mixture_parts.f k l2 bt893.1).bind fun bt895 => (if bt895.2 = true then (shares_CheckMix.l0 k l0 l1 bt893.1 bt895.1 (bt895.1.length : Int) 0) else (some (false, 0)))) else (some (false, 0)))) else (some (false, 2))) = some (r1, r2) := H
 have A4 := Aside0.mk A40
 clear A40
 by_cases c5 : t892 = true
 rotate_left
 ·replace c5 := Bool.eq_false_iff.mpr c5
  subst c5
  have H1 : (some (false, 2)) = some (r1, r2) := by rw [if_neg (show ¬ (false = true) by decide)] at H; exact H
  clear H
  have H := H1
  clear H1
  simp only [Option.some.injEq, Prod.mk.injEq] at H
  obtain ⟨rfl, rfl⟩ := H
  go_enter Try.func57, Try.ntmps57
  go_wp2_with (first | ((with_reducible refine gate_dst (N := 18) rfl ?_); refine Kd.N_lit (Kd.slice 3 (Kd.int .i64)) _ 22 ?hg (N' := 18) ?hd (xs := ([l0, l1] : List (List Int))) (inner := [.slice A0 l0.length c0, .slice A1 l1.length c1]) (ok := (fun k_ => ((P0_ k_ ∨ P1_ k_) ∨ w.heap.size ≤ k_))) (okp := (fun k_ => ((P0_ k_ ∨ P1_ k_) ∨ w.heap.size ≤ k_))) ?hr ?hp (fun _ hk => hk) ((show ∀ k_, w.heap.size ≤ k_ → (fun k_ => ((P0_ k_ ∨ P1_ k_) ∨ w.heap.size ≤ k_)) k_ from fun k_ hk => (.inr (Nat.le_trans (below_size (hbC _)) hk))) _ (Nat.le_refl _)) (Below.refl _ _) (Nat.le_refl _) (by simp) ?_; (case hd => rfl); (case hg => rfl); (case hr => first | (go_simp; done) | (go_simp; rfl)); (case hp => exact (Reps.one (show Kd.FK (Kd.slice 3 (Kd.int .i64)) _ _ l0 [.slice A0 l0.length c0] from (Kd.FK_slice_mk (Kd.V_reads' (Kd.V_mono (ok' := (fun k_ => ((P0_ k_ ∨ P1_ k_) ∨ w.heap.size ≤ k_))) (HO0.out) (fun k_ hk => hk))).2.1 (Kd.V_F (Kd.V_mono (ok' := (fun k_ => ((P0_ k_ ∨ P1_ k_) ∨ w.heap.size ≤ k_))) (HO0.out) (fun k_ hk => hk))))) (Reps.one (show Kd.FK (Kd.slice 3 (Kd.int .i64)) _ _ l1 [.slice A1 l1.length c1] from (Kd.FK_slice_mk (Kd.V_reads' (Kd.V_mono (ok' := (fun k_ => ((P0_ k_ ∨ P1_ k_) ∨ w.heap.size ≤ k_))) (HO1.out) (fun k_ hk => hk))).2.1 (Kd.V_F (Kd.V_mono (ok' := (fun k_ => ((P0_ k_ ∨ P1_ k_) ∨ w.heap.size ≤ k_))) (HO1.out) (fun k_ hk => hk))))) (Reps.none _ _)))); intro v890 w38 ho39 hb hg_ hnew_; clear hg_ hnew_; (first | rw [← Ny889.out] at ho39 | (simp only [Int.reduceToNat] at ho39; rw [← Ny889.out] at ho39)); replace HO0 := ak (Kd.V_elder' (by (with_reducible repeat (first | apply Kd.V_alloc | apply Kd.V_drewN | apply Kd.V_drew)); exact HO0.out) (Kd.N_base ho39) hb); replace HO1 := ak (Kd.V_elder' (by (with_reducible repeat (first | apply Kd.V_alloc | apply Kd.V_drewN | apply Kd.V_drew)); exact HO1.out) (Kd.N_base ho39) hb); have HO891 := ak (Kd.N_lower ho39 (below_size (hbC _))); replace HB := kH _ hb; clear hb ho39; obtain ⟨Ao40, co40, eo40⟩ := Kd.N_slice HO891.out; subst eo40) | ((with_reducible refine gate_callee (f := 59) rfl ?_); refine gL 19 Try.func59 #[.slice Ao40 y889.length co40] ?_; (with_reducible refine (shares_are.calls k _ _ y889 false _ ?side1 ?side2 A4.out).mono ?_); (case side1 => repeat (first | exact (Kd.N_reads' HO891.out).2.2 | (with_reducible refine Kd.C_alloc ?_ _) | (with_reducible refine Kd.C_drewN ?_ _) | (with_reducible refine Kd.C_drew ?_))); (case side2 => exact (Kd.N_reads' HO891.out).2.1); rintro e w41 ⟨rfl, hb⟩; refine ⟨_, rfl, ?_⟩; replace HO0 := ak (Kd.V_below (by (with_reducible repeat (first | apply Kd.V_alloc | apply Kd.V_drewN | apply Kd.V_drew)); exact HO0.out) hb); replace HO1 := ak (Kd.V_below (by (with_reducible repeat (first | apply Kd.V_alloc | apply Kd.V_drewN | apply Kd.V_drew)); exact HO1.out) hb); replace HO891 := ak (Kd.N_below (by (with_reducible repeat (first | apply Kd.N_alloc | apply Kd.N_drewN | apply Kd.N_drew)); exact HO891.out) hb); replace HB := kH _ hb; (try clear hb); (try clear hb2); (try clear hk); (try clear hi)))
  go_ret2
  exact ⟨by first | rfl | (simp [errW_none, errW_some] <;> rfl) | (simp [*, errW_none, errW_some] <;> rfl), hbC _⟩
 subst c5
 have H1 : ((xCommon.f k l2 (l0.length : Int) 10000000).bind fun bt893 => (if bt893.2 = true then ((shares_mixture_parts.f k l2 bt893.1).bind fun bt895 => (if bt895.2 = true then (shares_CheckMix.l0 k l0 l1 bt893.1 bt895.1 (bt895.1.length : Int) 0) else (some (false, 0)))) else (some (false, 0)))) = some (r1, r2) := by rw [if_pos rfl] at H; exact H
 clear H
 have H := H1
 clear H1
 replace H := Option.bind_eq_some_iff.mp H
 obtain ⟨⟨t893, t894⟩, A60, H⟩ := H
 replace H : (if t894 = true then ((shares_mixture_parts.f k l2 t893).bind fun bt895 => (if bt895.2 = true then (shares_CheckMix.l0 k l0 l1 t893 bt895.1 (bt895.1.length : Int) 0) else (some (false, 0)))) else (some (false, 0))) = some (r1, r2) := H
 have A6 := Aside0.mk A60
 clear A60
 by_cases c7 : t894 = true
 rotate_left
 ·replace c7 := Bool.eq_false_iff.mpr c7
  subst c7
  have H1 : (some (false, 0)) = some (r1, r2) := by rw [if_neg (show ¬ (false = true) by decide)] at H; exact H
  clear H
  have H := H1
  clear H1
  simp only [Option.some.injEq, Prod.mk.injEq] at H
  obtain ⟨rfl, rfl⟩ := H
  go_enter Try.func57, Try.ntmps57
  go_wp2_with (first | ((with_reducible refine gate_dst (N := 18) rfl ?_); refine Kd.N_lit (Kd.slice 3 (Kd.int .i64)) _ 22 ?hg (N' := 18) ?hd (xs := ([l0, l1] : List (List Int))) (inner := [.slice A0 l0.length c0, .slice A1 l1.length c1]) (ok := (fun k_ => ((P0_ k_ ∨ P1_ k_) ∨ w.heap.size ≤ k_))) (okp := (fun k_ => ((P0_ k_ ∨ P1_ k_) ∨ w.heap.size ≤ k_))) ?hr ?hp (fun _ hk => hk) ((show ∀ k_, w.heap.size ≤ k_ → (fun k_ => ((P0_ k_ ∨ P1_ k_) ∨ w.heap.size ≤ k_)) k_ from fun k_ hk => (.inr (Nat.le_trans (below_size (hbC _)) hk))) _ (Nat.le_refl _)) (Below.refl _ _) (Nat.le_refl _) (by simp) ?_; (case hd => rfl); (case hg => rfl); (case hr => first | (go_simp; done) | (go_simp; rfl)); (case hp => exact (Reps.one (show Kd.FK (Kd.slice 3 (Kd.int .i64)) _ _ l0 [.slice A0 l0.length c0] from (Kd.FK_slice_mk (Kd.V_reads' (Kd.V_mono (ok' := (fun k_ => ((P0_ k_ ∨ P1_ k_) ∨ w.heap.size ≤ k_))) (HO0.out) (fun k_ hk => hk))).2.1 (Kd.V_F (Kd.V_mono (ok' := (fun k_ => ((P0_ k_ ∨ P1_ k_) ∨ w.heap.size ≤ k_))) (HO0.out) (fun k_ hk => hk))))) (Reps.one (show Kd.FK (Kd.slice 3 (Kd.int .i64)) _ _ l1 [.slice A1 l1.length c1] from (Kd.FK_slice_mk (Kd.V_reads' (Kd.V_mono (ok' := (fun k_ => ((P0_ k_ ∨ P1_ k_) ∨ w.heap.size ≤ k_))) (HO1.out) (fun k_ hk => hk))).2.1 (Kd.V_F (Kd.V_mono (ok' := (fun k_ => ((P0_ k_ ∨ P1_ k_) ∨ w.heap.size ≤ k_))) (HO1.out) (fun k_ hk => hk))))) (Reps.none _ _)))); intro v890 w33 ho34 hb hg_ hnew_; clear hg_ hnew_; (first | rw [← Ny889.out] at ho34 | (simp only [Int.reduceToNat] at ho34; rw [← Ny889.out] at ho34)); replace HO0 := ak (Kd.V_elder' (by (with_reducible repeat (first | apply Kd.V_alloc | apply Kd.V_drewN | apply Kd.V_drew)); exact HO0.out) (Kd.N_base ho34) hb); replace HO1 := ak (Kd.V_elder' (by (with_reducible repeat (first | apply Kd.V_alloc | apply Kd.V_drewN | apply Kd.V_drew)); exact HO1.out) (Kd.N_base ho34) hb); have HO891 := ak (Kd.N_lower ho34 (below_size (hbC _))); replace HB := kH _ hb; clear hb ho34; obtain ⟨Ao35, co35, eo35⟩ := Kd.N_slice HO891.out; subst eo35) | ((with_reducible refine gate_callee (f := 59) rfl ?_); refine gL 19 Try.func59 #[.slice Ao35 y889.length co35] ?_; (with_reducible refine (shares_are.calls k _ _ y889 true _ ?side1 ?side2 A4.out).mono ?_); (case side1 => repeat (first | exact (Kd.N_reads' HO891.out).2.2 | (with_reducible refine Kd.C_alloc ?_ _) | (with_reducible refine Kd.C_drewN ?_ _) | (with_reducible refine Kd.C_drew ?_))); (case side2 => exact (Kd.N_reads' HO891.out).2.1); rintro e w36 ⟨rfl, hb⟩; refine ⟨_, rfl, ?_⟩; replace HO0 := ak (Kd.V_below (by (with_reducible repeat (first | apply Kd.V_alloc | apply Kd.V_drewN | apply Kd.V_drew)); exact HO0.out) hb); replace HO1 := ak (Kd.V_below (by (with_reducible repeat (first | apply Kd.V_alloc | apply Kd.V_drewN | apply Kd.V_drew)); exact HO1.out) hb); replace HO891 := ak (Kd.N_below (by (with_reducible repeat (first | apply Kd.N_alloc | apply Kd.N_drewN | apply Kd.N_drew)); exact HO891.out) hb); replace HB := kH _ hb; (try clear hb); (try clear hb2); (try clear hk); (try clear hi)) | ((with_reducible refine gate_callee (f := 97) rfl ?_); refine gL 25 Try.func97 #[.slice A2 l2.length c2, .int .i64 (l0.length : Int), .int .i64 10000000] ?_; (with_reducible refine (xCommon.calls k _ _ l2 (l0.length : Int) 10000000 t893 false _ ?side1 ?side2 A6.out).mono ?_); (case side1 => exact kC HR2); (case side2 => exact HC2.out); rintro e w37 ⟨rfl, hb⟩; refine ⟨_, rfl, ?_⟩; replace HO0 := ak (Kd.V_below (by (with_reducible repeat (first | apply Kd.V_alloc | apply Kd.V_drewN | apply Kd.V_drew)); exact HO0.out) hb); replace HO1 := ak (Kd.V_below (by (with_reducible repeat (first | apply Kd.V_alloc | apply Kd.V_drewN | apply Kd.V_drew)); exact HO1.out) hb); replace HO891 := ak (Kd.N_below (by (with_reducible repeat (first | apply Kd.N_alloc | apply Kd.N_drewN | apply Kd.N_drew)); exact HO891.out) hb); replace HB := kH _ hb; (try clear hb); (try clear hb2); (try clear hk); (try clear hi)))
  go_ret2
  exact ⟨by first | rfl | (simp [errW_none, errW_some] <;> rfl) | (simp [*, errW_none, errW_some] <;> rfl), hbC _⟩
 subst c7
 have H1 : ((shares_mixture_parts.f k l2 t893).bind fun bt895 => (if bt895.2 = true then (shares_CheckMix.l0 k l0 l1 t893 bt895.1 (bt895.1.length : Int) 0) else (some (false, 0)))) = some (r1, r2) := by rw [if_pos rfl] at H; exact H
 clear H
 have H := H1
 clear H1
 replace H := Option.bind_eq_some_iff.mp H
 obtain ⟨⟨t895, t896⟩, A80, H⟩ := H
 replace H : (if t896 = true then (shares_CheckMix.l0 k l0 l1 t893 t895 (t895.length : Int) 0) else (some (false, 0))) = some (r1, r2) := H
 have A8 := Aside0.mk A80
 clear A80
 by_cases c9 : t896 = true
 rotate_left
 ·replace c9 := Bool.eq_false_iff.mpr c9
  subst c9
  have H1 : (some (false, 0)) = some (r1, r2) := by rw [if_neg (show ¬ (false = true) by decide)] at H; exact H
  clear H
  have H := H1
  clear H1
  simp only [Option.some.injEq, Prod.mk.injEq] at H
  obtain ⟨rfl, rfl⟩ := H
  go_enter Try.func57, Try.ntmps57
  go_wp2_with (first | ((with_reducible refine gate_dst (N := 18) rfl ?_); refine Kd.N_lit (Kd.slice 3 (Kd.int .i64)) _ 22 ?hg (N' := 18) ?hd (xs := ([l0, l1] : List (List Int))) (inner := [.slice A0 l0.length c0, .slice A1 l1.length c1]) (ok := (fun k_ => ((P0_ k_ ∨ P1_ k_) ∨ w.heap.size ≤ k_))) (okp := (fun k_ => ((P0_ k_ ∨ P1_ k_) ∨ w.heap.size ≤ k_))) ?hr ?hp (fun _ hk => hk) ((show ∀ k_, w.heap.size ≤ k_ → (fun k_ => ((P0_ k_ ∨ P1_ k_) ∨ w.heap.size ≤ k_)) k_ from fun k_ hk => (.inr (Nat.le_trans (below_size (hbC _)) hk))) _ (Nat.le_refl _)) (Below.refl _ _) (Nat.le_refl _) (by simp) ?_; (case hd => rfl); (case hg => rfl); (case hr => first | (go_simp; done) | (go_simp; rfl)); (case hp => exact (Reps.one (show Kd.FK (Kd.slice 3 (Kd.int .i64)) _ _ l0 [.slice A0 l0.length c0] from (Kd.FK_slice_mk (Kd.V_reads' (Kd.V_mono (ok' := (fun k_ => ((P0_ k_ ∨ P1_ k_) ∨ w.heap.size ≤ k_))) (HO0.out) (fun k_ hk => hk))).2.1 (Kd.V_F (Kd.V_mono (ok' := (fun k_ => ((P0_ k_ ∨ P1_ k_) ∨ w.heap.size ≤ k_))) (HO0.out) (fun k_ hk => hk))))) (Reps.one (show Kd.FK (Kd.slice 3 (Kd.int .i64)) _ _ l1 [.slice A1 l1.length c1] from (Kd.FK_slice_mk (Kd.V_reads' (Kd.V_mono (ok' := (fun k_ => ((P0_ k_ ∨ P1_ k_) ∨ w.heap.size ≤ k_))) (HO1.out) (fun k_ hk => hk))).2.1 (Kd.V_F (Kd.V_mono (ok' := (fun k_ => ((P0_ k_ ∨ P1_ k_) ∨ w.heap.size ≤ k_))) (HO1.out) (fun k_ hk => hk))))) (Reps.none _ _)))); intro v890 w27 ho28 hb hg_ hnew_; clear hg_ hnew_; (first | rw [← Ny889.out] at ho28 | (simp only [Int.reduceToNat] at ho28; rw [← Ny889.out] at ho28)); replace HO0 := ak (Kd.V_elder' (by (with_reducible repeat (first | apply Kd.V_alloc | apply Kd.V_drewN | apply Kd.V_drew)); exact HO0.out) (Kd.N_base ho28) hb); replace HO1 := ak (Kd.V_elder' (by (with_reducible repeat (first | apply Kd.V_alloc | apply Kd.V_drewN | apply Kd.V_drew)); exact HO1.out) (Kd.N_base ho28) hb); have HO891 := ak (Kd.N_lower ho28 (below_size (hbC _))); replace HB := kH _ hb; clear hb ho28; obtain ⟨Ao29, co29, eo29⟩ := Kd.N_slice HO891.out; subst eo29) | ((with_reducible refine gate_callee (f := 59) rfl ?_); refine gL 19 Try.func59 #[.slice Ao29 y889.length co29] ?_; (with_reducible refine (shares_are.calls k _ _ y889 true _ ?side1 ?side2 A4.out).mono ?_); (case side1 => repeat (first | exact (Kd.N_reads' HO891.out).2.2 | (with_reducible refine Kd.C_alloc ?_ _) | (with_reducible refine Kd.C_drewN ?_ _) | (with_reducible refine Kd.C_drew ?_))); (case side2 => exact (Kd.N_reads' HO891.out).2.1); rintro e w30 ⟨rfl, hb⟩; refine ⟨_, rfl, ?_⟩; replace HO0 := ak (Kd.V_below (by (with_reducible repeat (first | apply Kd.V_alloc | apply Kd.V_drewN | apply Kd.V_drew)); exact HO0.out) hb); replace HO1 := ak (Kd.V_below (by (with_reducible repeat (first | apply Kd.V_alloc | apply Kd.V_drewN | apply Kd.V_drew)); exact HO1.out) hb); replace HO891 := ak (Kd.N_below (by (with_reducible repeat (first | apply Kd.N_alloc | apply Kd.N_drewN | apply Kd.N_drew)); exact HO891.out) hb); replace HB := kH _ hb; (try clear hb); (try clear hb2); (try clear hk); (try clear hi)) | ((with_reducible refine gate_callee (f := 97) rfl ?_); refine gL 25 Try.func97 #[.slice A2 l2.length c2, .int .i64 (l0.length : Int), .int .i64 10000000] ?_; (with_reducible refine (xCommon.calls k _ _ l2 (l0.length : Int) 10000000 t893 true _ ?side1 ?side2 A6.out).mono ?_); (case side1 => exact kC HR2); (case side2 => exact HC2.out); rintro e w31 ⟨rfl, hb⟩; refine ⟨_, rfl, ?_⟩; replace HO0 := ak (Kd.V_below (by (with_reducible repeat (first | apply Kd.V_alloc | apply Kd.V_drewN | apply Kd.V_drew)); exact HO0.out) hb); replace HO1 := ak (Kd.V_below (by (with_reducible repeat (first | apply Kd.V_alloc | apply Kd.V_drewN | apply Kd.V_drew)); exact HO1.out) hb); replace HO891 := ak (Kd.N_below (by (with_reducible repeat (first | apply Kd.N_alloc | apply Kd.N_drewN | apply Kd.N_drew)); exact HO891.out) hb); replace HB := kH _ hb; (try clear hb); (try clear hb2); (try clear hk); (try clear hi)) | ((with_reducible refine gate_callee (f := 98) rfl ?_); refine gL 33 Try.func98 #[.slice A2 l2.length c2, .int .i64 t893] ?_; (with_reducible refine (shares_mixture_parts.calls k _ _ l2 t893 t895 false _ ?side1 ?side2 A8.out).mono ?_); (case side1 => exact kC HR2); (case side2 => exact HC2.out); rintro e w32 ⟨v897, rfl, ho0, hb⟩; refine ⟨_, rfl, ?_⟩; replace HO0 := ak (Kd.V_elder' (by (with_reducible repeat (first | apply Kd.V_alloc | apply Kd.V_drewN | apply Kd.V_drew)); exact HO0.out) (Kd.S_base ho0) hb); replace HO1 := ak (Kd.V_elder' (by (with_reducible repeat (first | apply Kd.V_alloc | apply Kd.V_drewN | apply Kd.V_drew)); exact HO1.out) (Kd.S_base ho0) hb); have HO898 := ak (Kd.N_lower (Kd.N_mono (ok' := fun k_ => ((P0_ k_ ∨ P1_ k_) ∨ w.heap.size ≤ k_) ∧ nb k_ (.slice Ao29 y889.length co29)) (Kd.S_N (Kd.S_bound ho0)) (fun k_ hk_ => ⟨(.inr (Nat.le_trans (below_size (hbC _)) hk_.2.1)), (Kd.fresh' (Kd.N_lt (by (with_reducible repeat (first | apply Kd.N_alloc | apply Kd.N_drewN | apply Kd.N_drew)); exact HO891.out)) k_ hk_.2.1)⟩)) (below_size (hbC _))); replace HO891 := ak (Kd.N_elder' (by (with_reducible repeat (first | apply Kd.N_alloc | apply Kd.N_drewN | apply Kd.N_drew)); exact HO891.out) (Kd.S_base ho0) hb); replace HB := kH _ hb; (try clear hb); (try clear hb2); (try clear hk); (try clear hi); (try clear ho0)))
  go_ret2
  exact ⟨by first | rfl | (simp [errW_none, errW_some] <;> rfl) | (simp [*, errW_none, errW_some] <;> rfl), hbC _⟩
 subst c9
 have H1 : (shares_CheckMix.l0 k l0 l1 t893 t895 (t895.length : Int) 0) = some (r1, r2) := by rw [if_pos rfl] at H; exact H
 clear H
 have H := H1
 clear H1
 have H' := Aside0.mk H
 clear H
 go_enter Try.func57, Try.ntmps57
 go_wp2_with (first | ((with_reducible refine gate_dst (N := 18) rfl ?_); refine Kd.N_lit (Kd.slice 3 (Kd.int .i64)) _ 22 ?hg (N' := 18) ?hd (xs := ([l0, l1] : List (List Int))) (inner := [.slice A0 l0.length c0, .slice A1 l1.length c1]) (ok := (fun k_ => ((P0_ k_ ∨ P1_ k_) ∨ w.heap.size ≤ k_))) (okp := (fun k_ => ((P0_ k_ ∨ P1_ k_) ∨ w.heap.size ≤ k_))) ?hr ?hp (fun _ hk => hk) ((show ∀ k_, w.heap.size ≤ k_ → (fun k_ => ((P0_ k_ ∨ P1_ k_) ∨ w.heap.size ≤ k_)) k_ from fun k_ hk => (.inr (Nat.le_trans (below_size (hbC _)) hk))) _ (Nat.le_refl _)) (Below.refl _ _) (Nat.le_refl _) (by simp) ?_; (case hd => rfl); (case hg => rfl); (case hr => first | (go_simp; done) | (go_simp; rfl)); (case hp => exact (Reps.one (show Kd.FK (Kd.slice 3 (Kd.int .i64)) _ _ l0 [.slice A0 l0.length c0] from (Kd.FK_slice_mk (Kd.V_reads' (Kd.V_mono (ok' := (fun k_ => ((P0_ k_ ∨ P1_ k_) ∨ w.heap.size ≤ k_))) (HO0.out) (fun k_ hk => hk))).2.1 (Kd.V_F (Kd.V_mono (ok' := (fun k_ => ((P0_ k_ ∨ P1_ k_) ∨ w.heap.size ≤ k_))) (HO0.out) (fun k_ hk => hk))))) (Reps.one (show Kd.FK (Kd.slice 3 (Kd.int .i64)) _ _ l1 [.slice A1 l1.length c1] from (Kd.FK_slice_mk (Kd.V_reads' (Kd.V_mono (ok' := (fun k_ => ((P0_ k_ ∨ P1_ k_) ∨ w.heap.size ≤ k_))) (HO1.out) (fun k_ hk => hk))).2.1 (Kd.V_F (Kd.V_mono (ok' := (fun k_ => ((P0_ k_ ∨ P1_ k_) ∨ w.heap.size ≤ k_))) (HO1.out) (fun k_ hk => hk))))) (Reps.none _ _)))); intro v890 w10 ho11 hb hg_ hnew_; clear hg_ hnew_; (first | rw [← Ny889.out] at ho11 | (simp only [Int.reduceToNat] at ho11; rw [← Ny889.out] at ho11)); replace HO0 := ak (Kd.V_elder' (by (with_reducible repeat (first | apply Kd.V_alloc | apply Kd.V_drewN | apply Kd.V_drew)); exact HO0.out) (Kd.N_base ho11) hb); replace HO1 := ak (Kd.V_elder' (by (with_reducible repeat (first | apply Kd.V_alloc | apply Kd.V_drewN | apply Kd.V_drew)); exact HO1.out) (Kd.N_base ho11) hb); have HO891 := ak (Kd.N_lower ho11 (below_size (hbC _))); replace HB := kH _ hb; clear hb ho11; obtain ⟨Ao12, co12, eo12⟩ := Kd.N_slice HO891.out; subst eo12) | ((with_reducible refine gate_callee (f := 59) rfl ?_); refine gL 19 Try.func59 #[.slice Ao12 y889.length co12] ?_; (with_reducible refine (shares_are.calls k _ _ y889 true _ ?side1 ?side2 A4.out).mono ?_); (case side1 => repeat (first | exact (Kd.N_reads' HO891.out).2.2 | (with_reducible refine Kd.C_alloc ?_ _) | (with_reducible refine Kd.C_drewN ?_ _) | (with_reducible refine Kd.C_drew ?_))); (case side2 => exact (Kd.N_reads' HO891.out).2.1); rintro e w13 ⟨rfl, hb⟩; refine ⟨_, rfl, ?_⟩; replace HO0 := ak (Kd.V_below (by (with_reducible repeat (first | apply Kd.V_alloc | apply Kd.V_drewN | apply Kd.V_drew)); exact HO0.out) hb); replace HO1 := ak (Kd.V_below (by (with_reducible repeat (first | apply Kd.V_alloc | apply Kd.V_drewN | apply Kd.V_drew)); exact HO1.out) hb); replace HO891 := ak (Kd.N_below (by (with_reducible repeat (first | apply Kd.N_alloc | apply Kd.N_drewN | apply Kd.N_drew)); exact HO891.out) hb); replace HB := kH _ hb; (try clear hb); (try clear hb2); (try clear hk); (try clear hi)) | ((with_reducible refine gate_callee (f := 97) rfl ?_); refine gL 25 Try.func97 #[.slice A2 l2.length c2, .int .i64 (l0.length : Int), .int .i64 10000000] ?_; (with_reducible refine (xCommon.calls k _ _ l2 (l0.length : Int) 10000000 t893 true _ ?side1 ?side2 A6.out).mono ?_); (case side1 => exact kC HR2); (case side2 => exact HC2.out); rintro e w14 ⟨rfl, hb⟩; refine ⟨_, rfl, ?_⟩; replace HO0 := ak (Kd.V_below (by (with_reducible repeat (first | apply Kd.V_alloc | apply Kd.V_drewN | apply Kd.V_drew)); exact HO0.out) hb); replace HO1 := ak (Kd.V_below (by (with_reducible repeat (first | apply Kd.V_alloc | apply Kd.V_drewN | apply Kd.V_drew)); exact HO1.out) hb); replace HO891 := ak (Kd.N_below (by (with_reducible repeat (first | apply Kd.N_alloc | apply Kd.N_drewN | apply Kd.N_drew)); exact HO891.out) hb); replace HB := kH _ hb; (try clear hb); (try clear hb2); (try clear hk); (try clear hi)) | ((with_reducible refine gate_callee (f := 98) rfl ?_); refine gL 33 Try.func98 #[.slice A2 l2.length c2, .int .i64 t893] ?_; (with_reducible refine (shares_mixture_parts.calls k _ _ l2 t893 t895 true _ ?side1 ?side2 A8.out).mono ?_); (case side1 => exact kC HR2); (case side2 => exact HC2.out); rintro e w15 ⟨v897, rfl, ho0, hb⟩; refine ⟨_, rfl, ?_⟩; replace HO0 := ak (Kd.V_elder' (by (with_reducible repeat (first | apply Kd.V_alloc | apply Kd.V_drewN | apply Kd.V_drew)); exact HO0.out) (Kd.S_base ho0) hb); replace HO1 := ak (Kd.V_elder' (by (with_reducible repeat (first | apply Kd.V_alloc | apply Kd.V_drewN | apply Kd.V_drew)); exact HO1.out) (Kd.S_base ho0) hb); have HO898 := ak (Kd.N_lower (Kd.N_mono (ok' := fun k_ => ((P0_ k_ ∨ P1_ k_) ∨ w.heap.size ≤ k_) ∧ nb k_ (.slice Ao12 y889.length co12)) (Kd.S_N (Kd.S_bound ho0)) (fun k_ hk_ => ⟨(.inr (Nat.le_trans (below_size (hbC _)) hk_.2.1)), (Kd.fresh' (Kd.N_lt (by (with_reducible repeat (first | apply Kd.N_alloc | apply Kd.N_drewN | apply Kd.N_drew)); exact HO891.out)) k_ hk_.2.1)⟩)) (below_size (hbC _))); replace HO891 := ak (Kd.N_elder' (by (with_reducible repeat (first | apply Kd.N_alloc | apply Kd.N_drewN | apply Kd.N_drew)); exact HO891.out) (Kd.S_base ho0) hb); replace HB := kH _ hb; (try clear hb); (try clear hb2); (try clear hk); (try clear hi); (try clear ho0); obtain ⟨Ao16, co16, eo16⟩ := Kd.N_slice HO898.out; subst eo16))
 go_loopg [40] k (fun kq v40 w' => ∃ (x40_1 : Int), v40 = .int .i64 x40_1 ∧ Aside0 (shares_CheckMix.l0 kq l0 l1 t893 t895 (t895.length : Int) x40_1 = some (r1, r2)) ∧ Aside0 (kq ≤ k) ∧ Aside0 (Kd.V (Kd.int .i64) 3 w' w.heap.size (fun k_ => ((P0_ k_ ∨ P1_ k_) ∨ w.heap.size ≤ k_) ∧ some k_ ≠ ((.slice Ao16 t895.length co16) : Value).ownBlock) (.slice A0 l0.length c0) l0) ∧ Aside0 (Kd.V (Kd.int .i64) 3 w' w.heap.size (fun k_ => ((P0_ k_ ∨ P1_ k_) ∨ w.heap.size ≤ k_) ∧ some k_ ≠ ((.slice Ao16 t895.length co16) : Value).ownBlock) (.slice A1 l1.length c1) l1) ∧ Aside0 (Kd.N (Kd.slice 3 (Kd.int .i64)) 22 w' w.heap.size (fun k_ => ((P0_ k_ ∨ P1_ k_) ∨ w.heap.size ≤ k_)) (.slice Ao16 t895.length co16) t895) ∧ Aside0 (Below w.heap.size w w'))
 case atStart => exact ⟨(0), (by first | rfl | (simp; done) | (simp [*]; done)), H', ⟨Nat.le_refl _⟩, ⟨by (with_reducible repeat (first | apply Kd.V_alloc | apply Kd.V_drewN | apply Kd.V_drew)); exact Kd.V_mono HO0.out (fun _ hk => ⟨hk.1.1, hk.2⟩)⟩, ⟨by (with_reducible repeat (first | apply Kd.V_alloc | apply Kd.V_drewN | apply Kd.V_drew)); exact Kd.V_mono HO1.out (fun _ hk => ⟨hk.1.1, hk.2⟩)⟩, ⟨by (with_reducible repeat (first | apply Kd.N_alloc | apply Kd.N_drewN | apply Kd.N_drew)); exact Kd.N_mono HO898.out (fun _ hk => hk.1)⟩, ⟨hbC _⟩⟩
 case round =>
  clear H'
  try clear c1
  try clear c2
  try clear p2
  try clear c5
  try clear c7
  try clear c9
  obtain ⟨x40_1, rfl, HA, HK1, HO_0, HO_1, HO_38, HB⟩ := hrel
  cases gk with
  | zero => exact absurd HA.out (by simp [shares_CheckMix.l0])
  | succ k1 =>
   have H := HA.out
   clear HA
   simp only [shares_CheckMix.l0] at H
   by_cases c17 : x40_1 < (t895.length : Int)
   rotate_left
   ·rw [if_neg c17] at H
    have c17b0 : decide (x40_1 < (t895.length : Int)) = false := decide_eq_false c17
    clear c17
    simp only [Option.some.injEq, Prod.mk.injEq] at H
    obtain ⟨rfl, rfl⟩ := H
    go_wp2
    go_ret2
    exact ⟨by first | rfl | (simp [errW_none, errW_some] <;> rfl) | (simp [*, errW_none, errW_some] <;> rfl), hbC _⟩
   rw [if_pos c17] at H
   have c17b0 : decide (x40_1 < (t895.length : Int)) = true := decide_eq_true c17
   clear c17
   by_cases c18 : 0 ≤ x40_1
   rotate_left
   ·rw [if_neg c18] at H
    exact absurd H (by simp)
   rw [if_pos c18] at H
   have c18b0 : decide (0 ≤ x40_1) = true := decide_eq_true c18
   clear c18
   by_cases c19 : x40_1 < (t895.length : Int)
   rotate_left
   ·rw [if_neg c19] at H
    exact absurd H (by simp)
   rw [if_pos c19] at H
   have c19b0 : decide (x40_1 < (t895.length : Int)) = true := decide_eq_true c19
   clear c19
   have H' := Aside0.mk H
   clear H
   have p899 : 0 ≤ (x40_1 : Int) := dA
   have q899 : x40_1 < (t895.length : Int) := dA
   obtain ⟨ad899, A899_0, c899_0, e899, hx899_0, hl899_0, hi899_0⟩ := at_L1 (Kd.N_reads' HO_38.out).2.2 x40_1 p899 q899
   cases e899
   obtain ⟨ce899, hce899, hMe899, hcc899⟩ := Kd.N_get HO_38.out [] x40_1 p899 (by first | exact q899 | exact dA | (have e_ := (Kd.N_reads' HO_38.out).1; omega))
   obtain ⟨ua899_0, uc899_0, rfl, ul899_0, ge899_0⟩ := Kd.FK_slice_open hMe899
   have hv899_0 := hcc899 0 _ rfl
   rw [Nat.add_zero, show ((Kd.slice 3 (Kd.int .i64))).sz = 1 from rfl, Nat.mul_one] at hv899_0
   replace hv899_0 := Option.some.inj (hv899_0.symm.trans hx899_0)
   injection hv899_0 with hva_ hvn_ hvc_
   rw [hva_] at ge899_0
   rw [hvc_] at ul899_0
   have HL899_0 := ak (show Kd.V (Kd.int .i64) 3 _ w.heap.size _ _ (rd_L1 t895 x40_1) from Kd.V_mk ul899_0 ge899_0)
   clear hva_ hvn_ hvc_ ge899_0 ul899_0
   clear hcc899 hce899
   have HR899_0 := Aside0.mk hi899_0
   have HC899_0 := Aside0.mk hl899_0
   clear hi899_0 hl899_0
   replace p899 := eq_true p899
   replace q899 := eq_true q899
   go_wp2
   go_loopg [13, 47] k1 (fun kq v13 v47 w' => ∃ (x13_2 : Int) (x47_2 : Int), v13 = .int .i64 x13_2 ∧ v47 = .int .i64 x47_2 ∧ Aside0 (shares_CheckMix.l1 kq l0 l1 t893 x40_1 x13_2 t895 (t895.length : Int) x40_1 (rd_L1 t895 x40_1) ((rd_L1 t895 x40_1).length : Int) x47_2 = some (r1, r2)) ∧ Aside0 (kq ≤ k1) ∧ Aside0 (Kd.V (Kd.int .i64) 3 w' w.heap.size (fun k_ => ((P0_ k_ ∨ P1_ k_) ∨ w.heap.size ≤ k_) ∧ some k_ ≠ ((.slice (some ad899) t895.length co16) : Value).ownBlock) (.slice A0 l0.length c0) l0) ∧ Aside0 (Kd.V (Kd.int .i64) 3 w' w.heap.size (fun k_ => ((P0_ k_ ∨ P1_ k_) ∨ w.heap.size ≤ k_) ∧ some k_ ≠ ((.slice (some ad899) t895.length co16) : Value).ownBlock) (.slice A1 l1.length c1) l1) ∧ Aside0 (Kd.N (Kd.slice 3 (Kd.int .i64)) 22 w' w.heap.size (fun k_ => ((P0_ k_ ∨ P1_ k_) ∨ w.heap.size ≤ k_)) (.slice (some ad899) t895.length co16) t895) ∧ Aside0 (Kd.C (Kd.int .i64) w' A899_0 (rd_L1 t895 x40_1).length (rd_L1 t895 x40_1)) ∧ Aside0 (Below w.heap.size w w'))
   case atStart => exact ⟨(0), (0), (by first | rfl | (simp; done) | (simp [*]; done)), (by first | rfl | (simp; done) | (simp [*]; done)), H', ⟨Nat.le_refl _⟩, ⟨by (with_reducible repeat (first | apply Kd.V_alloc | apply Kd.V_drewN | apply Kd.V_drew)); exact HO_0.out⟩, ⟨by (with_reducible repeat (first | apply Kd.V_alloc | apply Kd.V_drewN | apply Kd.V_drew)); exact HO_1.out⟩, ⟨by (with_reducible repeat (first | apply Kd.N_alloc | apply Kd.N_drewN | apply Kd.N_drew)); exact HO_38.out⟩, ⟨by repeat (first | (with_reducible exact HR899_0.out) | (with_reducible refine Kd.C_alloc ?_ _) | (with_reducible refine Kd.C_drewN ?_ _) | (with_reducible refine Kd.C_drew ?_) | exact HR899_0.out)⟩, ⟨hbC _⟩⟩
   case round =>
    clear H'
    try clear c1
    try clear c2
    try clear p2
    try clear c5
    try clear c7
    try clear c8
    try clear p8
    try clear q8
    try clear hx8
    try clear c9
    try clear c17
    try clear c17b0
    try clear c18
    try clear c18b0
    try clear c19
    try clear c19b0
    try clear hx899_0
    try clear p2
    try clear p899
    try clear q899
    obtain ⟨x13_2, x47_2, rfl, rfl, HA, HK2, HO_0, HO_1, HO_38, HR899_0, HB⟩ := hrel
    cases gk with
    | zero => exact absurd HA.out (by simp [shares_CheckMix.l1])
    | succ k2 =>
     have H := HA.out
     clear HA
     simp only [shares_CheckMix.l1] at H
     by_cases c20 : x47_2 < ((rd_L1 t895 x40_1).length : Int)
     ·rw [if_pos c20] at H
      have c20b0 : decide (x47_2 < ((rd_L1 t895 x40_1).length : Int)) = true := decide_eq_true c20
      clear c20
      by_cases c21 : 0 ≤ x47_2
      rotate_left
      ·rw [if_neg c21] at H
       exact absurd H (by simp)
      rw [if_pos c21] at H
      have c21b0 : decide (0 ≤ x47_2) = true := decide_eq_true c21
      clear c21
      by_cases c22 : x47_2 < ((rd_L1 t895 x40_1).length : Int)
      rotate_left
      ·rw [if_neg c22] at H
       exact absurd H (by simp)
      rw [if_pos c22] at H
      have c22b0 : decide (x47_2 < ((rd_L1 t895 x40_1).length : Int)) = true := decide_eq_true c22
      clear c22
      by_cases c23 : x47_2 < (l0.length : Int)
      rotate_left
      ·rw [if_neg c23] at H
       exact absurd H (by simp)
      rw [if_pos c23] at H
      have c23b0 : decide (x47_2 < (l0.length : Int)) = true := decide_eq_true c23
      clear c23
      have H' := Aside0.mk H
      clear H
      have p900 : 0 ≤ (x47_2 : Int) := dA
      have q900 : x47_2 < ((rd_L1 t895 x40_1).length : Int) := dA
      obtain ⟨ad900, e900, hx900_0⟩ := Kd.at_int HR899_0.out x47_2 p900 q900
      cases e900
      try replace hx900_0 := (HB.out.cell (World.block_lt_of_cell? w _ hx900_0)).trans hx900_0
      replace p900 := eq_true p900
      replace q900 := eq_true q900
      have p901 : 0 ≤ (x47_2 : Int) := dA
      have q901 : x47_2 < (l0.length : Int) := dA
      obtain ⟨ad901, e901, hx901_0⟩ := Kd.at_int (Kd.V_reads' HO_0.out).2.2 x47_2 p901 q901
      cases e901
      replace p901 := eq_true p901
      replace q901 := eq_true q901
      go_wp2
      go_roundg k2
      case measure => have := HK1.out; have := HK2.out; omega
      case rel => exact ⟨(wrap64 (x13_2 + (wrap64 ((rd (rd_L1 t895 x40_1) x47_2) * (rd l0 x47_2))))), (wrap64 (x47_2 + 1)), (by first | rfl | (simp; done) | (simp [*]; done)), (by first | rfl | (simp; done) | (simp [*]; done)), H', ⟨by have := HK1.out; have := HK2.out; omega⟩, ⟨by (with_reducible repeat (first | apply Kd.V_alloc | apply Kd.V_drewN | apply Kd.V_drew)); exact HO_0.out⟩, ⟨by (with_reducible repeat (first | apply Kd.V_alloc | apply Kd.V_drewN | apply Kd.V_drew)); exact HO_1.out⟩, ⟨by (with_reducible repeat (first | apply Kd.N_alloc | apply Kd.N_drewN | apply Kd.N_drew)); exact HO_38.out⟩, ⟨by repeat (first | (with_reducible exact HR899_0.out) | (with_reducible refine Kd.C_alloc ?_ _) | (with_reducible refine Kd.C_drewN ?_ _) | (with_reducible refine Kd.C_drew ?_) | exact HR899_0.out)⟩, ⟨hbC _⟩⟩
     rw [if_neg c20] at H
     have c20b0 : decide (x47_2 < ((rd_L1 t895 x40_1).length : Int)) = false := decide_eq_false c20
     clear c20
     by_cases c24 : 0 ≤ x40_1
     rotate_left
     ·rw [if_neg c24] at H
      exact absurd H (by simp)
     rw [if_pos c24] at H
     have c24b0 : decide (0 ≤ x40_1) = true := decide_eq_true c24
     clear c24
     by_cases c25 : x40_1 < (l1.length : Int)
     rotate_left
     ·rw [if_neg c25] at H
      exact absurd H (by simp)
     rw [if_pos c25] at H
     have c25b0 : decide (x40_1 < (l1.length : Int)) = true := decide_eq_true c25
     clear c25
     by_cases c26 : x13_2 = (wrap64 ((rd l1 x40_1) * t893))
     rotate_left
     ·rw [if_neg c26] at H
      have c26b0 : (x13_2 == (wrap64 ((rd l1 x40_1) * t893))) = false := beq_eq_false_iff_ne.mpr c26
      have c26b1 : (x13_2 != (wrap64 ((rd l1 x40_1) * t893))) = true := bne_iff_ne.mpr c26
      simp only [Option.some.injEq, Prod.mk.injEq] at H
      obtain ⟨rfl, rfl⟩ := H
      have p902 : 0 ≤ (x40_1 : Int) := dA
      have q902 : x40_1 < (l1.length : Int) := dA
      obtain ⟨ad902, e902, hx902_0⟩ := Kd.at_int (Kd.V_reads' HO_1.out).2.2 x40_1 p902 q902
      cases e902
      replace p902 := eq_true p902
      replace q902 := eq_true q902
      go_wp2
      go_ret2
      exact ⟨by first | rfl | (simp [errW_none, errW_some] <;> rfl) | (simp [*, errW_none, errW_some] <;> rfl), hbC _⟩
     rw [if_pos c26] at H
     have c26b0 : (x13_2 == (wrap64 ((rd l1 x40_1) * t893))) = true := beq_iff_eq.mpr c26
     have c26b1 : (x13_2 != (wrap64 ((rd l1 x40_1) * t893))) = false := bne_eq_false_iff_eq.mpr c26
     clear c26
     have H' := Aside0.mk H
     clear H
     have p902 : 0 ≤ (x40_1 : Int) := dA
     have q902 : x40_1 < (l1.length : Int) := dA
     obtain ⟨ad902, e902, hx902_0⟩ := Kd.at_int (Kd.V_reads' HO_1.out).2.2 x40_1 p902 q902
     cases e902
     replace p902 := eq_true p902
     replace q902 := eq_true q902
     go_wp2
     go_roundg k2
     case measure => have := HK1.out; have := HK2.out; omega
     case rel => exact ⟨(wrap64 (x40_1 + 1)), (by first | rfl | (simp; done) | (simp [*]; done)), H', ⟨by have := HK1.out; have := HK2.out; omega⟩, ⟨by (with_reducible repeat (first | apply Kd.V_alloc | apply Kd.V_drewN | apply Kd.V_drew)); exact HO_0.out⟩, ⟨by (with_reducible repeat (first | apply Kd.V_alloc | apply Kd.V_drewN | apply Kd.V_drew)); exact HO_1.out⟩, ⟨by (with_reducible repeat (first | apply Kd.N_alloc | apply Kd.N_drewN | apply Kd.N_drew)); exact HO_38.out⟩, ⟨hbC _⟩⟩

end Go.Proofs.Ytefmafbbnkkpjaa.X
