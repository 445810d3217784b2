-- Written by a program of this work (wip/xprint.py, over the kit's printer) out of the translation.
import Derived.Test.YtefmafbbnkkpjaaX0
import Derived.Test.YtefmafbbnkkpjaaXG1a
import Derived.Test.YtefmafbbnkkpjaaXf88
namespace Go.Proofs.Ytefmafbbnkkpjaa.X
open Go.RowKit Go.Proofs.YtefmafbbnkkpjaaW.PrintWords Go.Proofs.YtefmafbbnkkpjaaW.PrintLast Go.Proofs.YtefmafbbnkkpjaaW.PrintMore
attribute [local go_sem] max2_int min2_int max_two min_two max_three min_three max_four min_four   -- for this text's walks alone
set_option linter.unusedVariables false
set_option linter.unusedSimpArgs false

/-! ### congouref01_Mixture: function 50 -/
mutual
def congouref01_Mixture.j0 : Nat → List (List (S62)) → Int → Int → Bool → Option (Int)
 | 0, _, _, _, _ => none
 | k + 1, x0, x1, x7, x27 => if x27 = true then (some 0) else (congouref01_Mixture.l0 k x0 x1 x7 x0 (x0.length : Int) 0)
def congouref01_Mixture.l0 : Nat → List (List (S62)) → Int → Int → List (List (S62)) → Int → Int → Option (Int)
 | 0, _, _, _, _, _, _ => none
 | k + 1, x0, x1, x7, x28, x29, x30 => if x30 < x29 then (if 0 ≤ x30 then (if x30 < (x28.length : Int) then (if ((rd_L5 x28 x30).length : Int) = x1 then (congouref01_Mixture.l0 k x0 x1 x7 x28 x29 (wrap64 (x30 + 1))) else (some 0)) else (none)) else (none)) else (congouref01_Mixture.l1 k x0 x1 x7 x1 0)
def congouref01_Mixture.l1 : Nat → List (List (S62)) → Int → Int → Int → Int → Option (Int)
 | 0, _, _, _, _, _ => none
 | k + 1, x0, x1, x7, x39, x40 => if x40 < x39 then (congouref01_Mixture.l2 k x0 x1 x7 x40 0 0 x39 x40 x1 0) else (some x7)
def congouref01_Mixture.l2 : Nat → List (List (S62)) → Int → Int → Int → Int → Int → Int → Int → Int → Int → Option (Int)
 | 0, _, _, _, _, _, _, _, _, _, _ => none
 | k + 1, x0, x1, x7, x10, x11, x12, x39, x40, x43, x44 => if x44 < x43 then (if 0 ≤ x10 then (if x10 < (x0.length : Int) then (if 0 ≤ x44 then (if x44 < ((rd_L5 x0 x10).length : Int) then (if x44 < (x0.length : Int) then (if x10 < ((rd_L5 x0 x44).length : Int) then ((some (([(⟨(rd_T62 (rd_L5 x0 x10) x44).f0, (rd_T62 (rd_L5 x0 x10) x44).f1⟩ : S62), (⟨(rd_T62 (rd_L5 x0 x44) x10).f0, (rd_T62 (rd_L5 x0 x44) x10).f1⟩ : S62)] : List (S62)) : List (S62))).bind fun y771 => (congouref01_Mixture.l3 k x0 x1 x7 x10 x11 x12 x44 x39 x40 x43 x44 y771 (y771.length : Int) 0)) else (none)) else (none)) else (none)) else (none)) else (none)) else (none)) else (if x11 = x7 then (if x12 = x7 then (congouref01_Mixture.l1 k x0 x1 x7 x39 (wrap64 (x40 + 1))) else (some 0)) else (some 0))
def congouref01_Mixture.l3 : Nat → List (List (S62)) → Int → Int → Int → Int → Int → Int → Int → Int → Int → Int → List (S62) → Int → Int → Option (Int)
 | 0, _, _, _, _, _, _, _, _, _, _, _, _, _, _ => none
 | k + 1, x0, x1, x7, x10, x11, x12, x13, x39, x40, x43, x44, x61, x62, x63 => if x63 < x62 then (if 0 ≤ x63 then (if x63 < (x61.length : Int) then (if ((rd_T62 x61 x63).f0) > ((rd_T62 x61 x63).f1) then (some 0) else (congouref01_Mixture.l3 k x0 x1 x7 x10 x11 x12 x13 x39 x40 x43 x44 x61 x62 (wrap64 (x63 + 1)))) else (none)) else (none)) else (if 0 ≤ x10 then (if x10 < (x0.length : Int) then (if 0 ≤ x13 then (if x13 < ((rd_L5 x0 x10).length : Int) then (if ((rd_T62 (rd_L5 x0 x10) x13).f1) = 0 then (none) else (if x13 < (x0.length : Int) then (if x10 < ((rd_L5 x0 x13).length : Int) then (if ((rd_T62 (rd_L5 x0 x13) x10).f1) = 0 then (none) else (congouref01_Mixture.l2 k x0 x1 x7 x10 (wrap64 (x11 + (wrap64 ((wrap64 (Int.tdiv x7 ((rd_T62 (rd_L5 x0 x10) x13).f1))) * ((rd_T62 (rd_L5 x0 x10) x13).f0))))) (wrap64 (x12 + (wrap64 ((wrap64 (Int.tdiv x7 ((rd_T62 (rd_L5 x0 x13) x10).f1))) * ((rd_T62 (rd_L5 x0 x13) x10).f0))))) x39 x40 x43 (wrap64 (x44 + 1)))) else (none)) else (none))) else (none)) else (none)) else (none)) else (none))
end
def congouref01_Mixture.f (k : Nat) (l0 : List (List (S62))) (a1 : Int) (a2 : Int) : Option (Int) := (congouref01_numbers.f k l0).bind fun t762 => ((congouref01_Multiple.f k t762 a2).bind fun t765 => (if t765 = 0 then (congouref01_Mixture.j0 k l0 a1 t765 true) else (congouref01_Mixture.j0 k l0 a1 t765 ((l0.length : Int) != a1))))
theorem congouref01_Mixture.mono_l : ∀ k, (∀ y0 y1 y2 y3, LeO (congouref01_Mixture.j0 k y0 y1 y2 y3) (congouref01_Mixture.j0 (k + 1) y0 y1 y2 y3)) ∧ (∀ y0 y1 y2 y3 y4 y5, LeO (congouref01_Mixture.l0 k y0 y1 y2 y3 y4 y5) (congouref01_Mixture.l0 (k + 1) y0 y1 y2 y3 y4 y5)) ∧ (∀ y0 y1 y2 y3 y4, LeO (congouref01_Mixture.l1 k y0 y1 y2 y3 y4) (congouref01_Mixture.l1 (k + 1) y0 y1 y2 y3 y4)) ∧ (∀ y0 y1 y2 y3 y4 y5 y6 y7 y8 y9, LeO (congouref01_Mixture.l2 k y0 y1 y2 y3 y4 y5 y6 y7 y8 y9) (congouref01_Mixture.l2 (k + 1) y0 y1 y2 y3 y4 y5 y6 y7 y8 y9)) ∧ (∀ y0 y1 y2 y3 y4 y5 y6 y7 y8 y9 y10 y11 y12 y13, LeO (congouref01_Mixture.l3 k y0 y1 y2 y3 y4 y5 y6 y7 y8 y9 y10 y11 y12 y13) (congouref01_Mixture.l3 (k + 1) y0 y1 y2 y3 y4 y5 y6 y7 y8 y9 y10 y11 y12 y13))
 | 0 => ⟨fun _ _ _ _ r h => by simp [congouref01_Mixture.j0] at h, fun _ _ _ _ _ _ r h => by simp [congouref01_Mixture.l0] at h, fun _ _ _ _ _ r h => by simp [congouref01_Mixture.l1] at h, fun _ _ _ _ _ _ _ _ _ _ r h => by simp [congouref01_Mixture.l2] at h, fun _ _ _ _ _ _ _ _ _ _ _ _ _ _ r h => by simp [congouref01_Mixture.l3] at h⟩
 | k + 1 => by
  obtain ⟨ih0, ih1, ih2, ih3, ih4⟩ := congouref01_Mixture.mono_l k
  refine ⟨?_, ?_, ?_, ?_, ?_⟩
  ·intro y0 y1 y2 y3
   unfold congouref01_Mixture.j0
   repeat' first
   | (with_reducible exact ih0 _ _ _ _)
   | (with_reducible exact ih1 _ _ _ _ _ _)
   | (with_reducible exact ih2 _ _ _ _ _)
   | (with_reducible exact ih3 _ _ _ _ _ _ _ _ _ _)
   | (with_reducible exact ih4 _ _ _ _ _ _ _ _ _ _ _ _ _ _)
   | (with_reducible exact congouref01_Multiple.mono _ _ _)
   | (with_reducible exact congouref01_numbers.mono _ _)
   | (with_reducible exact LeO.refl _)
   | (with_reducible exact LeO.none _)
   | (with_reducible refine LeO.ite ?_ ?_)
   | (with_reducible refine LeO.bind ?_ (fun _ => ?_))
   | exact ih0 _ _ _ _
   | exact ih1 _ _ _ _ _ _
   | exact ih2 _ _ _ _ _
   | exact ih3 _ _ _ _ _ _ _ _ _ _
   | exact ih4 _ _ _ _ _ _ _ _ _ _ _ _ _ _
   | exact congouref01_Multiple.mono _ _ _
   | exact congouref01_numbers.mono _ _
   | exact LeO.none _
   | refine LeO.ite ?_ ?_
   | refine LeO.bind ?_ (fun _ => ?_)
  ·intro y0 y1 y2 y3 y4 y5
   unfold congouref01_Mixture.l0
   repeat' first
   | (with_reducible exact ih0 _ _ _ _)
   | (with_reducible exact ih1 _ _ _ _ _ _)
   | (with_reducible exact ih2 _ _ _ _ _)
   | (with_reducible exact ih3 _ _ _ _ _ _ _ _ _ _)
   | (with_reducible exact ih4 _ _ _ _ _ _ _ _ _ _ _ _ _ _)
   | (with_reducible exact congouref01_Multiple.mono _ _ _)
   | (with_reducible exact congouref01_numbers.mono _ _)
   | (with_reducible exact LeO.refl _)
   | (with_reducible exact LeO.none _)
   | (with_reducible refine LeO.ite ?_ ?_)
   | (with_reducible refine LeO.bind ?_ (fun _ => ?_))
   | exact ih0 _ _ _ _
   | exact ih1 _ _ _ _ _ _
   | exact ih2 _ _ _ _ _
   | exact ih3 _ _ _ _ _ _ _ _ _ _
   | exact ih4 _ _ _ _ _ _ _ _ _ _ _ _ _ _
   | exact congouref01_Multiple.mono _ _ _
   | exact congouref01_numbers.mono _ _
   | exact LeO.none _
   | refine LeO.ite ?_ ?_
   | refine LeO.bind ?_ (fun _ => ?_)
  ·intro y0 y1 y2 y3 y4
   unfold congouref01_Mixture.l1
   repeat' first
   | (with_reducible exact ih0 _ _ _ _)
   | (with_reducible exact ih1 _ _ _ _ _ _)
   | (with_reducible exact ih2 _ _ _ _ _)
   | (with_reducible exact ih3 _ _ _ _ _ _ _ _ _ _)
   | (with_reducible exact ih4 _ _ _ _ _ _ _ _ _ _ _ _ _ _)
   | (with_reducible exact congouref01_Multiple.mono _ _ _)
   | (with_reducible exact congouref01_numbers.mono _ _)
   | (with_reducible exact LeO.refl _)
   | (with_reducible exact LeO.none _)
   | (with_reducible refine LeO.ite ?_ ?_)
   | (with_reducible refine LeO.bind ?_ (fun _ => ?_))
   | exact ih0 _ _ _ _
   | exact ih1 _ _ _ _ _ _
   | exact ih2 _ _ _ _ _
   | exact ih3 _ _ _ _ _ _ _ _ _ _
   | exact ih4 _ _ _ _ _ _ _ _ _ _ _ _ _ _
   | exact congouref01_Multiple.mono _ _ _
   | exact congouref01_numbers.mono _ _
   | exact LeO.none _
   | refine LeO.ite ?_ ?_
   | refine LeO.bind ?_ (fun _ => ?_)
  ·intro y0 y1 y2 y3 y4 y5 y6 y7 y8 y9
   unfold congouref01_Mixture.l2
   repeat' first
   | (with_reducible exact ih0 _ _ _ _)
   | (with_reducible exact ih1 _ _ _ _ _ _)
   | (with_reducible exact ih2 _ _ _ _ _)
   | (with_reducible exact ih3 _ _ _ _ _ _ _ _ _ _)
   | (with_reducible exact ih4 _ _ _ _ _ _ _ _ _ _ _ _ _ _)
   | (with_reducible exact congouref01_Multiple.mono _ _ _)
   | (with_reducible exact congouref01_numbers.mono _ _)
   | (with_reducible exact LeO.refl _)
   | (with_reducible exact LeO.none _)
   | (with_reducible refine LeO.ite ?_ ?_)
   | (with_reducible refine LeO.bind ?_ (fun _ => ?_))
   | exact ih0 _ _ _ _
   | exact ih1 _ _ _ _ _ _
   | exact ih2 _ _ _ _ _
   | exact ih3 _ _ _ _ _ _ _ _ _ _
   | exact ih4 _ _ _ _ _ _ _ _ _ _ _ _ _ _
   | exact congouref01_Multiple.mono _ _ _
   | exact congouref01_numbers.mono _ _
   | exact LeO.none _
   | refine LeO.ite ?_ ?_
   | refine LeO.bind ?_ (fun _ => ?_)
  ·intro y0 y1 y2 y3 y4 y5 y6 y7 y8 y9 y10 y11 y12 y13
   unfold congouref01_Mixture.l3
   repeat' first
   | (with_reducible exact ih0 _ _ _ _)
   | (with_reducible exact ih1 _ _ _ _ _ _)
   | (with_reducible exact ih2 _ _ _ _ _)
   | (with_reducible exact ih3 _ _ _ _ _ _ _ _ _ _)
   | (with_reducible exact ih4 _ _ _ _ _ _ _ _ _ _ _ _ _ _)
   | (with_reducible exact congouref01_Multiple.mono _ _ _)
   | (with_reducible exact congouref01_numbers.mono _ _)
   | (with_reducible exact LeO.refl _)
   | (with_reducible exact LeO.none _)
   | (with_reducible refine LeO.ite ?_ ?_)
   | (with_reducible refine LeO.bind ?_ (fun _ => ?_))
   | exact ih0 _ _ _ _
   | exact ih1 _ _ _ _ _ _
   | exact ih2 _ _ _ _ _
   | exact ih3 _ _ _ _ _ _ _ _ _ _
   | exact ih4 _ _ _ _ _ _ _ _ _ _ _ _ _ _
   | exact congouref01_Multiple.mono _ _ _
   | exact congouref01_numbers.mono _ _
   | exact LeO.none _
   | refine LeO.ite ?_ ?_
   | refine LeO.bind ?_ (fun _ => ?_)
theorem congouref01_Mixture.mono : ∀ a0 a1 a2 k, LeO (congouref01_Mixture.f k a0 a1 a2) (congouref01_Mixture.f (k + 1) a0 a1 a2) := by
 intro a0 a1 a2 k
 obtain ⟨ih0, ih1, ih2, ih3, ih4⟩ := congouref01_Mixture.mono_l k
 unfold congouref01_Mixture.f
 repeat' first
   | (with_reducible exact ih0 _ _ _ _)
   | (with_reducible exact ih1 _ _ _ _ _ _)
   | (with_reducible exact ih2 _ _ _ _ _)
   | (with_reducible exact ih3 _ _ _ _ _ _ _ _ _ _)
   | (with_reducible exact ih4 _ _ _ _ _ _ _ _ _ _ _ _ _ _)
   | (with_reducible exact congouref01_Multiple.mono _ _ _)
   | (with_reducible exact congouref01_numbers.mono _ _)
   | (with_reducible exact LeO.refl _)
   | (with_reducible exact LeO.none _)
   | (with_reducible refine LeO.ite ?_ ?_)
   | (with_reducible refine LeO.bind ?_ (fun _ => ?_))
   | exact ih0 _ _ _ _
   | exact ih1 _ _ _ _ _ _
   | exact ih2 _ _ _ _ _
   | exact ih3 _ _ _ _ _ _ _ _ _ _
   | exact ih4 _ _ _ _ _ _ _ _ _ _ _ _ _ _
   | exact congouref01_Multiple.mono _ _ _
   | exact congouref01_numbers.mono _ _
   | exact LeO.none _
   | refine LeO.ite ?_ ?_
   | refine LeO.bind ?_ (fun _ => ?_)
def congouref01_Mixture.T17 : Bool × List (List Nat × List Nat) := (true, [([], []), ([], []), ([0, 1], [0, 1]), ([2], [2]), ([], []), ([3, 4], [3, 4]), ([5], [5]), ([], []), ([], []), ([7, 8], [7, 8]), ([9], [9]), ([], []), ([10, 11], [10, 11]), ([12], [12]), ([6, 13], [6, 13]), ([14], [14]), ([], [])])
def congouref01_Mixture.B17 : List Nat := [0, 0, 3, 7, 0, 31, 63, 0, 0, 384, 896, 0, 3968, 8064, 16383, 32767, 0]
theorem congouref01_Mixture.tab17 : rtab .any (opsOf Try.f50 17) = congouref01_Mixture.T17 := by kernel_rfl
theorem congouref01_Mixture.bits17 : waitsOk congouref01_Mixture.T17.2 congouref01_Mixture.B17 = true := by kernel_rfl
def congouref01_Mixture.T23 : Bool × List (List Nat × List Nat) := (true, [([], []), ([], []), ([], []), ([], []), ([2, 3], [2, 3]), ([4], [4]), ([], []), ([5, 6], [5, 6]), ([7], [7]), ([8], [8]), ([1, 9], [1, 9]), ([], []), ([], []), ([11, 12], [11, 12]), ([13], [13]), ([], []), ([14, 15], [14, 15]), ([16], [16]), ([17], [17]), ([10, 18], [10, 18]), ([0, 19], [0, 19]), ([20, 0, 1, 2, 3, 4, 5, 6, 7, 8, 9, 10, 11, 12, 13, 14, 15, 16, 17, 18, 19, 20], [0, 20])])
def congouref01_Mixture.B23 : List Nat := [0, 0, 0, 0, 12, 28, 0, 124, 252, 508, 1022, 0, 0, 6144, 14336, 0, 63488, 129024, 260096, 524286, 1048575, 2097151]
theorem congouref01_Mixture.tab23 : rtab .any (opsOf Try.f50 23) = congouref01_Mixture.T23 := by kernel_rfl
theorem congouref01_Mixture.bits23 : waitsOk congouref01_Mixture.T23.2 congouref01_Mixture.B23 = true := by kernel_rfl
def congouref01_Mixture.T24 : Bool × List (List Nat × List Nat) := (true, [([], []), ([], []), ([], []), ([], []), ([2, 3], [2, 3]), ([4], [4]), ([], []), ([5, 6], [5, 6]), ([7], [7]), ([8], [8]), ([1, 9], [1, 9]), ([], []), ([], []), ([11, 12], [11, 12]), ([13], [13]), ([], []), ([14, 15], [14, 15]), ([16], [16]), ([17], [17]), ([10, 18], [10, 18]), ([0, 19], [0, 19]), ([20, 0, 1, 2, 3, 4, 5, 6, 7, 8, 9, 10, 11, 12, 13, 14, 15, 16, 17, 18, 19, 20], [0, 20])])
def congouref01_Mixture.B24 : List Nat := [0, 0, 0, 0, 12, 28, 0, 124, 252, 508, 1022, 0, 0, 6144, 14336, 0, 63488, 129024, 260096, 524286, 1048575, 2097151]
theorem congouref01_Mixture.tab24 : rtab .any (opsOf Try.f50 24) = congouref01_Mixture.T24 := by kernel_rfl
theorem congouref01_Mixture.bits24 : waitsOk congouref01_Mixture.T24.2 congouref01_Mixture.B24 = true := by kernel_rfl
set_option maxHeartbeats 8000000 in
set_option maxRecDepth 100000 in
theorem congouref01_Mixture.calls (k : Nat) (A0 : Option Addr) (c0 : Nat) (l0 : List (List (S62))) (a1 : Int) (a2 : Int) (r : Int) (w : World) (hr0 : Kd.C (Kd.slice 62 k62) w A0 l0.length l0) (hc0 : l0.length ≤ c0) (h : congouref01_Mixture.f k l0 a1 a2 = some r) :
  Calls Try.prog 50 #[.slice A0 l0.length c0, .int .i64 a1, .int .i64 a2] w fun e w' => e = .returned (.int .i64 r) ∧ Below w.heap.size w w' := by
 have hu62 := Try.underlying62
 have HR0 := Aside0.mk hr0
 have HC0 := Aside0.mk hc0
 clear hr0 hc0
 have HB := ak (Below.refl w.heap.size w)
 have H : ((congouref01_numbers.f k l0).bind fun t762 => ((congouref01_Multiple.f k t762 a2).bind fun t765 => (if t765 = 0 then (congouref01_Mixture.j0 k l0 a1 t765 true) else (congouref01_Mixture.j0 k l0 a1 t765 ((l0.length : Int) != a1))))) = some r := h
 clear h
 replace H := Option.bind_eq_some_iff.mp H
 obtain ⟨t762, A40, H⟩ := H
 replace H : ((congouref01_Multiple.f k t762 a2).bind fun t765 => (if t765 = 0 then (congouref01_Mixture.j0 k l0 a1 t765 true) else (congouref01_Mixture.j0 k l0 a1 t765 ((l0.length : Int) != a1)))) = some r := H
 have A4 := Aside0.mk A40
 clear A40
 replace H := Option.bind_eq_some_iff.mp H
 obtain ⟨t765, A50, H⟩ := H
 replace H : (if t765 = 0 then (congouref01_Mixture.j0 k l0 a1 t765 true) else (congouref01_Mixture.j0 k l0 a1 t765 ((l0.length : Int) != a1))) = some r := H
 have A5 := Aside0.mk A50
 clear A50
 have HC6 := Aside0.mk H
 clear H
 go_enter Try.func50, Try.ntmps50
 go_upto_region 2 with (first | ((with_reducible refine gate_callee (f := 89) rfl ?_); refine gL 17 Try.func89 #[.slice A0 l0.length c0] ?_; (with_reducible refine (congouref01_numbers.calls k _ _ l0 t762 _ ?side1 ?side2 A4.out).mono ?_); (case side1 => repeat (first | exact HR0.out | (with_reducible refine Kd.C_alloc ?_ _) | (with_reducible refine Kd.C_drewN ?_ _) | (with_reducible refine Kd.C_drew ?_))); (case side2 => exact HC0.out); rintro e w7 ⟨v763, rfl, ho0, hb⟩; refine ⟨_, rfl, ?_⟩; have HO764 := ak (Kd.R_lower ho0 (below_size (hbC _))); replace HB := kH _ hb; (try clear hb); (try clear hb2); (try clear hk); (try clear hi); (try clear ho0); obtain ⟨Ao8, co8, eo8⟩ := Kd.R_slice HO764.out; subst eo8) | ((with_reducible refine gate_callee (f := 88) rfl ?_); refine gL 19 Try.func88 #[.slice Ao8 t762.length co8, .int .i64 a2] ?_; (with_reducible refine (congouref01_Multiple.calls k _ _ t762 a2 t765 _ ?side1 ?side2 A5.out).mono ?_); (case side1 => exact kD (Kd.R_reads' HO764.out).2.2); (case side2 => exact (Kd.R_reads' HO764.out).2.1); rintro e w9 ⟨rfl, hb⟩; refine ⟨_, rfl, ?_⟩; replace HO764 := kO HO764 hb; replace HB := kH _ hb; (try clear hb); (try clear hb2); (try clear hk); (try clear hi)))
 (try simp only [Act.put, List.setIfInBounds_toArray, List.set_cons_zero, List.set_cons_succ])
 go_cut [27] (fun v27 wc => ∃ (kq : Nat) (x27_5 : Bool), v27 = .bool x27_5 ∧ Aside0 (congouref01_Mixture.j0 kq l0 a1 t765 x27_5 = some r) ∧ Aside0 (kq ≤ k) ∧ Aside0 (Below w.heap.size w wc))
 case first =>
  have H := HC6.out
  clear HC6
  by_cases c10 : t765 = 0
  ·rw [if_pos c10] at H
   have c10b0 : (t765 == 0) = true := beq_iff_eq.mpr c10
   have c10b1 : (t765 != 0) = false := bne_eq_false_iff_eq.mpr c10
   clear c10
   (first | rw [c10b0] | (simp only [i64_w, i32_w]; rw [c10b0]) | skip)
   have H' := Aside0.mk H
   clear H
   go_wp2
   go_meet
   case rel => exact ⟨_, (true), (by first | rfl | (simp; done) | (simp [*]; done)), H', ⟨by first | omega | exact Nat.le_refl _⟩, ⟨hbC _⟩⟩
  rw [if_neg c10] at H
  have c10b0 : (t765 == 0) = false := beq_eq_false_iff_ne.mpr c10
  have c10b1 : (t765 != 0) = true := bne_iff_ne.mpr c10
  (first | rw [c10b0] | (simp only [i64_w, i32_w]; rw [c10b0]) | skip)
  have H' := Aside0.mk H
  clear H
  go_wp2
  go_meet
  case rel => exact ⟨_, (((l0.length : Int) != a1)), (by first | rfl | (simp; done) | (simp [*]; done)), H', ⟨by first | omega | exact Nat.le_refl _⟩, ⟨hbC _⟩⟩
 case rest =>
  clear HC6
  try clear c1
  try clear p2
  try clear c5
  try clear c8
  try clear c10
  try clear c10b0
  try clear c10b1
  obtain ⟨kq, x27_5, rfl, HA, HJ5, HB⟩ := hcut
  cases kq with
  | zero => exact absurd HA.out (by simp [congouref01_Mixture.j0])
  | succ kj5 =>
   have H := HA.out
   clear HA
   simp only [congouref01_Mixture.j0] at H
   by_cases c11 : x27_5 = true
   ·subst c11
    have H1 : (some 0) = some r := by rw [if_pos rfl] at H; exact H
    clear H
    have H := H1
    clear H1
    obtain rfl := Option.some.inj H
    go_wp2
    go_ret
    exact ⟨by first | rfl | (simp [errW_none, errW_some] <;> rfl) | (simp [*, errW_none, errW_some] <;> rfl), hbC _⟩
   replace c11 := Bool.eq_false_iff.mpr c11
   subst c11
   have H1 : (congouref01_Mixture.l0 kj5 l0 a1 t765 l0 (l0.length : Int) 0) = some r := by rw [if_neg (show ¬ (false = true) by decide)] at H; exact H
   clear H
   have H := H1
   clear H1
   have H' := Aside0.mk H
   clear H
   go_wp2
   go_loopg [30] kj5 (fun kq v30 w' => ∃ (x30_2 : Int), v30 = .int .i64 x30_2 ∧ Aside0 (congouref01_Mixture.l0 kq l0 a1 t765 l0 (l0.length : Int) x30_2 = some r) ∧ Aside0 (kq ≤ kj5) ∧ Aside0 (Below w.heap.size w w'))
   case atStart => exact ⟨(0), (by first | rfl | (simp; done) | (simp [*]; done)), H', ⟨Nat.le_refl _⟩, ⟨hbC _⟩⟩
   case round =>
    clear H'
    try clear c1
    try clear p2
    try clear c5
    try clear c8
    try clear c10
    try clear c10b0
    try clear c10b1
    try clear c11
    try clear p2
    obtain ⟨x30_2, rfl, HA, HK2, HB⟩ := hrel
    cases gk with
    | zero => exact absurd HA.out (by simp [congouref01_Mixture.l0])
    | succ k2 =>
     have H := HA.out
     clear HA
     simp only [congouref01_Mixture.l0] at H
     by_cases c12 : x30_2 < (l0.length : Int)
     ·rw [if_pos c12] at H
      have c12b0 : decide (x30_2 < (l0.length : Int)) = true := decide_eq_true c12
      clear c12
      by_cases c13 : 0 ≤ x30_2
      rotate_left
      ·rw [if_neg c13] at H
       exact absurd H (by simp)
      rw [if_pos c13] at H
      have c13b0 : decide (0 ≤ x30_2) = true := decide_eq_true c13
      clear c13
      by_cases c14 : x30_2 < (l0.length : Int)
      rotate_left
      ·rw [if_neg c14] at H
       exact absurd H (by simp)
      rw [if_pos c14] at H
      have c14b0 : decide (x30_2 < (l0.length : Int)) = true := decide_eq_true c14
      clear c14
      by_cases c15 : ((rd_L5 l0 x30_2).length : Int) = a1
      rotate_left
      ·rw [if_neg c15] at H
       have c15b0 : (((rd_L5 l0 x30_2).length : Int) == a1) = false := beq_eq_false_iff_ne.mpr c15
       have c15b1 : (((rd_L5 l0 x30_2).length : Int) != a1) = true := bne_iff_ne.mpr c15
       obtain rfl := Option.some.inj H
       have p766 : 0 ≤ (x30_2 : Int) := dA
       have q766 : x30_2 < (l0.length : Int) := dA
       obtain ⟨ad766, A766_0, c766_0, e766, hx766_0, hl766_0, hi766_0⟩ := at_L5 HR0.out x30_2 p766 q766
       cases e766
       try replace hx766_0 := (HB.out.cell (World.block_lt_of_cell? w _ hx766_0)).trans hx766_0
       have HR766_0 := Aside0.mk hi766_0
       have HC766_0 := Aside0.mk hl766_0
       clear hi766_0 hl766_0
       replace p766 := eq_true p766
       replace q766 := eq_true q766
       go_wp2
       go_ret
       exact ⟨by first | rfl | (simp [errW_none, errW_some] <;> rfl) | (simp [*, errW_none, errW_some] <;> rfl), hbC _⟩
      rw [if_pos c15] at H
      have c15b0 : (((rd_L5 l0 x30_2).length : Int) == a1) = true := beq_iff_eq.mpr c15
      have c15b1 : (((rd_L5 l0 x30_2).length : Int) != a1) = false := bne_eq_false_iff_eq.mpr c15
      clear c15
      have H' := Aside0.mk H
      clear H
      have p766 : 0 ≤ (x30_2 : Int) := dA
      have q766 : x30_2 < (l0.length : Int) := dA
      obtain ⟨ad766, A766_0, c766_0, e766, hx766_0, hl766_0, hi766_0⟩ := at_L5 HR0.out x30_2 p766 q766
      cases e766
      try replace hx766_0 := (HB.out.cell (World.block_lt_of_cell? w _ hx766_0)).trans hx766_0
      have HR766_0 := Aside0.mk hi766_0
      have HC766_0 := Aside0.mk hl766_0
      clear hi766_0 hl766_0
      replace p766 := eq_true p766
      replace q766 := eq_true q766
      go_wp2
      go_roundg k2
      case measure => have := HJ5.out; have := HK2.out; omega
      case rel => exact ⟨(wrap64 (x30_2 + 1)), (by first | rfl | (simp; done) | (simp [*]; done)), H', ⟨by have := HJ5.out; have := HK2.out; omega⟩, ⟨hbC _⟩⟩
     rw [if_neg c12] at H
     have c12b0 : decide (x30_2 < (l0.length : Int)) = false := decide_eq_false c12
     clear c12
     have H' := Aside0.mk H
     clear H
     go_wp2
     go_loopg [40] k2 (fun kq v40 w' => ∃ (x40_3 : Int), v40 = .int .i64 x40_3 ∧ Aside0 (congouref01_Mixture.l1 kq l0 a1 t765 a1 x40_3 = some r) ∧ Aside0 (kq ≤ k2) ∧ Aside0 (Below w.heap.size w w'))
     case atStart => exact ⟨(0), (by first | rfl | (simp; done) | (simp [*]; done)), H', ⟨Nat.le_refl _⟩, ⟨hbC _⟩⟩
     case round =>
      clear H'
      try clear c1
      try clear p2
      try clear c5
      try clear p6
      try clear c7
      try clear p7
      try clear q7
      try clear hx7
      try clear c8
      try clear c10
      try clear c10b0
      try clear c10b1
      try clear c11
      try clear c12
      try clear c12b0
      try clear c13
      try clear c13b0
      try clear c14
      try clear c14b0
      try clear c15
      try clear c15b0
      try clear c15b1
      try clear hx766_0
      try clear p2
      try clear p766
      try clear q766
      obtain ⟨x40_3, rfl, HA, HK3, HB⟩ := hrel
      cases gk with
      | zero => exact absurd HA.out (by simp [congouref01_Mixture.l1])
      | succ k3 =>
       have H := HA.out
       clear HA
       simp only [congouref01_Mixture.l1] at H
       by_cases c16 : x40_3 < a1
       rotate_left
       ·rw [if_neg c16] at H
        have c16b0 : decide (x40_3 < a1) = false := decide_eq_false c16
        clear c16
        obtain rfl := Option.some.inj H
        go_wp2
        go_ret
        exact ⟨by first | rfl | (simp [errW_none, errW_some] <;> rfl) | (simp [*, errW_none, errW_some] <;> rfl), hbC _⟩
       rw [if_pos c16] at H
       have c16b0 : decide (x40_3 < a1) = true := decide_eq_true c16
       clear c16
       have H' := Aside0.mk H
       clear H
       go_wp2
       go_loopg [11, 12, 44] k3 (fun kq v11 v12 v44 w' => ∃ (x11_4 : Int) (x12_4 : Int) (x44_4 : Int), v11 = .int .i64 x11_4 ∧ v12 = .int .i64 x12_4 ∧ v44 = .int .i64 x44_4 ∧ Aside0 (congouref01_Mixture.l2 kq l0 a1 t765 x40_3 x11_4 x12_4 a1 x40_3 a1 x44_4 = some r) ∧ Aside0 (kq ≤ k3) ∧ Aside0 (Below w.heap.size w w'))
       case atStart => exact ⟨(0), (0), (0), (by first | rfl | (simp; done) | (simp [*]; done)), (by first | rfl | (simp; done) | (simp [*]; done)), (by first | rfl | (simp; done) | (simp [*]; done)), H', ⟨Nat.le_refl _⟩, ⟨hbC _⟩⟩
       case round =>
        clear H'
        try clear c1
        try clear p2
        try clear c5
        try clear p6
        try clear c7
        try clear p7
        try clear q7
        try clear hx7
        try clear c8
        try clear c10
        try clear c10b0
        try clear c10b1
        try clear c11
        try clear c12
        try clear c12b0
        try clear c13
        try clear c13b0
        try clear c14
        try clear c14b0
        try clear c15
        try clear c15b0
        try clear c15b1
        try clear c16
        try clear c16b0
        try clear hx766_0
        try clear p2
        try clear p6
        try clear p7
        try clear p766
        try clear q7
        try clear q766
        obtain ⟨x11_4, x12_4, x44_4, rfl, rfl, rfl, HA, HK4, HB⟩ := hrel
        cases gk with
        | zero => exact absurd HA.out (by simp [congouref01_Mixture.l2])
        | succ k4 =>
         have H := HA.out
         clear HA
         simp only [congouref01_Mixture.l2] at H
         by_cases c17 : x44_4 < a1
         rotate_left
         ·rw [if_neg c17] at H
          have c17b0 : decide (x44_4 < a1) = false := decide_eq_false c17
          clear c17
          by_cases c46 : x11_4 = t765
          rotate_left
          ·rw [if_neg c46] at H
           have c46b0 : (x11_4 == t765) = false := beq_eq_false_iff_ne.mpr c46
           have c46b1 : (x11_4 != t765) = true := bne_iff_ne.mpr c46
           obtain rfl := Option.some.inj H
           go_wp2
           go_ret
           exact ⟨by first | rfl | (simp [errW_none, errW_some] <;> rfl) | (simp [*, errW_none, errW_some] <;> rfl), hbC _⟩
          rw [if_pos c46] at H
          have c46b0 : (x11_4 == t765) = true := beq_iff_eq.mpr c46
          have c46b1 : (x11_4 != t765) = false := bne_eq_false_iff_eq.mpr c46
          clear c46
          by_cases c47 : x12_4 = t765
          rotate_left
          ·rw [if_neg c47] at H
           have c47b0 : (x12_4 == t765) = false := beq_eq_false_iff_ne.mpr c47
           have c47b1 : (x12_4 != t765) = true := bne_iff_ne.mpr c47
           obtain rfl := Option.some.inj H
           go_wp2
           go_ret
           exact ⟨by first | rfl | (simp [errW_none, errW_some] <;> rfl) | (simp [*, errW_none, errW_some] <;> rfl), hbC _⟩
          rw [if_pos c47] at H
          have c47b0 : (x12_4 == t765) = true := beq_iff_eq.mpr c47
          have c47b1 : (x12_4 != t765) = false := bne_eq_false_iff_eq.mpr c47
          clear c47
          have H' := Aside0.mk H
          clear H
          go_wp2
          go_roundg k4
          case measure => have := HJ5.out; have := HK2.out; have := HK3.out; have := HK4.out; omega
          case rel => exact ⟨(wrap64 (x40_3 + 1)), (by first | rfl | (simp; done) | (simp [*]; done)), H', ⟨by have := HJ5.out; have := HK2.out; have := HK3.out; have := HK4.out; omega⟩, ⟨hbC _⟩⟩
         rw [if_pos c17] at H
         have c17b0 : decide (x44_4 < a1) = true := decide_eq_true c17
         clear c17
         by_cases c18 : 0 ≤ x40_3
         rotate_left
         ·rw [if_neg c18] at H
          exact absurd H (by simp)
         rw [if_pos c18] at H
         have c18b0 : decide (0 ≤ x40_3) = true := decide_eq_true c18
         clear c18
         by_cases c19 : x40_3 < (l0.length : Int)
         rotate_left
         ·rw [if_neg c19] at H
          exact absurd H (by simp)
         rw [if_pos c19] at H
         have c19b0 : decide (x40_3 < (l0.length : Int)) = true := decide_eq_true c19
         clear c19
         by_cases c20 : 0 ≤ x44_4
         rotate_left
         ·rw [if_neg c20] at H
          exact absurd H (by simp)
         rw [if_pos c20] at H
         have c20b0 : decide (0 ≤ x44_4) = true := decide_eq_true c20
         clear c20
         by_cases c21 : x44_4 < ((rd_L5 l0 x40_3).length : Int)
         rotate_left
         ·rw [if_neg c21] at H
          exact absurd H (by simp)
         rw [if_pos c21] at H
         have c21b0 : decide (x44_4 < ((rd_L5 l0 x40_3).length : Int)) = true := decide_eq_true c21
         clear c21
         by_cases c22 : x44_4 < (l0.length : Int)
         rotate_left
         ·rw [if_neg c22] at H
          exact absurd H (by simp)
         rw [if_pos c22] at H
         have c22b0 : decide (x44_4 < (l0.length : Int)) = true := decide_eq_true c22
         clear c22
         by_cases c23 : x40_3 < ((rd_L5 l0 x44_4).length : Int)
         rotate_left
         ·rw [if_neg c23] at H
          exact absurd H (by simp)
         rw [if_pos c23] at H
         have c23b0 : decide (x40_3 < ((rd_L5 l0 x44_4).length : Int)) = true := decide_eq_true c23
         clear c23
         obtain ⟨y771, hy771⟩ : ∃ y_ : List (S62), y_ = (([(⟨(rd_T62 (rd_L5 l0 x40_3) x44_4).f0, (rd_T62 (rd_L5 l0 x40_3) x44_4).f1⟩ : S62), (⟨(rd_T62 (rd_L5 l0 x44_4) x40_3).f0, (rd_T62 (rd_L5 l0 x44_4) x40_3).f1⟩ : S62)] : List (S62))) := ⟨_, rfl⟩
         replace H : (congouref01_Mixture.l3 k4 l0 a1 t765 x40_3 x11_4 x12_4 x44_4 a1 x40_3 a1 x44_4 y771 (y771.length : Int) 0) = some r := by first | (rw [hy771]; with_reducible exact H) | (have H2_ := (Option.bind_some _ _).symm.trans H; rw [hy771]; with_reducible exact H2_) | (have H2_ := (Option.bind_some _ _).symm.trans H; with_reducible exact H2_) | with_reducible exact H | (rw [hy771]; exact H) | exact H
         have Ny771 := Aside0.mk hy771
         clear hy771
         have H' := Aside0.mk H
         clear H
         try go_wp2
         replace HB := ak (below_drew1 HB.out)
         have p767 : 0 ≤ (x40_3 : Int) := dA
         have q767 : x40_3 < (l0.length : Int) := dA
         obtain ⟨ad767, A767_0, c767_0, e767, hx767_0, hl767_0, hi767_0⟩ := at_L5 HR0.out x40_3 p767 q767
         have hw767_0 := hx767_0
         cases e767
         try replace hx767_0 := (HB.out.cell (World.block_lt_of_cell? w _ hx767_0)).trans hx767_0
         have HR767_0 := Aside0.mk hi767_0
         have HC767_0 := Aside0.mk hl767_0
         clear hi767_0 hl767_0
         replace p767 := eq_true p767
         replace q767 := eq_true q767
         have p768 : 0 ≤ (x44_4 : Int) := dA
         have q768 : x44_4 < ((rd_L5 l0 x40_3).length : Int) := dA
         obtain ⟨ad768, e768, hx768_0, hx768_1⟩ := at_T62 HR767_0.out x44_4 p768 q768
         have hw768_1 := hx768_1
         have hw768_0 := hx768_0
         cases e768
         try replace hx768_0 := (HB.out.cell (World.block_lt_of_cell? w _ hx768_0)).trans hx768_0
         try replace hx768_1 := (HB.out.cell (World.block_lt_of_cell? w _ hx768_1)).trans hx768_1
         replace p768 := eq_true p768
         replace q768 := eq_true q768
         have p769 : 0 ≤ (x44_4 : Int) := dA
         have q769 : x44_4 < (l0.length : Int) := dA
         obtain ⟨ad769, A769_0, c769_0, e769, hx769_0, hl769_0, hi769_0⟩ := at_L5 HR0.out x44_4 p769 q769
         have hw769_0 := hx769_0
         obtain rfl : ad767 = ad769 := (by injection e769)
         try replace hx769_0 := (HB.out.cell (World.block_lt_of_cell? w _ hx769_0)).trans hx769_0
         have HR769_0 := Aside0.mk hi769_0
         have HC769_0 := Aside0.mk hl769_0
         clear hi769_0 hl769_0
         replace p769 := eq_true p769
         replace q769 := eq_true q769
         have p770 : 0 ≤ (x40_3 : Int) := dA
         have q770 : x40_3 < ((rd_L5 l0 x44_4).length : Int) := dA
         obtain ⟨ad770, e770, hx770_0, hx770_1⟩ := at_T62 HR769_0.out x40_3 p770 q770
         have hw770_1 := hx770_1
         have hw770_0 := hx770_0
         cases e770
         try replace hx770_0 := (HB.out.cell (World.block_lt_of_cell? w _ hx770_0)).trans hx770_0
         try replace hx770_1 := (HB.out.cell (World.block_lt_of_cell? w _ hx770_1)).trans hx770_1
         replace p770 := eq_true p770
         replace q770 := eq_true q770
         refine sS (n := 17) (S := fun w' => w'.cell? (ad767.add (x40_3).toNat) = some (.slice (some ad768) (rd_L5 l0 x40_3).length c767_0) ∧ w'.cell? (ad768.add ((x44_4).toNat * 2)) = some (.int .i64 ((rd_T62 (rd_L5 l0 x40_3) x44_4).f0)) ∧ w'.cell? ⟨(ad768.add ((x44_4).toNat * 2)).block, (ad768.add ((x44_4).toNat * 2)).off + 1, none⟩ = some (.int .i64 ((rd_T62 (rd_L5 l0 x40_3) x44_4).f1)) ∧ w'.cell? (ad767.add (x44_4).toNat) = some (.slice (some ad770) (rd_L5 l0 x44_4).length c769_0) ∧ w'.cell? (ad770.add ((x40_3).toNat * 2)) = some (.int .i64 ((rd_T62 (rd_L5 l0 x44_4) x40_3).f0)) ∧ w'.cell? ⟨(ad770.add ((x40_3).toNat * 2)).block, (ad770.add ((x40_3).toNat * 2)).off + 1, none⟩ = some (.int .i64 ((rd_T62 (rd_L5 l0 x44_4) x40_3).f1))) (ds := []) ⟨((HB.out.cell (World.block_lt_of_cell? w _ hw767_0)).trans hw767_0), ((HB.out.cell (World.block_lt_of_cell? w _ hw768_0)).trans hw768_0), ((HB.out.cell (World.block_lt_of_cell? w _ hw768_1)).trans hw768_1), ((HB.out.cell (World.block_lt_of_cell? w _ hw769_0)).trans hw769_0), ((HB.out.cell (World.block_lt_of_cell? w _ hw770_0)).trans hw770_0), ((HB.out.cell (World.block_lt_of_cell? w _ hw770_1)).trans hw770_1)⟩ (fun hHeld => ?_); refine with_tabW congouref01_Mixture.tab17 congouref01_Mixture.bits17 (fun HT_ HW_ => ?_)
         generalize wr.drew = w24 at HB HR767_0 HR769_0 hx767_0 hx768_0 hx768_1 hx769_0 hx770_0 hx770_1 hHeld ⊢
         refine pS 0 47 17 1 ?_
         refine pS 1 48 17 3 ?_
         refine pS 2 49 17 7 ?_
         refine pS 4 51 17 23 ?_
         refine pS 7 54 17 151 ?_
         refine pS 8 55 17 407 ?_
         refine pS 9 56 17 919 ?_
         refine pS 11 58 17 2967 ?_
         refine pS 16 63 17 68503 ?_
         refine tS 3 50 17 68511 ?_
         refine pS 5 52 17 68543 ?_
         refine tS 6 53 17 68607 ?_
         refine tS 10 57 17 69631 ?_
         refine pS 12 59 17 73727 ?_
         refine tS 13 60 17 81919 ?_
         refine one_ (i := 14) (N := some 61) (ba 17 98303) rfl rfl (one_of HT_.out (by kernel_rfl)) (by decide) (fun K hK => ?_)
         refine Kd.R_lit_step k62 _ 62 ?hg (N := 61) ?hd (xs := ([(⟨(rd_T62 (rd_L5 l0 x40_3) x44_4).f0, (rd_T62 (rd_L5 l0 x40_3) x44_4).f1⟩ : S62), (⟨(rd_T62 (rd_L5 l0 x44_4) x40_3).f0, (rd_T62 (rd_L5 l0 x44_4) x40_3).f1⟩ : S62)] : List (S62))) (inner := [.int .i64 ((rd_T62 (rd_L5 l0 x40_3) x44_4).f0), .int .i64 ((rd_T62 (rd_L5 l0 x40_3) x44_4).f1), .int .i64 ((rd_T62 (rd_L5 l0 x44_4) x40_3).f0), .int .i64 ((rd_T62 (rd_L5 l0 x44_4) x40_3).f1)]) (ok := fun _ => True) (okp := fun _ => True) ?hr ?hp (fun _ hk => hk) trivial (Below.refl _ _) (Nat.le_refl _) (by simp) ?_; (case hd => rfl); (case hg => rfl); (case hr => first | (go_simp; done) | (go_simp; rfl)); (case hp => exact (Reps.c2 (show Kd.M k62 _ _ _ (⟨(rd_T62 (rd_L5 l0 x40_3) x44_4).f0, (rd_T62 (rd_L5 l0 x40_3) x44_4).f1⟩ : S62) [.int .i64 ((rd_T62 (rd_L5 l0 x40_3) x44_4).f0), .int .i64 ((rd_T62 (rd_L5 l0 x40_3) x44_4).f1)] from (k62_mkM _ _ _ (⟨(rd_T62 (rd_L5 l0 x40_3) x44_4).f0, (rd_T62 (rd_L5 l0 x40_3) x44_4).f1⟩ : S62) )) (Reps.c2 (show Kd.M k62 _ _ _ (⟨(rd_T62 (rd_L5 l0 x44_4) x40_3).f0, (rd_T62 (rd_L5 l0 x44_4) x40_3).f1⟩ : S62) [.int .i64 ((rd_T62 (rd_L5 l0 x44_4) x40_3).f0), .int .i64 ((rd_T62 (rd_L5 l0 x44_4) x40_3).f1)] from (k62_mkM _ _ _ (⟨(rd_T62 (rd_L5 l0 x44_4) x40_3).f0, (rd_T62 (rd_L5 l0 x44_4) x40_3).f1⟩ : S62) )) (Reps.none _ _))))
         intro v772 w25 ho26 hb hg_ hnew_
         clear hg_ hnew_
         (first | rw [← Ny771.out] at ho26 | (simp only [Int.reduceToNat] at ho26; rw [← Ny771.out] at ho26))
         have HO773 := ak (Kd.R_lower ho26 (below_size (hbC _)))
         replace HB := kH _ hb
         clear hb ho26
         obtain ⟨Ao27, co27, eo27⟩ := Kd.R_slice HO773.out
         (first | subst eo27 | (injection eo27 with f1_ f2_ f3_; have f4_ := f1_.symm; have f5_ := f3_.symm; clear f1_ f2_ f3_; subst f4_; subst f5_))
         refine hK.out _ _ ⟨((HB.out.cell (World.block_lt_of_cell? w _ hw767_0)).trans hw767_0), ((HB.out.cell (World.block_lt_of_cell? w _ hw768_0)).trans hw768_0), ((HB.out.cell (World.block_lt_of_cell? w _ hw768_1)).trans hw768_1), ((HB.out.cell (World.block_lt_of_cell? w _ hw769_0)).trans hw769_0), ((HB.out.cell (World.block_lt_of_cell? w _ hw770_0)).trans hw770_0), ((HB.out.cell (World.block_lt_of_cell? w _ hw770_1)).trans hw770_1)⟩ (fun hHeld => ?_)
         clear hK K
         refine norm_ (a' := ?_) ?_ ?_
         rotate_left
         ·show Act.put _ (some 61) _ = _
          simp only [Act.put, List.setIfInBounds_toArray, List.set_cons_zero, List.set_cons_succ, i64_w, i32_w]
          rfl
         refine pS 15 62 17 131071 ?_
         refine done_ (done_of HT_.out (by kernel_rfl)) ?_
         try go_wp2
         go_loopg [63] k4 (fun kq v63 w' => ∃ (x63_5 : Int), v63 = .int .i64 x63_5 ∧ Aside0 (congouref01_Mixture.l3 kq l0 a1 t765 x40_3 x11_4 x12_4 x44_4 a1 x40_3 a1 x44_4 y771 (y771.length : Int) x63_5 = some r) ∧ Aside0 (kq ≤ k4) ∧ Aside0 (Kd.R k62 62 w' w.heap.size (fun _ => True) (.slice Ao27 y771.length co27) y771) ∧ Aside0 (Below w.heap.size w w'))
         case atStart => exact ⟨(0), (by first | rfl | (simp; done) | (simp [*]; done)), H', ⟨Nat.le_refl _⟩, ⟨rC HO773⟩, ⟨hbC _⟩⟩
         case round =>
          clear H'
          try clear c1
          try clear c2
          try clear p2
          try clear c5
          try clear p6
          try clear c7
          try clear p7
          try clear q7
          try clear hx7
          try clear c8
          try clear c10
          try clear c10b0
          try clear c10b1
          try clear c11
          try clear c12
          try clear c12b0
          try clear c13
          try clear c13b0
          try clear c14
          try clear c14b0
          try clear c15
          try clear c15b0
          try clear c15b1
          try clear c16
          try clear c16b0
          try clear c17
          try clear c17b0
          try clear c18
          try clear c18b0
          try clear c19
          try clear c19b0
          try clear c20
          try clear c20b0
          try clear c21
          try clear c21b0
          try clear c22
          try clear c22b0
          try clear c23
          try clear c23b0
          try clear hx766_0
          try clear hx767_0
          try clear hx768_0
          try clear hx768_1
          try clear hx769_0
          try clear hx770_0
          try clear hx770_1
          try clear p2
          try clear p6
          try clear p7
          try clear p766
          try clear p767
          try clear p768
          try clear p769
          try clear p770
          try clear q7
          try clear q766
          try clear q767
          try clear q768
          try clear q769
          try clear q770
          obtain ⟨x63_5, rfl, HA, HK5, HO_61, HB⟩ := hrel
          cases gk with
          | zero => exact absurd HA.out (by simp [congouref01_Mixture.l3])
          | succ k5 =>
           have H := HA.out
           clear HA
           simp only [congouref01_Mixture.l3] at H
           by_cases c28 : x63_5 < (y771.length : Int)
           ·rw [if_pos c28] at H
            have c28b0 : decide (x63_5 < (y771.length : Int)) = true := decide_eq_true c28
            clear c28
            by_cases c29 : 0 ≤ x63_5
            rotate_left
            ·rw [if_neg c29] at H
             exact absurd H (by simp)
            rw [if_pos c29] at H
            have c29b0 : decide (0 ≤ x63_5) = true := decide_eq_true c29
            clear c29
            by_cases c30 : x63_5 < (y771.length : Int)
            rotate_left
            ·rw [if_neg c30] at H
             exact absurd H (by simp)
            rw [if_pos c30] at H
            have c30b0 : decide (x63_5 < (y771.length : Int)) = true := decide_eq_true c30
            clear c30
            by_cases c31 : ((rd_T62 y771 x63_5).f0) > ((rd_T62 y771 x63_5).f1)
            ·rw [if_pos c31] at H
             have c31b0 : decide (((rd_T62 y771 x63_5).f1) < ((rd_T62 y771 x63_5).f0)) = true := decide_eq_true c31
             clear c31
             obtain rfl := Option.some.inj H
             have p774 : 0 ≤ (x63_5 : Int) := dA
             have q774 : x63_5 < (y771.length : Int) := dA
             obtain ⟨ad774, e774, hx774_0, hx774_1⟩ := at_T62 (Kd.R_reads' HO_61.out).2.2 x63_5 p774 q774
             cases e774
             replace p774 := eq_true p774
             replace q774 := eq_true q774
             go_wp2_with (first | ((with_reducible refine gate_dst (N := 15) rfl ?_); (try (refine gate_guard (by rfl) ?_; dsimp only)); refine bE 15 #[.int .i64 0, .int .i64 0] 62 ?_; intro gb775 hg w32 hbox hb; replace HO_61 := ak (Kd.R_below (Kd.R_elderB (rC HO_61) gb775 (Nat.le_of_eq hg.symm)) hb); have BK775 := ak (hbox); have GW775 := kG w hg; have GE775 := kG w hg; replace HB := kH _ hb; clear hb hbox hg; have hcz33_0 : w32.cell? ⟨gb775, 0, none⟩ = some (.int .i64 0) := bc BK775 0; have hcz33_1 : w32.cell? ⟨gb775, 1, none⟩ = some (.int .i64 0) := bc BK775 1; have hfz33_0 := fz BK775 0; have hfz33_1 := fz BK775 1))
             go_ret
             exact ⟨by first | rfl | (simp [errW_none, errW_some] <;> rfl) | (simp [*, errW_none, errW_some] <;> rfl), hbC _⟩
            rw [if_neg c31] at H
            have c31b0 : decide (((rd_T62 y771 x63_5).f1) < ((rd_T62 y771 x63_5).f0)) = false := decide_eq_false c31
            clear c31
            have H' := Aside0.mk H
            clear H
            have p774 : 0 ≤ (x63_5 : Int) := dA
            have q774 : x63_5 < (y771.length : Int) := dA
            obtain ⟨ad774, e774, hx774_0, hx774_1⟩ := at_T62 (Kd.R_reads' HO_61.out).2.2 x63_5 p774 q774
            cases e774
            replace p774 := eq_true p774
            replace q774 := eq_true q774
            go_wp2_with (first | ((with_reducible refine gate_dst (N := 15) rfl ?_); (try (refine gate_guard (by rfl) ?_; dsimp only)); refine bE 15 #[.int .i64 0, .int .i64 0] 62 ?_; intro gb775 hg w34 hbox hb; replace HO_61 := ak (Kd.R_below (Kd.R_elderB (rC HO_61) gb775 (Nat.le_of_eq hg.symm)) hb); have BK775 := ak (hbox); have GW775 := kG w hg; have GE775 := kG w hg; replace HB := kH _ hb; clear hb hbox hg; have hcz35_0 : w34.cell? ⟨gb775, 0, none⟩ = some (.int .i64 0) := bc BK775 0; have hcz35_1 : w34.cell? ⟨gb775, 1, none⟩ = some (.int .i64 0) := bc BK775 1; have hfz35_0 := fz BK775 0; have hfz35_1 := fz BK775 1))
            go_roundg k5
            case measure => have := HJ5.out; have := HK2.out; have := HK3.out; have := HK4.out; have := HK5.out; omega
            case rel => exact ⟨(wrap64 (x63_5 + 1)), (by first | rfl | (simp; done) | (simp [*]; done)), H', ⟨by have := HJ5.out; have := HK2.out; have := HK3.out; have := HK4.out; have := HK5.out; omega⟩, ⟨rD (Kd.R_mono (Kd.R_far (p := ⟨gb775, 1, none⟩) (Kd.R_far (p := ⟨gb775, 0, none⟩) (Kd.R_mono HO_61.out (fun k_ hk => (⟨hk, hk.2⟩ : _ ∧ k_ ≠ gb775))) (fun _ hk => hk.2) (.int .i64 ((rd_T62 y771 x63_5).f0))) (fun _ hk => hk.2) (.int .i64 ((rd_T62 y771 x63_5).f1))) (fun _ hk => trivial))⟩, ⟨hbC _⟩⟩
           rw [if_neg c28] at H
           have c28b0 : decide (x63_5 < (y771.length : Int)) = false := decide_eq_false c28
           clear c28
           by_cases c36 : 0 ≤ x40_3
           rotate_left
           ·rw [if_neg c36] at H
            exact absurd H (by simp)
           rw [if_pos c36] at H
           have c36b0 : decide (0 ≤ x40_3) = true := decide_eq_true c36
           clear c36
           by_cases c37 : x40_3 < (l0.length : Int)
           rotate_left
           ·rw [if_neg c37] at H
            exact absurd H (by simp)
           rw [if_pos c37] at H
           have c37b0 : decide (x40_3 < (l0.length : Int)) = true := decide_eq_true c37
           clear c37
           by_cases c38 : 0 ≤ x44_4
           rotate_left
           ·rw [if_neg c38] at H
            exact absurd H (by simp)
           rw [if_pos c38] at H
           have c38b0 : decide (0 ≤ x44_4) = true := decide_eq_true c38
           clear c38
           by_cases c39 : x44_4 < ((rd_L5 l0 x40_3).length : Int)
           rotate_left
           ·rw [if_neg c39] at H
            exact absurd H (by simp)
           rw [if_pos c39] at H
           have c39b0 : decide (x44_4 < ((rd_L5 l0 x40_3).length : Int)) = true := decide_eq_true c39
           clear c39
           by_cases c40 : ((rd_T62 (rd_L5 l0 x40_3) x44_4).f1) = 0
           ·rw [if_pos c40] at H
            exact absurd H (by simp)
           rw [if_neg c40] at H
           have c40b0 : (((rd_T62 (rd_L5 l0 x40_3) x44_4).f1) == 0) = false := beq_eq_false_iff_ne.mpr c40
           have c40b1 : (((rd_T62 (rd_L5 l0 x40_3) x44_4).f1) != 0) = true := bne_iff_ne.mpr c40
           by_cases c41 : x44_4 < (l0.length : Int)
           rotate_left
           ·rw [if_neg c41] at H
            exact absurd H (by simp)
           rw [if_pos c41] at H
           have c41b0 : decide (x44_4 < (l0.length : Int)) = true := decide_eq_true c41
           clear c41
           by_cases c42 : x40_3 < ((rd_L5 l0 x44_4).length : Int)
           rotate_left
           ·rw [if_neg c42] at H
            exact absurd H (by simp)
           rw [if_pos c42] at H
           have c42b0 : decide (x40_3 < ((rd_L5 l0 x44_4).length : Int)) = true := decide_eq_true c42
           clear c42
           by_cases c43 : ((rd_T62 (rd_L5 l0 x44_4) x40_3).f1) = 0
           ·rw [if_pos c43] at H
            exact absurd H (by simp)
           rw [if_neg c43] at H
           have c43b0 : (((rd_T62 (rd_L5 l0 x44_4) x40_3).f1) == 0) = false := beq_eq_false_iff_ne.mpr c43
           have c43b1 : (((rd_T62 (rd_L5 l0 x44_4) x40_3).f1) != 0) = true := bne_iff_ne.mpr c43
           have H' := Aside0.mk H
           clear H
           try go_wp2
           replace HO_61 := ak (Kd.R_drew HO_61.out)
           replace HB := ak (below_drew1 HB.out)
           have p776 : 0 ≤ (x40_3 : Int) := dA
           have q776 : x40_3 < (l0.length : Int) := dA
           obtain ⟨ad776, A776_0, c776_0, e776, hx776_0, hl776_0, hi776_0⟩ := at_L5 HR0.out x40_3 p776 q776
           have hw776_0 := hx776_0
           obtain rfl : ad767 = ad776 := (by injection e776)
           try replace hx776_0 := (HB.out.cell (World.block_lt_of_cell? w _ hx776_0)).trans hx776_0
           have HR776_0 := Aside0.mk hi776_0
           have HC776_0 := Aside0.mk hl776_0
           clear hi776_0 hl776_0
           replace p776 := eq_true p776
           replace q776 := eq_true q776
           have p777 : 0 ≤ (x44_4 : Int) := dA
           have q777 : x44_4 < ((rd_L5 l0 x40_3).length : Int) := dA
           obtain ⟨ad777, e777, hx777_0, hx777_1⟩ := at_T62 HR776_0.out x44_4 p777 q777
           have hw777_1 := hx777_1
           have hw777_0 := hx777_0
           cases e777
           try replace hx777_0 := (HB.out.cell (World.block_lt_of_cell? w _ hx777_0)).trans hx777_0
           try replace hx777_1 := (HB.out.cell (World.block_lt_of_cell? w _ hx777_1)).trans hx777_1
           replace p777 := eq_true p777
           replace q777 := eq_true q777
           have p778 : 0 ≤ (x40_3 : Int) := dA
           have q778 : x40_3 < (l0.length : Int) := dA
           obtain ⟨ad778, A778_0, c778_0, e778, hx778_0, hl778_0, hi778_0⟩ := at_L5 HR0.out x40_3 p778 q778
           have hw778_0 := hx778_0
           obtain rfl : ad767 = ad778 := (by injection e778)
           try replace hx778_0 := (HB.out.cell (World.block_lt_of_cell? w _ hx778_0)).trans hx778_0
           have HR778_0 := Aside0.mk hi778_0
           have HC778_0 := Aside0.mk hl778_0
           clear hi778_0 hl778_0
           replace p778 := eq_true p778
           replace q778 := eq_true q778
           have ea_ := Option.some.inj (hx776_0.symm.trans hx778_0)
           injection ea_ with ea_ en_ ec_
           subst ea_
           subst ec_
           clear en_
           have p779 : 0 ≤ (x44_4 : Int) := dA
           have q779 : x44_4 < ((rd_L5 l0 x40_3).length : Int) := dA
           obtain ⟨ad779, e779, hx779_0, hx779_1⟩ := at_T62 HR778_0.out x44_4 p779 q779
           have hw779_1 := hx779_1
           have hw779_0 := hx779_0
           cases e779
           try replace hx779_0 := (HB.out.cell (World.block_lt_of_cell? w _ hx779_0)).trans hx779_0
           try replace hx779_1 := (HB.out.cell (World.block_lt_of_cell? w _ hx779_1)).trans hx779_1
           replace p779 := eq_true p779
           replace q779 := eq_true q779
           refine sS (n := 22) (S := fun w' => w'.cell? (ad767.add (x40_3).toNat) = some (.slice (some ad777) (rd_L5 l0 x40_3).length c776_0) ∧ w'.cell? (ad777.add ((x44_4).toNat * 2)) = some (.int .i64 ((rd_T62 (rd_L5 l0 x40_3) x44_4).f0)) ∧ w'.cell? ⟨(ad777.add ((x44_4).toNat * 2)).block, (ad777.add ((x44_4).toNat * 2)).off + 1, none⟩ = some (.int .i64 ((rd_T62 (rd_L5 l0 x40_3) x44_4).f1)) ∧ w'.cell? (ad767.add (x40_3).toNat) = some (.slice (some ad777) (rd_L5 l0 x40_3).length c776_0) ∧ w'.cell? (ad777.add ((x44_4).toNat * 2)) = some (.int .i64 ((rd_T62 (rd_L5 l0 x40_3) x44_4).f0)) ∧ w'.cell? ⟨(ad777.add ((x44_4).toNat * 2)).block, (ad777.add ((x44_4).toNat * 2)).off + 1, none⟩ = some (.int .i64 ((rd_T62 (rd_L5 l0 x40_3) x44_4).f1))) (ds := []) ⟨((HB.out.cell (World.block_lt_of_cell? w _ hw776_0)).trans hw776_0), ((HB.out.cell (World.block_lt_of_cell? w _ hw777_0)).trans hw777_0), ((HB.out.cell (World.block_lt_of_cell? w _ hw777_1)).trans hw777_1), ((HB.out.cell (World.block_lt_of_cell? w _ hw778_0)).trans hw778_0), ((HB.out.cell (World.block_lt_of_cell? w _ hw779_0)).trans hw779_0), ((HB.out.cell (World.block_lt_of_cell? w _ hw779_1)).trans hw779_1)⟩ (fun hHeld => ?_); refine with_tabW congouref01_Mixture.tab23 congouref01_Mixture.bits23 (fun HT_ HW_ => ?_)
           generalize wr.drew = w44 at HO_61 HB HR776_0 HR778_0 hx776_0 hx777_0 hx777_1 hx778_0 hx779_0 hx779_1 hHeld ⊢
           refine pS 0 73 22 1 ?_
           refine pS 1 74 22 3 ?_
           refine pS 2 75 22 7 ?_
           refine pS 3 76 22 15 ?_
           refine pS 4 77 22 31 ?_
           refine pS 6 79 22 95 ?_
           refine pS 11 84 22 2143 ?_
           refine pS 12 85 22 6239 ?_
           refine pS 13 86 22 14431 ?_
           refine pS 15 88 22 47199 ?_
           refine tS 5 78 22 47231 ?_
           refine pS 7 80 22 47359 ?_
           refine pS 8 81 22 47615 ?_
           refine tS 9 82 22 48127 ?_
           refine pS 10 83 22 49151 ?_
           refine tS 14 87 22 65535 ?_
           refine pS 16 89 22 131071 ?_
           refine pS 17 90 22 262143 ?_
           refine tS 18 91 22 524287 ?_
           refine pS 19 92 22 1048575 ?_
           refine pS 20 93 22 2097151 ?_
           refine pS 21 11 22 4194303 ?_
           refine done_ (done_of HT_.out (by kernel_rfl)) ?_
           try go_wp2
           replace HO_61 := ak (Kd.R_drew HO_61.out)
           replace HB := ak (below_drew1 HB.out)
           have p780 : 0 ≤ (x44_4 : Int) := dA
           have q780 : x44_4 < (l0.length : Int) := dA
           obtain ⟨ad780, A780_0, c780_0, e780, hx780_0, hl780_0, hi780_0⟩ := at_L5 HR0.out x44_4 p780 q780
           have hw780_0 := hx780_0
           obtain rfl : ad767 = ad780 := (by injection e780)
           try replace hx780_0 := (HB.out.cell (World.block_lt_of_cell? w _ hx780_0)).trans hx780_0
           have HR780_0 := Aside0.mk hi780_0
           have HC780_0 := Aside0.mk hl780_0
           clear hi780_0 hl780_0
           replace p780 := eq_true p780
           replace q780 := eq_true q780
           have p781 : 0 ≤ (x40_3 : Int) := dA
           have q781 : x40_3 < ((rd_L5 l0 x44_4).length : Int) := dA
           obtain ⟨ad781, e781, hx781_0, hx781_1⟩ := at_T62 HR780_0.out x40_3 p781 q781
           have hw781_1 := hx781_1
           have hw781_0 := hx781_0
           cases e781
           try replace hx781_0 := (HB.out.cell (World.block_lt_of_cell? w _ hx781_0)).trans hx781_0
           try replace hx781_1 := (HB.out.cell (World.block_lt_of_cell? w _ hx781_1)).trans hx781_1
           replace p781 := eq_true p781
           replace q781 := eq_true q781
           have p782 : 0 ≤ (x44_4 : Int) := dA
           have q782 : x44_4 < (l0.length : Int) := dA
           obtain ⟨ad782, A782_0, c782_0, e782, hx782_0, hl782_0, hi782_0⟩ := at_L5 HR0.out x44_4 p782 q782
           have hw782_0 := hx782_0
           obtain rfl : ad767 = ad782 := (by injection e782)
           try replace hx782_0 := (HB.out.cell (World.block_lt_of_cell? w _ hx782_0)).trans hx782_0
           have HR782_0 := Aside0.mk hi782_0
           have HC782_0 := Aside0.mk hl782_0
           clear hi782_0 hl782_0
           replace p782 := eq_true p782
           replace q782 := eq_true q782
           have ea_ := Option.some.inj (hx780_0.symm.trans hx782_0)
           injection ea_ with ea_ en_ ec_
           subst ea_
           subst ec_
           clear en_
           have p783 : 0 ≤ (x40_3 : Int) := dA
           have q783 : x40_3 < ((rd_L5 l0 x44_4).length : Int) := dA
           obtain ⟨ad783, e783, hx783_0, hx783_1⟩ := at_T62 HR782_0.out x40_3 p783 q783
           have hw783_1 := hx783_1
           have hw783_0 := hx783_0
           cases e783
           try replace hx783_0 := (HB.out.cell (World.block_lt_of_cell? w _ hx783_0)).trans hx783_0
           try replace hx783_1 := (HB.out.cell (World.block_lt_of_cell? w _ hx783_1)).trans hx783_1
           replace p783 := eq_true p783
           replace q783 := eq_true q783
           refine sS (n := 22) (S := fun w' => w'.cell? (ad767.add (x44_4).toNat) = some (.slice (some ad781) (rd_L5 l0 x44_4).length c780_0) ∧ w'.cell? (ad781.add ((x40_3).toNat * 2)) = some (.int .i64 ((rd_T62 (rd_L5 l0 x44_4) x40_3).f0)) ∧ w'.cell? ⟨(ad781.add ((x40_3).toNat * 2)).block, (ad781.add ((x40_3).toNat * 2)).off + 1, none⟩ = some (.int .i64 ((rd_T62 (rd_L5 l0 x44_4) x40_3).f1)) ∧ w'.cell? (ad767.add (x44_4).toNat) = some (.slice (some ad781) (rd_L5 l0 x44_4).length c780_0) ∧ w'.cell? (ad781.add ((x40_3).toNat * 2)) = some (.int .i64 ((rd_T62 (rd_L5 l0 x44_4) x40_3).f0)) ∧ w'.cell? ⟨(ad781.add ((x40_3).toNat * 2)).block, (ad781.add ((x40_3).toNat * 2)).off + 1, none⟩ = some (.int .i64 ((rd_T62 (rd_L5 l0 x44_4) x40_3).f1))) (ds := []) ⟨((HB.out.cell (World.block_lt_of_cell? w _ hw780_0)).trans hw780_0), ((HB.out.cell (World.block_lt_of_cell? w _ hw781_0)).trans hw781_0), ((HB.out.cell (World.block_lt_of_cell? w _ hw781_1)).trans hw781_1), ((HB.out.cell (World.block_lt_of_cell? w _ hw782_0)).trans hw782_0), ((HB.out.cell (World.block_lt_of_cell? w _ hw783_0)).trans hw783_0), ((HB.out.cell (World.block_lt_of_cell? w _ hw783_1)).trans hw783_1)⟩ (fun hHeld => ?_); refine with_tabW congouref01_Mixture.tab24 congouref01_Mixture.bits24 (fun HT_ HW_ => ?_)
           generalize w44.drew = w45 at HO_61 HB HR780_0 HR782_0 hx780_0 hx781_0 hx781_1 hx782_0 hx783_0 hx783_1 hHeld ⊢
           refine pS 0 94 22 1 ?_
           refine pS 1 95 22 3 ?_
           refine pS 2 96 22 7 ?_
           refine pS 3 97 22 15 ?_
           refine pS 4 98 22 31 ?_
           refine pS 6 100 22 95 ?_
           refine pS 11 105 22 2143 ?_
           refine pS 12 106 22 6239 ?_
           refine pS 13 107 22 14431 ?_
           refine pS 15 109 22 47199 ?_
           refine tS 5 99 22 47231 ?_
           refine pS 7 101 22 47359 ?_
           refine pS 8 102 22 47615 ?_
           refine tS 9 103 22 48127 ?_
           refine pS 10 104 22 49151 ?_
           refine tS 14 108 22 65535 ?_
           refine pS 16 110 22 131071 ?_
           refine pS 17 111 22 262143 ?_
           refine tS 18 112 22 524287 ?_
           refine pS 19 113 22 1048575 ?_
           refine pS 20 114 22 2097151 ?_
           refine pS 21 12 22 4194303 ?_
           refine done_ (done_of HT_.out (by kernel_rfl)) ?_
           try go_wp2
           go_roundg k5
           case measure => have := HJ5.out; have := HK2.out; have := HK3.out; have := HK4.out; have := HK5.out; omega
           case rel => exact ⟨(wrap64 (x11_4 + (wrap64 ((wrap64 (Int.tdiv t765 ((rd_T62 (rd_L5 l0 x40_3) x44_4).f1))) * ((rd_T62 (rd_L5 l0 x40_3) x44_4).f0))))), (wrap64 (x12_4 + (wrap64 ((wrap64 (Int.tdiv t765 ((rd_T62 (rd_L5 l0 x44_4) x40_3).f1))) * ((rd_T62 (rd_L5 l0 x44_4) x40_3).f0))))), (wrap64 (x44_4 + 1)), (by first | rfl | (simp; done) | (simp [*]; done)), (by first | rfl | (simp; done) | (simp [*]; done)), (by first | rfl | (simp; done) | (simp [*]; done)), H', ⟨by have := HJ5.out; have := HK2.out; have := HK3.out; have := HK4.out; have := HK5.out; omega⟩, ⟨hbC _⟩⟩

end Go.Proofs.Ytefmafbbnkkpjaa.X
