-- Written by a program of this work (wip/xprint.py, over the kit's printer) out of the translation.
import Derived.Test.YtpnocmkpeogifaaDoorX0
import Derived.Test.YtpnocmkpeogifaaDoorXG2a
import Derived.Test.YtpnocmkpeogifaaDoorXG3a
import Derived.Test.YtpnocmkpeogifaaDoorXf26
import Derived.Test.YtpnocmkpeogifaaDoorXf27
import Derived.Test.YtpnocmkpeogifaaDoorXf33
import Derived.Test.YtpnocmkpeogifaaDoorE70
namespace Go.Proofs.YtpnocmkpeogifaaDoor.X
open Go.RowKit Go.Proofs.YtpnocmkpeogifaaDoorW.PrintWords Go.Proofs.YtpnocmkpeogifaaDoorW.PrintLast Go.Proofs.YtpnocmkpeogifaaDoorW.PrintMore
attribute [local go_sem] max2_int min2_int max_two min_two max_three min_three max_four min_four   -- for this text's walks alone
set_option linter.unusedVariables false
set_option linter.unusedSimpArgs false

/-! ### curves_Curve_basic: function 19 -/
mutual
def curves_Curve_basic.l0 : Nat → Int → List (S49) → List (S49) → Int → Int → Int → List Int → List Int → Int → Int → Option ((List (S49)))
 | 0, _, _, _, _, _, _, _, _, _, _ => none
 | k + 1, x1, x8, x9, x37, x38, x189000, x189001, x189002, x190000, x190001 => if x38 < x37 then ((curves_of.f k 0 1).bind fun bt205 => (if 0 ≤ (wrap64 (x38 + x1)) then (if (wrap64 (x38 + x1)) < (x189001.length : Int) then (if 0 ≤ x38 then (if x38 < (x189001.length : Int) then (if (wrap64 ((rd x189001 (wrap64 (x38 + x1))) - (rd x189001 x38))) > 0 then ((curves_ratio_less.f k x190000 x190001 (rd x189001 x38)).bind fun bt211 => ((curves_of.f k 1 (wrap64 ((rd x189001 (wrap64 (x38 + x1))) - (rd x189001 x38)))).bind fun bt213 => ((curves_ratio_times.f k bt211.1 bt211.2 bt213.1 bt213.2).bind fun bt215 => (if x38 < (x8.length : Int) then ((curves_ratio_times.f k bt215.1 bt215.2 ((rd_T49 x8 x38).f0.f0) ((rd_T49 x8 x38).f0.f1)).bind fun bt218 => ((curves_ratio_plus.f k bt205.1 bt205.2 bt218.1 bt218.2).bind fun bt220 => (curves_Curve_basic.j1 k x1 x8 x9 x38 x37 x38 x189000 x189001 x189002 x190000 x190001 bt220.1 bt220.2))) else (none))))) else (curves_Curve_basic.j1 k x1 x8 x9 x38 x37 x38 x189000 x189001 x189002 x190000 x190001 bt205.1 bt205.2)) else (none)) else (none)) else (none)) else (none))) else (some x9)
def curves_Curve_basic.j1 : Nat → Int → List (S49) → List (S49) → Int → Int → Int → Int → List Int → List Int → Int → Int → Int → Int → Option ((List (S49)))
 | 0, _, _, _, _, _, _, _, _, _, _, _, _, _ => none
 | k + 1, x1, x8, x9, x10, x37, x38, x189000, x189001, x189002, x190000, x190001, x208000, x208001 => if 0 ≤ (wrap64 ((wrap64 (x10 + x1)) + 1)) then (if (wrap64 ((wrap64 (x10 + x1)) + 1)) < (x189001.length : Int) then (if 0 ≤ (wrap64 (x10 + 1)) then (if (wrap64 (x10 + 1)) < (x189001.length : Int) then (if (wrap64 ((rd x189001 (wrap64 ((wrap64 (x10 + x1)) + 1))) - (rd x189001 (wrap64 (x10 + 1))))) > 0 then ((curves_ratio_from.f k x190000 x190001 (rd x189001 (wrap64 ((wrap64 (x10 + x1)) + 1)))).bind fun bt225 => ((curves_of.f k 1 (wrap64 ((rd x189001 (wrap64 ((wrap64 (x10 + x1)) + 1))) - (rd x189001 (wrap64 (x10 + 1)))))).bind fun bt227 => ((curves_ratio_times.f k bt225.1 bt225.2 bt227.1 bt227.2).bind fun bt229 => (if (wrap64 (x10 + 1)) < (x8.length : Int) then ((curves_ratio_times.f k bt229.1 bt229.2 ((rd_T49 x8 (wrap64 (x10 + 1))).f0.f0) ((rd_T49 x8 (wrap64 (x10 + 1))).f0.f1)).bind fun bt232 => ((curves_ratio_plus.f k x208000 x208001 bt232.1 bt232.2).bind fun bt234 => (if x9.length < 8796093022208 then (curves_Curve_basic.l0 k x1 x8 (x9 ++ [(⟨(⟨bt234.1, bt234.2⟩ : S26)⟩ : S49)]) x37 (wrap64 (x38 + 1)) x189000 x189001 x189002 x190000 x190001) else (none)))) else (none))))) else (if x9.length < 8796093022208 then (curves_Curve_basic.l0 k x1 x8 (x9 ++ [(⟨(⟨x208000, x208001⟩ : S26)⟩ : S49)]) x37 (wrap64 (x38 + 1)) x189000 x189001 x189002 x190000 x190001) else (none))) else (none)) else (none)) else (none)) else (none)
def curves_Curve_basic.f : Nat → Int → List Int → List Int → Int → Int → Int → Option ((List (S49)))
 | 0, _, _, _, _, _, _ => none
 | k + 1, a0_0, l0_1, l0_2, a1, a2_0, a2_1 => if a1 = 0 then ((curves_of.f k 0 1).bind fun bt190 => ((xRepeat.f (([(⟨(⟨bt190.1, bt190.2⟩ : S26)⟩ : S49)] : List (S49))) (wrap64 ((l0_1.length : Int) - 1))).bind fun t195 => ((curves_Curve_piece.f k a0_0 l0_1 l0_2 a2_0 a2_1).bind fun t198 => ((curves_of.f k 1 1).bind fun bt199 => (if 0 ≤ t198 then (if t198 < (t195.length : Int) then (some (t195.set (t198 : Int).toNat (⟨(⟨bt199.1, bt199.2⟩ : S26)⟩ : S49))) else (none)) else (none)))))) else ((curves_Curve_basic.f k a0_0 l0_1 l0_2 (wrap64 (a1 - 1)) a2_0 a2_1).bind fun t202 => (curves_Curve_basic.l0 k a1 t202 ([] : List (S49)) (wrap64 ((t202.length : Int) - 1)) 0 a0_0 l0_1 l0_2 a2_0 a2_1))
end
theorem curves_Curve_basic.mono_l : ∀ k, (∀ y0 y1 y2 y3 y4 y5, LeO (curves_Curve_basic.f k y0 y1 y2 y3 y4 y5) (curves_Curve_basic.f (k + 1) y0 y1 y2 y3 y4 y5)) ∧ (∀ y0 y1 y2 y3 y4 y5 y6 y7 y8 y9, LeO (curves_Curve_basic.l0 k y0 y1 y2 y3 y4 y5 y6 y7 y8 y9) (curves_Curve_basic.l0 (k + 1) y0 y1 y2 y3 y4 y5 y6 y7 y8 y9)) ∧ (∀ y0 y1 y2 y3 y4 y5 y6 y7 y8 y9 y10 y11 y12, LeO (curves_Curve_basic.j1 k y0 y1 y2 y3 y4 y5 y6 y7 y8 y9 y10 y11 y12) (curves_Curve_basic.j1 (k + 1) y0 y1 y2 y3 y4 y5 y6 y7 y8 y9 y10 y11 y12))
 | 0 => ⟨fun _ _ _ _ _ _ r h => by simp [curves_Curve_basic.f] at h, fun _ _ _ _ _ _ _ _ _ _ r h => by simp [curves_Curve_basic.l0] at h, fun _ _ _ _ _ _ _ _ _ _ _ _ _ r h => by simp [curves_Curve_basic.j1] at h⟩
 | k + 1 => by
  obtain ⟨ih0, ih1, ih2⟩ := curves_Curve_basic.mono_l k
  refine ⟨?_, ?_, ?_⟩
  ·intro y0 y1 y2 y3 y4 y5
   unfold curves_Curve_basic.f
   repeat' first
   | (with_reducible exact ih0 _ _ _ _ _ _)
   | (with_reducible exact ih1 _ _ _ _ _ _ _ _ _ _)
   | (with_reducible exact ih2 _ _ _ _ _ _ _ _ _ _ _ _ _)
   | (with_reducible exact curves_Curve_piece.mono _ _ _ _ _ _)
   | (with_reducible exact curves_of.mono _ _ _)
   | (with_reducible exact curves_ratio_from.mono _ _ _ _)
   | (with_reducible exact curves_ratio_less.mono _ _ _ _)
   | (with_reducible exact curves_ratio_plus.mono _ _ _ _ _)
   | (with_reducible exact curves_ratio_times.mono _ _ _ _ _)
   | (with_reducible exact LeO.refl _)
   | (with_reducible exact LeO.none _)
   | (with_reducible refine LeO.ite ?_ ?_)
   | (with_reducible refine LeO.bind ?_ (fun _ => ?_))
   | exact ih0 _ _ _ _ _ _
   | exact ih1 _ _ _ _ _ _ _ _ _ _
   | exact ih2 _ _ _ _ _ _ _ _ _ _ _ _ _
   | exact curves_Curve_piece.mono _ _ _ _ _ _
   | exact curves_of.mono _ _ _
   | exact curves_ratio_from.mono _ _ _ _
   | exact curves_ratio_less.mono _ _ _ _
   | exact curves_ratio_plus.mono _ _ _ _ _
   | exact curves_ratio_times.mono _ _ _ _ _
   | exact LeO.none _
   | refine LeO.ite ?_ ?_
   | refine LeO.bind ?_ (fun _ => ?_)
  ·intro y0 y1 y2 y3 y4 y5 y6 y7 y8 y9
   unfold curves_Curve_basic.l0
   repeat' first
   | (with_reducible exact ih0 _ _ _ _ _ _)
   | (with_reducible exact ih1 _ _ _ _ _ _ _ _ _ _)
   | (with_reducible exact ih2 _ _ _ _ _ _ _ _ _ _ _ _ _)
   | (with_reducible exact curves_Curve_piece.mono _ _ _ _ _ _)
   | (with_reducible exact curves_of.mono _ _ _)
   | (with_reducible exact curves_ratio_from.mono _ _ _ _)
   | (with_reducible exact curves_ratio_less.mono _ _ _ _)
   | (with_reducible exact curves_ratio_plus.mono _ _ _ _ _)
   | (with_reducible exact curves_ratio_times.mono _ _ _ _ _)
   | (with_reducible exact LeO.refl _)
   | (with_reducible exact LeO.none _)
   | (with_reducible refine LeO.ite ?_ ?_)
   | (with_reducible refine LeO.bind ?_ (fun _ => ?_))
   | exact ih0 _ _ _ _ _ _
   | exact ih1 _ _ _ _ _ _ _ _ _ _
   | exact ih2 _ _ _ _ _ _ _ _ _ _ _ _ _
   | exact curves_Curve_piece.mono _ _ _ _ _ _
   | exact curves_of.mono _ _ _
   | exact curves_ratio_from.mono _ _ _ _
   | exact curves_ratio_less.mono _ _ _ _
   | exact curves_ratio_plus.mono _ _ _ _ _
   | exact curves_ratio_times.mono _ _ _ _ _
   | exact LeO.none _
   | refine LeO.ite ?_ ?_
   | refine LeO.bind ?_ (fun _ => ?_)
  ·intro y0 y1 y2 y3 y4 y5 y6 y7 y8 y9 y10 y11 y12
   unfold curves_Curve_basic.j1
   repeat' first
   | (with_reducible exact ih0 _ _ _ _ _ _)
   | (with_reducible exact ih1 _ _ _ _ _ _ _ _ _ _)
   | (with_reducible exact ih2 _ _ _ _ _ _ _ _ _ _ _ _ _)
   | (with_reducible exact curves_Curve_piece.mono _ _ _ _ _ _)
   | (with_reducible exact curves_of.mono _ _ _)
   | (with_reducible exact curves_ratio_from.mono _ _ _ _)
   | (with_reducible exact curves_ratio_less.mono _ _ _ _)
   | (with_reducible exact curves_ratio_plus.mono _ _ _ _ _)
   | (with_reducible exact curves_ratio_times.mono _ _ _ _ _)
   | (with_reducible exact LeO.refl _)
   | (with_reducible exact LeO.none _)
   | (with_reducible refine LeO.ite ?_ ?_)
   | (with_reducible refine LeO.bind ?_ (fun _ => ?_))
   | exact ih0 _ _ _ _ _ _
   | exact ih1 _ _ _ _ _ _ _ _ _ _
   | exact ih2 _ _ _ _ _ _ _ _ _ _ _ _ _
   | exact curves_Curve_piece.mono _ _ _ _ _ _
   | exact curves_of.mono _ _ _
   | exact curves_ratio_from.mono _ _ _ _
   | exact curves_ratio_less.mono _ _ _ _
   | exact curves_ratio_plus.mono _ _ _ _ _
   | exact curves_ratio_times.mono _ _ _ _ _
   | exact LeO.none _
   | refine LeO.ite ?_ ?_
   | refine LeO.bind ?_ (fun _ => ?_)
theorem curves_Curve_basic.mono : ∀ a0 a1 a2 a3 a4 a5 k, LeO (curves_Curve_basic.f k a0 a1 a2 a3 a4 a5) (curves_Curve_basic.f (k + 1) a0 a1 a2 a3 a4 a5) := by
 intro a0 a1 a2 a3 a4 a5 k
 obtain ⟨ih0, ih1, ih2⟩ := curves_Curve_basic.mono_l k
 exact ih0 a0 a1 a2 a3 a4 a5
def curves_Curve_basic.T2 : Bool × List (List Nat × List Nat) := (true, [([], []), ([0], [0]), ([], []), ([2], [2]), ([3], [3]), ([4], [4]), ([1, 5, 0], [1, 5]), ([6, 6, 0, 1, 2, 3, 4, 5, 6], [6])])
def curves_Curve_basic.B2 : List Nat := [0, 1, 0, 4, 12, 28, 63, 127]
theorem curves_Curve_basic.tab2 : rtab .any (opsOf Tryd.f19 2) = curves_Curve_basic.T2 := by kernel_rfl
theorem curves_Curve_basic.bits2 : waitsOk curves_Curve_basic.T2.2 curves_Curve_basic.B2 = true := by kernel_rfl
def curves_Curve_basic.T11 : Bool × List (List Nat × List Nat) := (true, [([], []), ([0], [0]), ([], []), ([], []), ([2, 3], [2, 3]), ([1, 4], [1, 4]), ([5], [5]), ([], []), ([7], [7]), ([], []), ([8, 9], [8, 9]), ([10], [10]), ([6, 11], [6, 11]), ([12, 0, 1, 2, 3, 4, 5, 6, 7, 8, 9, 10, 11, 12], [12])])
def curves_Curve_basic.B11 : List Nat := [0, 1, 0, 0, 12, 31, 63, 0, 128, 0, 896, 1920, 4095, 8191]
theorem curves_Curve_basic.tab11 : rtab .any (opsOf Tryd.f19 11) = curves_Curve_basic.T11 := by kernel_rfl
theorem curves_Curve_basic.bits11 : waitsOk curves_Curve_basic.T11.2 curves_Curve_basic.B11 = true := by kernel_rfl
def curves_Curve_basic.T13 : Bool × List (List Nat × List Nat) := (true, [([], []), ([], []), ([], []), ([2], [2]), ([], []), ([3, 4], [3, 4]), ([5], [5]), ([1, 6], [1, 6]), ([], []), ([8, 7], [8]), ([7, 9, 9], [7, 9]), ([], []), ([], []), ([11, 12], [11, 12]), ([13], [13]), ([10, 14, 10], [10, 14]), ([0, 15, 15], [0, 15]), ([16, 16, 0, 1, 2, 3, 4, 5, 6, 7, 8, 9, 10, 11, 12, 13, 14, 15, 16], [16])])
def curves_Curve_basic.B13 : List Nat := [0, 0, 0, 4, 0, 28, 60, 126, 0, 510, 1022, 0, 0, 6144, 14336, 32766, 65535, 131071]
theorem curves_Curve_basic.tab13 : rtab .any (opsOf Tryd.f19 13) = curves_Curve_basic.T13 := by kernel_rfl
theorem curves_Curve_basic.bits13 : waitsOk curves_Curve_basic.T13.2 curves_Curve_basic.B13 = true := by kernel_rfl
def curves_Curve_basic.T14 : Bool × List (List Nat × List Nat) := (true, [([], []), ([0], [0]), ([], []), ([], []), ([2, 3], [2, 3]), ([4], [4]), ([1, 5], [1, 5]), ([6], [6]), ([], []), ([8], [8]), ([], []), ([10], [10]), ([9, 11], [9, 11]), ([12], [12]), ([7, 13], [7, 13]), ([14, 0, 1, 2, 3, 4, 5, 6, 7, 8, 9, 10, 11, 12, 13, 14], [14])])
def curves_Curve_basic.B14 : List Nat := [0, 1, 0, 0, 12, 28, 63, 127, 0, 256, 0, 1024, 3840, 7936, 16383, 32767]
theorem curves_Curve_basic.tab14 : rtab .any (opsOf Tryd.f19 14) = curves_Curve_basic.T14 := by kernel_rfl
theorem curves_Curve_basic.bits14 : waitsOk curves_Curve_basic.T14.2 curves_Curve_basic.B14 = true := by kernel_rfl
def curves_Curve_basic.T16 : Bool × List (List Nat × List Nat) := (true, [([], []), ([], []), ([], []), ([2], [2]), ([], []), ([], []), ([4, 5], [4, 5]), ([6], [6]), ([3, 7], [3, 7]), ([8], [8]), ([1, 9], [1, 9]), ([], []), ([11, 10], [11]), ([10, 12, 12], [10, 12]), ([], []), ([], []), ([15], [15]), ([14, 16], [14, 16]), ([17], [17]), ([13, 18, 13], [13, 18]), ([0, 19, 19], [0, 19]), ([20, 20, 0, 1, 2, 3, 4, 5, 6, 7, 8, 9, 10, 11, 12, 13, 14, 15, 16, 17, 18, 19, 20], [20])])
def curves_Curve_basic.B16 : List Nat := [0, 0, 0, 4, 0, 0, 48, 112, 252, 508, 1022, 0, 4094, 8190, 0, 0, 32768, 114688, 245760, 524286, 1048575, 2097151]
theorem curves_Curve_basic.tab16 : rtab .any (opsOf Tryd.f19 16) = curves_Curve_basic.T16 := by kernel_rfl
theorem curves_Curve_basic.bits16 : waitsOk curves_Curve_basic.T16.2 curves_Curve_basic.B16 = true := by kernel_rfl
set_option maxHeartbeats 8000000 in
set_option maxRecDepth 100000 in
theorem curves_Curve_basic.calls (k : Nat) : ∀ (a0_0 : Int) (A0_1 : Option Addr) (c0_1 : Nat) (l0_1 : List Int) (A0_2 : Option Addr) (c0_2 : Nat) (l0_2 : List Int) (a1 : Int) (a2_0 : Int) (a2_1 : Int) (r : List (S49)) (w : World) (hr0_1 : Kd.C (Kd.int .i64) w A0_1 l0_1.length l0_1) (hc0_1 : l0_1.length ≤ c0_1) (hr0_2 : Kd.C (Kd.int .i64) w A0_2 l0_2.length l0_2) (hc0_2 : l0_2.length ≤ c0_2) (h : curves_Curve_basic.f k a0_0 l0_1 l0_2 a1 a2_0 a2_1 = some r),
  Calls Tryd.prog 19 #[.agg #[.int .i64 a0_0, .slice A0_1 l0_1.length c0_1, .slice A0_2 l0_2.length c0_2], .int .i64 a1, .agg #[.int .i64 a2_0, .int .i64 a2_1]] w fun e w' => ∃ v0_ : Value, e = .returned (v0_) ∧ Kd.R k49 49 w' w.heap.size (fun _ => True) v0_ r ∧ Below w.heap.size w w' := by
 induction k using Nat.strongRecOn with
 | _ k ih =>
 intro a0_0 A0_1 c0_1 l0_1 A0_2 c0_2 l0_2 a1 a2_0 a2_1 r w hr0_1 hc0_1 hr0_2 hc0_2 h
 cases k with
 | zero => exact absurd h (by simp [curves_Curve_basic.f])
 | succ k =>
 simp only [curves_Curve_basic.f] at h
 have hu31 := Tryd.underlying31
 have hu49 := Tryd.underlying49
 have HR0_1 := Aside0.mk hr0_1
 have HC0_1 := Aside0.mk hc0_1
 clear hr0_1 hc0_1
 have HR0_2 := Aside0.mk hr0_2
 have HC0_2 := Aside0.mk hc0_2
 clear hr0_2 hc0_2
 have HB := ak (Below.refl w.heap.size w)
 have H : (if a1 = 0 then ((curves_of.f k 0 1).bind fun bt190 => ((xRepeat.f (([(⟨(⟨bt190.1, bt190.2⟩ : S26)⟩ : S49)] : List (S49))) (wrap64 ((l0_1.length : Int) - 1))).bind fun t195 => ((curves_Curve_piece.f k a0_0 l0_1 l0_2 a2_0 a2_1).bind fun t198 => ((curves_of.f k 1 1).bind fun bt199 => (if 0 ≤ t198 then (if t198 < (t195.length : Int) then (some (t195.set (t198 : Int).toNat (⟨(⟨bt199.1, bt199.2⟩ : S26)⟩ : S49))) else (none)) else (none)))))) else ((curves_Curve_basic.f k a0_0 l0_1 l0_2 (wrap64 (a1 - 1)) a2_0 a2_1).bind fun t202 => (curves_Curve_basic.l0 k a1 t202 ([] : List (S49)) (wrap64 ((t202.length : Int) - 1)) 0 a0_0 l0_1 l0_2 a2_0 a2_1))) = some r := h
 clear h
 by_cases c4 : a1 = 0
 ·rw [if_pos c4] at H
  have c4b0 : (a1 == 0) = true := beq_iff_eq.mpr c4
  have c4b1 : (a1 != 0) = false := bne_eq_false_iff_eq.mpr c4
  clear c4
  replace H := Option.bind_eq_some_iff.mp H
  obtain ⟨⟨t190, t191⟩, A50, H⟩ := H
  replace H : ((xRepeat.f (([(⟨(⟨t190, t191⟩ : S26)⟩ : S49)] : List (S49))) (wrap64 ((l0_1.length : Int) - 1))).bind fun t195 => ((curves_Curve_piece.f k a0_0 l0_1 l0_2 a2_0 a2_1).bind fun t198 => ((curves_of.f k 1 1).bind fun bt199 => (if 0 ≤ t198 then (if t198 < (t195.length : Int) then (some (t195.set (t198 : Int).toNat (⟨(⟨bt199.1, bt199.2⟩ : S26)⟩ : S49))) else (none)) else (none))))) = some r := H
  have A5 := Aside0.mk A50
  clear A50
  obtain ⟨y192, hy192⟩ : ∃ y_ : List (S49), y_ = (([(⟨(⟨t190, t191⟩ : S26)⟩ : S49)] : List (S49))) := ⟨_, rfl⟩
  replace H : ((xRepeat.f y192 (wrap64 ((l0_1.length : Int) - 1))).bind fun t195 => ((curves_Curve_piece.f k a0_0 l0_1 l0_2 a2_0 a2_1).bind fun t198 => ((curves_of.f k 1 1).bind fun bt199 => (if 0 ≤ t198 then (if t198 < (t195.length : Int) then (some (t195.set (t198 : Int).toNat (⟨(⟨bt199.1, bt199.2⟩ : S26)⟩ : S49))) else (none)) else (none))))) = some r := by first | (rw [hy192]; with_reducible exact H) | (have H2_ := (Option.bind_some _ _).symm.trans H; rw [hy192]; with_reducible exact H2_) | (have H2_ := (Option.bind_some _ _).symm.trans H; with_reducible exact H2_) | with_reducible exact H | (rw [hy192]; exact H) | exact H
  have Ny192 := Aside0.mk hy192
  clear hy192
  replace H := Option.bind_eq_some_iff.mp H
  obtain ⟨t195, A60, H⟩ := H
  replace H : ((curves_Curve_piece.f k a0_0 l0_1 l0_2 a2_0 a2_1).bind fun t198 => ((curves_of.f k 1 1).bind fun bt199 => (if 0 ≤ t198 then (if t198 < (t195.length : Int) then (some (t195.set (t198 : Int).toNat (⟨(⟨bt199.1, bt199.2⟩ : S26)⟩ : S49))) else (none)) else (none)))) = some r := H
  have A6 := Aside0.mk A60
  clear A60
  replace H := Option.bind_eq_some_iff.mp H
  obtain ⟨t198, A70, H⟩ := H
  replace H : ((curves_of.f k 1 1).bind fun bt199 => (if 0 ≤ t198 then (if t198 < (t195.length : Int) then (some (t195.set (t198 : Int).toNat (⟨(⟨bt199.1, bt199.2⟩ : S26)⟩ : S49))) else (none)) else (none))) = some r := H
  have A7 := Aside0.mk A70
  clear A70
  replace H := Option.bind_eq_some_iff.mp H
  obtain ⟨⟨t199, t200⟩, A80, H⟩ := H
  replace H : (if 0 ≤ t198 then (if t198 < (t195.length : Int) then (some (t195.set (t198 : Int).toNat (⟨(⟨t199, t200⟩ : S26)⟩ : S49))) else (none)) else (none)) = some r := H
  have A8 := Aside0.mk A80
  clear A80
  by_cases c9 : 0 ≤ t198
  rotate_left
  ·rw [if_neg c9] at H
   exact absurd H (by simp)
  rw [if_pos c9] at H
  have c9b0 : decide (0 ≤ t198) = true := decide_eq_true c9
  clear c9
  by_cases c10 : t198 < (t195.length : Int)
  rotate_left
  ·rw [if_neg c10] at H
   exact absurd H (by simp)
  rw [if_pos c10] at H
  have c10b0 : decide (t198 < (t195.length : Int)) = true := decide_eq_true c10
  clear c10
  obtain ⟨y201, hy201⟩ : ∃ y_ : List (S49), y_ = (t195.set (t198 : Int).toNat (⟨(⟨t199, t200⟩ : S26)⟩ : S49)) := ⟨_, rfl⟩
  replace H : (some y201) = some r := by first | (rw [hy201]; with_reducible exact H) | (have H2_ := (Option.bind_some _ _).symm.trans H; rw [hy201]; with_reducible exact H2_) | (have H2_ := (Option.bind_some _ _).symm.trans H; with_reducible exact H2_) | with_reducible exact H | (rw [hy201]; exact H) | exact H
  have Ny201 := Aside0.mk hy201
  clear hy201
  obtain rfl := Option.some.inj H
  go_enter Tryd.func19, Tryd.ntmps19
  try go_wp2_with (first | ((with_reducible refine gate_dst (N := 3) rfl ?_); refine bE 3 #[.int .i64 a0_0, .slice A0_1 l0_1.length c0_1, .slice A0_2 l0_2.length c0_2] 31 ?_; intro gb188 hg w12 hbox hb; have BK188 := ak (hbox); have GW188 := kG w hg; have GE188 := kG w hg; replace HB := kH _ hb; clear hb hbox hg) | ((with_reducible refine gate_dst (N := 5) rfl ?_); refine bE 5 #[.int .i64 a2_0, .int .i64 a2_1] 49 ?_; intro gb189 hg w13 hbox hb; have BK189 := ak (hbox); have GW189 := kG w hg; have GE189 := kG w hg; replace HB := kH _ hb; have NB188_189 := kL BK188 hg; have NB189_188 := kR BK188 hg; replace BK188 := kB BK188 hb; clear hb hbox hg))
  replace BK188 := kd BK188
  replace BK189 := kd BK189
  replace HB := ak (below_drew1 HB.out)
  refine sS (n := 8) (S := fun w' => w'.cell? ⟨gb188, 0, none⟩ = some (.int .i64 a0_0) ∧ w'.cell? ⟨gb188, 1, none⟩ = some (.slice A0_1 l0_1.length c0_1) ∧ w'.cell? ⟨gb188, 2, none⟩ = some (.slice A0_2 l0_2.length c0_2)) (ds := []) ⟨bc BK188 0, bc BK188 1, bc BK188 2⟩ (fun hHeld => ?_); refine with_tabW curves_Curve_basic.tab2 curves_Curve_basic.bits2 (fun HT_ HW_ => ?_)
  generalize w13.drew = w14 at BK188 BK189 HB hHeld ⊢
  refine pS 2 18 8 4 ?_
  refine tS 3 19 8 12 ?_
  refine pS 4 20 8 28 ?_
  refine pS 5 21 8 60 ?_
  refine one_ (i := 0) (N := some 16) (ba 8 61) rfl rfl (one_of HT_.out (by kernel_rfl)) (by decide) (fun K hK => ?_)
  refine gC Tryd.func24 #[.int .i64 0, .int .i64 1] ?_
  with_reducible refine (curves_of.calls k 0 1 t190 t191 _ A5.out).mono ?_
  rintro e w15 ⟨rfl, hb⟩
  refine ⟨_, rfl, ?_⟩
  replace BK188 := kB BK188 hb
  replace BK189 := kB BK189 hb
  replace HB := kH _ hb
  (try clear hb)
  (try clear hb2)
  (try clear hk)
  (try clear hi)
  refine hK.out _ _ ⟨bc BK188 0, bc BK188 1, bc BK188 2⟩ (fun hHeld => ?_)
  clear hK K
  refine norm_ (a' := ?_) ?_ ?_
  rotate_left
  ·show Act.put _ (some 16) _ = _
   simp only [Act.put, List.setIfInBounds_toArray, List.set_cons_zero, List.set_cons_succ, i64_w, i32_w]
   rfl
  refine one_ (i := 1) (N := some 17) (ba 8 63) rfl rfl (one_of HT_.out (by kernel_rfl)) (by decide) (fun K hK => ?_)
  refine Kd.R_lit_step k49 _ 49 ?hg (N := 17) ?hd (xs := ([(⟨(⟨t190, t191⟩ : S26)⟩ : S49)] : List (S49))) (inner := [.int .i64 t190, .int .i64 t191]) (ok := fun _ => True) (okp := fun _ => True) ?hr ?hp (fun _ hk => hk) trivial (Below.refl _ _) (Nat.le_refl _) (by simp) ?_; (case hd => rfl); (case hg => rfl); (case hr => first | (go_simp; done) | (go_simp; rfl)); (case hp => exact (Reps.c2 (show Kd.M k49 _ _ _ (⟨(⟨t190, t191⟩ : S26)⟩ : S49) [.int .i64 t190, .int .i64 t191] from (k49_mkM _ _ _ (⟨(⟨t190, t191⟩ : S26)⟩ : S49) )) (Reps.none _ _)))
  intro v193 w16 ho17 hb hg_ hnew_
  clear hg_ hnew_
  (first | rw [← Ny192.out] at ho17 | (simp only [Int.reduceToNat] at ho17; rw [← Ny192.out] at ho17))
  have HO194 := ak (Kd.R_lower (Kd.R_newB ho17 (g := gb189) (o := .cells #[.int .i64 a2_0, .int .i64 a2_1] 49 (0, 0)) (bkC BK189)) (below_size (hbC _)))
  replace BK188 := kB BK188 hb
  replace BK189 := kB BK189 hb
  replace HB := kH _ hb
  clear hb ho17
  obtain ⟨Ao18, co18, eo18⟩ := Kd.R_slice HO194.out
  (first | subst eo18 | (injection eo18 with f1_ f2_ f3_; have f4_ := f1_.symm; have f5_ := f3_.symm; clear f1_ f2_ f3_; subst f4_; subst f5_))
  refine hK.out _ _ ⟨bc BK188 0, bc BK188 1, bc BK188 2⟩ (fun hHeld => ?_)
  clear hK K
  refine norm_ (a' := ?_) ?_ ?_
  rotate_left
  ·show Act.put _ (some 17) _ = _
   simp only [Act.put, List.setIfInBounds_toArray, List.set_cons_zero, List.set_cons_succ, i64_w, i32_w]
   rfl
  refine one_ (i := 6) (N := some 22) (ba 8 127) rfl rfl (one_of HT_.out (by kernel_rfl)) (by decide) (fun K hK => ?_)
  refine gC Tryd.func32 #[.slice Ao18 y192.length co18, .int .i64 (wrap64 ((l0_1.length : Int) - 1))] ?_
  with_reducible refine (xRepeat.calls _ _ y192 (wrap64 ((l0_1.length : Int) - 1)) t195 _ ?side1 ?side2 A6.out).mono ?_
  (case side1 => exact kD (Kd.R_reads' HO194.out).2.2)
  (case side2 => exact (Kd.R_reads' HO194.out).2.1)
  rintro e w19 ⟨v196, rfl, ho0, hb⟩
  refine ⟨_, rfl, ?_⟩
  have HO197 := ak (Kd.R_lower (Kd.R_newB (Kd.R_new' ho0 (Kd.R_lt (rC HO194))) (g := gb189) (o := .cells #[.int .i64 a2_0, .int .i64 a2_1] 49 (0, 0)) (bkC BK189)) (below_size (hbC _)))
  replace HO194 := ak (Kd.R_elder' (rC HO194) (Kd.R_base ho0) hb)
  replace BK188 := kB BK188 hb
  replace BK189 := kB BK189 hb
  replace HB := kH _ hb
  (try clear hb)
  (try clear hb2)
  (try clear hk)
  (try clear hi)
  (try clear ho0)
  refine hK.out _ _ ⟨bc BK188 0, bc BK188 1, bc BK188 2⟩ (fun hHeld => ?_)
  clear hK K
  refine norm_ (a' := ?_) ?_ ?_
  rotate_left
  ·show Act.put _ (some 22) _ = _
   simp only [Act.put, List.setIfInBounds_toArray, List.set_cons_zero, List.set_cons_succ, i64_w, i32_w]
   rfl
  refine pS 7 7 8 255 ?_
  refine done_ (done_of HT_.out (by kernel_rfl)) ?_
  have hnb20 := NB188_189.out
  have hnc20 := NB189_188.out
  have hcz21_0 : w19.cell? ⟨gb188, 0, none⟩ = some (.int .i64 a0_0) := bc BK188 0
  have hcz21_1 : w19.cell? ⟨gb188, 1, none⟩ = some (.slice A0_1 l0_1.length c0_1) := bc BK188 1
  have hcz21_2 : w19.cell? ⟨gb188, 2, none⟩ = some (.slice A0_2 l0_2.length c0_2) := bc BK188 2
  have hfz21_0 := fz BK188 0
  have hfz21_1 := fz BK188 1
  have hfz21_2 := fz BK188 2
  have hcz22_0 : w19.cell? ⟨gb189, 0, none⟩ = some (.int .i64 a2_0) := bc BK189 0
  have hcz22_1 : w19.cell? ⟨gb189, 1, none⟩ = some (.int .i64 a2_1) := bc BK189 1
  have hfz22_0 := fz BK189 0
  have hfz22_1 := fz BK189 1
  try go_wp2_with (first | ((with_reducible refine gate_callee (f := 33) rfl ?_); refine gL 26 Tryd.func33 #[.agg #[.int .i64 a0_0, .slice A0_1 l0_1.length c0_1, .slice A0_2 l0_2.length c0_2], .agg #[.int .i64 a2_0, .int .i64 a2_1]] ?_; (with_reducible refine (curves_Curve_piece.calls k a0_0 _ _ l0_1 _ _ l0_2 a2_0 a2_1 t198 _ ?side1 ?side2 ?side3 ?side4 A7.out).mono ?_); (case side1 => exact kC HR0_1); (case side2 => exact HC0_1.out); (case side3 => exact kC HR0_2); (case side4 => exact HC0_2.out); rintro e w23 ⟨rfl, hb⟩; refine ⟨_, rfl, ?_⟩; replace HO194 := kO HO194 hb; replace HO197 := kO HO197 hb; replace BK188 := kB BK188 hb; replace BK189 := kB BK189 hb; replace HB := kH _ hb; (try clear hb); (try clear hb2); (try clear hk); (try clear hi)) | ((with_reducible refine gate_callee (f := 24) rfl ?_); refine gL 27 Tryd.func24 #[.int .i64 1, .int .i64 1] ?_; (with_reducible refine (curves_of.calls k 1 1 t199 t200 _ A8.out).mono ?_); rintro e w24 ⟨rfl, hb⟩; refine ⟨_, rfl, ?_⟩; replace HO194 := kO HO194 hb; replace HO197 := kO HO197 hb; replace BK188 := kB BK188 hb; replace BK189 := kB BK189 hb; replace HB := kH _ hb; (try clear hb); (try clear hb2); (try clear hk); (try clear hi); have p11 : 0 ≤ (t198 : Int) := dA; have q11 : (t198 : Int) < ((t195.length : Int) : Int) := dA; obtain ⟨go11, co11, eo11, gb11, gl11, cl11, HG11⟩ := Kd.R_form HO197.out (by omega); (first | cases eo11 | (injection eo11 with ea_ en_ ec_; (first | subst ea_ | (injection ea_ with ea_; subst ea_)); subst ec_; clear en_)); have GB11 := Aside0.mk gb11; have GG11 := Aside0.mk HG11; clear gb11 gl11 HG11; obtain ⟨ce11, hcl11, hM11, hcc11, hfr11⟩ := Kd.R_elem HO197.out z49 (t198 : Int) p11 q11; obtain rfl := k49_openM hM11; have hx11_0 : w24.cell? ⟨go11, (t198 : Int).toNat * 2, none⟩ = some (.int .i64 ((rd_T49 t195 t198).f0.f0)) := hcc11 0 _ rfl; have hx11_1 : w24.cell? ⟨go11, (t198 : Int).toNat * 2 + 1, none⟩ = some (.int .i64 ((rd_T49 t195 t198).f0.f1)) := hcc11 1 _ rfl; have hf11_0 : w24.frozen? ⟨go11, (t198 : Int).toNat * 2, none⟩ = false := hfr11 0; have hf11_1 : w24.frozen? ⟨go11, (t198 : Int).toNat * 2 + 1, none⟩ = false := hfr11 1; clear hcl11 hcc11 hfr11 hM11; replace p11 := eq_true p11; replace q11 := eq_true q11; have n_ := ak (Kd.R_mono (ok' := (fun k_ => nb k_ (.slice Ao18 y192.length co18) ∧ k_ ≠ gb189)) HO197.out (fun k_ hk => ⟨hk.1.2, hk.2⟩)); clear HO197; have HO197 := n_; clear n_; have HX25 := ak (show Kd.R k49 49 w24 w.heap.size (fun k_ => nb k_ (.slice Ao18 y192.length co18) ∧ k_ ≠ gb189) (.slice (some ⟨go11, 0, none⟩) t195.length co11) t195 from (rC HO197)); obtain ⟨ce25, hcl25, hM25, hcc25, hfr25⟩ := Kd.R_elem HX25.out z49 (t198 : Int) (dA) (by have h_ : (t198 : Int) < ((t195.length : Int) : Int) := dA; first | exact h_ | (have e_ := (Kd.R_reads' HO197.out).1; omega) | simpa using h_); obtain rfl := k49_openM hM25; have HP25 := Kd.R_seg HX25.out (t198 : Int) (dA) (by have h_ : (t198 : Int) < ((t195.length : Int) : Int) := dA; first | exact h_ | (have e_ := (Kd.R_reads' HO197.out).1; omega) | simpa using h_) (seg := [.int .i64 t199, .int .i64 t200]) (j := 0) hcl25 hcc25 (show 2 ≤ 2 from by decide) (x' := (⟨(⟨t199, t200⟩ : S26)⟩ : S49)) (k49_mkM _ _ _ (⟨(⟨t199, t200⟩ : S26)⟩ : S49) ) (fun _ hk => hk); have hx25_0 := hcc25 0 _ rfl; (try simp only [show (k49).sz = 2 from rfl, Nat.mul_one, Nat.add_zero] at hx25_0); have hf25_0 := hfr25 0; (try simp only [show (k49).sz = 2 from rfl, Nat.mul_one, Nat.add_zero] at hf25_0); have hx25_1 := hcc25 1 _ rfl; (try simp only [show (k49).sz = 2 from rfl, Nat.mul_one, Nat.add_zero] at hx25_1); have hf25_1 := hfr25 1; (try simp only [show (k49).sz = 2 from rfl, Nat.mul_one, Nat.add_zero] at hf25_1); clear hcl25 hcc25 hfr25 hM25) | ((with_reducible refine gate_store (t := 49) (p := 28) rfl ?_); refine store_event (t := 49) (p := 28) (v := ?vo_w26) (w1 := ((w24.setCell ⟨go11, (t198 : Int).toNat * 2, none⟩ (.int .i64 t199)).setCell ⟨go11, (t198 : Int).toNat * 2 + 1, none⟩ (.int .i64 t200))) ?hg ?ho ?hn ?hr ?_; (case ho => rfl); (case hg => rfl); (case hn => rfl); (case hr => first | (go_simp; done) | (go_simp; rfl)); intro w26 hw; have hg : w24.grownBy w26 (some go11) := (by rw [hw]; exact HP25.2); have hp_ : Kd.R k49 49 w26 w.heap.size (fun k_ => nb k_ (.slice Ao18 y192.length co18) ∧ k_ ≠ gb189) (.slice (some ⟨go11, 0, none⟩) t195.length co11) y201 := (by rw [hw, Ny201.out]; exact HP25.1); clear HP25; replace BK188 := ak (blk_grown (g := gb188) (o := .cells #[.int .i64 a0_0, .slice A0_1 l0_1.length c0_1, .slice A0_2 l0_2.length c0_2] 31 (0, 0)) (bkC BK188) hg (Kd.R_ne HO197.out BK188.out (by decide))); replace BK189 := ak (blk_grown (g := gb189) (o := .cells #[.int .i64 a2_0, .int .i64 a2_1] 49 (0, 0)) (bkC BK189) hg (Kd.R_away HO197.out (fun _ hk => hk.2))); replace HO194 := ak (Kd.R_after (v := (.slice (some ⟨go11, 0, none⟩) t195.length co11)) (v1 := (.slice (some ⟨go11, 0, none⟩) t195.length co11)) (ok := (fun k_ => k_ ≠ gb189)) (rD (Kd.R_mono HO194.out (fun _ hk => ⟨hk.1.2, hk.2⟩))) hg (.inl rfl)); replace HO197 := ak (hp_); replace HB := ak ((by rw [hw]; exact below_set (below_set (HB.out) GB11.out) GB11.out : Below w.heap.size w w26)); clear hg hw hp_))
  go_ret
  exact ⟨_, by first | rfl | (simp [errW_none, errW_some] <;> rfl) | (simp [*, errW_none, errW_some] <;> rfl), rD (Kd.R_mono HO197.out (fun _ hk => trivial)), hbC _⟩
 rw [if_neg c4] at H
 have c4b0 : (a1 == 0) = false := beq_eq_false_iff_ne.mpr c4
 have c4b1 : (a1 != 0) = true := bne_iff_ne.mpr c4
 replace H := Option.bind_eq_some_iff.mp H
 obtain ⟨t202, A270, H⟩ := H
 replace H : (curves_Curve_basic.l0 k a1 t202 ([] : List (S49)) (wrap64 ((t202.length : Int) - 1)) 0 a0_0 l0_1 l0_2 a2_0 a2_1) = some r := H
 have A27 := Aside0.mk A270
 clear A270
 have H' := Aside0.mk H
 clear H
 go_enter Tryd.func19, Tryd.ntmps19
 go_wp2_with (first | ((with_reducible refine gate_dst (N := 3) rfl ?_); refine bE 3 #[.int .i64 a0_0, .slice A0_1 l0_1.length c0_1, .slice A0_2 l0_2.length c0_2] 31 ?_; intro gb188 hg w28 hbox hb; have BK188 := ak (hbox); have GW188 := kG w hg; have GE188 := kG w hg; replace HB := kH _ hb; clear hb hbox hg) | ((with_reducible refine gate_dst (N := 5) rfl ?_); refine bE 5 #[.int .i64 a2_0, .int .i64 a2_1] 49 ?_; intro gb189 hg w29 hbox hb; have BK189 := ak (hbox); have GW189 := kG w hg; have GE189 := kG w hg; replace HB := kH _ hb; have NB188_189 := kL BK188 hg; have NB189_188 := kR BK188 hg; replace BK188 := kB BK188 hb; clear hb hbox hg; have hnb30 := NB188_189.out; have hnc30 := NB189_188.out; have hcz31_0 : w29.cell? ⟨gb188, 0, none⟩ = some (.int .i64 a0_0) := bc BK188 0; have hcz31_1 : w29.cell? ⟨gb188, 1, none⟩ = some (.slice A0_1 l0_1.length c0_1) := bc BK188 1; have hcz31_2 : w29.cell? ⟨gb188, 2, none⟩ = some (.slice A0_2 l0_2.length c0_2) := bc BK188 2; have hfz31_0 := fz BK188 0; have hfz31_1 := fz BK188 1; have hfz31_2 := fz BK188 2; have hcz32_0 : w29.cell? ⟨gb189, 0, none⟩ = some (.int .i64 a2_0) := bc BK189 0; have hcz32_1 : w29.cell? ⟨gb189, 1, none⟩ = some (.int .i64 a2_1) := bc BK189 1; have hfz32_0 := fz BK189 0; have hfz32_1 := fz BK189 1) | ((with_reducible refine gate_callee (f := 19) rfl ?_); refine gL 34 Tryd.func19 #[.agg #[.int .i64 a0_0, .slice A0_1 l0_1.length c0_1, .slice A0_2 l0_2.length c0_2], .int .i64 (wrap64 (a1 - 1)), .agg #[.int .i64 a2_0, .int .i64 a2_1]] ?_; (with_reducible refine (ih k (by omega) a0_0 _ _ l0_1 _ _ l0_2 (wrap64 (a1 - 1)) a2_0 a2_1 t202 _ ?side1 ?side2 ?side3 ?side4 A27.out).mono ?_); (case side1 => exact kC HR0_1); (case side2 => exact HC0_1.out); (case side3 => exact kC HR0_2); (case side4 => exact HC0_2.out); rintro e w33 ⟨v203, rfl, ho0, hb⟩; refine ⟨_, rfl, ?_⟩; have HO204 := ak (Kd.R_lower (Kd.R_newB ho0 (g := gb189) (o := .cells #[.int .i64 a2_0, .int .i64 a2_1] 49 (0, 0)) (bkC BK189)) (below_size (hbC _))); replace BK188 := kB BK188 hb; replace BK189 := kB BK189 hb; replace HB := kH _ hb; (try clear hb); (try clear hb2); (try clear hk); (try clear hi); (try clear ho0); obtain ⟨Ao34, co34, eo34⟩ := Kd.R_slice HO204.out; subst eo34))
 go_loopg [9, 38] k (fun kq v9 v38 w' => ∃ (x9_1 : List (S49)) (x38_1 : Int), v38 = .int .i64 x38_1 ∧ Aside0 (curves_Curve_basic.l0 kq a1 t202 x9_1 (wrap64 ((t202.length : Int) - 1)) x38_1 a0_0 l0_1 l0_2 a2_0 a2_1 = some r) ∧ Aside0 (kq ≤ k) ∧ Aside0 (Kd.R k49 49 w' w.heap.size (fun k_ => nb k_ v9 ∧ k_ ≠ gb189) (.slice Ao34 t202.length co34) t202) ∧ Aside0 (Kd.R k49 49 w' w.heap.size (fun k_ => some k_ ≠ ((.slice Ao34 t202.length co34) : Value).ownBlock ∧ k_ ≠ gb189) v9 x9_1) ∧ Aside0 (w'.heap[gb188]? = some (.cells #[.int .i64 a0_0, (.slice A0_1 l0_1.length c0_1), (.slice A0_2 l0_2.length c0_2)] 31 (0, 0))) ∧ Aside0 (w'.heap[gb189]? = some (.cells #[.int .i64 a2_0, .int .i64 a2_1] 49 (0, 0))) ∧ Aside0 (Below w.heap.size w w'))
 case atStart => exact ⟨(([] : List (S49))), (0), (by first | rfl | (simp; done) | (simp [*]; done)), H', ⟨Nat.le_refl _⟩, ⟨rD (Kd.R_mono HO204.out (fun _ hk => ⟨(by simp [Value.ownBlock]), hk.2⟩))⟩, ⟨by first | exact Kd.R_nil _ _ _ _ _ | exact Kd.N_nil _ _ _ _ _ | exact Kd.V_nil _ _ _ _ _ | exact Kd.Q_nil _ _ _ _ _ | exact Kd.S_nil _ _ _ _ _⟩, ⟨bkC BK188⟩, ⟨bkC BK189⟩, ⟨hbC _⟩⟩
 case round =>
  clear H'
  try clear c1
  try clear p1
  try clear q1
  try clear hx1
  try clear c2
  try clear p2
  try clear hx2
  try clear c3
  try clear c4
  try clear c4b0
  try clear c4b1
  try clear p6
  try clear c9
  try clear c9b0
  try clear c10
  try clear c10b0
  try clear c11
  try clear p11
  try clear q11
  try clear hx11
  try clear hf11
  try clear c19
  try clear c20
  try clear c24
  try clear c25
  try clear hx25
  try clear hf25
  try clear c30
  try clear c32
  try clear c33
  try clear hcz21_0
  try clear hcz21_1
  try clear hcz21_2
  try clear hcz22_0
  try clear hcz22_1
  try clear hcz31_0
  try clear hcz31_1
  try clear hcz31_2
  try clear hcz32_0
  try clear hcz32_1
  try clear hfz21_0
  try clear hfz21_1
  try clear hfz21_2
  try clear hfz22_0
  try clear hfz22_1
  try clear hfz31_0
  try clear hfz31_1
  try clear hfz31_2
  try clear hfz32_0
  try clear hfz32_1
  try clear hx11_0
  try clear hx11_1
  try clear hx25_0
  try clear hx25_1
  try clear p11
  try clear q11
  obtain ⟨x9_1, x38_1, rfl, HA, HK1, HO_8, HO_9, BK188, BK189, HB⟩ := hrel
  cases gk with
  | zero => exact absurd HA.out (by simp [curves_Curve_basic.l0])
  | succ k1 =>
   have H := HA.out
   clear HA
   simp only [curves_Curve_basic.l0] at H
   by_cases c35 : x38_1 < (wrap64 ((t202.length : Int) - 1))
   rotate_left
   ·rw [if_neg c35] at H
    have c35b0 : decide (x38_1 < (wrap64 ((t202.length : Int) - 1))) = false := decide_eq_false c35
    clear c35
    obtain rfl := Option.some.inj H
    go_wp2
    go_ret
    exact ⟨_, by first | rfl | (simp [errW_none, errW_some] <;> rfl) | (simp [*, errW_none, errW_some] <;> rfl), rD (Kd.R_mono HO_9.out (fun _ hk => trivial)), hbC _⟩
   rw [if_pos c35] at H
   have c35b0 : decide (x38_1 < (wrap64 ((t202.length : Int) - 1))) = true := decide_eq_true c35
   clear c35
   replace H := Option.bind_eq_some_iff.mp H
   obtain ⟨⟨t205, t206⟩, A360, H⟩ := H
   replace H : (if 0 ≤ (wrap64 (x38_1 + a1)) then (if (wrap64 (x38_1 + a1)) < (l0_1.length : Int) then (if 0 ≤ x38_1 then (if x38_1 < (l0_1.length : Int) then (if (wrap64 ((rd l0_1 (wrap64 (x38_1 + a1))) - (rd l0_1 x38_1))) > 0 then ((curves_ratio_less.f k1 a2_0 a2_1 (rd l0_1 x38_1)).bind fun bt211 => ((curves_of.f k1 1 (wrap64 ((rd l0_1 (wrap64 (x38_1 + a1))) - (rd l0_1 x38_1)))).bind fun bt213 => ((curves_ratio_times.f k1 bt211.1 bt211.2 bt213.1 bt213.2).bind fun bt215 => (if x38_1 < (t202.length : Int) then ((curves_ratio_times.f k1 bt215.1 bt215.2 ((rd_T49 t202 x38_1).f0.f0) ((rd_T49 t202 x38_1).f0.f1)).bind fun bt218 => ((curves_ratio_plus.f k1 t205 t206 bt218.1 bt218.2).bind fun bt220 => (curves_Curve_basic.j1 k1 a1 t202 x9_1 x38_1 (wrap64 ((t202.length : Int) - 1)) x38_1 a0_0 l0_1 l0_2 a2_0 a2_1 bt220.1 bt220.2))) else (none))))) else (curves_Curve_basic.j1 k1 a1 t202 x9_1 x38_1 (wrap64 ((t202.length : Int) - 1)) x38_1 a0_0 l0_1 l0_2 a2_0 a2_1 t205 t206)) else (none)) else (none)) else (none)) else (none)) = some r := H
   have A36 := Aside0.mk A360
   clear A360
   obtain ⟨ji37, hji37⟩ : ∃ j_ : Int, (wrap64 (x38_1 + a1)) = j_ := ⟨_, rfl⟩
   replace H : (if 0 ≤ (ji37) then (if (ji37) < (l0_1.length : Int) then (if 0 ≤ x38_1 then (if x38_1 < (l0_1.length : Int) then (if (wrap64 ((rd l0_1 (ji37)) - (rd l0_1 x38_1))) > 0 then ((curves_ratio_less.f k1 a2_0 a2_1 (rd l0_1 x38_1)).bind fun bt211 => ((curves_of.f k1 1 (wrap64 ((rd l0_1 (ji37)) - (rd l0_1 x38_1)))).bind fun bt213 => ((curves_ratio_times.f k1 bt211.1 bt211.2 bt213.1 bt213.2).bind fun bt215 => (if x38_1 < (t202.length : Int) then ((curves_ratio_times.f k1 bt215.1 bt215.2 ((rd_T49 t202 x38_1).f0.f0) ((rd_T49 t202 x38_1).f0.f1)).bind fun bt218 => ((curves_ratio_plus.f k1 t205 t206 bt218.1 bt218.2).bind fun bt220 => (curves_Curve_basic.j1 k1 a1 t202 x9_1 x38_1 (wrap64 ((t202.length : Int) - 1)) x38_1 a0_0 l0_1 l0_2 a2_0 a2_1 bt220.1 bt220.2))) else (none))))) else (curves_Curve_basic.j1 k1 a1 t202 x9_1 x38_1 (wrap64 ((t202.length : Int) - 1)) x38_1 a0_0 l0_1 l0_2 a2_0 a2_1 t205 t206)) else (none)) else (none)) else (none)) else (none)) = some r := by first | (rw [hji37] at H; exact H) | (simp only [hji37] at H ⊢; exact H)
   (try rw [hji37] at A36)
   have hji37w : (IntKind.i64.wrap (x38_1 + a1)) = ji37 := (i64_w _).trans hji37
   by_cases c38 : 0 ≤ (ji37)
   rotate_left
   ·rw [if_neg c38] at H
    exact absurd H (by simp)
   rw [if_pos c38] at H
   have c38b0 : decide (0 ≤ (ji37)) = true := decide_eq_true c38
   clear c38
   by_cases c39 : (ji37) < (l0_1.length : Int)
   rotate_left
   ·rw [if_neg c39] at H
    exact absurd H (by simp)
   rw [if_pos c39] at H
   have c39b0 : decide ((ji37) < (l0_1.length : Int)) = true := decide_eq_true c39
   clear c39
   by_cases c40 : 0 ≤ x38_1
   rotate_left
   ·rw [if_neg c40] at H
    exact absurd H (by simp)
   rw [if_pos c40] at H
   have c40b0 : decide (0 ≤ x38_1) = true := decide_eq_true c40
   clear c40
   by_cases c41 : x38_1 < (l0_1.length : Int)
   rotate_left
   ·rw [if_neg c41] at H
    exact absurd H (by simp)
   rw [if_pos c41] at H
   have c41b0 : decide (x38_1 < (l0_1.length : Int)) = true := decide_eq_true c41
   clear c41
   have HC42 := Aside0.mk H
   clear H
   try go_wp2_with (first | ((with_reducible refine gate_callee (f := 24) rfl ?_); refine gL 41 Tryd.func24 #[.int .i64 0, .int .i64 1] ?_; (with_reducible refine (curves_of.calls k1 0 1 t205 t206 _ A36.out).mono ?_); rintro e w43 ⟨rfl, hb⟩; refine ⟨_, rfl, ?_⟩; replace HO_8 := kO HO_8 hb; replace HO_9 := kO HO_9 hb; replace BK188 := kB BK188 hb; replace BK189 := kB BK189 hb; replace HB := kH _ hb; (try clear hb); (try clear hb2); (try clear hk); (try clear hi)) | ((with_reducible refine gate_dst (N := 11) rfl ?_); refine bE 11 #[.int .i64 0, .int .i64 0] 49 ?_; intro gb207 hg w44 hbox hb; replace HO_8 := ak (Kd.R_below (Kd.R_elderB (rC HO_8) gb207 (Nat.le_of_eq hg.symm)) hb); replace HO_9 := ak (Kd.R_below (Kd.R_elderB (rC HO_9) gb207 (Nat.le_of_eq hg.symm)) hb); have BK207 := ak (hbox); have GW207 := kG w hg; have GE207 := kG w hg; replace HB := kH _ hb; have NB188_207 := kL BK188 hg; have NB207_188 := kR BK188 hg; replace BK188 := kB BK188 hb; have NB189_207 := kL BK189 hg; have NB207_189 := kR BK189 hg; replace BK189 := kB BK189 hb; clear hb hbox hg; have hnb45 := NB207_188.out; have hnc45 := NB188_207.out; have hnb46 := NB207_189.out; have hnc46 := NB189_207.out; have hcz47_0 : w44.cell? ⟨gb207, 0, none⟩ = some (.int .i64 0) := bc BK207 0; have hcz47_1 : w44.cell? ⟨gb207, 1, none⟩ = some (.int .i64 0) := bc BK207 1; have hfz47_0 := fz BK207 0; have hfz47_1 := fz BK207 1))
   have n0_ : Aside0 (Kd.R k49 49 ((w44.setCell ⟨gb207, 0, none⟩ (.int .i64 t205)).setCell ⟨gb207, 1, none⟩ (.int .i64 t206)) w.heap.size (fun k_ => nb k_ u9 ∧ k_ ≠ gb189 ∧ k_ ≠ gb207) (.slice Ao34 t202.length co34) t202) := ⟨rD (Kd.R_mono (Kd.R_far (p := ⟨gb207, 1, none⟩) (Kd.R_far (p := ⟨gb207, 0, none⟩) (Kd.R_mono HO_8.out (fun k_ hk => (⟨hk, hk.2⟩ : _ ∧ k_ ≠ gb207))) (fun _ hk => hk.2) (.int .i64 t205)) (fun _ hk => hk.2) (.int .i64 t206)) (fun _ hk => ⟨hk.1.1.1, ⟨hk.1.1.2, hk.1.2⟩⟩))⟩
   have n1_ : Aside0 (Kd.R k49 49 ((w44.setCell ⟨gb207, 0, none⟩ (.int .i64 t205)).setCell ⟨gb207, 1, none⟩ (.int .i64 t206)) w.heap.size (fun k_ => nb k_ (.slice Ao34 t202.length co34) ∧ k_ ≠ gb189 ∧ k_ ≠ gb207) u9 x9_1) := ⟨rD (Kd.R_mono (Kd.R_far (p := ⟨gb207, 1, none⟩) (Kd.R_far (p := ⟨gb207, 0, none⟩) (Kd.R_mono HO_9.out (fun k_ hk => (⟨hk, hk.2⟩ : _ ∧ k_ ≠ gb207))) (fun _ hk => hk.2) (.int .i64 t205)) (fun _ hk => hk.2) (.int .i64 t206)) (fun _ hk => ⟨hk.1.1.1, ⟨hk.1.1.2, hk.1.2⟩⟩))⟩
   have n2_ : Aside0 (((w44.setCell ⟨gb207, 0, none⟩ (.int .i64 t205)).setCell ⟨gb207, 1, none⟩ (.int .i64 t206)).heap[gb188]? = some (.cells #[.int .i64 a0_0, .slice A0_1 l0_1.length c0_1, .slice A0_2 l0_2.length c0_2] 31 (0, 0))) := ⟨bF BK188⟩
   have n3_ : Aside0 (((w44.setCell ⟨gb207, 0, none⟩ (.int .i64 t205)).setCell ⟨gb207, 1, none⟩ (.int .i64 t206)).heap[gb189]? = some (.cells #[.int .i64 a2_0, .int .i64 a2_1] 49 (0, 0))) := ⟨bF BK189⟩
   have n4_ : Aside0 (((w44.setCell ⟨gb207, 0, none⟩ (.int .i64 t205)).setCell ⟨gb207, 1, none⟩ (.int .i64 t206)).heap[gb207]? = some (.cells #[.int .i64 t205, .int .i64 t206] 49 (0, 0))) := ⟨by (with_reducible repeat (first | refine blk_drewN ?_ _ | refine blk_drew ?_ | refine blk_alloc ?_ _)); refine blk_put (cs := #[.int .i64 t205, .int .i64 0]) ?_ 1 _ rfl; (with_reducible repeat (first | refine blk_drewN ?_ _ | refine blk_drew ?_ | refine blk_alloc ?_ _)); refine blk_put (cs := #[.int .i64 0, .int .i64 0]) ?_ 0 _ rfl; (with_reducible repeat (first | refine blk_drewN ?_ _ | refine blk_drew ?_ | refine blk_alloc ?_ _)); exact BK207.out⟩
   have n5_ : Aside0 (Below w.heap.size w ((w44.setCell ⟨gb207, 0, none⟩ (.int .i64 t205)).setCell ⟨gb207, 1, none⟩ (.int .i64 t206))) := ⟨hbC _⟩
   (try clear HO_8)
   (try clear HO_9)
   (try clear BK188)
   (try clear BK189)
   (try clear BK207)
   (try clear HB)
   generalize ((w44.setCell ⟨gb207, 0, none⟩ (.int .i64 t205)).setCell ⟨gb207, 1, none⟩ (.int .i64 t206)) = w48 at n0_ n1_ n2_ n3_ n4_ n5_ ⊢
   have HO_8 := n0_
   have HO_9 := n1_
   have BK188 := n2_
   have BK189 := n3_
   have BK207 := n4_
   have HB := n5_
   clear n0_ n1_ n2_ n3_ n4_ n5_
   replace HO_8 := ak (Kd.R_drew HO_8.out)
   replace HO_9 := ak (Kd.R_drew HO_9.out)
   replace BK188 := kd BK188
   replace BK189 := kd BK189
   replace BK207 := kd BK207
   replace HB := ak (below_drew1 HB.out)
   have p208 : 0 ≤ ((ji37) : Int) := dA
   have q208 : (ji37) < (l0_1.length : Int) := dA
   obtain ⟨ad208, e208, hx208_0⟩ := Kd.at_int HR0_1.out (ji37) p208 q208
   have hw208_0 := hx208_0
   cases e208
   try replace hx208_0 := (HB.out.cell (World.block_lt_of_cell? w _ hx208_0)).trans hx208_0
   replace p208 := eq_true p208
   replace q208 := eq_true q208
   have p209 : 0 ≤ (x38_1 : Int) := dA
   have q209 : x38_1 < (l0_1.length : Int) := dA
   obtain ⟨ad209, e209, hx209_0⟩ := Kd.at_int HR0_1.out x38_1 p209 q209
   have hw209_0 := hx209_0
   obtain rfl : ad208 = ad209 := (by injection e209)
   try replace hx209_0 := (HB.out.cell (World.block_lt_of_cell? w _ hx209_0)).trans hx209_0
   replace p209 := eq_true p209
   replace q209 := eq_true q209
   refine sS (n := 14) (S := fun w' => w'.cell? ⟨gb188, 0, none⟩ = some (.int .i64 a0_0) ∧ w'.cell? ⟨gb188, 1, none⟩ = some (.slice (some ad208) l0_1.length c0_1) ∧ w'.cell? ⟨gb188, 2, none⟩ = some (.slice A0_2 l0_2.length c0_2) ∧ w'.cell? (ad208.add ((ji37)).toNat) = some (.int .i64 (rd l0_1 (ji37))) ∧ w'.cell? (ad208.add (x38_1).toNat) = some (.int .i64 (rd l0_1 x38_1))) (ds := []) ⟨bc BK188 0, bc BK188 1, bc BK188 2, ((HB.out.cell (World.block_lt_of_cell? w _ hw208_0)).trans hw208_0), ((HB.out.cell (World.block_lt_of_cell? w _ hw209_0)).trans hw209_0)⟩ (fun hHeld => ?_); refine with_tabW curves_Curve_basic.tab11 curves_Curve_basic.bits11 (fun HT_ HW_ => ?_)
   generalize w48.drew = w49 at HO_8 HO_9 BK188 BK189 BK207 HB hx208_0 hx209_0 hHeld ⊢
   refine pS 0 42 14 1 ?_
   refine pS 2 44 14 5 ?_
   refine pS 3 45 14 13 ?_
   refine pS 4 46 14 29 ?_
   refine pS 7 49 14 157 ?_
   refine pS 9 51 14 669 ?_
   refine tS 1 43 14 671 ?_
   refine pS 5 47 14 703 ?_
   refine tS 6 48 14 767 ?_
   refine tS 8 50 14 1023 ?_
   refine pS 10 52 14 2047 ?_
   refine tS 11 53 14 4095 ?_
   refine pS 12 54 14 8191 ?_
   refine pS 13 12 14 16383 ?_
   refine done_ (done_of HT_.out (by kernel_rfl)) ?_
   go_upto_if 56 with (fail)
   go_cut [] (fun wc => ∃ (kq : Nat) (x208000_41 : Int) (x208001_41 : Int), Aside0 (curves_Curve_basic.j1 kq a1 t202 x9_1 x38_1 (wrap64 ((t202.length : Int) - 1)) x38_1 a0_0 l0_1 l0_2 a2_0 a2_1 x208000_41 x208001_41 = some r) ∧ Aside0 (kq ≤ k1) ∧ Aside0 (Kd.R k49 49 wc w.heap.size (fun k_ => nb k_ u9 ∧ k_ ≠ gb189 ∧ k_ ≠ gb207) (.slice Ao34 t202.length co34) t202) ∧ Aside0 (Kd.R k49 49 wc w.heap.size (fun k_ => some k_ ≠ ((.slice Ao34 t202.length co34) : Value).ownBlock ∧ k_ ≠ gb189 ∧ k_ ≠ gb207) u9 x9_1) ∧ Aside0 (wc.heap[gb188]? = some (.cells #[.int .i64 a0_0, (.slice (some ad208) l0_1.length c0_1), (.slice A0_2 l0_2.length c0_2)] 31 (0, 0))) ∧ Aside0 (wc.heap[gb189]? = some (.cells #[.int .i64 a2_0, .int .i64 a2_1] 49 (0, 0))) ∧ Aside0 (wc.heap[gb207]? = some (.cells #[.int .i64 x208000_41, .int .i64 x208001_41] 49 (0, 0))) ∧ Aside0 (Below w.heap.size w wc))
   case first =>
    have H := HC42.out
    clear HC42
    by_cases c50 : (wrap64 ((rd l0_1 (ji37)) - (rd l0_1 x38_1))) > 0
    rotate_left
    ·rw [if_neg c50] at H
     have c50b0 : decide (0 < (wrap64 ((rd l0_1 (ji37)) - (rd l0_1 x38_1)))) = false := decide_eq_false c50
     clear c50
     (first | rw [c50b0] | (simp only [i64_w, i32_w]; rw [c50b0]) | skip)
     have H' := Aside0.mk H
     clear H
     go_wp2
     go_meet
     case rel => exact ⟨_, (t205), (t206), H', ⟨by have := HK1.out; first | omega | exact Nat.le_refl _⟩, ⟨rC HO_8⟩, ⟨rC HO_9⟩, ⟨bkC BK188⟩, ⟨bkC BK189⟩, ⟨bkC BK207⟩, ⟨hbC _⟩⟩
    rw [if_pos c50] at H
    have c50b0 : decide (0 < (wrap64 ((rd l0_1 (ji37)) - (rd l0_1 x38_1)))) = true := decide_eq_true c50
    clear c50
    (first | rw [c50b0] | (simp only [i64_w, i32_w]; rw [c50b0]) | skip)
    replace H := Option.bind_eq_some_iff.mp H
    obtain ⟨⟨t211, t212⟩, A510, H⟩ := H
    replace H : ((curves_of.f k1 1 (wrap64 ((rd l0_1 (ji37)) - (rd l0_1 x38_1)))).bind fun bt213 => ((curves_ratio_times.f k1 t211 t212 bt213.1 bt213.2).bind fun bt215 => (if x38_1 < (t202.length : Int) then ((curves_ratio_times.f k1 bt215.1 bt215.2 ((rd_T49 t202 x38_1).f0.f0) ((rd_T49 t202 x38_1).f0.f1)).bind fun bt218 => ((curves_ratio_plus.f k1 t205 t206 bt218.1 bt218.2).bind fun bt220 => (curves_Curve_basic.j1 k1 a1 t202 x9_1 x38_1 (wrap64 ((t202.length : Int) - 1)) x38_1 a0_0 l0_1 l0_2 a2_0 a2_1 bt220.1 bt220.2))) else (none)))) = some r := H
    have A51 := Aside0.mk A510
    clear A510
    replace H := Option.bind_eq_some_iff.mp H
    obtain ⟨⟨t213, t214⟩, A520, H⟩ := H
    replace H : ((curves_ratio_times.f k1 t211 t212 t213 t214).bind fun bt215 => (if x38_1 < (t202.length : Int) then ((curves_ratio_times.f k1 bt215.1 bt215.2 ((rd_T49 t202 x38_1).f0.f0) ((rd_T49 t202 x38_1).f0.f1)).bind fun bt218 => ((curves_ratio_plus.f k1 t205 t206 bt218.1 bt218.2).bind fun bt220 => (curves_Curve_basic.j1 k1 a1 t202 x9_1 x38_1 (wrap64 ((t202.length : Int) - 1)) x38_1 a0_0 l0_1 l0_2 a2_0 a2_1 bt220.1 bt220.2))) else (none))) = some r := H
    have A52 := Aside0.mk A520
    clear A520
    replace H := Option.bind_eq_some_iff.mp H
    obtain ⟨⟨t215, t216⟩, A530, H⟩ := H
    replace H : (if x38_1 < (t202.length : Int) then ((curves_ratio_times.f k1 t215 t216 ((rd_T49 t202 x38_1).f0.f0) ((rd_T49 t202 x38_1).f0.f1)).bind fun bt218 => ((curves_ratio_plus.f k1 t205 t206 bt218.1 bt218.2).bind fun bt220 => (curves_Curve_basic.j1 k1 a1 t202 x9_1 x38_1 (wrap64 ((t202.length : Int) - 1)) x38_1 a0_0 l0_1 l0_2 a2_0 a2_1 bt220.1 bt220.2))) else (none)) = some r := H
    have A53 := Aside0.mk A530
    clear A530
    by_cases c54 : x38_1 < (t202.length : Int)
    rotate_left
    ·rw [if_neg c54] at H
     exact absurd H (by simp)
    rw [if_pos c54] at H
    have c54b0 : decide (x38_1 < (t202.length : Int)) = true := decide_eq_true c54
    clear c54
    replace H := Option.bind_eq_some_iff.mp H
    obtain ⟨⟨t218, t219⟩, A550, H⟩ := H
    replace H : ((curves_ratio_plus.f k1 t205 t206 t218 t219).bind fun bt220 => (curves_Curve_basic.j1 k1 a1 t202 x9_1 x38_1 (wrap64 ((t202.length : Int) - 1)) x38_1 a0_0 l0_1 l0_2 a2_0 a2_1 bt220.1 bt220.2)) = some r := H
    have A55 := Aside0.mk A550
    clear A550
    replace H := Option.bind_eq_some_iff.mp H
    obtain ⟨⟨t220, t221⟩, A560, H⟩ := H
    replace H : (curves_Curve_basic.j1 k1 a1 t202 x9_1 x38_1 (wrap64 ((t202.length : Int) - 1)) x38_1 a0_0 l0_1 l0_2 a2_0 a2_1 t220 t221) = some r := H
    have A56 := Aside0.mk A560
    clear A560
    have H' := Aside0.mk H
    clear H
    try go_wp2
    replace HO_8 := ak (Kd.R_drew HO_8.out)
    replace HO_9 := ak (Kd.R_drew HO_9.out)
    replace BK188 := kd BK188
    replace BK189 := kd BK189
    replace BK207 := kd BK207
    replace HB := ak (below_drew1 HB.out)
    have p210 : 0 ≤ (x38_1 : Int) := dA
    have q210 : x38_1 < (l0_1.length : Int) := dA
    obtain ⟨ad210, e210, hx210_0⟩ := Kd.at_int HR0_1.out x38_1 p210 q210
    have hw210_0 := hx210_0
    obtain rfl : ad208 = ad210 := (by injection e210)
    try replace hx210_0 := (HB.out.cell (World.block_lt_of_cell? w _ hx210_0)).trans hx210_0
    replace p210 := eq_true p210
    replace q210 := eq_true q210
    have p217 : 0 ≤ (x38_1 : Int) := dA
    have q217 : x38_1 < (t202.length : Int) := dA
    obtain ⟨ad217, e217, hx217_0, hx217_1⟩ := at_T49 (Kd.R_reads' HO_8.out).2.2 x38_1 p217 q217
    cases e217
    replace p217 := eq_true p217
    replace q217 := eq_true q217
    refine sS (n := 18) (S := fun w' => w'.cell? ⟨gb207, 0, none⟩ = some (.int .i64 t205) ∧ w'.cell? ⟨gb207, 1, none⟩ = some (.int .i64 t206) ∧ w'.cell? ⟨gb189, 0, none⟩ = some (.int .i64 a2_0) ∧ w'.cell? ⟨gb189, 1, none⟩ = some (.int .i64 a2_1) ∧ w'.cell? ⟨gb188, 0, none⟩ = some (.int .i64 a0_0) ∧ w'.cell? ⟨gb188, 1, none⟩ = some (.slice (some ad208) l0_1.length c0_1) ∧ w'.cell? ⟨gb188, 2, none⟩ = some (.slice A0_2 l0_2.length c0_2) ∧ w'.cell? (ad208.add (x38_1).toNat) = some (.int .i64 (rd l0_1 x38_1)) ∧ w'.cell? (ad217.add ((x38_1).toNat * 2)) = some (.int .i64 ((rd_T49 t202 x38_1).f0.f0)) ∧ w'.cell? ⟨(ad217.add ((x38_1).toNat * 2)).block, (ad217.add ((x38_1).toNat * 2)).off + 1, none⟩ = some (.int .i64 ((rd_T49 t202 x38_1).f0.f1))) (ds := [17]) ⟨bc BK207 0, bc BK207 1, bc BK189 0, bc BK189 1, bc BK188 0, bc BK188 1, bc BK188 2, ((HB.out.cell (World.block_lt_of_cell? w _ hw210_0)).trans hw210_0), hx217_0, hx217_1⟩ (fun hHeld => ?_); refine with_tabW curves_Curve_basic.tab13 curves_Curve_basic.bits13 (fun HT_ HW_ => ?_)
    generalize w49.drew = w57 at HO_8 HO_9 BK188 BK189 BK207 HB hx210_0 hx217_0 hx217_1 hHeld ⊢
    refine pS 2 59 18 4 ?_
    refine pS 4 61 18 20 ?_
    refine pS 8 65 18 276 ?_
    refine pS 11 68 18 2324 ?_
    refine pS 12 69 18 6420 ?_
    refine pS 13 70 18 14612 ?_
    refine tS 0 57 18 14613 ?_
    refine tS 1 58 18 14615 ?_
    refine tS 3 60 18 14623 ?_
    refine pS 5 62 18 14655 ?_
    refine tS 6 63 18 14719 ?_
    refine tS 14 71 18 31103 ?_
    refine one_ (i := 7) (N := some 64) (ba 18 31231) rfl rfl (one_of HT_.out (by kernel_rfl)) (by decide) (fun K hK => ?_)
    refine gC Tryd.func34 #[.agg #[.int .i64 a2_0, .int .i64 a2_1], .int .i64 (rd l0_1 x38_1)] ?_
    with_reducible refine (curves_ratio_less.calls k1 a2_0 a2_1 (rd l0_1 x38_1) t211 t212 _ A51.out).mono ?_
    rintro e w58 ⟨rfl, hb⟩
    have HS8_ := (hb.cell (World.block_lt_of_cell? _ _ (hHeld.2.2.2.2.2.2.2.2.1))).trans (hHeld.2.2.2.2.2.2.2.2.1)
    have HS9_ := (hb.cell (World.block_lt_of_cell? _ _ (hHeld.2.2.2.2.2.2.2.2.2))).trans (hHeld.2.2.2.2.2.2.2.2.2)
    refine ⟨_, rfl, ?_⟩
    replace HO_8 := kO HO_8 hb
    replace HO_9 := kO HO_9 hb
    replace BK188 := kB BK188 hb
    replace BK189 := kB BK189 hb
    replace BK207 := kB BK207 hb
    replace HB := kH _ hb
    (try clear hb)
    (try clear hb2)
    (try clear hk)
    (try clear hi)
    refine hK.out _ _ ⟨bc BK207 0, bc BK207 1, bc BK189 0, bc BK189 1, bc BK188 0, bc BK188 1, bc BK188 2, ((HB.out.cell (World.block_lt_of_cell? w _ hw210_0)).trans hw210_0), HS8_, HS9_⟩ (fun hHeld => ?_)
    clear hK K
    refine norm_ (a' := ?_) ?_ ?_
    rotate_left
    ·show Act.put _ (some 64) _ = _
     simp only [Act.put, List.setIfInBounds_toArray, List.set_cons_zero, List.set_cons_succ, i64_w, i32_w]
     rfl
    refine one_ (i := 9) (N := some 66) (ba 18 31743) rfl rfl (one_of HT_.out (by kernel_rfl)) (by decide) (fun K hK => ?_)
    refine goes_ Tryd.func24 (by kernel_rfl) rfl #[.int .i64 1, .int .i64 (wrap64 ((rd l0_1 (ji37)) - (rd l0_1 x38_1)))] (by rfl) rfl rfl (by (try simp only [List.map_toArray, List.map_cons, List.map_nil]); first | done | (simp only [hji37]; rfl) | rfl | (simp only [List.length_drop, List.length_take]; rfl)) ?_
    with_reducible refine (curves_of.calls k1 1 (wrap64 ((rd l0_1 (ji37)) - (rd l0_1 x38_1))) t213 t214 _ A52.out).mono ?_
    rintro e w59 ⟨rfl, hb⟩
    have HS8_ := (hb.cell (World.block_lt_of_cell? _ _ (hHeld.2.2.2.2.2.2.2.2.1))).trans (hHeld.2.2.2.2.2.2.2.2.1)
    have HS9_ := (hb.cell (World.block_lt_of_cell? _ _ (hHeld.2.2.2.2.2.2.2.2.2))).trans (hHeld.2.2.2.2.2.2.2.2.2)
    refine ⟨_, rfl, ?_⟩
    replace HO_8 := kO HO_8 hb
    replace HO_9 := kO HO_9 hb
    replace BK188 := kB BK188 hb
    replace BK189 := kB BK189 hb
    replace BK207 := kB BK207 hb
    replace HB := kH _ hb
    (try clear hb)
    (try clear hb2)
    (try clear hk)
    (try clear hi)
    refine hK.out _ _ ⟨bc BK207 0, bc BK207 1, bc BK189 0, bc BK189 1, bc BK188 0, bc BK188 1, bc BK188 2, ((HB.out.cell (World.block_lt_of_cell? w _ hw210_0)).trans hw210_0), HS8_, HS9_⟩ (fun hHeld => ?_)
    clear hK K
    refine norm_ (a' := ?_) ?_ ?_
    rotate_left
    ·show Act.put _ (some 66) _ = _
     simp only [Act.put, List.setIfInBounds_toArray, List.set_cons_zero, List.set_cons_succ, i64_w, i32_w]
     rfl
    refine one_ (i := 10) (N := some 67) (ba 18 32767) rfl rfl (one_of HT_.out (by kernel_rfl)) (by decide) (fun K hK => ?_)
    refine gC Tryd.func27 #[.agg #[.int .i64 t211, .int .i64 t212], .agg #[.int .i64 t213, .int .i64 t214]] ?_
    with_reducible refine (curves_ratio_times.calls k1 t211 t212 t213 t214 t215 t216 _ A53.out).mono ?_
    rintro e w60 ⟨rfl, hb⟩
    have HS8_ := (hb.cell (World.block_lt_of_cell? _ _ (hHeld.2.2.2.2.2.2.2.2.1))).trans (hHeld.2.2.2.2.2.2.2.2.1)
    have HS9_ := (hb.cell (World.block_lt_of_cell? _ _ (hHeld.2.2.2.2.2.2.2.2.2))).trans (hHeld.2.2.2.2.2.2.2.2.2)
    refine ⟨_, rfl, ?_⟩
    replace HO_8 := kO HO_8 hb
    replace HO_9 := kO HO_9 hb
    replace BK188 := kB BK188 hb
    replace BK189 := kB BK189 hb
    replace BK207 := kB BK207 hb
    replace HB := kH _ hb
    (try clear hb)
    (try clear hb2)
    (try clear hk)
    (try clear hi)
    refine hK.out _ _ ⟨bc BK207 0, bc BK207 1, bc BK189 0, bc BK189 1, bc BK188 0, bc BK188 1, bc BK188 2, ((HB.out.cell (World.block_lt_of_cell? w _ hw210_0)).trans hw210_0), HS8_, HS9_⟩ (fun hHeld => ?_)
    clear hK K
    refine norm_ (a' := ?_) ?_ ?_
    rotate_left
    ·show Act.put _ (some 67) _ = _
     simp only [Act.put, List.setIfInBounds_toArray, List.set_cons_zero, List.set_cons_succ, i64_w, i32_w]
     rfl
    refine one_ (i := 15) (N := some 72) (ba 18 65535) rfl rfl (one_of HT_.out (by kernel_rfl)) (by decide) (fun K hK => ?_)
    refine gC Tryd.func27 #[.agg #[.int .i64 t215, .int .i64 t216], .agg #[.int .i64 ((rd_T49 t202 x38_1).f0.f0), .int .i64 ((rd_T49 t202 x38_1).f0.f1)]] ?_
    with_reducible refine (curves_ratio_times.calls k1 t215 t216 ((rd_T49 t202 x38_1).f0.f0) ((rd_T49 t202 x38_1).f0.f1) t218 t219 _ A55.out).mono ?_
    rintro e w61 ⟨rfl, hb⟩
    have HS8_ := (hb.cell (World.block_lt_of_cell? _ _ (hHeld.2.2.2.2.2.2.2.2.1))).trans (hHeld.2.2.2.2.2.2.2.2.1)
    have HS9_ := (hb.cell (World.block_lt_of_cell? _ _ (hHeld.2.2.2.2.2.2.2.2.2))).trans (hHeld.2.2.2.2.2.2.2.2.2)
    refine ⟨_, rfl, ?_⟩
    replace HO_8 := kO HO_8 hb
    replace HO_9 := kO HO_9 hb
    replace BK188 := kB BK188 hb
    replace BK189 := kB BK189 hb
    replace BK207 := kB BK207 hb
    replace HB := kH _ hb
    (try clear hb)
    (try clear hb2)
    (try clear hk)
    (try clear hi)
    refine hK.out _ _ ⟨bc BK207 0, bc BK207 1, bc BK189 0, bc BK189 1, bc BK188 0, bc BK188 1, bc BK188 2, ((HB.out.cell (World.block_lt_of_cell? w _ hw210_0)).trans hw210_0), HS8_, HS9_⟩ (fun hHeld => ?_)
    clear hK K
    refine norm_ (a' := ?_) ?_ ?_
    rotate_left
    ·show Act.put _ (some 72) _ = _
     simp only [Act.put, List.setIfInBounds_toArray, List.set_cons_zero, List.set_cons_succ, i64_w, i32_w]
     rfl
    refine one_ (i := 16) (N := some 73) (ba 18 131071) rfl rfl (one_of HT_.out (by kernel_rfl)) (by decide) (fun K hK => ?_)
    refine gC Tryd.func26 #[.agg #[.int .i64 t205, .int .i64 t206], .agg #[.int .i64 t218, .int .i64 t219]] ?_
    with_reducible refine (curves_ratio_plus.calls k1 t205 t206 t218 t219 t220 t221 _ A56.out).mono ?_
    rintro e w62 ⟨rfl, hb⟩
    have HS8_ := (hb.cell (World.block_lt_of_cell? _ _ (hHeld.2.2.2.2.2.2.2.2.1))).trans (hHeld.2.2.2.2.2.2.2.2.1)
    have HS9_ := (hb.cell (World.block_lt_of_cell? _ _ (hHeld.2.2.2.2.2.2.2.2.2))).trans (hHeld.2.2.2.2.2.2.2.2.2)
    refine ⟨_, rfl, ?_⟩
    replace HO_8 := kO HO_8 hb
    replace HO_9 := kO HO_9 hb
    replace BK188 := kB BK188 hb
    replace BK189 := kB BK189 hb
    replace BK207 := kB BK207 hb
    replace HB := kH _ hb
    (try clear hb)
    (try clear hb2)
    (try clear hk)
    (try clear hi)
    refine hK.out _ _ ⟨bc BK207 0, bc BK207 1, bc BK189 0, bc BK189 1, bc BK188 0, bc BK188 1, bc BK188 2, ((HB.out.cell (World.block_lt_of_cell? w _ hw210_0)).trans hw210_0), HS8_, HS9_⟩ (fun hHeld => ?_)
    clear hK K
    refine norm_ (a' := ?_) ?_ ?_
    rotate_left
    ·show Act.put _ (some 73) _ = _
     simp only [Act.put, List.setIfInBounds_toArray, List.set_cons_zero, List.set_cons_succ, i64_w, i32_w]
     rfl
    refine last_ (i := 17) (N := none) (ba 18 262143) rfl rfl (one_of HT_.out (by kernel_rfl)) (by decide) (fun K hK => ?_)
    have hs63 : w62.cell? ⟨gb207, 0, none⟩ = some (.int .i64 t205) := bc BK207 0
    have hfs63 := fz BK207 0
    have hns63_0 := NB188_207.out
    have hns63_1 := NB189_207.out
    have hms63_0 := NB207_188.out
    have hms63_1 := NB207_189.out
    have hs64 : w62.cell? ⟨gb207, 1, none⟩ = some (.int .i64 t206) := bc BK207 1
    have hfs64 := fz BK207 1
    have hns64_0 := NB188_207.out
    have hns64_1 := NB189_207.out
    have hms64_0 := NB207_188.out
    have hms64_1 := NB207_189.out
    refine skip_ (w1 := ?_) (by rfl) rfl ?_ ?_
    rotate_left
    ·go_simp
     rfl
    refine hK.out _ _ ?_
    clear hK K
    refine done_ (done_of HT_.out (by kernel_rfl)) ?_
    try go_wp2
    go_meet
    case rel => exact ⟨_, (t220), (t221), H', ⟨by have := HK1.out; first | omega | exact Nat.le_refl _⟩, ⟨rD (Kd.R_mono (Kd.R_far (p := ⟨gb207, 1, none⟩) (Kd.R_far (p := ⟨gb207, 0, none⟩) (Kd.R_mono HO_8.out (fun k_ hk => (⟨hk, hk.2.2⟩ : _ ∧ k_ ≠ gb207))) (fun _ hk => hk.2) (.int .i64 t220)) (fun _ hk => hk.2) (.int .i64 t221)) (fun _ hk => ⟨hk.1.1, ⟨hk.1.2.1, hk.1.2.2⟩⟩))⟩, ⟨rD (Kd.R_mono (Kd.R_far (p := ⟨gb207, 1, none⟩) (Kd.R_far (p := ⟨gb207, 0, none⟩) (Kd.R_mono HO_9.out (fun k_ hk => (⟨hk, hk.2.2⟩ : _ ∧ k_ ≠ gb207))) (fun _ hk => hk.2) (.int .i64 t220)) (fun _ hk => hk.2) (.int .i64 t221)) (fun _ hk => ⟨hk.1.1, ⟨hk.1.2.1, hk.1.2.2⟩⟩))⟩, ⟨bF BK188⟩, ⟨bF BK189⟩, ⟨by (with_reducible repeat (first | refine blk_drewN ?_ _ | refine blk_drew ?_ | refine blk_alloc ?_ _)); refine blk_put (cs := #[.int .i64 t220, .int .i64 t206]) ?_ 1 _ rfl; (with_reducible repeat (first | refine blk_drewN ?_ _ | refine blk_drew ?_ | refine blk_alloc ?_ _)); refine blk_put (cs := #[.int .i64 t205, .int .i64 t206]) ?_ 0 _ rfl; (with_reducible repeat (first | refine blk_drewN ?_ _ | refine blk_drew ?_ | refine blk_alloc ?_ _)); exact BK207.out⟩, ⟨hbC _⟩⟩
   case rest =>
    clear HC42
    try clear c2
    try clear p2
    try clear q2
    try clear hx2
    try clear c3
    try clear c4
    try clear c5
    try clear p6
    try clear p20
    try clear q20
    try clear hx20
    try clear p21
    try clear q21
    try clear hx21
    try clear c24
    try clear c26
    try clear c27
    try clear c34
    try clear c35
    try clear c35b0
    try clear c38
    try clear c38b0
    try clear c39
    try clear c39b0
    try clear c40
    try clear c40b0
    try clear c41
    try clear c41b0
    try clear c45
    try clear c46
    try clear c50
    try clear c50b0
    try clear c54
    try clear c54b0
    try clear p64
    try clear hcz47_0
    try clear hcz47_1
    try clear hfz47_0
    try clear hfz47_1
    try clear hx208_0
    try clear hx209_0
    try clear hx210_0
    try clear hx217_0
    try clear hx217_1
    try clear p208
    try clear p209
    try clear p210
    try clear p217
    try clear q208
    try clear q209
    try clear q210
    try clear q217
    obtain ⟨kq, x208000_41, x208001_41, HA, HJ41, HO_8, HO_9, BK188, BK189, BK207, HB⟩ := hcut
    cases kq with
    | zero => exact absurd HA.out (by simp [curves_Curve_basic.j1])
    | succ kj41 =>
     have H := HA.out
     clear HA
     simp only [curves_Curve_basic.j1] at H
     obtain ⟨ji65, hji65⟩ : ∃ j_ : Int, (wrap64 ((wrap64 (x38_1 + a1)) + 1)) = j_ := ⟨_, rfl⟩
     replace H : (if 0 ≤ (ji65) then (if (ji65) < (l0_1.length : Int) then (if 0 ≤ (wrap64 (x38_1 + 1)) then (if (wrap64 (x38_1 + 1)) < (l0_1.length : Int) then (if (wrap64 ((rd l0_1 (ji65)) - (rd l0_1 (wrap64 (x38_1 + 1))))) > 0 then ((curves_ratio_from.f kj41 a2_0 a2_1 (rd l0_1 (ji65))).bind fun bt225 => ((curves_of.f kj41 1 (wrap64 ((rd l0_1 (ji65)) - (rd l0_1 (wrap64 (x38_1 + 1)))))).bind fun bt227 => ((curves_ratio_times.f kj41 bt225.1 bt225.2 bt227.1 bt227.2).bind fun bt229 => (if (wrap64 (x38_1 + 1)) < (t202.length : Int) then ((curves_ratio_times.f kj41 bt229.1 bt229.2 ((rd_T49 t202 (wrap64 (x38_1 + 1))).f0.f0) ((rd_T49 t202 (wrap64 (x38_1 + 1))).f0.f1)).bind fun bt232 => ((curves_ratio_plus.f kj41 x208000_41 x208001_41 bt232.1 bt232.2).bind fun bt234 => (if x9_1.length < 8796093022208 then (curves_Curve_basic.l0 kj41 a1 t202 (x9_1 ++ [(⟨(⟨bt234.1, bt234.2⟩ : S26)⟩ : S49)]) (wrap64 ((t202.length : Int) - 1)) (wrap64 (x38_1 + 1)) a0_0 l0_1 l0_2 a2_0 a2_1) else (none)))) else (none))))) else (if x9_1.length < 8796093022208 then (curves_Curve_basic.l0 kj41 a1 t202 (x9_1 ++ [(⟨(⟨x208000_41, x208001_41⟩ : S26)⟩ : S49)]) (wrap64 ((t202.length : Int) - 1)) (wrap64 (x38_1 + 1)) a0_0 l0_1 l0_2 a2_0 a2_1) else (none))) else (none)) else (none)) else (none)) else (none)) = some r := by first | (rw [hji65] at H; exact H) | (simp only [hji65] at H ⊢; exact H)
     have hji65w : (IntKind.i64.wrap ((wrap64 (x38_1 + a1)) + 1)) = ji65 := (i64_w _).trans hji65
     have hji65v : (wrap64 (ji37 + 1)) = ji65 := by rw [← hji37]; exact hji65
     have hji65vw : (IntKind.i64.wrap (ji37 + 1)) = ji65 := (i64_w _).trans hji65v
     by_cases c66 : 0 ≤ (ji65)
     rotate_left
     ·rw [if_neg c66] at H
      exact absurd H (by simp)
     rw [if_pos c66] at H
     have c66b0 : decide (0 ≤ (ji65)) = true := decide_eq_true c66
     clear c66
     by_cases c67 : (ji65) < (l0_1.length : Int)
     rotate_left
     ·rw [if_neg c67] at H
      exact absurd H (by simp)
     rw [if_pos c67] at H
     have c67b0 : decide ((ji65) < (l0_1.length : Int)) = true := decide_eq_true c67
     clear c67
     obtain ⟨ji68, hji68⟩ : ∃ j_ : Int, (wrap64 (x38_1 + 1)) = j_ := ⟨_, rfl⟩
     replace H : (if 0 ≤ (ji68) then (if (ji68) < (l0_1.length : Int) then (if (wrap64 ((rd l0_1 (ji65)) - (rd l0_1 (ji68)))) > 0 then ((curves_ratio_from.f kj41 a2_0 a2_1 (rd l0_1 (ji65))).bind fun bt225 => ((curves_of.f kj41 1 (wrap64 ((rd l0_1 (ji65)) - (rd l0_1 (ji68))))).bind fun bt227 => ((curves_ratio_times.f kj41 bt225.1 bt225.2 bt227.1 bt227.2).bind fun bt229 => (if (ji68) < (t202.length : Int) then ((curves_ratio_times.f kj41 bt229.1 bt229.2 ((rd_T49 t202 (ji68)).f0.f0) ((rd_T49 t202 (ji68)).f0.f1)).bind fun bt232 => ((curves_ratio_plus.f kj41 x208000_41 x208001_41 bt232.1 bt232.2).bind fun bt234 => (if x9_1.length < 8796093022208 then (curves_Curve_basic.l0 kj41 a1 t202 (x9_1 ++ [(⟨(⟨bt234.1, bt234.2⟩ : S26)⟩ : S49)]) (wrap64 ((t202.length : Int) - 1)) ji68 a0_0 l0_1 l0_2 a2_0 a2_1) else (none)))) else (none))))) else (if x9_1.length < 8796093022208 then (curves_Curve_basic.l0 kj41 a1 t202 (x9_1 ++ [(⟨(⟨x208000_41, x208001_41⟩ : S26)⟩ : S49)]) (wrap64 ((t202.length : Int) - 1)) ji68 a0_0 l0_1 l0_2 a2_0 a2_1) else (none))) else (none)) else (none)) = some r := by first | (rw [hji68] at H; exact H) | (simp only [hji68] at H ⊢; exact H)
     have hji68w : (IntKind.i64.wrap (x38_1 + 1)) = ji68 := (i64_w _).trans hji68
     by_cases c69 : 0 ≤ (ji68)
     rotate_left
     ·rw [if_neg c69] at H
      exact absurd H (by simp)
     rw [if_pos c69] at H
     have c69b0 : decide (0 ≤ (ji68)) = true := decide_eq_true c69
     clear c69
     by_cases c70 : (ji68) < (l0_1.length : Int)
     rotate_left
     ·rw [if_neg c70] at H
      exact absurd H (by simp)
     rw [if_pos c70] at H
     have c70b0 : decide ((ji68) < (l0_1.length : Int)) = true := decide_eq_true c70
     clear c70
     by_cases c71 : (wrap64 ((rd l0_1 (ji65)) - (rd l0_1 (ji68)))) > 0
     rotate_left
     ·rw [if_neg c71] at H
      have c71b0 : decide (0 < (wrap64 ((rd l0_1 (ji65)) - (rd l0_1 (ji68))))) = false := decide_eq_false c71
      clear c71
      by_cases c92 : x9_1.length < 8796093022208
      rotate_left
      ·rw [if_neg c92] at H
       exact absurd H (by simp)
      rw [if_pos c92] at H
      have LMc92 := Aside0.mk c92
      clear c92
      obtain ⟨y239, hy239⟩ : ∃ y_ : List (S49), y_ = (x9_1 ++ [(⟨(⟨x208000_41, x208001_41⟩ : S26)⟩ : S49)]) := ⟨_, rfl⟩
      replace H : (curves_Curve_basic.l0 kj41 a1 t202 y239 (wrap64 ((t202.length : Int) - 1)) ji68 a0_0 l0_1 l0_2 a2_0 a2_1) = some r := by first | (rw [hy239]; with_reducible exact H) | (have H2_ := (Option.bind_some _ _).symm.trans H; rw [hy239]; with_reducible exact H2_) | (have H2_ := (Option.bind_some _ _).symm.trans H; with_reducible exact H2_) | with_reducible exact H | (rw [hy239]; exact H) | exact H
      have Ny239 := Aside0.mk hy239
      clear hy239
      have H' := Aside0.mk H
      clear H
      try go_wp2
      replace HO_8 := ak (Kd.R_drew HO_8.out)
      replace HO_9 := ak (Kd.R_drew HO_9.out)
      replace BK188 := kd BK188
      replace BK189 := kd BK189
      replace BK207 := kd BK207
      replace HB := ak (below_drew1 HB.out)
      have p222 : 0 ≤ ((ji65) : Int) := dA
      have q222 : (ji65) < (l0_1.length : Int) := dA
      obtain ⟨ad222, e222, hx222_0⟩ := Kd.at_int HR0_1.out (ji65) p222 q222
      have hw222_0 := hx222_0
      obtain rfl : ad208 = ad222 := (by injection e222)
      try replace hx222_0 := (HB.out.cell (World.block_lt_of_cell? w _ hx222_0)).trans hx222_0
      replace p222 := eq_true p222
      replace q222 := eq_true q222
      have p223 : 0 ≤ ((ji68) : Int) := dA
      have q223 : (ji68) < (l0_1.length : Int) := dA
      obtain ⟨ad223, e223, hx223_0⟩ := Kd.at_int HR0_1.out (ji68) p223 q223
      have hw223_0 := hx223_0
      obtain rfl : ad208 = ad223 := (by injection e223)
      try replace hx223_0 := (HB.out.cell (World.block_lt_of_cell? w _ hx223_0)).trans hx223_0
      replace p223 := eq_true p223
      replace q223 := eq_true q223
      refine sS (n := 16) (S := fun w' => w'.cell? ⟨gb188, 0, none⟩ = some (.int .i64 a0_0) ∧ w'.cell? ⟨gb188, 1, none⟩ = some (.slice (some ad208) l0_1.length c0_1) ∧ w'.cell? ⟨gb188, 2, none⟩ = some (.slice A0_2 l0_2.length c0_2) ∧ w'.cell? (ad208.add ((ji65)).toNat) = some (.int .i64 (rd l0_1 (ji65))) ∧ w'.cell? (ad208.add ((ji68)).toNat) = some (.int .i64 (rd l0_1 (ji68)))) (ds := []) ⟨bc BK188 0, bc BK188 1, bc BK188 2, ((HB.out.cell (World.block_lt_of_cell? w _ hw222_0)).trans hw222_0), ((HB.out.cell (World.block_lt_of_cell? w _ hw223_0)).trans hw223_0)⟩ (fun hHeld => ?_); refine with_tabW curves_Curve_basic.tab14 curves_Curve_basic.bits14 (fun HT_ HW_ => ?_)
      generalize wc.drew = w93 at HO_8 HO_9 BK188 BK189 BK207 HB hx222_0 hx223_0 hHeld ⊢
      refine pS 0 74 16 1 ?_
      refine pS 2 76 16 5 ?_
      refine pS 3 77 16 13 ?_
      refine pS 4 78 16 29 ?_
      refine pS 5 79 16 61 ?_
      refine pS 8 82 16 317 ?_
      refine pS 10 84 16 1341 ?_
      refine pS 11 85 16 3389 ?_
      refine tS 1 75 16 3391 ?_
      refine pS 6 80 16 3455 ?_
      refine tS 7 81 16 3583 ?_
      refine tS 9 83 16 4095 ?_
      refine pS 12 86 16 8191 ?_
      refine tS 13 87 16 16383 ?_
      refine pS 14 88 16 32767 ?_
      refine pS 15 13 16 65535 ?_
      refine done_ (done_of HT_.out (by kernel_rfl)) ?_
      have hnb94 := NB207_188.out
      have hnc94 := NB188_207.out
      have hnb95 := NB207_189.out
      have hnc95 := NB189_207.out
      have hcz96_0 : w93.cell? ⟨gb207, 0, none⟩ = some (.int .i64 x208000_41) := bc BK207 0
      have hcz96_1 : w93.cell? ⟨gb207, 1, none⟩ = some (.int .i64 x208001_41) := bc BK207 1
      have hfz96_0 := fz BK207 0
      have hfz96_1 := fz BK207 1
      try go_wp2_with (first | ((with_reducible refine gate_builtin (b := .append) (xs := #[.tmp 112, .tmp 114]) rfl ?_); at_builtin; refine Kd.R_append k49 (w0 := w) w.heap.size rfl (.tmp 112) (.tmp 114) 53 49 (.agg #[(.int .i64 0), (.int .i64 0)]) 16 rfl Tryd.underlying53 info49 rfl (by decide) (by omega) u9 x9_1 (⟨(⟨x208000_41, x208001_41⟩ : S26)⟩ : S49) [.int .i64 x208000_41, .int .i64 x208001_41] (fun k_ => nb k_ (.slice Ao34 t202.length co34) ∧ k_ ≠ gb189 ∧ k_ ≠ gb207) (fun _ => False) rfl rfl ?aP (fun _ hk => hk.elim) ?aF ?aO ?aB ?aS ?aL ?_; (case aP => exact k49_mkM _ _ _ (⟨(⟨x208000_41, x208001_41⟩ : S26)⟩ : S49)); (case aB => exact (hbC _)); (case aF => exact (fun k_ hk => ⟨Kd.fresh' (Kd.R_lt (rC HO_8)) k_ hk, Kd.freshB (g := gb189) (o := .cells #[.int .i64 a2_0, .int .i64 a2_1] 49 (0, 0)) (bkC BK189) k_ hk, Kd.freshB (g := gb207) (o := .cells #[.int .i64 x208000_41, .int .i64 x208001_41] 49 (0, 0)) (bkC BK207) k_ hk⟩)); (case aO => exact (rC HO_9)); (case aS => exact (below_size (hbC _))); (case aL => have := LMc92.out; omega); intro v240 w97 ho hb hg hat; rw [← Ny239.out] at ho; have n0_ := ak (Kd.R_after (ok := (fun k_ => k_ ≠ gb189 ∧ k_ ≠ gb207)) (rD (Kd.R_mono HO_8.out (fun _ hk => ⟨⟨hk.2.1, hk.2.2⟩, hk.1⟩))) hg hat); have n1_ := ak (blk_grown (g := gb188) (o := .cells #[.int .i64 a0_0, .slice (some ad208) l0_1.length c0_1, .slice A0_2 l0_2.length c0_2] 31 (0, 0)) (bkC BK188) hg (Kd.R_ne HO_9.out BK188.out (by decide))); have n2_ := ak (blk_grown (g := gb189) (o := .cells #[.int .i64 a2_0, .int .i64 a2_1] 49 (0, 0)) (bkC BK189) hg (Kd.R_away HO_9.out (fun _ hk => hk.2.1))); have n3_ := ak (blk_grown (g := gb207) (o := .cells #[.int .i64 x208000_41, .int .i64 x208001_41] 49 (0, 0)) (bkC BK207) hg (Kd.R_away HO_9.out (fun _ hk => hk.2.2))); have n4_ := ak (hb); have n5_ := ak (ho); clear HO_8; clear BK188; clear BK189; clear BK207; clear HB; clear HO_9; have HO_8 := n0_; have BK188 := n1_; have BK189 := n2_; have BK207 := n3_; have HB := n4_; have HO241 := n5_; clear n0_ n1_ n2_ n3_ n4_ n5_; clear ho hb hg hat))
      go_roundg kj41
      case measure => have := HK1.out; have := HJ41.out; omega
      case rel => exact ⟨(y239), (ji68), (by first | rfl | (simp; done) | (simp only [← hji68] <;> (first | rfl | simp)) | (simp [*]; done)), H', ⟨by have := HK1.out; have := HJ41.out; omega⟩, ⟨rD (Kd.R_mono HO_8.out (fun _ hk => ⟨hk.2, hk.1.1⟩))⟩, ⟨rD (Kd.R_mono HO241.out (fun _ hk => ⟨hk.1, hk.2.1⟩))⟩, ⟨bkC BK188⟩, ⟨bkC BK189⟩, ⟨hbC _⟩⟩
     rw [if_pos c71] at H
     have c71b0 : decide (0 < (wrap64 ((rd l0_1 (ji65)) - (rd l0_1 (ji68))))) = true := decide_eq_true c71
     clear c71
     replace H := Option.bind_eq_some_iff.mp H
     obtain ⟨⟨t225, t226⟩, A720, H⟩ := H
     replace H : ((curves_of.f kj41 1 (wrap64 ((rd l0_1 (ji65)) - (rd l0_1 (ji68))))).bind fun bt227 => ((curves_ratio_times.f kj41 t225 t226 bt227.1 bt227.2).bind fun bt229 => (if (ji68) < (t202.length : Int) then ((curves_ratio_times.f kj41 bt229.1 bt229.2 ((rd_T49 t202 (ji68)).f0.f0) ((rd_T49 t202 (ji68)).f0.f1)).bind fun bt232 => ((curves_ratio_plus.f kj41 x208000_41 x208001_41 bt232.1 bt232.2).bind fun bt234 => (if x9_1.length < 8796093022208 then (curves_Curve_basic.l0 kj41 a1 t202 (x9_1 ++ [(⟨(⟨bt234.1, bt234.2⟩ : S26)⟩ : S49)]) (wrap64 ((t202.length : Int) - 1)) ji68 a0_0 l0_1 l0_2 a2_0 a2_1) else (none)))) else (none)))) = some r := H
     have A72 := Aside0.mk A720
     clear A720
     replace H := Option.bind_eq_some_iff.mp H
     obtain ⟨⟨t227, t228⟩, A730, H⟩ := H
     replace H : ((curves_ratio_times.f kj41 t225 t226 t227 t228).bind fun bt229 => (if (ji68) < (t202.length : Int) then ((curves_ratio_times.f kj41 bt229.1 bt229.2 ((rd_T49 t202 (ji68)).f0.f0) ((rd_T49 t202 (ji68)).f0.f1)).bind fun bt232 => ((curves_ratio_plus.f kj41 x208000_41 x208001_41 bt232.1 bt232.2).bind fun bt234 => (if x9_1.length < 8796093022208 then (curves_Curve_basic.l0 kj41 a1 t202 (x9_1 ++ [(⟨(⟨bt234.1, bt234.2⟩ : S26)⟩ : S49)]) (wrap64 ((t202.length : Int) - 1)) ji68 a0_0 l0_1 l0_2 a2_0 a2_1) else (none)))) else (none))) = some r := H
     have A73 := Aside0.mk A730
     clear A730
     replace H := Option.bind_eq_some_iff.mp H
     obtain ⟨⟨t229, t230⟩, A740, H⟩ := H
     replace H : (if (ji68) < (t202.length : Int) then ((curves_ratio_times.f kj41 t229 t230 ((rd_T49 t202 (ji68)).f0.f0) ((rd_T49 t202 (ji68)).f0.f1)).bind fun bt232 => ((curves_ratio_plus.f kj41 x208000_41 x208001_41 bt232.1 bt232.2).bind fun bt234 => (if x9_1.length < 8796093022208 then (curves_Curve_basic.l0 kj41 a1 t202 (x9_1 ++ [(⟨(⟨bt234.1, bt234.2⟩ : S26)⟩ : S49)]) (wrap64 ((t202.length : Int) - 1)) ji68 a0_0 l0_1 l0_2 a2_0 a2_1) else (none)))) else (none)) = some r := H
     have A74 := Aside0.mk A740
     clear A740
     by_cases c75 : (ji68) < (t202.length : Int)
     rotate_left
     ·rw [if_neg c75] at H
      exact absurd H (by simp)
     rw [if_pos c75] at H
     have c75b0 : decide ((ji68) < (t202.length : Int)) = true := decide_eq_true c75
     clear c75
     replace H := Option.bind_eq_some_iff.mp H
     obtain ⟨⟨t232, t233⟩, A760, H⟩ := H
     replace H : ((curves_ratio_plus.f kj41 x208000_41 x208001_41 t232 t233).bind fun bt234 => (if x9_1.length < 8796093022208 then (curves_Curve_basic.l0 kj41 a1 t202 (x9_1 ++ [(⟨(⟨bt234.1, bt234.2⟩ : S26)⟩ : S49)]) (wrap64 ((t202.length : Int) - 1)) ji68 a0_0 l0_1 l0_2 a2_0 a2_1) else (none))) = some r := H
     have A76 := Aside0.mk A760
     clear A760
     replace H := Option.bind_eq_some_iff.mp H
     obtain ⟨⟨t234, t235⟩, A770, H⟩ := H
     replace H : (if x9_1.length < 8796093022208 then (curves_Curve_basic.l0 kj41 a1 t202 (x9_1 ++ [(⟨(⟨t234, t235⟩ : S26)⟩ : S49)]) (wrap64 ((t202.length : Int) - 1)) ji68 a0_0 l0_1 l0_2 a2_0 a2_1) else (none)) = some r := H
     have A77 := Aside0.mk A770
     clear A770
     by_cases c78 : x9_1.length < 8796093022208
     rotate_left
     ·rw [if_neg c78] at H
      exact absurd H (by simp)
     rw [if_pos c78] at H
     have LMc78 := Aside0.mk c78
     clear c78
     obtain ⟨y236, hy236⟩ : ∃ y_ : List (S49), y_ = (x9_1 ++ [(⟨(⟨t234, t235⟩ : S26)⟩ : S49)]) := ⟨_, rfl⟩
     replace H : (curves_Curve_basic.l0 kj41 a1 t202 y236 (wrap64 ((t202.length : Int) - 1)) ji68 a0_0 l0_1 l0_2 a2_0 a2_1) = some r := by first | (rw [hy236]; with_reducible exact H) | (have H2_ := (Option.bind_some _ _).symm.trans H; rw [hy236]; with_reducible exact H2_) | (have H2_ := (Option.bind_some _ _).symm.trans H; with_reducible exact H2_) | with_reducible exact H | (rw [hy236]; exact H) | exact H
     have Ny236 := Aside0.mk hy236
     clear hy236
     have H' := Aside0.mk H
     clear H
     try go_wp2
     replace HO_8 := ak (Kd.R_drew HO_8.out)
     replace HO_9 := ak (Kd.R_drew HO_9.out)
     replace BK188 := kd BK188
     replace BK189 := kd BK189
     replace BK207 := kd BK207
     replace HB := ak (below_drew1 HB.out)
     have p222 : 0 ≤ ((ji65) : Int) := dA
     have q222 : (ji65) < (l0_1.length : Int) := dA
     obtain ⟨ad222, e222, hx222_0⟩ := Kd.at_int HR0_1.out (ji65) p222 q222
     have hw222_0 := hx222_0
     obtain rfl : ad208 = ad222 := (by injection e222)
     try replace hx222_0 := (HB.out.cell (World.block_lt_of_cell? w _ hx222_0)).trans hx222_0
     replace p222 := eq_true p222
     replace q222 := eq_true q222
     have p223 : 0 ≤ ((ji68) : Int) := dA
     have q223 : (ji68) < (l0_1.length : Int) := dA
     obtain ⟨ad223, e223, hx223_0⟩ := Kd.at_int HR0_1.out (ji68) p223 q223
     have hw223_0 := hx223_0
     obtain rfl : ad208 = ad223 := (by injection e223)
     try replace hx223_0 := (HB.out.cell (World.block_lt_of_cell? w _ hx223_0)).trans hx223_0
     replace p223 := eq_true p223
     replace q223 := eq_true q223
     refine sS (n := 16) (S := fun w' => w'.cell? ⟨gb188, 0, none⟩ = some (.int .i64 a0_0) ∧ w'.cell? ⟨gb188, 1, none⟩ = some (.slice (some ad208) l0_1.length c0_1) ∧ w'.cell? ⟨gb188, 2, none⟩ = some (.slice A0_2 l0_2.length c0_2) ∧ w'.cell? (ad208.add ((ji65)).toNat) = some (.int .i64 (rd l0_1 (ji65))) ∧ w'.cell? (ad208.add ((ji68)).toNat) = some (.int .i64 (rd l0_1 (ji68)))) (ds := []) ⟨bc BK188 0, bc BK188 1, bc BK188 2, ((HB.out.cell (World.block_lt_of_cell? w _ hw222_0)).trans hw222_0), ((HB.out.cell (World.block_lt_of_cell? w _ hw223_0)).trans hw223_0)⟩ (fun hHeld => ?_); refine with_tabW curves_Curve_basic.tab14 curves_Curve_basic.bits14 (fun HT_ HW_ => ?_)
     generalize wc.drew = w79 at HO_8 HO_9 BK188 BK189 BK207 HB hx222_0 hx223_0 hHeld ⊢
     refine pS 0 74 16 1 ?_
     refine pS 2 76 16 5 ?_
     refine pS 3 77 16 13 ?_
     refine pS 4 78 16 29 ?_
     refine pS 5 79 16 61 ?_
     refine pS 8 82 16 317 ?_
     refine pS 10 84 16 1341 ?_
     refine pS 11 85 16 3389 ?_
     refine tS 1 75 16 3391 ?_
     refine pS 6 80 16 3455 ?_
     refine tS 7 81 16 3583 ?_
     refine tS 9 83 16 4095 ?_
     refine pS 12 86 16 8191 ?_
     refine tS 13 87 16 16383 ?_
     refine pS 14 88 16 32767 ?_
     refine pS 15 13 16 65535 ?_
     refine done_ (done_of HT_.out (by kernel_rfl)) ?_
     try go_wp2
     replace HO_8 := ak (Kd.R_drew HO_8.out)
     replace HO_9 := ak (Kd.R_drew HO_9.out)
     replace BK188 := kd BK188
     replace BK189 := kd BK189
     replace BK207 := kd BK207
     replace HB := ak (below_drew1 HB.out)
     have p224 : 0 ≤ ((ji65) : Int) := dA
     have q224 : (ji65) < (l0_1.length : Int) := dA
     obtain ⟨ad224, e224, hx224_0⟩ := Kd.at_int HR0_1.out (ji65) p224 q224
     have hw224_0 := hx224_0
     obtain rfl : ad208 = ad224 := (by injection e224)
     try replace hx224_0 := (HB.out.cell (World.block_lt_of_cell? w _ hx224_0)).trans hx224_0
     replace p224 := eq_true p224
     replace q224 := eq_true q224
     have p231 : 0 ≤ ((ji68) : Int) := dA
     have q231 : (ji68) < (t202.length : Int) := dA
     obtain ⟨ad231, e231, hx231_0, hx231_1⟩ := at_T49 (Kd.R_reads' HO_8.out).2.2 (ji68) p231 q231
     cases e231
     replace p231 := eq_true p231
     replace q231 := eq_true q231
     refine sS (n := 22) (S := fun w' => w'.cell? ⟨gb207, 0, none⟩ = some (.int .i64 x208000_41) ∧ w'.cell? ⟨gb207, 1, none⟩ = some (.int .i64 x208001_41) ∧ w'.cell? ⟨gb189, 0, none⟩ = some (.int .i64 a2_0) ∧ w'.cell? ⟨gb189, 1, none⟩ = some (.int .i64 a2_1) ∧ w'.cell? ⟨gb188, 0, none⟩ = some (.int .i64 a0_0) ∧ w'.cell? ⟨gb188, 1, none⟩ = some (.slice (some ad208) l0_1.length c0_1) ∧ w'.cell? ⟨gb188, 2, none⟩ = some (.slice A0_2 l0_2.length c0_2) ∧ w'.cell? (ad208.add ((ji65)).toNat) = some (.int .i64 (rd l0_1 (ji65))) ∧ w'.cell? (ad231.add (((ji68)).toNat * 2)) = some (.int .i64 ((rd_T49 t202 (ji68)).f0.f0)) ∧ w'.cell? ⟨(ad231.add (((ji68)).toNat * 2)).block, (ad231.add (((ji68)).toNat * 2)).off + 1, none⟩ = some (.int .i64 ((rd_T49 t202 (ji68)).f0.f1))) (ds := [21]) ⟨bc BK207 0, bc BK207 1, bc BK189 0, bc BK189 1, bc BK188 0, bc BK188 1, bc BK188 2, ((HB.out.cell (World.block_lt_of_cell? w _ hw224_0)).trans hw224_0), hx231_0, hx231_1⟩ (fun hHeld => ?_); refine with_tabW curves_Curve_basic.tab16 curves_Curve_basic.bits16 (fun HT_ HW_ => ?_)
     generalize w79.drew = w80 at HO_8 HO_9 BK188 BK189 BK207 HB hx224_0 hx231_0 hx231_1 hHeld ⊢
     refine pS 2 93 22 4 ?_
     refine pS 4 95 22 20 ?_
     refine pS 5 96 22 52 ?_
     refine pS 6 97 22 116 ?_
     refine pS 7 98 22 244 ?_
     refine pS 11 102 22 2292 ?_
     refine pS 14 105 22 18676 ?_
     refine pS 15 106 22 51444 ?_
     refine pS 16 107 22 116980 ?_
     refine pS 17 108 22 248052 ?_
     refine tS 0 91 22 248053 ?_
     refine tS 1 92 22 248055 ?_
     refine tS 3 94 22 248063 ?_
     refine pS 8 99 22 248319 ?_
     refine tS 9 100 22 248831 ?_
     refine tS 18 109 22 510975 ?_
     refine one_ (i := 10) (N := some 101) (ba 22 511999) rfl rfl (one_of HT_.out (by kernel_rfl)) (by decide) (fun K hK => ?_)
     refine goes_ Tryd.func35 (by kernel_rfl) rfl #[.agg #[.int .i64 a2_0, .int .i64 a2_1], .int .i64 (rd l0_1 (ji65))] (by rfl) rfl rfl (by (try simp only [List.map_toArray, List.map_cons, List.map_nil]); first | done | (simp only [hji65]; rfl) | rfl | (simp only [List.length_drop, List.length_take]; rfl)) ?_
     with_reducible refine (curves_ratio_from.calls kj41 a2_0 a2_1 (rd l0_1 (ji65)) t225 t226 _ A72.out).mono ?_
     rintro e w81 ⟨rfl, hb⟩
     have HS8_ := (hb.cell (World.block_lt_of_cell? _ _ (hHeld.2.2.2.2.2.2.2.2.1))).trans (hHeld.2.2.2.2.2.2.2.2.1)
     have HS9_ := (hb.cell (World.block_lt_of_cell? _ _ (hHeld.2.2.2.2.2.2.2.2.2))).trans (hHeld.2.2.2.2.2.2.2.2.2)
     refine ⟨_, rfl, ?_⟩
     replace HO_8 := kO HO_8 hb
     replace HO_9 := kO HO_9 hb
     replace BK188 := kB BK188 hb
     replace BK189 := kB BK189 hb
     replace BK207 := kB BK207 hb
     replace HB := kH _ hb
     (try clear hb)
     (try clear hb2)
     (try clear hk)
     (try clear hi)
     refine hK.out _ _ ⟨bc BK207 0, bc BK207 1, bc BK189 0, bc BK189 1, bc BK188 0, bc BK188 1, bc BK188 2, ((HB.out.cell (World.block_lt_of_cell? w _ hw224_0)).trans hw224_0), HS8_, HS9_⟩ (fun hHeld => ?_)
     clear hK K
     refine norm_ (a' := ?_) ?_ ?_
     rotate_left
     ·show Act.put _ (some 101) _ = _
      simp only [Act.put, List.setIfInBounds_toArray, List.set_cons_zero, List.set_cons_succ, i64_w, i32_w]
      rfl
     refine one_ (i := 12) (N := some 103) (ba 22 516095) rfl rfl (one_of HT_.out (by kernel_rfl)) (by decide) (fun K hK => ?_)
     refine goes_ Tryd.func24 (by kernel_rfl) rfl #[.int .i64 1, .int .i64 (wrap64 ((rd l0_1 (ji65)) - (rd l0_1 (ji68))))] (by rfl) rfl rfl (by (try simp only [List.map_toArray, List.map_cons, List.map_nil]); first | done | (simp only [hji65, hji68]; rfl) | rfl | (simp only [List.length_drop, List.length_take]; rfl)) ?_
     with_reducible refine (curves_of.calls kj41 1 (wrap64 ((rd l0_1 (ji65)) - (rd l0_1 (ji68)))) t227 t228 _ A73.out).mono ?_
     rintro e w82 ⟨rfl, hb⟩
     have HS8_ := (hb.cell (World.block_lt_of_cell? _ _ (hHeld.2.2.2.2.2.2.2.2.1))).trans (hHeld.2.2.2.2.2.2.2.2.1)
     have HS9_ := (hb.cell (World.block_lt_of_cell? _ _ (hHeld.2.2.2.2.2.2.2.2.2))).trans (hHeld.2.2.2.2.2.2.2.2.2)
     refine ⟨_, rfl, ?_⟩
     replace HO_8 := kO HO_8 hb
     replace HO_9 := kO HO_9 hb
     replace BK188 := kB BK188 hb
     replace BK189 := kB BK189 hb
     replace BK207 := kB BK207 hb
     replace HB := kH _ hb
     (try clear hb)
     (try clear hb2)
     (try clear hk)
     (try clear hi)
     refine hK.out _ _ ⟨bc BK207 0, bc BK207 1, bc BK189 0, bc BK189 1, bc BK188 0, bc BK188 1, bc BK188 2, ((HB.out.cell (World.block_lt_of_cell? w _ hw224_0)).trans hw224_0), HS8_, HS9_⟩ (fun hHeld => ?_)
     clear hK K
     refine norm_ (a' := ?_) ?_ ?_
     rotate_left
     ·show Act.put _ (some 103) _ = _
      simp only [Act.put, List.setIfInBounds_toArray, List.set_cons_zero, List.set_cons_succ, i64_w, i32_w]
      rfl
     refine one_ (i := 13) (N := some 104) (ba 22 524287) rfl rfl (one_of HT_.out (by kernel_rfl)) (by decide) (fun K hK => ?_)
     refine gC Tryd.func27 #[.agg #[.int .i64 t225, .int .i64 t226], .agg #[.int .i64 t227, .int .i64 t228]] ?_
     with_reducible refine (curves_ratio_times.calls kj41 t225 t226 t227 t228 t229 t230 _ A74.out).mono ?_
     rintro e w83 ⟨rfl, hb⟩
     have HS8_ := (hb.cell (World.block_lt_of_cell? _ _ (hHeld.2.2.2.2.2.2.2.2.1))).trans (hHeld.2.2.2.2.2.2.2.2.1)
     have HS9_ := (hb.cell (World.block_lt_of_cell? _ _ (hHeld.2.2.2.2.2.2.2.2.2))).trans (hHeld.2.2.2.2.2.2.2.2.2)
     refine ⟨_, rfl, ?_⟩
     replace HO_8 := kO HO_8 hb
     replace HO_9 := kO HO_9 hb
     replace BK188 := kB BK188 hb
     replace BK189 := kB BK189 hb
     replace BK207 := kB BK207 hb
     replace HB := kH _ hb
     (try clear hb)
     (try clear hb2)
     (try clear hk)
     (try clear hi)
     refine hK.out _ _ ⟨bc BK207 0, bc BK207 1, bc BK189 0, bc BK189 1, bc BK188 0, bc BK188 1, bc BK188 2, ((HB.out.cell (World.block_lt_of_cell? w _ hw224_0)).trans hw224_0), HS8_, HS9_⟩ (fun hHeld => ?_)
     clear hK K
     refine norm_ (a' := ?_) ?_ ?_
     rotate_left
     ·show Act.put _ (some 104) _ = _
      simp only [Act.put, List.setIfInBounds_toArray, List.set_cons_zero, List.set_cons_succ, i64_w, i32_w]
      rfl
     refine one_ (i := 19) (N := some 110) (ba 22 1048575) rfl rfl (one_of HT_.out (by kernel_rfl)) (by decide) (fun K hK => ?_)
     refine goes_ Tryd.func27 (by kernel_rfl) rfl #[.agg #[.int .i64 t229, .int .i64 t230], .agg #[.int .i64 ((rd_T49 t202 (ji68)).f0.f0), .int .i64 ((rd_T49 t202 (ji68)).f0.f1)]] (by rfl) rfl rfl (by (try simp only [List.map_toArray, List.map_cons, List.map_nil]); first | done | (simp only [hji68]; rfl) | rfl | (simp only [List.length_drop, List.length_take]; rfl)) ?_
     with_reducible refine (curves_ratio_times.calls kj41 t229 t230 ((rd_T49 t202 (ji68)).f0.f0) ((rd_T49 t202 (ji68)).f0.f1) t232 t233 _ A76.out).mono ?_
     rintro e w84 ⟨rfl, hb⟩
     have HS8_ := (hb.cell (World.block_lt_of_cell? _ _ (hHeld.2.2.2.2.2.2.2.2.1))).trans (hHeld.2.2.2.2.2.2.2.2.1)
     have HS9_ := (hb.cell (World.block_lt_of_cell? _ _ (hHeld.2.2.2.2.2.2.2.2.2))).trans (hHeld.2.2.2.2.2.2.2.2.2)
     refine ⟨_, rfl, ?_⟩
     replace HO_8 := kO HO_8 hb
     replace HO_9 := kO HO_9 hb
     replace BK188 := kB BK188 hb
     replace BK189 := kB BK189 hb
     replace BK207 := kB BK207 hb
     replace HB := kH _ hb
     (try clear hb)
     (try clear hb2)
     (try clear hk)
     (try clear hi)
     refine hK.out _ _ ⟨bc BK207 0, bc BK207 1, bc BK189 0, bc BK189 1, bc BK188 0, bc BK188 1, bc BK188 2, ((HB.out.cell (World.block_lt_of_cell? w _ hw224_0)).trans hw224_0), HS8_, HS9_⟩ (fun hHeld => ?_)
     clear hK K
     refine norm_ (a' := ?_) ?_ ?_
     rotate_left
     ·show Act.put _ (some 110) _ = _
      simp only [Act.put, List.setIfInBounds_toArray, List.set_cons_zero, List.set_cons_succ, i64_w, i32_w]
      rfl
     refine one_ (i := 20) (N := some 111) (ba 22 2097151) rfl rfl (one_of HT_.out (by kernel_rfl)) (by decide) (fun K hK => ?_)
     refine gC Tryd.func26 #[.agg #[.int .i64 x208000_41, .int .i64 x208001_41], .agg #[.int .i64 t232, .int .i64 t233]] ?_
     with_reducible refine (curves_ratio_plus.calls kj41 x208000_41 x208001_41 t232 t233 t234 t235 _ A77.out).mono ?_
     rintro e w85 ⟨rfl, hb⟩
     have HS8_ := (hb.cell (World.block_lt_of_cell? _ _ (hHeld.2.2.2.2.2.2.2.2.1))).trans (hHeld.2.2.2.2.2.2.2.2.1)
     have HS9_ := (hb.cell (World.block_lt_of_cell? _ _ (hHeld.2.2.2.2.2.2.2.2.2))).trans (hHeld.2.2.2.2.2.2.2.2.2)
     refine ⟨_, rfl, ?_⟩
     replace HO_8 := kO HO_8 hb
     replace HO_9 := kO HO_9 hb
     replace BK188 := kB BK188 hb
     replace BK189 := kB BK189 hb
     replace BK207 := kB BK207 hb
     replace HB := kH _ hb
     (try clear hb)
     (try clear hb2)
     (try clear hk)
     (try clear hi)
     refine hK.out _ _ ⟨bc BK207 0, bc BK207 1, bc BK189 0, bc BK189 1, bc BK188 0, bc BK188 1, bc BK188 2, ((HB.out.cell (World.block_lt_of_cell? w _ hw224_0)).trans hw224_0), HS8_, HS9_⟩ (fun hHeld => ?_)
     clear hK K
     refine norm_ (a' := ?_) ?_ ?_
     rotate_left
     ·show Act.put _ (some 111) _ = _
      simp only [Act.put, List.setIfInBounds_toArray, List.set_cons_zero, List.set_cons_succ, i64_w, i32_w]
      rfl
     refine last_ (i := 21) (N := none) (ba 22 4194303) rfl rfl (one_of HT_.out (by kernel_rfl)) (by decide) (fun K hK => ?_)
     have hs86 : w85.cell? ⟨gb207, 0, none⟩ = some (.int .i64 x208000_41) := bc BK207 0
     have hfs86 := fz BK207 0
     have hns86_0 := NB188_207.out
     have hns86_1 := NB189_207.out
     have hms86_0 := NB207_188.out
     have hms86_1 := NB207_189.out
     have hs87 : w85.cell? ⟨gb207, 1, none⟩ = some (.int .i64 x208001_41) := bc BK207 1
     have hfs87 := fz BK207 1
     have hns87_0 := NB188_207.out
     have hns87_1 := NB189_207.out
     have hms87_0 := NB207_188.out
     have hms87_1 := NB207_189.out
     refine skip_ (w1 := ?_) (by rfl) rfl ?_ ?_
     rotate_left
     ·go_simp
      rfl
     refine hK.out _ _ ?_
     clear hK K
     refine done_ (done_of HT_.out (by kernel_rfl)) ?_
     have hnb88 := NB207_188.out
     have hnc88 := NB188_207.out
     have hnb89 := NB207_189.out
     have hnc89 := NB189_207.out
     have hcz90_0 : w85.cell? ⟨gb207, 0, none⟩ = some (.int .i64 x208000_41) := bc BK207 0
     have hcz90_1 : w85.cell? ⟨gb207, 1, none⟩ = some (.int .i64 x208001_41) := bc BK207 1
     have hfz90_0 := fz BK207 0
     have hfz90_1 := fz BK207 1
     try go_wp2_with (first | ((with_reducible refine gate_builtin (b := .append) (xs := #[.tmp 112, .tmp 114]) rfl ?_); at_builtin; refine Kd.R_append k49 (w0 := w) w.heap.size rfl (.tmp 112) (.tmp 114) 53 49 (.agg #[(.int .i64 0), (.int .i64 0)]) 16 rfl Tryd.underlying53 info49 rfl (by decide) (by omega) u9 x9_1 (⟨(⟨t234, t235⟩ : S26)⟩ : S49) [.int .i64 t234, .int .i64 t235] (fun k_ => some k_ ≠ (.slice (some ad231) t202.length co34 : Value).ownBlock ∧ k_ ≠ gb189 ∧ k_ ≠ gb207) (fun _ => False) rfl (by first | (go_simp; done) | (go_simp; rfl)) ?aP (fun _ hk => hk.elim) ?aF ?aO ?aB ?aS ?aL ?_; (case aP => exact k49_mkM _ _ _ (⟨(⟨t234, t235⟩ : S26)⟩ : S49)); (case aB => exact (hbC _)); (case aF => exact (fun k_ hk => ⟨Kd.fresh' (Kd.R_lt (rD ((Kd.R_mono (Kd.R_far (p := ⟨gb207, 1, none⟩) (Kd.R_far (p := ⟨gb207, 0, none⟩) (Kd.R_mono HO_8.out (fun k_ hk => (⟨hk, hk.2.2⟩ : _ ∧ k_ ≠ gb207))) (fun _ hk => hk.2) (.int .i64 t234)) (fun _ hk => hk.2) (.int .i64 t235)) (fun _ h_ => h_.1))))) k_ hk, Kd.freshB (g := gb189) (o := .cells #[.int .i64 a2_0, .int .i64 a2_1] 49 (0, 0)) (bF BK189) k_ hk, Kd.freshB (g := gb207) (o := .cells #[.int .i64 t234, .int .i64 t235] 49 (0, 0)) (by (with_reducible repeat (first | refine blk_drewN ?_ _ | refine blk_drew ?_ | refine blk_alloc ?_ _)); refine blk_put (cs := #[.int .i64 t234, .int .i64 x208001_41]) ?_ 1 _ rfl; (with_reducible repeat (first | refine blk_drewN ?_ _ | refine blk_drew ?_ | refine blk_alloc ?_ _)); refine blk_put (cs := #[.int .i64 x208000_41, .int .i64 x208001_41]) ?_ 0 _ rfl; (with_reducible repeat (first | refine blk_drewN ?_ _ | refine blk_drew ?_ | refine blk_alloc ?_ _)); exact BK207.out) k_ hk⟩)); (case aO => exact (rD (Kd.R_mono (Kd.R_far (p := ⟨gb207, 1, none⟩) (Kd.R_far (p := ⟨gb207, 0, none⟩) (Kd.R_mono HO_9.out (fun k_ hk => (⟨hk, hk.2.2⟩ : _ ∧ k_ ≠ gb207))) (fun _ hk => hk.2) (.int .i64 t234)) (fun _ hk => hk.2) (.int .i64 t235)) (fun _ hk => ⟨hk.1.1, ⟨hk.1.2.1, hk.1.2.2⟩⟩)))); (case aS => exact (below_size (hbC _))); (case aL => have := LMc78.out; omega); intro v237 w91 ho hb hg hat; rw [← Ny236.out] at ho; have n0_ := ak (Kd.R_after (ok := (fun k_ => k_ ≠ gb189 ∧ k_ ≠ gb207)) (rD (Kd.R_mono (Kd.R_far (p := ⟨gb207, 1, none⟩) (Kd.R_far (p := ⟨gb207, 0, none⟩) (Kd.R_mono HO_8.out (fun k_ hk => (⟨hk, hk.2.2⟩ : _ ∧ k_ ≠ gb207))) (fun _ hk => hk.2) (.int .i64 t234)) (fun _ hk => hk.2) (.int .i64 t235)) (fun _ hk => ⟨⟨hk.1.2.1, hk.1.2.2⟩, hk.1.1⟩))) hg hat); have n1_ := ak (blk_grown (g := gb188) (o := .cells #[.int .i64 a0_0, .slice (some ad208) l0_1.length c0_1, .slice A0_2 l0_2.length c0_2] 31 (0, 0)) (bF BK188) hg (Kd.R_ne HO_9.out BK188.out (by decide))); have n2_ := ak (blk_grown (g := gb189) (o := .cells #[.int .i64 a2_0, .int .i64 a2_1] 49 (0, 0)) (bF BK189) hg (Kd.R_away HO_9.out (fun _ hk => hk.2.1))); have n3_ := ak (blk_grown (g := gb207) (o := .cells #[.int .i64 t234, .int .i64 t235] 49 (0, 0)) (by (with_reducible repeat (first | refine blk_drewN ?_ _ | refine blk_drew ?_ | refine blk_alloc ?_ _)); refine blk_put (cs := #[.int .i64 t234, .int .i64 x208001_41]) ?_ 1 _ rfl; (with_reducible repeat (first | refine blk_drewN ?_ _ | refine blk_drew ?_ | refine blk_alloc ?_ _)); refine blk_put (cs := #[.int .i64 x208000_41, .int .i64 x208001_41]) ?_ 0 _ rfl; (with_reducible repeat (first | refine blk_drewN ?_ _ | refine blk_drew ?_ | refine blk_alloc ?_ _)); exact BK207.out) hg (Kd.R_away HO_9.out (fun _ hk => hk.2.2))); have n4_ := ak (hb); have n5_ := ak (ho); clear HO_8; clear BK188; clear BK189; clear BK207; clear HB; clear HO_9; have HO_8 := n0_; have BK188 := n1_; have BK189 := n2_; have BK207 := n3_; have HB := n4_; have HO238 := n5_; clear n0_ n1_ n2_ n3_ n4_ n5_; clear ho hb hg hat))
     go_roundg kj41
     case measure => have := HK1.out; have := HJ41.out; omega
     case rel => exact ⟨(y236), (ji68), (by first | rfl | (simp; done) | (simp only [← hji68] <;> (first | rfl | simp)) | (simp [*]; done)), H', ⟨by have := HK1.out; have := HJ41.out; omega⟩, ⟨rD (Kd.R_mono HO_8.out (fun _ hk => ⟨hk.2, hk.1.1⟩))⟩, ⟨rD (Kd.R_mono HO238.out (fun _ hk => ⟨hk.1, hk.2.1⟩))⟩, ⟨bkC BK188⟩, ⟨bkC BK189⟩, ⟨hbC _⟩⟩

end Go.Proofs.YtpnocmkpeogifaaDoor.X
