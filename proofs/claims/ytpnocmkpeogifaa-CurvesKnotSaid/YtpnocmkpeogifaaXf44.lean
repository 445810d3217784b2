-- Written by a program of this work (wip/xprint.py, over the kit's printer) out of the translation.
import Derived.Test.YtpnocmkpeogifaaX0
import Derived.Test.YtpnocmkpeogifaaXG1a
import Derived.Test.YtpnocmkpeogifaaXG2a
import Derived.Test.YtpnocmkpeogifaaXG3a
import Derived.Test.YtpnocmkpeogifaaXf50
import Derived.Test.YtpnocmkpeogifaaXf51
import Derived.Test.YtpnocmkpeogifaaXf61
import Derived.Test.YtpnocmkpeogifaaE65
namespace Go.Proofs.Ytpnocmkpeogifaa.X
open Go.RowKit Go.Proofs.YtpnocmkpeogifaaW.PrintWords Go.Proofs.YtpnocmkpeogifaaW.PrintLast Go.Proofs.YtpnocmkpeogifaaW.PrintMore
attribute [local go_sem] max2_int min2_int max_two min_two max_three min_three max_four min_four   -- for this text's walks alone
set_option linter.unusedVariables false
set_option linter.unusedSimpArgs false

/-! ### curves_Insert: function 44 -/
mutual
def curves_Insert.j0 : Nat → Int → Int → Bool → Int → List Int → List Int → Option ((List (S26)) × Int)
 | 0, _, _, _, _, _, _ => none
 | k + 1, x3, x8, x34, x967000, x967001, x967002 => if x34 = true then (some (([] : List (S26)), 2)) else (if (x967002.length : Int) = 8 then (some (([] : List (S26)), 6)) else (if x8 = (wrap64 (x967000 + 1)) then (some (([] : List (S26)), 4)) else (curves_Insert.l0 k x3 0 x967001 (x967001.length : Int) 0 x967000 x967001 x967002)))
def curves_Insert.l0 : Nat → Int → Int → List Int → Int → Int → Int → List Int → List Int → Option ((List (S26)) × Int)
 | 0, _, _, _, _, _, _, _, _ => none
 | k + 1, x3, x9, x55, x56, x57, x967000, x967001, x967002 => if x57 < x56 then (if 0 ≤ x57 then (if x57 < (x55.length : Int) then (if (rd x55 x57) ≤ x3 then (curves_Insert.l0 k x3 x57 x55 x56 (wrap64 (x57 + 1)) x967000 x967001 x967002) else (curves_Insert.l0 k x3 x9 x55 x56 (wrap64 (x57 + 1)) x967000 x967001 x967002)) else (none)) else (none)) else (curves_Insert.l1 k x3 x9 ([] : List (S76)) (wrap64 ((x967002.length : Int) + 1)) 0 x967000 x967001 x967002)
def curves_Insert.l1 : Nat → Int → Int → List (S76) → Int → Int → Int → List Int → List Int → Option ((List (S26)) × Int)
 | 0, _, _, _, _, _, _, _, _ => none
 | k + 1, x3, x9, x12, x70, x71, x967000, x967001, x967002 => if x71 < x70 then ((curves_of.f k 0 1).bind fun bt975 => (if x71 ≤ (wrap64 (x9 - x967000)) then ((curves_of.f k 1 1).bind fun bt978 => (curves_Insert.j3 k x3 x9 x12 x71 x70 x71 x967000 x967001 x967002 bt978.1 bt978.2)) else (if x71 ≤ x9 then (if 0 ≤ x71 then (if x71 < (x967001.length : Int) then (if 0 ≤ (wrap64 (x71 + x967000)) then (if (wrap64 (x71 + x967000)) < (x967001.length : Int) then ((curves_of.f k (wrap64 (x3 - (rd x967001 x71))) (wrap64 ((rd x967001 (wrap64 (x71 + x967000))) - (rd x967001 x71)))).bind fun bt983 => (curves_Insert.j3 k x3 x9 x12 x71 x70 x71 x967000 x967001 x967002 bt983.1 bt983.2)) else (none)) else (none)) else (none)) else (none)) else (curves_Insert.j3 k x3 x9 x12 x71 x70 x71 x967000 x967001 x967002 bt975.1 bt975.2)))) else ((curves_told.f k x12).bind fun t972 => (some (t972, 0)))
def curves_Insert.j3 : Nat → Int → Int → List (S76) → Int → Int → Int → Int → List Int → List Int → Int → Int → Option ((List (S26)) × Int)
 | 0, _, _, _, _, _, _, _, _, _, _, _ => none
 | k + 1, x3, x9, x12, x13, x70, x71, x967000, x967001, x967002, x978000, x978001 => (curves_of.f k 0 1).bind fun bt985 => (if x13 < (x967002.length : Int) then (if 0 ≤ x13 then ((curves_of.f k (rd x967002 x13) 1).bind fun bt989 => ((curves_ratio_times.f k x978000 x978001 bt989.1 bt989.2).bind fun bt991 => (curves_Insert.j4 k x3 x9 x12 x13 x70 x71 x967000 x967001 x967002 x978000 x978001 bt991.1 bt991.2))) else (none)) else (curves_Insert.j4 k x3 x9 x12 x13 x70 x71 x967000 x967001 x967002 x978000 x978001 bt985.1 bt985.2))
def curves_Insert.j4 : Nat → Int → Int → List (S76) → Int → Int → Int → Int → List Int → List Int → Int → Int → Int → Int → Option ((List (S26)) × Int)
 | 0, _, _, _, _, _, _, _, _, _, _, _, _, _ => none
 | k + 1, x3, x9, x12, x13, x70, x71, x967000, x967001, x967002, x978000, x978001, x988000, x988001 => if x13 > 0 then ((curves_ratio_from.f k x978000 x978001 1).bind fun bt993 => (if 0 ≤ (wrap64 (x13 - 1)) then (if (wrap64 (x13 - 1)) < (x967002.length : Int) then ((curves_of.f k (rd x967002 (wrap64 (x13 - 1))) 1).bind fun bt996 => ((curves_ratio_times.f k bt993.1 bt993.2 bt996.1 bt996.2).bind fun bt998 => ((curves_ratio_plus.f k x988000 x988001 bt998.1 bt998.2).bind fun bt1000 => (if x12.length < 8796093022208 then (curves_Insert.l1 k x3 x9 (x12 ++ [(⟨(⟨bt1000.1, bt1000.2⟩ : S26)⟩ : S76)]) x70 (wrap64 (x71 + 1)) x967000 x967001 x967002) else (none))))) else (none)) else (none))) else (if x12.length < 8796093022208 then (curves_Insert.l1 k x3 x9 (x12 ++ [(⟨(⟨x988000, x988001⟩ : S26)⟩ : S76)]) x70 (wrap64 (x71 + 1)) x967000 x967001 x967002) else (none))
end
def curves_Insert.f (k : Nat) (a0_0 : Int) (l0_1 : List Int) (l0_2 : List Int) (a1 : Int) : Option ((List (S26)) × Int) := (curves_Curve_valid.f k a0_0 l0_1 l0_2).bind fun t967 => (if t967 = true then ((curves_Curve_span.f a0_0 l0_1 l0_2).bind fun bt968 => ((xDel.f l0_1 a1).bind fun t970 => (if a1 < bt968.1 then (curves_Insert.j0 k a1 (wrap64 ((l0_1.length : Int) - t970)) true a0_0 l0_1 l0_2) else (curves_Insert.j0 k a1 (wrap64 ((l0_1.length : Int) - t970)) (decide (a1 ≥ bt968.2)) a0_0 l0_1 l0_2)))) else (some (([] : List (S26)), 2)))
theorem curves_Insert.mono_l : ∀ k, (∀ y0 y1 y2 y3 y4 y5, LeO (curves_Insert.j0 k y0 y1 y2 y3 y4 y5) (curves_Insert.j0 (k + 1) y0 y1 y2 y3 y4 y5)) ∧ (∀ y0 y1 y2 y3 y4 y5 y6 y7, LeO (curves_Insert.l0 k y0 y1 y2 y3 y4 y5 y6 y7) (curves_Insert.l0 (k + 1) y0 y1 y2 y3 y4 y5 y6 y7)) ∧ (∀ y0 y1 y2 y3 y4 y5 y6 y7, LeO (curves_Insert.l1 k y0 y1 y2 y3 y4 y5 y6 y7) (curves_Insert.l1 (k + 1) y0 y1 y2 y3 y4 y5 y6 y7)) ∧ (∀ y0 y1 y2 y3 y4 y5 y6 y7 y8 y9 y10, LeO (curves_Insert.j3 k y0 y1 y2 y3 y4 y5 y6 y7 y8 y9 y10) (curves_Insert.j3 (k + 1) y0 y1 y2 y3 y4 y5 y6 y7 y8 y9 y10)) ∧ (∀ y0 y1 y2 y3 y4 y5 y6 y7 y8 y9 y10 y11 y12, LeO (curves_Insert.j4 k y0 y1 y2 y3 y4 y5 y6 y7 y8 y9 y10 y11 y12) (curves_Insert.j4 (k + 1) y0 y1 y2 y3 y4 y5 y6 y7 y8 y9 y10 y11 y12))
 | 0 => ⟨fun _ _ _ _ _ _ r h => by simp [curves_Insert.j0] at h, fun _ _ _ _ _ _ _ _ r h => by simp [curves_Insert.l0] at h, fun _ _ _ _ _ _ _ _ r h => by simp [curves_Insert.l1] at h, fun _ _ _ _ _ _ _ _ _ _ _ r h => by simp [curves_Insert.j3] at h, fun _ _ _ _ _ _ _ _ _ _ _ _ _ r h => by simp [curves_Insert.j4] at h⟩
 | k + 1 => by
  obtain ⟨ih0, ih1, ih2, ih3, ih4⟩ := curves_Insert.mono_l k
  refine ⟨?_, ?_, ?_, ?_, ?_⟩
  ·intro y0 y1 y2 y3 y4 y5
   unfold curves_Insert.j0
   repeat' first
   | (with_reducible exact ih0 _ _ _ _ _ _)
   | (with_reducible exact ih1 _ _ _ _ _ _ _ _)
   | (with_reducible exact ih2 _ _ _ _ _ _ _ _)
   | (with_reducible exact ih3 _ _ _ _ _ _ _ _ _ _ _)
   | (with_reducible exact ih4 _ _ _ _ _ _ _ _ _ _ _ _ _)
   | (with_reducible exact curves_Curve_valid.mono _ _ _ _)
   | (with_reducible exact curves_of.mono _ _ _)
   | (with_reducible exact curves_ratio_from.mono _ _ _ _)
   | (with_reducible exact curves_ratio_plus.mono _ _ _ _ _)
   | (with_reducible exact curves_ratio_times.mono _ _ _ _ _)
   | (with_reducible exact curves_told.mono _ _)
   | (with_reducible exact LeO.refl _)
   | (with_reducible exact LeO.none _)
   | (with_reducible refine LeO.ite ?_ ?_)
   | (with_reducible refine LeO.bind ?_ (fun _ => ?_))
   | exact ih0 _ _ _ _ _ _
   | exact ih1 _ _ _ _ _ _ _ _
   | exact ih2 _ _ _ _ _ _ _ _
   | exact ih3 _ _ _ _ _ _ _ _ _ _ _
   | exact ih4 _ _ _ _ _ _ _ _ _ _ _ _ _
   | exact curves_Curve_valid.mono _ _ _ _
   | exact curves_of.mono _ _ _
   | exact curves_ratio_from.mono _ _ _ _
   | exact curves_ratio_plus.mono _ _ _ _ _
   | exact curves_ratio_times.mono _ _ _ _ _
   | exact curves_told.mono _ _
   | exact LeO.none _
   | refine LeO.ite ?_ ?_
   | refine LeO.bind ?_ (fun _ => ?_)
  ·intro y0 y1 y2 y3 y4 y5 y6 y7
   unfold curves_Insert.l0
   repeat' first
   | (with_reducible exact ih0 _ _ _ _ _ _)
   | (with_reducible exact ih1 _ _ _ _ _ _ _ _)
   | (with_reducible exact ih2 _ _ _ _ _ _ _ _)
   | (with_reducible exact ih3 _ _ _ _ _ _ _ _ _ _ _)
   | (with_reducible exact ih4 _ _ _ _ _ _ _ _ _ _ _ _ _)
   | (with_reducible exact curves_Curve_valid.mono _ _ _ _)
   | (with_reducible exact curves_of.mono _ _ _)
   | (with_reducible exact curves_ratio_from.mono _ _ _ _)
   | (with_reducible exact curves_ratio_plus.mono _ _ _ _ _)
   | (with_reducible exact curves_ratio_times.mono _ _ _ _ _)
   | (with_reducible exact curves_told.mono _ _)
   | (with_reducible exact LeO.refl _)
   | (with_reducible exact LeO.none _)
   | (with_reducible refine LeO.ite ?_ ?_)
   | (with_reducible refine LeO.bind ?_ (fun _ => ?_))
   | exact ih0 _ _ _ _ _ _
   | exact ih1 _ _ _ _ _ _ _ _
   | exact ih2 _ _ _ _ _ _ _ _
   | exact ih3 _ _ _ _ _ _ _ _ _ _ _
   | exact ih4 _ _ _ _ _ _ _ _ _ _ _ _ _
   | exact curves_Curve_valid.mono _ _ _ _
   | exact curves_of.mono _ _ _
   | exact curves_ratio_from.mono _ _ _ _
   | exact curves_ratio_plus.mono _ _ _ _ _
   | exact curves_ratio_times.mono _ _ _ _ _
   | exact curves_told.mono _ _
   | exact LeO.none _
   | refine LeO.ite ?_ ?_
   | refine LeO.bind ?_ (fun _ => ?_)
  ·intro y0 y1 y2 y3 y4 y5 y6 y7
   unfold curves_Insert.l1
   repeat' first
   | (with_reducible exact ih0 _ _ _ _ _ _)
   | (with_reducible exact ih1 _ _ _ _ _ _ _ _)
   | (with_reducible exact ih2 _ _ _ _ _ _ _ _)
   | (with_reducible exact ih3 _ _ _ _ _ _ _ _ _ _ _)
   | (with_reducible exact ih4 _ _ _ _ _ _ _ _ _ _ _ _ _)
   | (with_reducible exact curves_Curve_valid.mono _ _ _ _)
   | (with_reducible exact curves_of.mono _ _ _)
   | (with_reducible exact curves_ratio_from.mono _ _ _ _)
   | (with_reducible exact curves_ratio_plus.mono _ _ _ _ _)
   | (with_reducible exact curves_ratio_times.mono _ _ _ _ _)
   | (with_reducible exact curves_told.mono _ _)
   | (with_reducible exact LeO.refl _)
   | (with_reducible exact LeO.none _)
   | (with_reducible refine LeO.ite ?_ ?_)
   | (with_reducible refine LeO.bind ?_ (fun _ => ?_))
   | exact ih0 _ _ _ _ _ _
   | exact ih1 _ _ _ _ _ _ _ _
   | exact ih2 _ _ _ _ _ _ _ _
   | exact ih3 _ _ _ _ _ _ _ _ _ _ _
   | exact ih4 _ _ _ _ _ _ _ _ _ _ _ _ _
   | exact curves_Curve_valid.mono _ _ _ _
   | exact curves_of.mono _ _ _
   | exact curves_ratio_from.mono _ _ _ _
   | exact curves_ratio_plus.mono _ _ _ _ _
   | exact curves_ratio_times.mono _ _ _ _ _
   | exact curves_told.mono _ _
   | exact LeO.none _
   | refine LeO.ite ?_ ?_
   | refine LeO.bind ?_ (fun _ => ?_)
  ·intro y0 y1 y2 y3 y4 y5 y6 y7 y8 y9 y10
   unfold curves_Insert.j3
   repeat' first
   | (with_reducible exact ih0 _ _ _ _ _ _)
   | (with_reducible exact ih1 _ _ _ _ _ _ _ _)
   | (with_reducible exact ih2 _ _ _ _ _ _ _ _)
   | (with_reducible exact ih3 _ _ _ _ _ _ _ _ _ _ _)
   | (with_reducible exact ih4 _ _ _ _ _ _ _ _ _ _ _ _ _)
   | (with_reducible exact curves_Curve_valid.mono _ _ _ _)
   | (with_reducible exact curves_of.mono _ _ _)
   | (with_reducible exact curves_ratio_from.mono _ _ _ _)
   | (with_reducible exact curves_ratio_plus.mono _ _ _ _ _)
   | (with_reducible exact curves_ratio_times.mono _ _ _ _ _)
   | (with_reducible exact curves_told.mono _ _)
   | (with_reducible exact LeO.refl _)
   | (with_reducible exact LeO.none _)
   | (with_reducible refine LeO.ite ?_ ?_)
   | (with_reducible refine LeO.bind ?_ (fun _ => ?_))
   | exact ih0 _ _ _ _ _ _
   | exact ih1 _ _ _ _ _ _ _ _
   | exact ih2 _ _ _ _ _ _ _ _
   | exact ih3 _ _ _ _ _ _ _ _ _ _ _
   | exact ih4 _ _ _ _ _ _ _ _ _ _ _ _ _
   | exact curves_Curve_valid.mono _ _ _ _
   | exact curves_of.mono _ _ _
   | exact curves_ratio_from.mono _ _ _ _
   | exact curves_ratio_plus.mono _ _ _ _ _
   | exact curves_ratio_times.mono _ _ _ _ _
   | exact curves_told.mono _ _
   | exact LeO.none _
   | refine LeO.ite ?_ ?_
   | refine LeO.bind ?_ (fun _ => ?_)
  ·intro y0 y1 y2 y3 y4 y5 y6 y7 y8 y9 y10 y11 y12
   unfold curves_Insert.j4
   repeat' first
   | (with_reducible exact ih0 _ _ _ _ _ _)
   | (with_reducible exact ih1 _ _ _ _ _ _ _ _)
   | (with_reducible exact ih2 _ _ _ _ _ _ _ _)
   | (with_reducible exact ih3 _ _ _ _ _ _ _ _ _ _ _)
   | (with_reducible exact ih4 _ _ _ _ _ _ _ _ _ _ _ _ _)
   | (with_reducible exact curves_Curve_valid.mono _ _ _ _)
   | (with_reducible exact curves_of.mono _ _ _)
   | (with_reducible exact curves_ratio_from.mono _ _ _ _)
   | (with_reducible exact curves_ratio_plus.mono _ _ _ _ _)
   | (with_reducible exact curves_ratio_times.mono _ _ _ _ _)
   | (with_reducible exact curves_told.mono _ _)
   | (with_reducible exact LeO.refl _)
   | (with_reducible exact LeO.none _)
   | (with_reducible refine LeO.ite ?_ ?_)
   | (with_reducible refine LeO.bind ?_ (fun _ => ?_))
   | exact ih0 _ _ _ _ _ _
   | exact ih1 _ _ _ _ _ _ _ _
   | exact ih2 _ _ _ _ _ _ _ _
   | exact ih3 _ _ _ _ _ _ _ _ _ _ _
   | exact ih4 _ _ _ _ _ _ _ _ _ _ _ _ _
   | exact curves_Curve_valid.mono _ _ _ _
   | exact curves_of.mono _ _ _
   | exact curves_ratio_from.mono _ _ _ _
   | exact curves_ratio_plus.mono _ _ _ _ _
   | exact curves_ratio_times.mono _ _ _ _ _
   | exact curves_told.mono _ _
   | exact LeO.none _
   | refine LeO.ite ?_ ?_
   | refine LeO.bind ?_ (fun _ => ?_)
theorem curves_Insert.mono : ∀ a0 a1 a2 a3 k, LeO (curves_Insert.f k a0 a1 a2 a3) (curves_Insert.f (k + 1) a0 a1 a2 a3) := by
 intro a0 a1 a2 a3 k
 obtain ⟨ih0, ih1, ih2, ih3, ih4⟩ := curves_Insert.mono_l k
 unfold curves_Insert.f
 repeat' first
   | (with_reducible exact ih0 _ _ _ _ _ _)
   | (with_reducible exact ih1 _ _ _ _ _ _ _ _)
   | (with_reducible exact ih2 _ _ _ _ _ _ _ _)
   | (with_reducible exact ih3 _ _ _ _ _ _ _ _ _ _ _)
   | (with_reducible exact ih4 _ _ _ _ _ _ _ _ _ _ _ _ _)
   | (with_reducible exact curves_Curve_valid.mono _ _ _ _)
   | (with_reducible exact curves_of.mono _ _ _)
   | (with_reducible exact curves_ratio_from.mono _ _ _ _)
   | (with_reducible exact curves_ratio_plus.mono _ _ _ _ _)
   | (with_reducible exact curves_ratio_times.mono _ _ _ _ _)
   | (with_reducible exact curves_told.mono _ _)
   | (with_reducible exact LeO.refl _)
   | (with_reducible exact LeO.none _)
   | (with_reducible refine LeO.ite ?_ ?_)
   | (with_reducible refine LeO.bind ?_ (fun _ => ?_))
   | exact ih0 _ _ _ _ _ _
   | exact ih1 _ _ _ _ _ _ _ _
   | exact ih2 _ _ _ _ _ _ _ _
   | exact ih3 _ _ _ _ _ _ _ _ _ _ _
   | exact ih4 _ _ _ _ _ _ _ _ _ _ _ _ _
   | exact curves_Curve_valid.mono _ _ _ _
   | exact curves_of.mono _ _ _
   | exact curves_ratio_from.mono _ _ _ _
   | exact curves_ratio_plus.mono _ _ _ _ _
   | exact curves_ratio_times.mono _ _ _ _ _
   | exact curves_told.mono _ _
   | exact LeO.none _
   | refine LeO.ite ?_ ?_
   | refine LeO.bind ?_ (fun _ => ?_)
def curves_Insert.T4 : Bool × List (List Nat × List Nat) := (true, [([], []), ([0], [0]), ([1], [1]), ([], []), ([3], [3]), ([4], [4]), ([], []), ([5, 6, 5], [5, 6]), ([7], [7]), ([2, 8], [2, 8]), ([9, 7, 0, 1, 2, 3, 4, 5, 6, 7, 8, 9], [9])])
def curves_Insert.B4 : List Nat := [0, 1, 3, 0, 8, 24, 0, 120, 248, 511, 1023]
theorem curves_Insert.tab4 : rtab .any (opsOf Try.f44 4) = curves_Insert.T4 := by kernel_rfl
theorem curves_Insert.bits4 : waitsOk curves_Insert.T4.2 curves_Insert.B4 = true := by kernel_rfl
def curves_Insert.T26 : Bool × List (List Nat × List Nat) := (true, [([], []), ([], []), ([1], [1]), ([], []), ([2, 3], [2, 3]), ([4], [4]), ([0, 5], [0, 5]), ([], []), ([7], [7]), ([], []), ([], []), ([10], [10]), ([9, 11], [9, 11]), ([8, 12], [8, 12]), ([13], [13]), ([], []), ([15], [15]), ([], []), ([16, 17], [16, 17]), ([18], [18]), ([14, 19], [14, 19]), ([6, 20], [6, 20]), ([21, 21, 0, 1, 2, 3, 4, 5, 6, 7, 8, 9, 10, 11, 12, 13, 14, 15, 16, 17, 18, 19, 20, 21], [21])])
def curves_Insert.B26 : List Nat := [0, 0, 2, 0, 14, 30, 63, 0, 128, 0, 0, 1024, 3584, 8064, 16256, 0, 32768, 0, 229376, 491520, 1048448, 2097151, 4194303]
theorem curves_Insert.tab26 : rtab .any (opsOf Try.f44 26) = curves_Insert.T26 := by kernel_rfl
theorem curves_Insert.bits26 : waitsOk curves_Insert.T26.2 curves_Insert.B26 = true := by kernel_rfl
def curves_Insert.T29 : Bool × List (List Nat × List Nat) := (true, [([], []), ([], []), ([1], [1]), ([], []), ([2, 3], [2, 3]), ([4], [4]), ([5], [5]), ([0, 6, 6], [0, 6]), ([7, 7, 0, 1, 2, 3, 4, 5, 6, 7], [7])])
def curves_Insert.B29 : List Nat := [0, 0, 2, 0, 14, 30, 62, 127, 255]
theorem curves_Insert.tab29 : rtab .any (opsOf Try.f44 29) = curves_Insert.T29 := by kernel_rfl
theorem curves_Insert.bits29 : waitsOk curves_Insert.T29.2 curves_Insert.B29 = true := by kernel_rfl
def curves_Insert.T31 : Bool × List (List Nat × List Nat) := (true, [([], []), ([], []), ([1], [1]), ([], []), ([3], [3]), ([], []), ([5], [5]), ([4, 6], [4, 6]), ([7], [7]), ([8, 2], [8]), ([2, 9, 9], [2, 9]), ([0, 10, 10], [0, 10]), ([11, 11, 0, 1, 2, 3, 4, 5, 6, 7, 8, 9, 10, 11], [11])])
def curves_Insert.B31 : List Nat := [0, 0, 2, 0, 8, 0, 32, 120, 248, 510, 1022, 2047, 4095]
theorem curves_Insert.tab31 : rtab .any (opsOf Try.f44 31) = curves_Insert.T31 := by kernel_rfl
theorem curves_Insert.bits31 : waitsOk curves_Insert.T31.2 curves_Insert.B31 = true := by kernel_rfl
theorem xDel.out {l : List Int} {k t : Int} (h : xDel.f l k = some t) : l ≠ [] ∧ l.length < 17592186044416 ∧ ∃ n : Nat, t = (n : Int) ∧ ∀ {w : World} {base : Nat} {ok : Nat → Prop} {v : Value}, Kd.R (Kd.int .i64) 3 w base ok v l → ∀ B, B < base → B < w.heap.size → w.cell? ⟨B, 0, none⟩ = some (.int .i64 k) →
  Calls Try.prog 65 #[v, .func (.func 66) #[] #[.pointer (some ⟨B, 0, none⟩)]] w fun e w' => (∃ A c, e = .returned (.slice A n c)) ∧ Below base w w' := by
 unfold xDel.f at h
 split at h
 ·rename_i c
  exact ⟨c.1, c.2, _, (Option.some.inj h).symm, fun hv B h1 h2 h3 => xDel.row hv c.1 B k h1 h2 h3⟩
 ·cases h
theorem xDel.clone {l : List Int} (h : l.length < 17592186044416) : slices_Clone_int_int.f l = some l := by simp [slices_Clone_int_int.f, h]
set_option maxHeartbeats 8000000 in
set_option maxRecDepth 100000 in
theorem curves_Insert.calls (k : Nat) (a0_0 : Int) (A0_1 : Option Addr) (c0_1 : Nat) (l0_1 : List Int) (A0_2 : Option Addr) (c0_2 : Nat) (l0_2 : List Int) (a1 : Int) (r1 : List (S26)) (r2 : Int) (w : World) (hr0_1 : Kd.C (Kd.int .i64) w A0_1 l0_1.length l0_1) (hc0_1 : l0_1.length ≤ c0_1) (hr0_2 : Kd.C (Kd.int .i64) w A0_2 l0_2.length l0_2) (hc0_2 : l0_2.length ≤ c0_2) (h : curves_Insert.f k a0_0 l0_1 l0_2 a1 = some (r1, r2)) :
  Calls Try.prog 44 #[.agg #[.int .i64 a0_0, .slice A0_1 l0_1.length c0_1, .slice A0_2 l0_2.length c0_2], .int .i64 a1] w fun e w' => ∃ v0_ : Value, e = .returned (.tuple #[v0_, .int .i64 r2]) ∧ Kd.R k26 26 w' w.heap.size (fun _ => True) v0_ r1 ∧ Below w.heap.size w w' := by
 have hu30 := Try.underlying30
 have hu76 := Try.underlying76
 have HR0_1 := Aside0.mk hr0_1
 have HC0_1 := Aside0.mk hc0_1
 clear hr0_1 hc0_1
 have HR0_2 := Aside0.mk hr0_2
 have HC0_2 := Aside0.mk hc0_2
 clear hr0_2 hc0_2
 have HB := ak (Below.refl w.heap.size w)
 have H : ((curves_Curve_valid.f k a0_0 l0_1 l0_2).bind fun t967 => (if t967 = true then ((curves_Curve_span.f a0_0 l0_1 l0_2).bind fun bt968 => ((xDel.f l0_1 a1).bind fun t970 => (if a1 < bt968.1 then (curves_Insert.j0 k a1 (wrap64 ((l0_1.length : Int) - t970)) true a0_0 l0_1 l0_2) else (curves_Insert.j0 k a1 (wrap64 ((l0_1.length : Int) - t970)) (decide (a1 ≥ bt968.2)) a0_0 l0_1 l0_2)))) else (some (([] : List (S26)), 2)))) = some (r1, r2) := h
 clear h
 replace H := Option.bind_eq_some_iff.mp H
 obtain ⟨t967, A30, H⟩ := H
 replace H : (if t967 = true then ((curves_Curve_span.f a0_0 l0_1 l0_2).bind fun bt968 => ((xDel.f l0_1 a1).bind fun t970 => (if a1 < bt968.1 then (curves_Insert.j0 k a1 (wrap64 ((l0_1.length : Int) - t970)) true a0_0 l0_1 l0_2) else (curves_Insert.j0 k a1 (wrap64 ((l0_1.length : Int) - t970)) (decide (a1 ≥ bt968.2)) a0_0 l0_1 l0_2)))) else (some (([] : List (S26)), 2))) = some (r1, r2) := H
 have A3 := Aside0.mk A30
 clear A30
 by_cases c4 : t967 = true
 rotate_left
 ·replace c4 := Bool.eq_false_iff.mpr c4
  subst c4
  have H1 : (some (([] : List (S26)), 2)) = some (r1, r2) := by rw [if_neg (show ¬ (false = true) by decide)] at H; exact H
  clear H
  have H := H1
  clear H1
  simp only [Option.some.injEq, Prod.mk.injEq] at H
  obtain ⟨rfl, rfl⟩ := H
  go_enter Try.func44, Try.ntmps44
  go_wp2_with (first | ((with_reducible refine gate_dst (N := 2) rfl ?_); refine bE 2 #[.int .i64 a0_0, .slice A0_1 l0_1.length c0_1, .slice A0_2 l0_2.length c0_2] 30 ?_; intro gb966 hg w103 hbox hb; have BK966 := ak (hbox); have GW966 := kG w hg; have GE966 := kG w hg; replace HB := kH _ hb; clear hb hbox hg; have hcz104_0 : w103.cell? ⟨gb966, 0, none⟩ = some (.int .i64 a0_0) := bc BK966 0; have hcz104_1 : w103.cell? ⟨gb966, 1, none⟩ = some (.slice A0_1 l0_1.length c0_1) := bc BK966 1; have hcz104_2 : w103.cell? ⟨gb966, 2, none⟩ = some (.slice A0_2 l0_2.length c0_2) := bc BK966 2; have hfz104_0 := fz BK966 0; have hfz104_1 := fz BK966 1; have hfz104_2 := fz BK966 2) | ((with_reducible refine gate_dst (N := 3) rfl ?_); refine bE 3 #[.int .i64 a1] 3 ?_; intro gk9 hg w9K hbox hb; have BKK := ak (hbox); have GWK := kG w hg; have GEK := kG w hg; replace BK966 := kB BK966 hb; replace HB := kH _ hb; clear hb hbox hg; have hcz9104_0 : w9K.cell? ⟨gb966, 0, none⟩ = some (.int .i64 a0_0) := bc BK966 0; have hcz9104_1 : w9K.cell? ⟨gb966, 1, none⟩ = some (.slice A0_1 l0_1.length c0_1) := bc BK966 1; have hcz9104_2 : w9K.cell? ⟨gb966, 2, none⟩ = some (.slice A0_2 l0_2.length c0_2) := bc BK966 2; have hfz9104_0 := fz BK966 0; have hfz9104_1 := fz BK966 1; have hfz9104_2 := fz BK966 2; have hcz9104_k : w9K.cell? ⟨gk9, 0, none⟩ = some (.int .i64 a1) := bc BKK 0; have hfz9104_k := fz BKK 0) | ((with_reducible refine gate_callee (f := 61) rfl ?_); refine gL 17 Try.func61 #[.agg #[.int .i64 a0_0, .slice A0_1 l0_1.length c0_1, .slice A0_2 l0_2.length c0_2]] ?_; (with_reducible refine (curves_Curve_valid.calls k a0_0 _ _ l0_1 _ _ l0_2 false _ ?side1 ?side2 ?side3 ?side4 A3.out).mono ?_); (case side1 => exact kC HR0_1); (case side2 => exact HC0_1.out); (case side3 => exact kC HR0_2); (case side4 => exact HC0_2.out); rintro e w105 ⟨rfl, hb⟩; refine ⟨_, rfl, ?_⟩; replace BK966 := kB BK966 hb; replace BKK := kB BKK hb; replace HB := kH _ hb; (try clear hb); (try clear hb2); (try clear hk); (try clear hi)))
  go_ret2
  exact ⟨_, by first | rfl | (simp [errW_none, errW_some] <;> rfl) | (simp [*, errW_none, errW_some] <;> rfl), by first | exact Kd.R_nil _ _ _ _ _ | exact Kd.N_nil _ _ _ _ _ | exact Kd.V_nil _ _ _ _ _ | exact Kd.Q_nil _ _ _ _ _ | exact Kd.S_nil _ _ _ _ _, hbC _⟩
 subst c4
 have H1 : ((curves_Curve_span.f a0_0 l0_1 l0_2).bind fun bt968 => ((xDel.f l0_1 a1).bind fun t970 => (if a1 < bt968.1 then (curves_Insert.j0 k a1 (wrap64 ((l0_1.length : Int) - t970)) true a0_0 l0_1 l0_2) else (curves_Insert.j0 k a1 (wrap64 ((l0_1.length : Int) - t970)) (decide (a1 ≥ bt968.2)) a0_0 l0_1 l0_2)))) = some (r1, r2) := by rw [if_pos rfl] at H; exact H
 clear H
 have H := H1
 clear H1
 replace H := Option.bind_eq_some_iff.mp H
 obtain ⟨⟨t968, t969⟩, A50, H⟩ := H
 replace H : ((xDel.f l0_1 a1).bind fun t970 => (if a1 < t968 then (curves_Insert.j0 k a1 (wrap64 ((l0_1.length : Int) - t970)) true a0_0 l0_1 l0_2) else (curves_Insert.j0 k a1 (wrap64 ((l0_1.length : Int) - t970)) (decide (a1 ≥ t969)) a0_0 l0_1 l0_2))) = some (r1, r2) := H
 have A5 := Aside0.mk A50
 clear A50
 replace H := Option.bind_eq_some_iff.mp H
 obtain ⟨t970, A60, H⟩ := H
 replace H : (if a1 < t968 then (curves_Insert.j0 k a1 (wrap64 ((l0_1.length : Int) - t970)) true a0_0 l0_1 l0_2) else (curves_Insert.j0 k a1 (wrap64 ((l0_1.length : Int) - t970)) (decide (a1 ≥ t969)) a0_0 l0_1 l0_2)) = some (r1, r2) := H
 have A6 := Aside0.mk A60
 clear A60
 have HC7 := Aside0.mk H
 clear H
 go_enter Try.func44, Try.ntmps44
 try go_wp2_with (first | ((with_reducible refine gate_dst (N := 2) rfl ?_); refine bE 2 #[.int .i64 a0_0, .slice A0_1 l0_1.length c0_1, .slice A0_2 l0_2.length c0_2] 30 ?_; intro gb966 hg w8 hbox hb; have BK966 := ak (hbox); have GW966 := kG w hg; have GE966 := kG w hg; replace HB := kH _ hb; clear hb hbox hg; have hcz9_0 : w8.cell? ⟨gb966, 0, none⟩ = some (.int .i64 a0_0) := bc BK966 0; have hcz9_1 : w8.cell? ⟨gb966, 1, none⟩ = some (.slice A0_1 l0_1.length c0_1) := bc BK966 1; have hcz9_2 : w8.cell? ⟨gb966, 2, none⟩ = some (.slice A0_2 l0_2.length c0_2) := bc BK966 2; have hfz9_0 := fz BK966 0; have hfz9_1 := fz BK966 1; have hfz9_2 := fz BK966 2) | ((with_reducible refine gate_dst (N := 3) rfl ?_); refine bE 3 #[.int .i64 a1] 3 ?_; intro gk9 hg w9K hbox hb; have BKK := ak (hbox); have GWK := kG w hg; have GEK := kG w hg; replace BK966 := kB BK966 hb; replace HB := kH _ hb; clear hb hbox hg; have hcz99_0 : w9K.cell? ⟨gb966, 0, none⟩ = some (.int .i64 a0_0) := bc BK966 0; have hcz99_1 : w9K.cell? ⟨gb966, 1, none⟩ = some (.slice A0_1 l0_1.length c0_1) := bc BK966 1; have hcz99_2 : w9K.cell? ⟨gb966, 2, none⟩ = some (.slice A0_2 l0_2.length c0_2) := bc BK966 2; have hfz99_0 := fz BK966 0; have hfz99_1 := fz BK966 1; have hfz99_2 := fz BK966 2; have hcz99_k : w9K.cell? ⟨gk9, 0, none⟩ = some (.int .i64 a1) := bc BKK 0; have hfz99_k := fz BKK 0) | ((with_reducible refine gate_callee (f := 61) rfl ?_); refine gL 17 Try.func61 #[.agg #[.int .i64 a0_0, .slice A0_1 l0_1.length c0_1, .slice A0_2 l0_2.length c0_2]] ?_; (with_reducible refine (curves_Curve_valid.calls k a0_0 _ _ l0_1 _ _ l0_2 true _ ?side1 ?side2 ?side3 ?side4 A3.out).mono ?_); (case side1 => exact kC HR0_1); (case side2 => exact HC0_1.out); (case side3 => exact kC HR0_2); (case side4 => exact HC0_2.out); rintro e w10 ⟨rfl, hb⟩; refine ⟨_, rfl, ?_⟩; replace BK966 := kB BK966 hb; replace BKK := kB BKK hb; replace HB := kH _ hb; (try clear hb); (try clear hb2); (try clear hk); (try clear hi); have hcz11_0 : w10.cell? ⟨gb966, 0, none⟩ = some (.int .i64 a0_0) := bc BK966 0; have hcz11_k : w10.cell? ⟨gk9, 0, none⟩ = some (.int .i64 a1) := bc BKK 0; have hcz11_1 : w10.cell? ⟨gb966, 1, none⟩ = some (.slice A0_1 l0_1.length c0_1) := bc BK966 1; have hcz11_2 : w10.cell? ⟨gb966, 2, none⟩ = some (.slice A0_2 l0_2.length c0_2) := bc BK966 2; have hfz11_0 := fz BK966 0; have hfz11_k := fz BKK 0; have hfz11_1 := fz BK966 1; have hfz11_2 := fz BK966 2) | ((with_reducible refine gate_callee (f := 64) rfl ?_); refine gL 21 Try.func64 #[.agg #[.int .i64 a0_0, .slice A0_1 l0_1.length c0_1, .slice A0_2 l0_2.length c0_2]] ?_; (with_reducible refine (curves_Curve_span.calls a0_0 _ _ l0_1 _ _ l0_2 t968 t969 _ ?side1 ?side2 ?side3 ?side4 A5.out).mono ?_); (case side1 => exact kC HR0_1); (case side2 => exact HC0_1.out); (case side3 => exact kC HR0_2); (case side4 => exact HC0_2.out); rintro e w12 ⟨rfl, hb⟩; refine ⟨_, rfl, ?_⟩; replace BK966 := kB BK966 hb; replace BKK := kB BKK hb; replace HB := kH _ hb; (try clear hb); (try clear hb2); (try clear hk); (try clear hi)))
 replace BK966 := kd BK966; replace BKK := kd BKK
 replace HB := ak (below_drew1 HB.out)
 refine sS (n := 11) (S := fun w' => w'.cell? ⟨gb966, 0, none⟩ = some (.int .i64 a0_0) ∧ w'.cell? ⟨gb966, 1, none⟩ = some (.slice A0_1 l0_1.length c0_1) ∧ w'.cell? ⟨gb966, 2, none⟩ = some (.slice A0_2 l0_2.length c0_2)) (ds := []) ⟨bc BK966 0, bc BK966 1, bc BK966 2⟩ (fun hHeld => ?_); refine with_tabW curves_Insert.tab4 curves_Insert.bits4 (fun HT_ HW_ => ?_)
 generalize w12.drew = w13 at BK966 BKK HB hHeld ⊢
 refine pS 0 24 11 1 ?_
 refine pS 3 27 11 9 ?_
 refine pS 6 30 11 73 ?_
 refine tS 1 25 11 75 ?_
 refine pS 2 26 11 79 ?_
 refine tS 4 28 11 95 ?_
 obtain ⟨hne9, hlt9, n9, ht9, hdel9⟩ := xDel.out A6.out
 have HT9 := Aside0.mk ht9
 clear ht9
 refine one_ (i := 5) (N := some 29) (ba 11 127) rfl rfl (one_of HT_.out (by kernel_rfl)) (by decide) (fun K hK => ?_)
 refine gC Try.func54 #[.slice A0_1 l0_1.length c0_1] ?_
 with_reducible refine (slices_Clone_int_int.calls _ _ l0_1 l0_1 _ ?side1 ?side2 (xDel.clone hlt9)).mono ?_
 (case side1 => exact kC HR0_1)
 (case side2 => exact HC0_1.out)
 rintro e w9C ⟨v9C, rfl, hv9C, hb⟩
 refine ⟨_, rfl, ?_⟩
 have hg9K := Aside0.mk (blk_lt BKK.out)
 have hg9B := Aside0.mk (blk_lt BK966.out)
 have HB9 := HB
 replace BK966 := kB BK966 hb
 replace BKK := kB BKK hb
 replace HB := kH _ hb
 have HV9 := Aside0.mk hv9C
 clear hb hv9C
 refine hK.out _ _ ⟨bc BK966 0, bc BK966 1, bc BK966 2⟩ (fun hHeld => ?_)
 clear hK K
 refine norm_ (a' := ?_) ?_ ?_
 rotate_left
 ·show Act.put _ (some 29) _ = _
  simp only [Act.put, List.setIfInBounds_toArray, List.set_cons_zero, List.set_cons_succ, i64_w, i32_w]
  rfl
 refine one_ (i := 7) (N := some 31) (ba 11 255) rfl rfl (one_of HT_.out (by kernel_rfl)) (by decide) (fun K hK => ?_)
 refine gC Try.func65 #[v9C, .func (.func 66) #[] #[.pointer (some ⟨gk9, 0, none⟩)]] ?_
 have hkc9 := bc BKK 0 (v := .int .i64 a1)
 with_reducible refine (hdel9 HV9.out gk9 hg9K.out (blk_lt BKK.out) hkc9).mono ?_
 rintro e w14 ⟨⟨Ad9, cd9, rfl⟩, hb⟩
 refine ⟨_, rfl, ?_⟩
 have nB_ := Aside0.mk ((hb.block gb966 hg9B.out).trans BK966.out)
 have nK_ := Aside0.mk ((hb.block gk9 hg9K.out).trans BKK.out)
 have nH_ := Aside0.mk (HB.out.trans (hb.mono HB9.out.size))
 clear BK966 BKK HB HV9 HB9
 have BK966 := nB_
 have BKK := nK_
 have HB := nH_
 clear nB_ nK_ nH_ hb
 refine hK.out _ _ ⟨bc BK966 0, bc BK966 1, bc BK966 2⟩ (fun hHeld => ?_)
 clear hK K
 refine norm_ (a' := ?_) ?_ ?_
 rotate_left
 ·show Act.put _ (some 31) _ = _
  simp only [Act.put, List.setIfInBounds_toArray, List.set_cons_zero, List.set_cons_succ, i64_w, i32_w]
  rfl
 refine pS 8 32 11 511 ?_; rw [← HT9.out]; have hkz9 := bc BKK 0 (v := .int .i64 a1)
 refine pS 9 33 11 1023 ?_
 refine pS 10 8 11 2047 ?_
 refine done_ (done_of HT_.out (by kernel_rfl)) ?_
 go_upto_region 5 with (fail)
 go_cut [34] (fun v34 wc => ∃ (kq : Nat) (x34_6 : Bool), v34 = .bool x34_6 ∧ Aside0 (curves_Insert.j0 kq a1 (wrap64 ((l0_1.length : Int) - t970)) x34_6 a0_0 l0_1 l0_2 = some (r1, r2)) ∧ Aside0 (kq ≤ k) ∧ Aside0 (wc.heap[gb966]? = some (.cells #[.int .i64 a0_0, (.slice A0_1 l0_1.length c0_1), (.slice A0_2 l0_2.length c0_2)] 30 (0, 0))) ∧ Aside0 (wc.heap[gk9]? = some (.cells #[.int .i64 a1] 3 (0, 0))) ∧ Aside0 (Below w.heap.size w wc))
 case first =>
  have H := HC7.out
  clear HC7
  by_cases c15 : a1 < t968
  ·rw [if_pos c15] at H
   have c15b0 : decide (a1 < t968) = true := decide_eq_true c15
   clear c15
   (first | rw [c15b0] | (simp only [i64_w, i32_w]; rw [c15b0]) | skip)
   have H' := Aside0.mk H
   clear H
   go_wp2
   go_meet
   case rel => exact ⟨_, (true), (by first | rfl | (simp; done) | (simp [*]; done)), H', ⟨by first | omega | exact Nat.le_refl _⟩, ⟨bkC BK966⟩, ⟨bkC BKK⟩, ⟨hbC _⟩⟩
  rw [if_neg c15] at H
  have c15b0 : decide (a1 < t968) = false := decide_eq_false c15
  clear c15
  (first | rw [c15b0] | (simp only [i64_w, i32_w]; rw [c15b0]) | skip)
  have H' := Aside0.mk H
  clear H
  go_wp2
  go_meet
  case rel => exact ⟨_, (decide (a1 ≥ t969)), (by first | rfl | (simp; done) | (simp [*]; done)), H', ⟨by first | omega | exact Nat.le_refl _⟩, ⟨bkC BK966⟩, ⟨bkC BKK⟩, ⟨hbC _⟩⟩
 case rest =>
  clear HC7
  try clear c1
  try clear p2
  try clear c4
  try clear c6
  try clear p6
  try clear c15
  try clear c15b0
  try clear hcz11_0
  try clear hcz11_1
  try clear hcz11_2
  try clear hcz9_0
  try clear hcz9_1
  try clear hcz9_2
  try clear hfz11_0
  try clear hfz11_1
  try clear hfz11_2
  try clear hfz9_0
  try clear hfz9_1
  try clear hfz9_2
  obtain ⟨kq, x34_6, rfl, HA, HJ6, BK966, BKK, HB⟩ := hcut; have hkz9 := bc BKK 0 (v := .int .i64 a1)
  cases kq with
  | zero => exact absurd HA.out (by simp [curves_Insert.j0])
  | succ kj6 =>
   have H := HA.out
   clear HA
   simp only [curves_Insert.j0] at H
   by_cases c16 : x34_6 = true
   ·subst c16
    have H1 : (some (([] : List (S26)), 2)) = some (r1, r2) := by rw [if_pos rfl] at H; exact H
    clear H
    have H := H1
    clear H1
    simp only [Option.some.injEq, Prod.mk.injEq] at H
    obtain ⟨rfl, rfl⟩ := H
    go_wp2
    go_ret2
    exact ⟨_, by first | rfl | (simp [errW_none, errW_some] <;> rfl) | (simp [*, errW_none, errW_some] <;> rfl), by first | exact Kd.R_nil _ _ _ _ _ | exact Kd.N_nil _ _ _ _ _ | exact Kd.V_nil _ _ _ _ _ | exact Kd.Q_nil _ _ _ _ _ | exact Kd.S_nil _ _ _ _ _, hbC _⟩
   replace c16 := Bool.eq_false_iff.mpr c16
   subst c16
   have H1 : (if (l0_2.length : Int) = 8 then (some (([] : List (S26)), 6)) else (if (wrap64 ((l0_1.length : Int) - t970)) = (wrap64 (a0_0 + 1)) then (some (([] : List (S26)), 4)) else (curves_Insert.l0 kj6 a1 0 l0_1 (l0_1.length : Int) 0 a0_0 l0_1 l0_2))) = some (r1, r2) := by rw [if_neg (show ¬ (false = true) by decide)] at H; exact H
   clear H
   have H := H1
   clear H1
   by_cases c17 : (l0_2.length : Int) = 8
   ·rw [if_pos c17] at H
    have c17b0 : ((l0_2.length : Int) == 8) = true := beq_iff_eq.mpr c17
    have c17b1 : ((l0_2.length : Int) != 8) = false := bne_eq_false_iff_eq.mpr c17
    clear c17
    simp only [Option.some.injEq, Prod.mk.injEq] at H
    obtain ⟨rfl, rfl⟩ := H
    have hcz18_0 : wc.cell? ⟨gb966, 0, none⟩ = some (.int .i64 a0_0) := bc BK966 0; have hcz18_k : wc.cell? ⟨gk9, 0, none⟩ = some (.int .i64 a1) := bc BKK 0
    have hcz18_1 : wc.cell? ⟨gb966, 1, none⟩ = some (.slice A0_1 l0_1.length c0_1) := bc BK966 1
    have hcz18_2 : wc.cell? ⟨gb966, 2, none⟩ = some (.slice A0_2 l0_2.length c0_2) := bc BK966 2
    have hfz18_0 := fz BK966 0; have hfz18_k := fz BKK 0
    have hfz18_1 := fz BK966 1
    have hfz18_2 := fz BK966 2
    go_wp2
    go_ret2
    exact ⟨_, by first | rfl | (simp [errW_none, errW_some] <;> rfl) | (simp [*, errW_none, errW_some] <;> rfl), by first | exact Kd.R_nil _ _ _ _ _ | exact Kd.N_nil _ _ _ _ _ | exact Kd.V_nil _ _ _ _ _ | exact Kd.Q_nil _ _ _ _ _ | exact Kd.S_nil _ _ _ _ _, hbC _⟩
   rw [if_neg c17] at H
   have c17b0 : ((l0_2.length : Int) == 8) = false := beq_eq_false_iff_ne.mpr c17
   have c17b1 : ((l0_2.length : Int) != 8) = true := bne_iff_ne.mpr c17
   by_cases c19 : (wrap64 ((l0_1.length : Int) - t970)) = (wrap64 (a0_0 + 1))
   ·rw [if_pos c19] at H
    have c19b0 : ((wrap64 ((l0_1.length : Int) - t970)) == (wrap64 (a0_0 + 1))) = true := beq_iff_eq.mpr c19
    have c19b1 : ((wrap64 ((l0_1.length : Int) - t970)) != (wrap64 (a0_0 + 1))) = false := bne_eq_false_iff_eq.mpr c19
    clear c19
    simp only [Option.some.injEq, Prod.mk.injEq] at H
    obtain ⟨rfl, rfl⟩ := H
    have hcz20_0 : wc.cell? ⟨gb966, 0, none⟩ = some (.int .i64 a0_0) := bc BK966 0; have hcz20_k : wc.cell? ⟨gk9, 0, none⟩ = some (.int .i64 a1) := bc BKK 0
    have hcz20_1 : wc.cell? ⟨gb966, 1, none⟩ = some (.slice A0_1 l0_1.length c0_1) := bc BK966 1
    have hcz20_2 : wc.cell? ⟨gb966, 2, none⟩ = some (.slice A0_2 l0_2.length c0_2) := bc BK966 2
    have hfz20_0 := fz BK966 0; have hfz20_k := fz BKK 0
    have hfz20_1 := fz BK966 1
    have hfz20_2 := fz BK966 2
    go_wp2
    go_ret2
    exact ⟨_, by first | rfl | (simp [errW_none, errW_some] <;> rfl) | (simp [*, errW_none, errW_some] <;> rfl), by first | exact Kd.R_nil _ _ _ _ _ | exact Kd.N_nil _ _ _ _ _ | exact Kd.V_nil _ _ _ _ _ | exact Kd.Q_nil _ _ _ _ _ | exact Kd.S_nil _ _ _ _ _, hbC _⟩
   rw [if_neg c19] at H
   have c19b0 : ((wrap64 ((l0_1.length : Int) - t970)) == (wrap64 (a0_0 + 1))) = false := beq_eq_false_iff_ne.mpr c19
   have c19b1 : ((wrap64 ((l0_1.length : Int) - t970)) != (wrap64 (a0_0 + 1))) = true := bne_iff_ne.mpr c19
   have H' := Aside0.mk H
   clear H
   have hcz21_0 : wc.cell? ⟨gb966, 0, none⟩ = some (.int .i64 a0_0) := bc BK966 0; have hcz21_k : wc.cell? ⟨gk9, 0, none⟩ = some (.int .i64 a1) := bc BKK 0
   have hcz21_1 : wc.cell? ⟨gb966, 1, none⟩ = some (.slice A0_1 l0_1.length c0_1) := bc BK966 1
   have hcz21_2 : wc.cell? ⟨gb966, 2, none⟩ = some (.slice A0_2 l0_2.length c0_2) := bc BK966 2
   have hfz21_0 := fz BK966 0; have hfz21_k := fz BKK 0
   have hfz21_1 := fz BK966 1
   have hfz21_2 := fz BK966 2
   go_wp2
   go_loopg [9, 57] kj6 (fun kq v9 v57 w' => ∃ (x9_2 : Int) (x57_2 : Int), v9 = .int .i64 x9_2 ∧ v57 = .int .i64 x57_2 ∧ Aside0 (curves_Insert.l0 kq a1 x9_2 l0_1 (l0_1.length : Int) x57_2 a0_0 l0_1 l0_2 = some (r1, r2)) ∧ Aside0 (kq ≤ kj6) ∧ Aside0 (w'.heap[gb966]? = some (.cells #[.int .i64 a0_0, (.slice A0_1 l0_1.length c0_1), (.slice A0_2 l0_2.length c0_2)] 30 (0, 0))) ∧ Aside0 (w'.heap[gk9]? = some (.cells #[.int .i64 a1] 3 (0, 0))) ∧ Aside0 (Below w.heap.size w w'))
   case atStart => exact ⟨(0), (0), (by first | rfl | (simp; done) | (simp [*]; done)), (by first | rfl | (simp; done) | (simp [*]; done)), H', ⟨Nat.le_refl _⟩, ⟨bkC BK966⟩, ⟨bkC BKK⟩, ⟨hbC _⟩⟩
   case round =>
    clear H'
    try clear c1
    try clear p2
    try clear c4
    try clear c6
    try clear p6
    try clear c15
    try clear c15b0
    try clear c16
    try clear c17
    try clear c17b0
    try clear c17b1
    try clear c19
    try clear c19b0
    try clear c19b1
    try clear hcz11_0
    try clear hcz11_1
    try clear hcz11_2
    try clear hcz18_0
    try clear hcz18_1
    try clear hcz18_2
    try clear hcz20_0
    try clear hcz20_1
    try clear hcz20_2
    try clear hcz21_0
    try clear hcz21_1
    try clear hcz21_2
    try clear hcz9_0
    try clear hcz9_1
    try clear hcz9_2
    try clear hfz11_0
    try clear hfz11_1
    try clear hfz11_2
    try clear hfz18_0
    try clear hfz18_1
    try clear hfz18_2
    try clear hfz20_0
    try clear hfz20_1
    try clear hfz20_2
    try clear hfz21_0
    try clear hfz21_1
    try clear hfz21_2
    try clear hfz9_0
    try clear hfz9_1
    try clear hfz9_2
    try clear p2
    try clear p6
    obtain ⟨x9_2, x57_2, rfl, rfl, HA, HK2, BK966, BKK, HB⟩ := hrel; have hkz9 := bc BKK 0 (v := .int .i64 a1)
    cases gk with
    | zero => exact absurd HA.out (by simp [curves_Insert.l0])
    | succ k2 =>
     have H := HA.out
     clear HA
     simp only [curves_Insert.l0] at H
     by_cases c22 : x57_2 < (l0_1.length : Int)
     ·rw [if_pos c22] at H
      have c22b0 : decide (x57_2 < (l0_1.length : Int)) = true := decide_eq_true c22
      clear c22
      by_cases c23 : 0 ≤ x57_2
      rotate_left
      ·rw [if_neg c23] at H
       exact absurd H (by simp)
      rw [if_pos c23] at H
      have c23b0 : decide (0 ≤ x57_2) = true := decide_eq_true c23
      clear c23
      by_cases c24 : x57_2 < (l0_1.length : Int)
      rotate_left
      ·rw [if_neg c24] at H
       exact absurd H (by simp)
      rw [if_pos c24] at H
      have c24b0 : decide (x57_2 < (l0_1.length : Int)) = true := decide_eq_true c24
      clear c24
      by_cases c25 : (rd l0_1 x57_2) ≤ a1
      ·rw [if_pos c25] at H
       have c25b0 : decide ((rd l0_1 x57_2) ≤ a1) = true := decide_eq_true c25
       clear c25
       have H' := Aside0.mk H
       clear H
       have p971 : 0 ≤ (x57_2 : Int) := dA
       have q971 : x57_2 < (l0_1.length : Int) := dA
       obtain ⟨ad971, e971, hx971_0⟩ := Kd.at_int HR0_1.out x57_2 p971 q971
       cases e971
       try replace hx971_0 := (HB.out.cell (World.block_lt_of_cell? w _ hx971_0)).trans hx971_0
       replace p971 := eq_true p971
       replace q971 := eq_true q971
       go_wp2
       go_roundg k2
       case measure => have := HJ6.out; have := HK2.out; omega
       case rel => exact ⟨(x57_2), (wrap64 (x57_2 + 1)), (by first | rfl | (simp; done) | (simp [*]; done)), (by first | rfl | (simp; done) | (simp [*]; done)), H', ⟨by have := HJ6.out; have := HK2.out; omega⟩, ⟨bkC BK966⟩, ⟨bkC BKK⟩, ⟨hbC _⟩⟩
      rw [if_neg c25] at H
      have c25b0 : decide ((rd l0_1 x57_2) ≤ a1) = false := decide_eq_false c25
      clear c25
      have H' := Aside0.mk H
      clear H
      have p971 : 0 ≤ (x57_2 : Int) := dA
      have q971 : x57_2 < (l0_1.length : Int) := dA
      obtain ⟨ad971, e971, hx971_0⟩ := Kd.at_int HR0_1.out x57_2 p971 q971
      cases e971
      try replace hx971_0 := (HB.out.cell (World.block_lt_of_cell? w _ hx971_0)).trans hx971_0
      replace p971 := eq_true p971
      replace q971 := eq_true q971
      go_wp2
      go_roundg k2
      case measure => have := HJ6.out; have := HK2.out; omega
      case rel => exact ⟨(x9_2), (wrap64 (x57_2 + 1)), (by first | rfl | (simp; done) | (simp [*]; done)), (by first | rfl | (simp; done) | (simp [*]; done)), H', ⟨by have := HJ6.out; have := HK2.out; omega⟩, ⟨bkC BK966⟩, ⟨bkC BKK⟩, ⟨hbC _⟩⟩
     rw [if_neg c22] at H
     have c22b0 : decide (x57_2 < (l0_1.length : Int)) = false := decide_eq_false c22
     clear c22
     have H' := Aside0.mk H
     clear H
     have hcz26_0 : wr.cell? ⟨gb966, 0, none⟩ = some (.int .i64 a0_0) := bc BK966 0; have hcz26_k : wr.cell? ⟨gk9, 0, none⟩ = some (.int .i64 a1) := bc BKK 0
     have hcz26_1 : wr.cell? ⟨gb966, 1, none⟩ = some (.slice A0_1 l0_1.length c0_1) := bc BK966 1
     have hcz26_2 : wr.cell? ⟨gb966, 2, none⟩ = some (.slice A0_2 l0_2.length c0_2) := bc BK966 2
     have hfz26_0 := fz BK966 0; have hfz26_k := fz BKK 0
     have hfz26_1 := fz BK966 1
     have hfz26_2 := fz BK966 2
     go_wp2
     go_loopg [12, 71] k2 (fun kq v12 v71 w' => ∃ (x12_3 : List (S76)) (x71_3 : Int), v71 = .int .i64 x71_3 ∧ Aside0 (curves_Insert.l1 kq a1 x9_2 x12_3 (wrap64 ((l0_2.length : Int) + 1)) x71_3 a0_0 l0_1 l0_2 = some (r1, r2)) ∧ Aside0 (kq ≤ k2) ∧ Aside0 (Kd.R k76 76 w' w.heap.size (fun _ => True) v12 x12_3) ∧ Aside0 (w'.heap[gb966]? = some (.cells #[.int .i64 a0_0, (.slice A0_1 l0_1.length c0_1), (.slice A0_2 l0_2.length c0_2)] 30 (0, 0))) ∧ Aside0 (w'.heap[gk9]? = some (.cells #[.int .i64 a1] 3 (0, 0))) ∧ Aside0 (Below w.heap.size w w'))
     case atStart => exact ⟨(([] : List (S76))), (0), (by first | rfl | (simp; done) | (simp [*]; done)), H', ⟨Nat.le_refl _⟩, ⟨by first | exact Kd.R_nil _ _ _ _ _ | exact Kd.N_nil _ _ _ _ _ | exact Kd.V_nil _ _ _ _ _ | exact Kd.Q_nil _ _ _ _ _ | exact Kd.S_nil _ _ _ _ _⟩, ⟨bkC BK966⟩, ⟨bkC BKK⟩, ⟨hbC _⟩⟩
     case round =>
      clear H'
      try clear c1
      try clear c2
      try clear p2
      try clear c4
      try clear c6
      try clear p6
      try clear p9
      try clear q9
      try clear hx9
      try clear c15
      try clear c15b0
      try clear c16
      try clear c17
      try clear c17b0
      try clear c17b1
      try clear c19
      try clear c19b0
      try clear c19b1
      try clear c22
      try clear c22b0
      try clear c23
      try clear c23b0
      try clear c24
      try clear c24b0
      try clear c25
      try clear c25b0
      try clear hcz11_0
      try clear hcz11_1
      try clear hcz11_2
      try clear hcz18_0
      try clear hcz18_1
      try clear hcz18_2
      try clear hcz20_0
      try clear hcz20_1
      try clear hcz20_2
      try clear hcz21_0
      try clear hcz21_1
      try clear hcz21_2
      try clear hcz26_0
      try clear hcz26_1
      try clear hcz26_2
      try clear hcz9_0
      try clear hcz9_1
      try clear hcz9_2
      try clear hfz11_0
      try clear hfz11_1
      try clear hfz11_2
      try clear hfz18_0
      try clear hfz18_1
      try clear hfz18_2
      try clear hfz20_0
      try clear hfz20_1
      try clear hfz20_2
      try clear hfz21_0
      try clear hfz21_1
      try clear hfz21_2
      try clear hfz26_0
      try clear hfz26_1
      try clear hfz26_2
      try clear hfz9_0
      try clear hfz9_1
      try clear hfz9_2
      try clear hx971_0
      try clear p2
      try clear p6
      try clear p971
      try clear q971
      obtain ⟨x12_3, x71_3, rfl, HA, HK3, HO_12, BK966, BKK, HB⟩ := hrel; have hkz9 := bc BKK 0 (v := .int .i64 a1)
      cases gk with
      | zero => exact absurd HA.out (by simp [curves_Insert.l1])
      | succ k3 =>
       have H := HA.out
       clear HA
       simp only [curves_Insert.l1] at H
       by_cases c27 : x71_3 < (wrap64 ((l0_2.length : Int) + 1))
       rotate_left
       ·rw [if_neg c27] at H
        have c27b0 : decide (x71_3 < (wrap64 ((l0_2.length : Int) + 1))) = false := decide_eq_false c27
        clear c27
        replace H := Option.bind_eq_some_iff.mp H
        obtain ⟨t972, A1000, H⟩ := H
        replace H : (some (t972, 0)) = some (r1, r2) := H
        have A100 := Aside0.mk A1000
        clear A1000
        simp only [Option.some.injEq, Prod.mk.injEq] at H
        obtain ⟨rfl, rfl⟩ := H
        obtain ⟨Ao101, co101, eo101⟩ := Kd.R_slice HO_12.out
        subst eo101
        go_wp2_with (first | ((with_reducible refine gate_callee (f := 52) rfl ?_); refine gL 143 Try.func52 #[.slice Ao101 x12_3.length co101] ?_; (with_reducible refine (curves_told.calls k3 _ _ x12_3 t972 _ ?side1 ?side2 A100.out).mono ?_); (case side1 => exact kD (Kd.R_reads' HO_12.out).2.2); (case side2 => exact (Kd.R_reads' HO_12.out).2.1); rintro e w102 ⟨v973, rfl, ho0, hb⟩; refine ⟨_, rfl, ?_⟩; replace HO_12 := kO HO_12 hb; have HO974 := ak (Kd.R_lower ho0 (below_size (hbC _))); replace BK966 := kB BK966 hb; replace BKK := kB BKK hb; replace HB := kH _ hb; (try clear hb); (try clear hb2); (try clear hk); (try clear hi); (try clear ho0)))
        go_ret2
        exact ⟨_, by first | rfl | (simp [errW_none, errW_some] <;> rfl) | (simp [*, errW_none, errW_some] <;> rfl), rC HO974, hbC _⟩
       rw [if_pos c27] at H
       have c27b0 : decide (x71_3 < (wrap64 ((l0_2.length : Int) + 1))) = true := decide_eq_true c27
       clear c27
       replace H := Option.bind_eq_some_iff.mp H
       obtain ⟨⟨t975, t976⟩, A280, H⟩ := H
       replace H : (if x71_3 ≤ (wrap64 (x9_2 - a0_0)) then ((curves_of.f k3 1 1).bind fun bt978 => (curves_Insert.j3 k3 a1 x9_2 x12_3 x71_3 (wrap64 ((l0_2.length : Int) + 1)) x71_3 a0_0 l0_1 l0_2 bt978.1 bt978.2)) else (if x71_3 ≤ x9_2 then (if 0 ≤ x71_3 then (if x71_3 < (l0_1.length : Int) then (if 0 ≤ (wrap64 (x71_3 + a0_0)) then (if (wrap64 (x71_3 + a0_0)) < (l0_1.length : Int) then ((curves_of.f k3 (wrap64 (a1 - (rd l0_1 x71_3))) (wrap64 ((rd l0_1 (wrap64 (x71_3 + a0_0))) - (rd l0_1 x71_3)))).bind fun bt983 => (curves_Insert.j3 k3 a1 x9_2 x12_3 x71_3 (wrap64 ((l0_2.length : Int) + 1)) x71_3 a0_0 l0_1 l0_2 bt983.1 bt983.2)) else (none)) else (none)) else (none)) else (none)) else (curves_Insert.j3 k3 a1 x9_2 x12_3 x71_3 (wrap64 ((l0_2.length : Int) + 1)) x71_3 a0_0 l0_1 l0_2 t975 t976))) = some (r1, r2) := H
       have A28 := Aside0.mk A280
       clear A280
       have HC29 := Aside0.mk H
       clear H
       go_upto_block 5 with (first | ((with_reducible refine gate_callee (f := 48) rfl ?_); refine gL 74 Try.func48 #[.int .i64 0, .int .i64 1] ?_; (with_reducible refine (curves_of.calls k3 0 1 t975 t976 _ A28.out).mono ?_); rintro e w30 ⟨rfl, hb⟩; refine ⟨_, rfl, ?_⟩; replace HO_12 := kO HO_12 hb; replace BK966 := kB BK966 hb; replace BKK := kB BKK hb; replace HB := kH _ hb; (try clear hb); (try clear hb2); (try clear hk); (try clear hi)) | ((with_reducible refine gate_dst (N := 14) rfl ?_); refine bE 14 #[.int .i64 0, .int .i64 0] 76 ?_; intro gb977 hg w31 hbox hb; replace HO_12 := ak (Kd.R_below (Kd.R_elderB (rC HO_12) gb977 (Nat.le_of_eq hg.symm)) hb); have BK977 := ak (hbox); have GW977 := kG w hg; have GE977 := kG w hg; replace HB := kH _ hb; have NB966_977 := kL BK966 hg; have NBK_977 := kL BKK hg; have NB977_966 := kR BK966 hg; have NB977_K := kR BKK hg; replace BK966 := kB BK966 hb; replace BKK := kB BKK hb; clear hb hbox hg; have hnb32 := NB977_966.out; have hnb32k := NB977_K.out; have hnc32 := NB966_977.out; have hnc32k := NBK_977.out; have hcz33_0 : w31.cell? ⟨gb977, 0, none⟩ = some (.int .i64 0) := bc BK977 0; have hcz33_1 : w31.cell? ⟨gb977, 1, none⟩ = some (.int .i64 0) := bc BK977 1; have hfz33_0 := fz BK977 0; have hfz33_1 := fz BK977 1))
       (try simp only [Act.put, List.setIfInBounds_toArray, List.set_cons_zero, List.set_cons_succ])
       go_cut [] (fun wc => ∃ (kq : Nat) (x978000_28 : Int) (x978001_28 : Int), Aside0 (curves_Insert.j3 kq a1 x9_2 x12_3 x71_3 (wrap64 ((l0_2.length : Int) + 1)) x71_3 a0_0 l0_1 l0_2 x978000_28 x978001_28 = some (r1, r2)) ∧ Aside0 (kq ≤ k3) ∧ Aside0 (Kd.R k76 76 wc w.heap.size (fun k_ => k_ ≠ gb977) u12 x12_3) ∧ Aside0 (wc.heap[gb966]? = some (.cells #[.int .i64 a0_0, (.slice A0_1 l0_1.length c0_1), (.slice A0_2 l0_2.length c0_2)] 30 (0, 0))) ∧ Aside0 (wc.heap[gk9]? = some (.cells #[.int .i64 a1] 3 (0, 0))) ∧ Aside0 (wc.heap[gb977]? = some (.cells #[.int .i64 x978000_28, .int .i64 x978001_28] 76 (0, 0))) ∧ Aside0 (Below w.heap.size w wc))
       case first =>
        have H := HC29.out
        clear HC29
        by_cases c34 : x71_3 ≤ (wrap64 (x9_2 - a0_0))
        ·rw [if_pos c34] at H
         have c34b0 : decide (x71_3 ≤ (wrap64 (x9_2 - a0_0))) = true := decide_eq_true c34
         clear c34
         (first | rw [c34b0] | (simp only [i64_w, i32_w]; rw [c34b0]) | skip)
         replace H := Option.bind_eq_some_iff.mp H
         obtain ⟨⟨t978, t979⟩, A350, H⟩ := H
         replace H : (curves_Insert.j3 k3 a1 x9_2 x12_3 x71_3 (wrap64 ((l0_2.length : Int) + 1)) x71_3 a0_0 l0_1 l0_2 t978 t979) = some (r1, r2) := H
         have A35 := Aside0.mk A350
         clear A350
         have H' := Aside0.mk H
         clear H
         have hnb36 := NB966_977.out; have hnb36k := NBK_977.out
         have hnc36 := NB977_966.out; have hnc36k := NB977_K.out
         have hcz37_0 : w31.cell? ⟨gb966, 0, none⟩ = some (.int .i64 a0_0) := bc BK966 0; have hcz37_k : w31.cell? ⟨gk9, 0, none⟩ = some (.int .i64 a1) := bc BKK 0
         have hcz37_1 : w31.cell? ⟨gb966, 1, none⟩ = some (.slice A0_1 l0_1.length c0_1) := bc BK966 1
         have hcz37_2 : w31.cell? ⟨gb966, 2, none⟩ = some (.slice A0_2 l0_2.length c0_2) := bc BK966 2
         have hfz37_0 := fz BK966 0; have hfz37_k := fz BKK 0
         have hfz37_1 := fz BK966 1
         have hfz37_2 := fz BK966 2
         go_wp2_with (first | ((with_reducible refine gate_callee (f := 48) rfl ?_); refine gL 82 Try.func48 #[.int .i64 1, .int .i64 1] ?_; (with_reducible refine (curves_of.calls k3 1 1 t978 t979 _ A35.out).mono ?_); rintro e w38 ⟨rfl, hb⟩; refine ⟨_, rfl, ?_⟩; replace HO_12 := ak (Kd.R_below (rD ((Kd.R_mono (Kd.R_far (p := ⟨gb977, 1, none⟩) (Kd.R_far (p := ⟨gb977, 0, none⟩) (Kd.R_mono HO_12.out (fun k_ hk => (⟨hk, hk.2⟩ : _ ∧ k_ ≠ gb977))) (fun _ hk => hk.2) (.int .i64 t975)) (fun _ hk => hk.2) (.int .i64 t976)) (fun _ h_ => h_.1)))) hb); replace BK966 := ak (blk_below (g := gb966) (o := .cells #[.int .i64 a0_0, .slice A0_1 l0_1.length c0_1, .slice A0_2 l0_2.length c0_2] 30 (0, 0)) (bF BK966) hb); replace BKK := ak (blk_below (g := gk9) (o := .cells #[.int .i64 a1] 3 (0, 0)) (bF BKK) hb); replace BK977 := ak (blk_below (g := gb977) (o := .cells #[.int .i64 t975, .int .i64 t976] 76 (0, 0)) (by (with_reducible repeat (first | refine blk_drewN ?_ _ | refine blk_drew ?_ | refine blk_alloc ?_ _)); refine blk_put (cs := #[.int .i64 t975, .int .i64 0]) ?_ 1 _ rfl; (with_reducible repeat (first | refine blk_drewN ?_ _ | refine blk_drew ?_ | refine blk_alloc ?_ _)); refine blk_put (cs := #[.int .i64 0, .int .i64 0]) ?_ 0 _ rfl; (with_reducible repeat (first | refine blk_drewN ?_ _ | refine blk_drew ?_ | refine blk_alloc ?_ _)); exact BK977.out) hb); replace HB := kH _ hb; (try clear hb); (try clear hb2); (try clear hk); (try clear hi); have hcz39_0 : w38.cell? ⟨gb977, 0, none⟩ = some (.int .i64 t975) := bc BK977 0; have hcz39_1 : w38.cell? ⟨gb977, 1, none⟩ = some (.int .i64 t976) := bc BK977 1; have hfz39_0 := fz BK977 0; have hfz39_1 := fz BK977 1))
         go_meet
         case rel => exact ⟨_, (t978), (t979), H', ⟨by have := HJ6.out; have := HK2.out; have := HK3.out; first | omega | exact Nat.le_refl _⟩, ⟨rD (Kd.R_mono (Kd.R_far (p := ⟨gb977, 1, none⟩) (Kd.R_far (p := ⟨gb977, 0, none⟩) (Kd.R_mono HO_12.out (fun k_ hk => (⟨hk, hk.2⟩ : _ ∧ k_ ≠ gb977))) (fun _ hk => hk.2) (.int .i64 t978)) (fun _ hk => hk.2) (.int .i64 t979)) (fun _ hk => hk.1.2))⟩, ⟨bF BK966⟩, ⟨bF BKK⟩, ⟨by (with_reducible repeat (first | refine blk_drewN ?_ _ | refine blk_drew ?_ | refine blk_alloc ?_ _)); refine blk_put (cs := #[.int .i64 t978, .int .i64 t976]) ?_ 1 _ rfl; (with_reducible repeat (first | refine blk_drewN ?_ _ | refine blk_drew ?_ | refine blk_alloc ?_ _)); refine blk_put (cs := #[.int .i64 t975, .int .i64 t976]) ?_ 0 _ rfl; (with_reducible repeat (first | refine blk_drewN ?_ _ | refine blk_drew ?_ | refine blk_alloc ?_ _)); exact BK977.out⟩, ⟨hbC _⟩⟩
        rw [if_neg c34] at H
        have c34b0 : decide (x71_3 ≤ (wrap64 (x9_2 - a0_0))) = false := decide_eq_false c34
        clear c34
        (first | rw [c34b0] | (simp only [i64_w, i32_w]; rw [c34b0]) | skip)
        by_cases c40 : x71_3 ≤ x9_2
        rotate_left
        ·rw [if_neg c40] at H
         have c40b0 : decide (x71_3 ≤ x9_2) = false := decide_eq_false c40
         clear c40
         have H' := Aside0.mk H
         clear H
         have hnb54 := NB966_977.out; have hnb54k := NBK_977.out
         have hnc54 := NB977_966.out; have hnc54k := NB977_K.out
         have hcz55_0 : w31.cell? ⟨gb966, 0, none⟩ = some (.int .i64 a0_0) := bc BK966 0; have hcz55_k : w31.cell? ⟨gk9, 0, none⟩ = some (.int .i64 a1) := bc BKK 0
         have hcz55_1 : w31.cell? ⟨gb966, 1, none⟩ = some (.slice A0_1 l0_1.length c0_1) := bc BK966 1
         have hcz55_2 : w31.cell? ⟨gb966, 2, none⟩ = some (.slice A0_2 l0_2.length c0_2) := bc BK966 2
         have hfz55_0 := fz BK966 0; have hfz55_k := fz BKK 0
         have hfz55_1 := fz BK966 1
         have hfz55_2 := fz BK966 2
         go_wp2
         go_meet
         case rel => exact ⟨_, (t975), (t976), H', ⟨by have := HJ6.out; have := HK2.out; have := HK3.out; first | omega | exact Nat.le_refl _⟩, ⟨rD (Kd.R_mono (Kd.R_far (p := ⟨gb977, 1, none⟩) (Kd.R_far (p := ⟨gb977, 0, none⟩) (Kd.R_mono HO_12.out (fun k_ hk => (⟨hk, hk.2⟩ : _ ∧ k_ ≠ gb977))) (fun _ hk => hk.2) (.int .i64 t975)) (fun _ hk => hk.2) (.int .i64 t976)) (fun _ hk => hk.1.2))⟩, ⟨bF BK966⟩, ⟨bF BKK⟩, ⟨by (with_reducible repeat (first | refine blk_drewN ?_ _ | refine blk_drew ?_ | refine blk_alloc ?_ _)); refine blk_put (cs := #[.int .i64 t975, .int .i64 0]) ?_ 1 _ rfl; (with_reducible repeat (first | refine blk_drewN ?_ _ | refine blk_drew ?_ | refine blk_alloc ?_ _)); refine blk_put (cs := #[.int .i64 0, .int .i64 0]) ?_ 0 _ rfl; (with_reducible repeat (first | refine blk_drewN ?_ _ | refine blk_drew ?_ | refine blk_alloc ?_ _)); exact BK977.out⟩, ⟨hbC _⟩⟩
        rw [if_pos c40] at H
        have c40b0 : decide (x71_3 ≤ x9_2) = true := decide_eq_true c40
        clear c40
        by_cases c41 : 0 ≤ x71_3
        rotate_left
        ·rw [if_neg c41] at H
         exact absurd H (by simp)
        rw [if_pos c41] at H
        have c41b0 : decide (0 ≤ x71_3) = true := decide_eq_true c41
        clear c41
        by_cases c42 : x71_3 < (l0_1.length : Int)
        rotate_left
        ·rw [if_neg c42] at H
         exact absurd H (by simp)
        rw [if_pos c42] at H
        have c42b0 : decide (x71_3 < (l0_1.length : Int)) = true := decide_eq_true c42
        clear c42
        obtain ⟨ji43, hji43⟩ : ∃ j_ : Int, (wrap64 (x71_3 + a0_0)) = j_ := ⟨_, rfl⟩
        replace H : (if 0 ≤ (ji43) then (if (ji43) < (l0_1.length : Int) then ((curves_of.f k3 (wrap64 (a1 - (rd l0_1 x71_3))) (wrap64 ((rd l0_1 (ji43)) - (rd l0_1 x71_3)))).bind fun bt983 => (curves_Insert.j3 k3 a1 x9_2 x12_3 x71_3 (wrap64 ((l0_2.length : Int) + 1)) x71_3 a0_0 l0_1 l0_2 bt983.1 bt983.2)) else (none)) else (none)) = some (r1, r2) := by first | (rw [hji43] at H; exact H) | (simp only [hji43] at H ⊢; exact H)
        have hji43w : (IntKind.i64.wrap (x71_3 + a0_0)) = ji43 := (i64_w _).trans hji43
        by_cases c44 : 0 ≤ (ji43)
        rotate_left
        ·rw [if_neg c44] at H
         exact absurd H (by simp)
        rw [if_pos c44] at H
        have c44b0 : decide (0 ≤ (ji43)) = true := decide_eq_true c44
        clear c44
        by_cases c45 : (ji43) < (l0_1.length : Int)
        rotate_left
        ·rw [if_neg c45] at H
         exact absurd H (by simp)
        rw [if_pos c45] at H
        have c45b0 : decide ((ji43) < (l0_1.length : Int)) = true := decide_eq_true c45
        clear c45
        replace H := Option.bind_eq_some_iff.mp H
        obtain ⟨⟨t983, t984⟩, A460, H⟩ := H
        replace H : (curves_Insert.j3 k3 a1 x9_2 x12_3 x71_3 (wrap64 ((l0_2.length : Int) + 1)) x71_3 a0_0 l0_1 l0_2 t983 t984) = some (r1, r2) := H
        have A46 := Aside0.mk A460
        clear A460
        have H' := Aside0.mk H
        clear H
        have hnb47 := NB966_977.out; have hnb47k := NBK_977.out
        have hnc47 := NB977_966.out; have hnc47k := NB977_K.out
        have hcz48_0 : w31.cell? ⟨gb966, 0, none⟩ = some (.int .i64 a0_0) := bc BK966 0; have hcz48_k : w31.cell? ⟨gk9, 0, none⟩ = some (.int .i64 a1) := bc BKK 0
        have hcz48_1 : w31.cell? ⟨gb966, 1, none⟩ = some (.slice A0_1 l0_1.length c0_1) := bc BK966 1
        have hcz48_2 : w31.cell? ⟨gb966, 2, none⟩ = some (.slice A0_2 l0_2.length c0_2) := bc BK966 2
        have hfz48_0 := fz BK966 0; have hfz48_k := fz BKK 0
        have hfz48_1 := fz BK966 1
        have hfz48_2 := fz BK966 2
        try go_wp2
        have n0_ : Aside0 (Kd.R k76 76 ((w31.setCell ⟨gb977, 0, none⟩ (.int .i64 t975)).setCell ⟨gb977, 1, none⟩ (.int .i64 t976)) w.heap.size (fun k_ => k_ ≠ gb977) u12 x12_3) := ⟨rD (Kd.R_mono (Kd.R_far (p := ⟨gb977, 1, none⟩) (Kd.R_far (p := ⟨gb977, 0, none⟩) (Kd.R_mono HO_12.out (fun k_ hk => (⟨hk, hk.2⟩ : _ ∧ k_ ≠ gb977))) (fun _ hk => hk.2) (.int .i64 t975)) (fun _ hk => hk.2) (.int .i64 t976)) (fun _ hk => hk.1.2))⟩
        have n1_ : Aside0 (((w31.setCell ⟨gb977, 0, none⟩ (.int .i64 t975)).setCell ⟨gb977, 1, none⟩ (.int .i64 t976)).heap[gb966]? = some (.cells #[.int .i64 a0_0, .slice A0_1 l0_1.length c0_1, .slice A0_2 l0_2.length c0_2] 30 (0, 0))) := ⟨bF BK966⟩; have nK_ : Aside0 (((w31.setCell ⟨gb977, 0, none⟩ (.int .i64 t975)).setCell ⟨gb977, 1, none⟩ (.int .i64 t976)).heap[gk9]? = some (.cells #[.int .i64 a1] 3 (0, 0))) := ⟨bF BKK⟩
        have n2_ : Aside0 (((w31.setCell ⟨gb977, 0, none⟩ (.int .i64 t975)).setCell ⟨gb977, 1, none⟩ (.int .i64 t976)).heap[gb977]? = some (.cells #[.int .i64 t975, .int .i64 t976] 76 (0, 0))) := ⟨by (with_reducible repeat (first | refine blk_drewN ?_ _ | refine blk_drew ?_ | refine blk_alloc ?_ _)); refine blk_put (cs := #[.int .i64 t975, .int .i64 0]) ?_ 1 _ rfl; (with_reducible repeat (first | refine blk_drewN ?_ _ | refine blk_drew ?_ | refine blk_alloc ?_ _)); refine blk_put (cs := #[.int .i64 0, .int .i64 0]) ?_ 0 _ rfl; (with_reducible repeat (first | refine blk_drewN ?_ _ | refine blk_drew ?_ | refine blk_alloc ?_ _)); exact BK977.out⟩
        have n3_ : Aside0 (Below w.heap.size w ((w31.setCell ⟨gb977, 0, none⟩ (.int .i64 t975)).setCell ⟨gb977, 1, none⟩ (.int .i64 t976))) := ⟨hbC _⟩
        (try clear HO_12)
        (try clear BK966); (try clear BKK)
        (try clear BK977)
        (try clear HB)
        generalize ((w31.setCell ⟨gb977, 0, none⟩ (.int .i64 t975)).setCell ⟨gb977, 1, none⟩ (.int .i64 t976)) = w49 at n0_ n1_ n2_ n3_ nK_ ⊢
        have HO_12 := n0_
        have BK966 := n1_; have BKK := nK_
        have BK977 := n2_
        have HB := n3_
        clear n0_ n1_ n2_ n3_ nK_
        replace HO_12 := ak (Kd.R_drew HO_12.out)
        replace BK966 := kd BK966; replace BKK := kd BKK
        replace BK977 := kd BK977
        replace HB := ak (below_drew1 HB.out)
        have p980 : 0 ≤ (x71_3 : Int) := dA
        have q980 : x71_3 < (l0_1.length : Int) := dA
        obtain ⟨ad980, e980, hx980_0⟩ := Kd.at_int HR0_1.out x71_3 p980 q980
        have hw980_0 := hx980_0
        cases e980
        try replace hx980_0 := (HB.out.cell (World.block_lt_of_cell? w _ hx980_0)).trans hx980_0
        replace p980 := eq_true p980
        replace q980 := eq_true q980
        have p981 : 0 ≤ ((ji43) : Int) := dA
        have q981 : (ji43) < (l0_1.length : Int) := dA
        obtain ⟨ad981, e981, hx981_0⟩ := Kd.at_int HR0_1.out (ji43) p981 q981
        have hw981_0 := hx981_0
        obtain rfl : ad980 = ad981 := (by injection e981)
        try replace hx981_0 := (HB.out.cell (World.block_lt_of_cell? w _ hx981_0)).trans hx981_0
        replace p981 := eq_true p981
        replace q981 := eq_true q981
        have p982 : 0 ≤ (x71_3 : Int) := dA
        have q982 : x71_3 < (l0_1.length : Int) := dA
        obtain ⟨ad982, e982, hx982_0⟩ := Kd.at_int HR0_1.out x71_3 p982 q982
        have hw982_0 := hx982_0
        obtain rfl : ad980 = ad982 := (by injection e982)
        try replace hx982_0 := (HB.out.cell (World.block_lt_of_cell? w _ hx982_0)).trans hx982_0
        replace p982 := eq_true p982
        replace q982 := eq_true q982
        refine sS (n := 23) (S := fun w' => w'.cell? ⟨gk9, 0, none⟩ = some (.int .i64 a1) ∧ w'.cell? ⟨gb966, 0, none⟩ = some (.int .i64 a0_0) ∧ w'.cell? ⟨gb966, 1, none⟩ = some (.slice (some ad980) l0_1.length c0_1) ∧ w'.cell? ⟨gb966, 2, none⟩ = some (.slice A0_2 l0_2.length c0_2) ∧ w'.cell? (ad980.add (x71_3).toNat) = some (.int .i64 (rd l0_1 x71_3)) ∧ w'.cell? (ad980.add ((ji43)).toNat) = some (.int .i64 (rd l0_1 (ji43))) ∧ w'.cell? (ad980.add (x71_3).toNat) = some (.int .i64 (rd l0_1 x71_3))) (ds := []) ⟨bc BKK 0, bc BK966 0, bc BK966 1, bc BK966 2, ((HB.out.cell (World.block_lt_of_cell? w _ hw980_0)).trans hw980_0), ((HB.out.cell (World.block_lt_of_cell? w _ hw981_0)).trans hw981_0), ((HB.out.cell (World.block_lt_of_cell? w _ hw982_0)).trans hw982_0)⟩ (fun hHeld => ?_); refine with_tabW curves_Insert.tab26 curves_Insert.bits26 (fun HT_ HW_ => ?_)
        generalize w49.drew = w50 at HO_12 BK966 BKK BK977 HB hx980_0 hx981_0 hx982_0 hHeld ⊢
        refine tS 0 87 23 1 ?_
        refine pS 1 88 23 3 ?_
        refine pS 3 90 23 11 ?_
        refine pS 7 94 23 139 ?_
        refine pS 9 96 23 651 ?_
        refine pS 10 97 23 1675 ?_
        refine pS 15 102 23 34443 ?_
        refine pS 17 104 23 165515 ?_
        refine tS 2 89 23 165519 ?_
        refine pS 4 91 23 165535 ?_
        refine tS 5 92 23 165567 ?_
        refine pS 6 93 23 165631 ?_
        refine tS 8 95 23 165887 ?_
        refine tS 11 98 23 167935 ?_
        refine pS 12 99 23 172031 ?_
        refine pS 13 100 23 180223 ?_
        refine tS 14 101 23 196607 ?_
        refine tS 16 103 23 262143 ?_
        refine pS 18 105 23 524287 ?_
        refine tS 19 106 23 1048575 ?_
        refine pS 20 107 23 2097151 ?_
        refine one_ (i := 21) (N := some 108) (ba 23 4194303) rfl rfl (one_of HT_.out (by kernel_rfl)) (by decide) (fun K hK => ?_)
        refine goes_ Try.func48 (by kernel_rfl) rfl #[.int .i64 (wrap64 (a1 - (rd l0_1 x71_3))), .int .i64 (wrap64 ((rd l0_1 (ji43)) - (rd l0_1 x71_3)))] (by rfl) rfl rfl (by (try simp only [List.map_toArray, List.map_cons, List.map_nil]); first | done | (simp only [hji43]; rfl) | rfl | (simp only [List.length_drop, List.length_take]; rfl)) ?_
        with_reducible refine (curves_of.calls k3 (wrap64 (a1 - (rd l0_1 x71_3))) (wrap64 ((rd l0_1 (ji43)) - (rd l0_1 x71_3))) t983 t984 _ A46.out).mono ?_
        rintro e w51 ⟨rfl, hb⟩
        refine ⟨_, rfl, ?_⟩
        replace HO_12 := kO HO_12 hb
        replace BK966 := kB BK966 hb; replace BKK := kB BKK hb
        replace BK977 := kB BK977 hb
        replace HB := kH _ hb
        (try clear hb)
        (try clear hb2)
        (try clear hk)
        (try clear hi)
        refine hK.out _ _ ⟨bc BKK 0, bc BK966 0, bc BK966 1, bc BK966 2, ((HB.out.cell (World.block_lt_of_cell? w _ hw980_0)).trans hw980_0), ((HB.out.cell (World.block_lt_of_cell? w _ hw981_0)).trans hw981_0), ((HB.out.cell (World.block_lt_of_cell? w _ hw982_0)).trans hw982_0)⟩ (fun hHeld => ?_)
        clear hK K
        refine norm_ (a' := ?_) ?_ ?_
        rotate_left
        ·show Act.put _ (some 108) _ = _
         simp only [Act.put, List.setIfInBounds_toArray, List.set_cons_zero, List.set_cons_succ, i64_w, i32_w]
         rfl
        refine one_ (i := 22) (N := none) (ba 23 8388607) rfl rfl (one_of HT_.out (by kernel_rfl)) (by decide) (fun K hK => ?_)
        have hs52 : w51.cell? ⟨gb977, 0, none⟩ = some (.int .i64 t975) := bc BK977 0
        have hfs52 := fz BK977 0
        have hns52_0 := NB966_977.out; have hns52_0k := NBK_977.out
        have hms52_0 := NB977_966.out; have hms52_0k := NB977_K.out
        have hs53 : w51.cell? ⟨gb977, 1, none⟩ = some (.int .i64 t976) := bc BK977 1
        have hfs53 := fz BK977 1
        have hns53_0 := NB966_977.out; have hns53_0k := NBK_977.out
        have hms53_0 := NB977_966.out; have hms53_0k := NB977_K.out
        refine skip_ (w1 := ?_) (by rfl) rfl ?_ ?_
        rotate_left
        ·go_simp
         rfl
        refine hK.out _ _ ⟨((cell_far (p := ⟨gb977, _, none⟩) NBK_977.out _).trans (((cell_far (p := ⟨gb977, _, none⟩) NBK_977.out _).trans ((hHeld.1))))), ((cell_far (p := ⟨gb977, _, none⟩) NB966_977.out _).trans (((cell_far (p := ⟨gb977, _, none⟩) NB966_977.out _).trans (hHeld.2.1)))), ((cell_far (p := ⟨gb977, _, none⟩) NB966_977.out _).trans (((cell_far (p := ⟨gb977, _, none⟩) NB966_977.out _).trans (hHeld.2.2.1)))), ((cell_far (p := ⟨gb977, _, none⟩) NB966_977.out _).trans (((cell_far (p := ⟨gb977, _, none⟩) NB966_977.out _).trans (hHeld.2.2.2.1)))), ((cell_far (p := ⟨gb977, _, none⟩) (by first | exact Nat.ne_of_lt (Nat.lt_of_lt_of_le (by have := World.block_lt_of_cell? _ _ hw980_0; first | rwa [add_block] at this | exact this) GW977.out) | (rw [add_block]; exact Nat.ne_of_lt (Nat.lt_of_lt_of_le (by have := World.block_lt_of_cell? _ _ hw980_0; first | rwa [add_block] at this | exact this) GW977.out)) | (show (Addr.add _ _).block ≠ _; rw [add_block]; exact Nat.ne_of_lt (Nat.lt_of_lt_of_le (by have := World.block_lt_of_cell? _ _ hw980_0; first | rwa [add_block] at this | exact this) GW977.out)) | (dsimp only; exact Nat.ne_of_lt (Nat.lt_of_lt_of_le (by have := World.block_lt_of_cell? _ _ hw980_0; first | rwa [add_block] at this | exact this) GW977.out))) _).trans (((cell_far (p := ⟨gb977, _, none⟩) (by first | exact Nat.ne_of_lt (Nat.lt_of_lt_of_le (by have := World.block_lt_of_cell? _ _ hw980_0; first | rwa [add_block] at this | exact this) GW977.out) | (rw [add_block]; exact Nat.ne_of_lt (Nat.lt_of_lt_of_le (by have := World.block_lt_of_cell? _ _ hw980_0; first | rwa [add_block] at this | exact this) GW977.out)) | (show (Addr.add _ _).block ≠ _; rw [add_block]; exact Nat.ne_of_lt (Nat.lt_of_lt_of_le (by have := World.block_lt_of_cell? _ _ hw980_0; first | rwa [add_block] at this | exact this) GW977.out)) | (dsimp only; exact Nat.ne_of_lt (Nat.lt_of_lt_of_le (by have := World.block_lt_of_cell? _ _ hw980_0; first | rwa [add_block] at this | exact this) GW977.out))) _).trans (hHeld.2.2.2.2.1)))), ((cell_far (p := ⟨gb977, _, none⟩) (by first | exact Nat.ne_of_lt (Nat.lt_of_lt_of_le (by have := World.block_lt_of_cell? _ _ hw981_0; first | rwa [add_block] at this | exact this) GW977.out) | (rw [add_block]; exact Nat.ne_of_lt (Nat.lt_of_lt_of_le (by have := World.block_lt_of_cell? _ _ hw981_0; first | rwa [add_block] at this | exact this) GW977.out)) | (show (Addr.add _ _).block ≠ _; rw [add_block]; exact Nat.ne_of_lt (Nat.lt_of_lt_of_le (by have := World.block_lt_of_cell? _ _ hw981_0; first | rwa [add_block] at this | exact this) GW977.out)) | (dsimp only; exact Nat.ne_of_lt (Nat.lt_of_lt_of_le (by have := World.block_lt_of_cell? _ _ hw981_0; first | rwa [add_block] at this | exact this) GW977.out))) _).trans (((cell_far (p := ⟨gb977, _, none⟩) (by first | exact Nat.ne_of_lt (Nat.lt_of_lt_of_le (by have := World.block_lt_of_cell? _ _ hw981_0; first | rwa [add_block] at this | exact this) GW977.out) | (rw [add_block]; exact Nat.ne_of_lt (Nat.lt_of_lt_of_le (by have := World.block_lt_of_cell? _ _ hw981_0; first | rwa [add_block] at this | exact this) GW977.out)) | (show (Addr.add _ _).block ≠ _; rw [add_block]; exact Nat.ne_of_lt (Nat.lt_of_lt_of_le (by have := World.block_lt_of_cell? _ _ hw981_0; first | rwa [add_block] at this | exact this) GW977.out)) | (dsimp only; exact Nat.ne_of_lt (Nat.lt_of_lt_of_le (by have := World.block_lt_of_cell? _ _ hw981_0; first | rwa [add_block] at this | exact this) GW977.out))) _).trans (hHeld.2.2.2.2.2.1)))), ((cell_far (p := ⟨gb977, _, none⟩) (by first | exact Nat.ne_of_lt (Nat.lt_of_lt_of_le (by have := World.block_lt_of_cell? _ _ hw982_0; first | rwa [add_block] at this | exact this) GW977.out) | (rw [add_block]; exact Nat.ne_of_lt (Nat.lt_of_lt_of_le (by have := World.block_lt_of_cell? _ _ hw982_0; first | rwa [add_block] at this | exact this) GW977.out)) | (show (Addr.add _ _).block ≠ _; rw [add_block]; exact Nat.ne_of_lt (Nat.lt_of_lt_of_le (by have := World.block_lt_of_cell? _ _ hw982_0; first | rwa [add_block] at this | exact this) GW977.out)) | (dsimp only; exact Nat.ne_of_lt (Nat.lt_of_lt_of_le (by have := World.block_lt_of_cell? _ _ hw982_0; first | rwa [add_block] at this | exact this) GW977.out))) _).trans (((cell_far (p := ⟨gb977, _, none⟩) (by first | exact Nat.ne_of_lt (Nat.lt_of_lt_of_le (by have := World.block_lt_of_cell? _ _ hw982_0; first | rwa [add_block] at this | exact this) GW977.out) | (rw [add_block]; exact Nat.ne_of_lt (Nat.lt_of_lt_of_le (by have := World.block_lt_of_cell? _ _ hw982_0; first | rwa [add_block] at this | exact this) GW977.out)) | (show (Addr.add _ _).block ≠ _; rw [add_block]; exact Nat.ne_of_lt (Nat.lt_of_lt_of_le (by have := World.block_lt_of_cell? _ _ hw982_0; first | rwa [add_block] at this | exact this) GW977.out)) | (dsimp only; exact Nat.ne_of_lt (Nat.lt_of_lt_of_le (by have := World.block_lt_of_cell? _ _ hw982_0; first | rwa [add_block] at this | exact this) GW977.out))) _).trans (hHeld.2.2.2.2.2.2))))⟩ (fun hHeld => ?_)
        clear hK K
        refine done_ (done_of HT_.out (by kernel_rfl)) ?_
        try go_wp2
        go_meet
        case rel => exact ⟨_, (t983), (t984), H', ⟨by have := HJ6.out; have := HK2.out; have := HK3.out; first | omega | exact Nat.le_refl _⟩, ⟨rD (Kd.R_mono (Kd.R_far (p := ⟨gb977, 1, none⟩) (Kd.R_far (p := ⟨gb977, 0, none⟩) (Kd.R_mono HO_12.out (fun k_ hk => (⟨hk, hk⟩ : _ ∧ k_ ≠ gb977))) (fun _ hk => hk.2) (.int .i64 t983)) (fun _ hk => hk.2) (.int .i64 t984)) (fun _ hk => hk.1))⟩, ⟨bF BK966⟩, ⟨bF BKK⟩, ⟨by (with_reducible repeat (first | refine blk_drewN ?_ _ | refine blk_drew ?_ | refine blk_alloc ?_ _)); refine blk_put (cs := #[.int .i64 t983, .int .i64 t976]) ?_ 1 _ rfl; (with_reducible repeat (first | refine blk_drewN ?_ _ | refine blk_drew ?_ | refine blk_alloc ?_ _)); refine blk_put (cs := #[.int .i64 t975, .int .i64 t976]) ?_ 0 _ rfl; (with_reducible repeat (first | refine blk_drewN ?_ _ | refine blk_drew ?_ | refine blk_alloc ?_ _)); exact BK977.out⟩, ⟨hbC _⟩⟩
       case rest =>
        clear HC29
        try clear c1
        try clear c2
        try clear p2
        try clear c3
        try clear c4
        try clear c5
        try clear c6
        try clear p6
        try clear p9
        try clear q9
        try clear hx9
        try clear c15
        try clear c15b0
        try clear c16
        try clear c17
        try clear c17b0
        try clear c17b1
        try clear c19
        try clear c19b0
        try clear c19b1
        try clear c22
        try clear c22b0
        try clear c23
        try clear c23b0
        try clear c24
        try clear c24b0
        try clear c25
        try clear c25b0
        try clear c27
        try clear c27b0
        try clear c32
        try clear c34
        try clear c34b0
        try clear c36
        try clear c40
        try clear c40b0
        try clear c41
        try clear c41b0
        try clear c42
        try clear c42b0
        try clear c44
        try clear c44b0
        try clear c45
        try clear c45b0
        try clear c47
        try clear c48
        try clear c54
        try clear hcz11_0
        try clear hcz11_1
        try clear hcz11_2
        try clear hcz18_0
        try clear hcz18_1
        try clear hcz18_2
        try clear hcz20_0
        try clear hcz20_1
        try clear hcz20_2
        try clear hcz21_0
        try clear hcz21_1
        try clear hcz21_2
        try clear hcz26_0
        try clear hcz26_1
        try clear hcz26_2
        try clear hcz33_0
        try clear hcz33_1
        try clear hcz37_0
        try clear hcz37_1
        try clear hcz37_2
        try clear hcz39_0
        try clear hcz39_1
        try clear hcz48_0
        try clear hcz48_1
        try clear hcz48_2
        try clear hcz55_0
        try clear hcz55_1
        try clear hcz55_2
        try clear hcz9_0
        try clear hcz9_1
        try clear hcz9_2
        try clear hfz11_0
        try clear hfz11_1
        try clear hfz11_2
        try clear hfz18_0
        try clear hfz18_1
        try clear hfz18_2
        try clear hfz20_0
        try clear hfz20_1
        try clear hfz20_2
        try clear hfz21_0
        try clear hfz21_1
        try clear hfz21_2
        try clear hfz26_0
        try clear hfz26_1
        try clear hfz26_2
        try clear hfz33_0
        try clear hfz33_1
        try clear hfz37_0
        try clear hfz37_1
        try clear hfz37_2
        try clear hfz39_0
        try clear hfz39_1
        try clear hfz48_0
        try clear hfz48_1
        try clear hfz48_2
        try clear hfz55_0
        try clear hfz55_1
        try clear hfz55_2
        try clear hfz9_0
        try clear hfz9_1
        try clear hfz9_2
        try clear hx971_0
        try clear hx980_0
        try clear hx981_0
        try clear hx982_0
        try clear p2
        try clear p6
        try clear p9
        try clear p971
        try clear p980
        try clear p981
        try clear p982
        try clear q9
        try clear q971
        try clear q980
        try clear q981
        try clear q982
        obtain ⟨kq, x978000_28, x978001_28, HA, HJ28, HO_12, BK966, BKK, BK977, HB⟩ := hcut; have hkz9 := bc BKK 0 (v := .int .i64 a1)
        cases kq with
        | zero => exact absurd HA.out (by simp [curves_Insert.j3])
        | succ kj28 =>
         have H := HA.out
         clear HA
         simp only [curves_Insert.j3] at H
         replace H := Option.bind_eq_some_iff.mp H
         obtain ⟨⟨t985, t986⟩, A560, H⟩ := H
         replace H : (if x71_3 < (l0_2.length : Int) then (if 0 ≤ x71_3 then ((curves_of.f kj28 (rd l0_2 x71_3) 1).bind fun bt989 => ((curves_ratio_times.f kj28 x978000_28 x978001_28 bt989.1 bt989.2).bind fun bt991 => (curves_Insert.j4 kj28 a1 x9_2 x12_3 x71_3 (wrap64 ((l0_2.length : Int) + 1)) x71_3 a0_0 l0_1 l0_2 x978000_28 x978001_28 bt991.1 bt991.2))) else (none)) else (curves_Insert.j4 kj28 a1 x9_2 x12_3 x71_3 (wrap64 ((l0_2.length : Int) + 1)) x71_3 a0_0 l0_1 l0_2 x978000_28 x978001_28 t985 t986)) = some (r1, r2) := H
         have A56 := Aside0.mk A560
         clear A560
         have HC57 := Aside0.mk H
         clear H
         go_upto_if 114 with (first | ((with_reducible refine gate_callee (f := 48) rfl ?_); refine gL 109 Try.func48 #[.int .i64 0, .int .i64 1] ?_; (with_reducible refine (curves_of.calls kj28 0 1 t985 t986 _ A56.out).mono ?_); rintro e w58 ⟨rfl, hb⟩; refine ⟨_, rfl, ?_⟩; replace HO_12 := kO HO_12 hb; replace BK966 := kB BK966 hb; replace BKK := kB BKK hb; replace BK977 := kB BK977 hb; replace HB := kH _ hb; (try clear hb); (try clear hb2); (try clear hk); (try clear hi)) | ((with_reducible refine gate_dst (N := 15) rfl ?_); refine bE 15 #[.int .i64 0, .int .i64 0] 76 ?_; intro gb987 hg w59 hbox hb; replace HO_12 := ak (Kd.R_below (Kd.R_elderB (rC HO_12) gb987 (Nat.le_of_eq hg.symm)) hb); have BK987 := ak (hbox); have GW987 := kG w hg; have GE987 := kG w hg; replace HB := kH _ hb; have NB966_987 := kL BK966 hg; have NBK_987 := kL BKK hg; have NB987_966 := kR BK966 hg; have NB987_K := kR BKK hg; replace BK966 := kB BK966 hb; replace BKK := kB BKK hb; have NB977_987 := kL BK977 hg; have NB987_977 := kR BK977 hg; replace BK977 := kB BK977 hb; clear hb hbox hg; have hnb60 := NB987_966.out; have hnb60k := NB987_K.out; have hnc60 := NB966_987.out; have hnc60k := NBK_987.out; have hnb61 := NB987_977.out; have hnc61 := NB977_987.out; have hcz62_0 : w59.cell? ⟨gb987, 0, none⟩ = some (.int .i64 0) := bc BK987 0; have hcz62_1 : w59.cell? ⟨gb987, 1, none⟩ = some (.int .i64 0) := bc BK987 1; have hfz62_0 := fz BK987 0; have hfz62_1 := fz BK987 1; have hnb63 := NB966_977.out; have hnb63k := NBK_977.out; have hnc63 := NB977_966.out; have hnc63k := NB977_K.out; have hcz64_0 : w59.cell? ⟨gb966, 0, none⟩ = some (.int .i64 a0_0) := bc BK966 0; have hcz64_k : w59.cell? ⟨gk9, 0, none⟩ = some (.int .i64 a1) := bc BKK 0; have hcz64_1 : w59.cell? ⟨gb966, 1, none⟩ = some (.slice A0_1 l0_1.length c0_1) := bc BK966 1; have hcz64_2 : w59.cell? ⟨gb966, 2, none⟩ = some (.slice A0_2 l0_2.length c0_2) := bc BK966 2; have hfz64_0 := fz BK966 0; have hfz64_k := fz BKK 0; have hfz64_1 := fz BK966 1; have hfz64_2 := fz BK966 2))
         (try simp only [Act.put, List.setIfInBounds_toArray, List.set_cons_zero, List.set_cons_succ])
         go_cut [] (fun wc => ∃ (kq : Nat) (x988000_56 : Int) (x988001_56 : Int), Aside0 (curves_Insert.j4 kq a1 x9_2 x12_3 x71_3 (wrap64 ((l0_2.length : Int) + 1)) x71_3 a0_0 l0_1 l0_2 x978000_28 x978001_28 x988000_56 x988001_56 = some (r1, r2)) ∧ Aside0 (kq ≤ kj28) ∧ Aside0 (Kd.R k76 76 wc w.heap.size (fun k_ => k_ ≠ gb977 ∧ k_ ≠ gb987) u12 x12_3) ∧ Aside0 (wc.heap[gb966]? = some (.cells #[.int .i64 a0_0, (.slice A0_1 l0_1.length c0_1), (.slice A0_2 l0_2.length c0_2)] 30 (0, 0))) ∧ Aside0 (wc.heap[gk9]? = some (.cells #[.int .i64 a1] 3 (0, 0))) ∧ Aside0 (wc.heap[gb977]? = some (.cells #[.int .i64 x978000_28, .int .i64 x978001_28] 76 (0, 0))) ∧ Aside0 (wc.heap[gb987]? = some (.cells #[.int .i64 x988000_56, .int .i64 x988001_56] 76 (0, 0))) ∧ Aside0 (Below w.heap.size w wc))
         case first =>
          have H := HC57.out
          clear HC57
          by_cases c65 : x71_3 < (l0_2.length : Int)
          rotate_left
          ·rw [if_neg c65] at H
           have c65b0 : decide (x71_3 < (l0_2.length : Int)) = false := decide_eq_false c65
           clear c65
           (first | rw [c65b0] | (simp only [i64_w, i32_w]; rw [c65b0]) | skip)
           have H' := Aside0.mk H
           clear H
           go_wp2
           go_meet
           case rel => exact ⟨_, (t985), (t986), H', ⟨by have := HJ6.out; have := HK2.out; have := HK3.out; have := HJ28.out; first | omega | exact Nat.le_refl _⟩, ⟨rD (Kd.R_mono (Kd.R_far (p := ⟨gb987, 1, none⟩) (Kd.R_far (p := ⟨gb987, 0, none⟩) (Kd.R_mono HO_12.out (fun k_ hk => (⟨hk, hk.2⟩ : _ ∧ k_ ≠ gb987))) (fun _ hk => hk.2) (.int .i64 t985)) (fun _ hk => hk.2) (.int .i64 t986)) (fun _ hk => ⟨hk.1.1, hk.1.2⟩))⟩, ⟨bF BK966⟩, ⟨bF BKK⟩, ⟨bF BK977⟩, ⟨by (with_reducible repeat (first | refine blk_drewN ?_ _ | refine blk_drew ?_ | refine blk_alloc ?_ _)); refine blk_put (cs := #[.int .i64 t985, .int .i64 0]) ?_ 1 _ rfl; (with_reducible repeat (first | refine blk_drewN ?_ _ | refine blk_drew ?_ | refine blk_alloc ?_ _)); refine blk_put (cs := #[.int .i64 0, .int .i64 0]) ?_ 0 _ rfl; (with_reducible repeat (first | refine blk_drewN ?_ _ | refine blk_drew ?_ | refine blk_alloc ?_ _)); exact BK987.out⟩, ⟨hbC _⟩⟩
          rw [if_pos c65] at H
          have c65b0 : decide (x71_3 < (l0_2.length : Int)) = true := decide_eq_true c65
          clear c65
          (first | rw [c65b0] | (simp only [i64_w, i32_w]; rw [c65b0]) | skip)
          by_cases c66 : 0 ≤ x71_3
          rotate_left
          ·rw [if_neg c66] at H
           exact absurd H (by simp)
          rw [if_pos c66] at H
          have c66b0 : decide (0 ≤ x71_3) = true := decide_eq_true c66
          clear c66
          replace H := Option.bind_eq_some_iff.mp H
          obtain ⟨⟨t989, t990⟩, A670, H⟩ := H
          replace H : ((curves_ratio_times.f kj28 x978000_28 x978001_28 t989 t990).bind fun bt991 => (curves_Insert.j4 kj28 a1 x9_2 x12_3 x71_3 (wrap64 ((l0_2.length : Int) + 1)) x71_3 a0_0 l0_1 l0_2 x978000_28 x978001_28 bt991.1 bt991.2)) = some (r1, r2) := H
          have A67 := Aside0.mk A670
          clear A670
          replace H := Option.bind_eq_some_iff.mp H
          obtain ⟨⟨t991, t992⟩, A680, H⟩ := H
          replace H : (curves_Insert.j4 kj28 a1 x9_2 x12_3 x71_3 (wrap64 ((l0_2.length : Int) + 1)) x71_3 a0_0 l0_1 l0_2 x978000_28 x978001_28 t991 t992) = some (r1, r2) := H
          have A68 := Aside0.mk A680
          clear A680
          have H' := Aside0.mk H
          clear H
          try go_wp2
          have n0_ : Aside0 (Kd.R k76 76 ((w59.setCell ⟨gb987, 0, none⟩ (.int .i64 t985)).setCell ⟨gb987, 1, none⟩ (.int .i64 t986)) w.heap.size (fun k_ => k_ ≠ gb977 ∧ k_ ≠ gb987) u12 x12_3) := ⟨rD (Kd.R_mono (Kd.R_far (p := ⟨gb987, 1, none⟩) (Kd.R_far (p := ⟨gb987, 0, none⟩) (Kd.R_mono HO_12.out (fun k_ hk => (⟨hk, hk.2⟩ : _ ∧ k_ ≠ gb987))) (fun _ hk => hk.2) (.int .i64 t985)) (fun _ hk => hk.2) (.int .i64 t986)) (fun _ hk => ⟨hk.1.1, hk.1.2⟩))⟩
          have n1_ : Aside0 (((w59.setCell ⟨gb987, 0, none⟩ (.int .i64 t985)).setCell ⟨gb987, 1, none⟩ (.int .i64 t986)).heap[gb966]? = some (.cells #[.int .i64 a0_0, .slice A0_1 l0_1.length c0_1, .slice A0_2 l0_2.length c0_2] 30 (0, 0))) := ⟨bF BK966⟩; have nK_ : Aside0 (((w59.setCell ⟨gb987, 0, none⟩ (.int .i64 t985)).setCell ⟨gb987, 1, none⟩ (.int .i64 t986)).heap[gk9]? = some (.cells #[.int .i64 a1] 3 (0, 0))) := ⟨bF BKK⟩
          have n2_ : Aside0 (((w59.setCell ⟨gb987, 0, none⟩ (.int .i64 t985)).setCell ⟨gb987, 1, none⟩ (.int .i64 t986)).heap[gb977]? = some (.cells #[.int .i64 x978000_28, .int .i64 x978001_28] 76 (0, 0))) := ⟨bF BK977⟩
          have n3_ : Aside0 (((w59.setCell ⟨gb987, 0, none⟩ (.int .i64 t985)).setCell ⟨gb987, 1, none⟩ (.int .i64 t986)).heap[gb987]? = some (.cells #[.int .i64 t985, .int .i64 t986] 76 (0, 0))) := ⟨by (with_reducible repeat (first | refine blk_drewN ?_ _ | refine blk_drew ?_ | refine blk_alloc ?_ _)); refine blk_put (cs := #[.int .i64 t985, .int .i64 0]) ?_ 1 _ rfl; (with_reducible repeat (first | refine blk_drewN ?_ _ | refine blk_drew ?_ | refine blk_alloc ?_ _)); refine blk_put (cs := #[.int .i64 0, .int .i64 0]) ?_ 0 _ rfl; (with_reducible repeat (first | refine blk_drewN ?_ _ | refine blk_drew ?_ | refine blk_alloc ?_ _)); exact BK987.out⟩
          have n4_ : Aside0 (Below w.heap.size w ((w59.setCell ⟨gb987, 0, none⟩ (.int .i64 t985)).setCell ⟨gb987, 1, none⟩ (.int .i64 t986))) := ⟨hbC _⟩
          (try clear HO_12)
          (try clear BK966); (try clear BKK)
          (try clear BK977)
          (try clear BK987)
          (try clear HB)
          generalize ((w59.setCell ⟨gb987, 0, none⟩ (.int .i64 t985)).setCell ⟨gb987, 1, none⟩ (.int .i64 t986)) = w69 at n0_ n1_ n2_ n3_ n4_ nK_ ⊢
          have HO_12 := n0_
          have BK966 := n1_; have BKK := nK_
          have BK977 := n2_
          have BK987 := n3_
          have HB := n4_
          clear n0_ n1_ n2_ n3_ n4_ nK_
          replace HO_12 := ak (Kd.R_drew HO_12.out)
          replace BK966 := kd BK966; replace BKK := kd BKK
          replace BK977 := kd BK977
          replace BK987 := kd BK987
          replace HB := ak (below_drew1 HB.out)
          have p988 : 0 ≤ (x71_3 : Int) := dA
          have q988 : x71_3 < (l0_2.length : Int) := dA
          obtain ⟨ad988, e988, hx988_0⟩ := Kd.at_int HR0_2.out x71_3 p988 q988
          have hw988_0 := hx988_0
          cases e988
          try replace hx988_0 := (HB.out.cell (World.block_lt_of_cell? w _ hx988_0)).trans hx988_0
          replace p988 := eq_true p988
          replace q988 := eq_true q988
          refine sS (n := 9) (S := fun w' => w'.cell? ⟨gb977, 0, none⟩ = some (.int .i64 x978000_28) ∧ w'.cell? ⟨gb977, 1, none⟩ = some (.int .i64 x978001_28) ∧ w'.cell? ⟨gb966, 0, none⟩ = some (.int .i64 a0_0) ∧ w'.cell? ⟨gb966, 1, none⟩ = some (.slice A0_1 l0_1.length c0_1) ∧ w'.cell? ⟨gb966, 2, none⟩ = some (.slice (some ad988) l0_2.length c0_2) ∧ w'.cell? (ad988.add (x71_3).toNat) = some (.int .i64 (rd l0_2 x71_3))) (ds := []) ⟨bc BK977 0, bc BK977 1, bc BK966 0, bc BK966 1, bc BK966 2, ((HB.out.cell (World.block_lt_of_cell? w _ hw988_0)).trans hw988_0)⟩ (fun hHeld => ?_); refine with_tabW curves_Insert.tab29 curves_Insert.bits29 (fun HT_ HW_ => ?_)
          generalize w69.drew = w70 at HO_12 BK966 BKK BK977 BK987 HB hx988_0 hHeld ⊢
          refine pS 1 116 9 2 ?_
          refine pS 3 118 9 10 ?_
          refine tS 0 115 9 11 ?_
          refine tS 2 117 9 15 ?_
          refine pS 4 119 9 31 ?_
          refine tS 5 120 9 63 ?_
          refine one_ (i := 6) (N := some 121) (ba 9 127) rfl rfl (one_of HT_.out (by kernel_rfl)) (by decide) (fun K hK => ?_)
          refine gC Try.func48 #[.int .i64 (rd l0_2 x71_3), .int .i64 1] ?_
          with_reducible refine (curves_of.calls kj28 (rd l0_2 x71_3) 1 t989 t990 _ A67.out).mono ?_
          rintro e w71 ⟨rfl, hb⟩
          refine ⟨_, rfl, ?_⟩
          replace HO_12 := kO HO_12 hb
          replace BK966 := kB BK966 hb; replace BKK := kB BKK hb
          replace BK977 := kB BK977 hb
          replace BK987 := kB BK987 hb
          replace HB := kH _ hb
          (try clear hb)
          (try clear hb2)
          (try clear hk)
          (try clear hi)
          refine hK.out _ _ ⟨bc BK977 0, bc BK977 1, bc BK966 0, bc BK966 1, bc BK966 2, ((HB.out.cell (World.block_lt_of_cell? w _ hw988_0)).trans hw988_0)⟩ (fun hHeld => ?_)
          clear hK K
          refine norm_ (a' := ?_) ?_ ?_
          rotate_left
          ·show Act.put _ (some 121) _ = _
           simp only [Act.put, List.setIfInBounds_toArray, List.set_cons_zero, List.set_cons_succ, i64_w, i32_w]
           rfl
          refine one_ (i := 7) (N := some 122) (ba 9 255) rfl rfl (one_of HT_.out (by kernel_rfl)) (by decide) (fun K hK => ?_)
          refine gC Try.func51 #[.agg #[.int .i64 x978000_28, .int .i64 x978001_28], .agg #[.int .i64 t989, .int .i64 t990]] ?_
          with_reducible refine (curves_ratio_times.calls kj28 x978000_28 x978001_28 t989 t990 t991 t992 _ A68.out).mono ?_
          rintro e w72 ⟨rfl, hb⟩
          refine ⟨_, rfl, ?_⟩
          replace HO_12 := kO HO_12 hb
          replace BK966 := kB BK966 hb; replace BKK := kB BKK hb
          replace BK977 := kB BK977 hb
          replace BK987 := kB BK987 hb
          replace HB := kH _ hb
          (try clear hb)
          (try clear hb2)
          (try clear hk)
          (try clear hi)
          refine hK.out _ _ ⟨bc BK977 0, bc BK977 1, bc BK966 0, bc BK966 1, bc BK966 2, ((HB.out.cell (World.block_lt_of_cell? w _ hw988_0)).trans hw988_0)⟩ (fun hHeld => ?_)
          clear hK K
          refine norm_ (a' := ?_) ?_ ?_
          rotate_left
          ·show Act.put _ (some 122) _ = _
           simp only [Act.put, List.setIfInBounds_toArray, List.set_cons_zero, List.set_cons_succ, i64_w, i32_w]
           rfl
          refine one_ (i := 8) (N := none) (ba 9 511) rfl rfl (one_of HT_.out (by kernel_rfl)) (by decide) (fun K hK => ?_)
          have hs73 : w72.cell? ⟨gb987, 0, none⟩ = some (.int .i64 t985) := bc BK987 0
          have hfs73 := fz BK987 0
          have hns73_0 := NB966_987.out; have hns73_0k := NBK_987.out
          have hns73_1 := NB977_987.out
          have hms73_0 := NB987_966.out; have hms73_0k := NB987_K.out
          have hms73_1 := NB987_977.out
          have hs74 : w72.cell? ⟨gb987, 1, none⟩ = some (.int .i64 t986) := bc BK987 1
          have hfs74 := fz BK987 1
          have hns74_0 := NB966_987.out; have hns74_0k := NBK_987.out
          have hns74_1 := NB977_987.out
          have hms74_0 := NB987_966.out; have hms74_0k := NB987_K.out
          have hms74_1 := NB987_977.out
          refine skip_ (w1 := ?_) (by rfl) rfl ?_ ?_
          rotate_left
          ·go_simp
           rfl
          refine hK.out _ _ ⟨((cell_far (p := ⟨gb987, _, none⟩) NB977_987.out _).trans (((cell_far (p := ⟨gb987, _, none⟩) NB977_987.out _).trans (hHeld.1)))), ((cell_far (p := ⟨gb987, _, none⟩) NB977_987.out _).trans (((cell_far (p := ⟨gb987, _, none⟩) NB977_987.out _).trans (hHeld.2.1)))), ((cell_far (p := ⟨gb987, _, none⟩) NB966_987.out _).trans (((cell_far (p := ⟨gb987, _, none⟩) NB966_987.out _).trans (hHeld.2.2.1)))), ((cell_far (p := ⟨gb987, _, none⟩) NB966_987.out _).trans (((cell_far (p := ⟨gb987, _, none⟩) NB966_987.out _).trans (hHeld.2.2.2.1)))), ((cell_far (p := ⟨gb987, _, none⟩) NB966_987.out _).trans (((cell_far (p := ⟨gb987, _, none⟩) NB966_987.out _).trans (hHeld.2.2.2.2.1)))), ((cell_far (p := ⟨gb987, _, none⟩) (by first | exact Nat.ne_of_lt (Nat.lt_of_lt_of_le (by have := World.block_lt_of_cell? _ _ hw988_0; first | rwa [add_block] at this | exact this) GW987.out) | (rw [add_block]; exact Nat.ne_of_lt (Nat.lt_of_lt_of_le (by have := World.block_lt_of_cell? _ _ hw988_0; first | rwa [add_block] at this | exact this) GW987.out)) | (show (Addr.add _ _).block ≠ _; rw [add_block]; exact Nat.ne_of_lt (Nat.lt_of_lt_of_le (by have := World.block_lt_of_cell? _ _ hw988_0; first | rwa [add_block] at this | exact this) GW987.out)) | (dsimp only; exact Nat.ne_of_lt (Nat.lt_of_lt_of_le (by have := World.block_lt_of_cell? _ _ hw988_0; first | rwa [add_block] at this | exact this) GW987.out))) _).trans (((cell_far (p := ⟨gb987, _, none⟩) (by first | exact Nat.ne_of_lt (Nat.lt_of_lt_of_le (by have := World.block_lt_of_cell? _ _ hw988_0; first | rwa [add_block] at this | exact this) GW987.out) | (rw [add_block]; exact Nat.ne_of_lt (Nat.lt_of_lt_of_le (by have := World.block_lt_of_cell? _ _ hw988_0; first | rwa [add_block] at this | exact this) GW987.out)) | (show (Addr.add _ _).block ≠ _; rw [add_block]; exact Nat.ne_of_lt (Nat.lt_of_lt_of_le (by have := World.block_lt_of_cell? _ _ hw988_0; first | rwa [add_block] at this | exact this) GW987.out)) | (dsimp only; exact Nat.ne_of_lt (Nat.lt_of_lt_of_le (by have := World.block_lt_of_cell? _ _ hw988_0; first | rwa [add_block] at this | exact this) GW987.out))) _).trans (hHeld.2.2.2.2.2))))⟩ (fun hHeld => ?_)
          clear hK K
          refine done_ (done_of HT_.out (by kernel_rfl)) ?_
          try go_wp2
          go_meet
          case rel => exact ⟨_, (t991), (t992), H', ⟨by have := HJ6.out; have := HK2.out; have := HK3.out; have := HJ28.out; first | omega | exact Nat.le_refl _⟩, ⟨rD (Kd.R_mono (Kd.R_far (p := ⟨gb987, 1, none⟩) (Kd.R_far (p := ⟨gb987, 0, none⟩) (Kd.R_mono HO_12.out (fun k_ hk => (⟨hk, hk.2⟩ : _ ∧ k_ ≠ gb987))) (fun _ hk => hk.2) (.int .i64 t991)) (fun _ hk => hk.2) (.int .i64 t992)) (fun _ hk => ⟨hk.1.1, hk.1.2⟩))⟩, ⟨bF BK966⟩, ⟨bF BKK⟩, ⟨bF BK977⟩, ⟨by (with_reducible repeat (first | refine blk_drewN ?_ _ | refine blk_drew ?_ | refine blk_alloc ?_ _)); refine blk_put (cs := #[.int .i64 t991, .int .i64 t986]) ?_ 1 _ rfl; (with_reducible repeat (first | refine blk_drewN ?_ _ | refine blk_drew ?_ | refine blk_alloc ?_ _)); refine blk_put (cs := #[.int .i64 t985, .int .i64 t986]) ?_ 0 _ rfl; (with_reducible repeat (first | refine blk_drewN ?_ _ | refine blk_drew ?_ | refine blk_alloc ?_ _)); exact BK987.out⟩, ⟨hbC _⟩⟩
         case rest =>
          clear HC57
          try clear c1
          try clear c2
          try clear p2
          try clear c3
          try clear c4
          try clear c5
          try clear c6
          try clear p6
          try clear p9
          try clear q9
          try clear hx9
          try clear c15
          try clear c15b0
          try clear c16
          try clear c17
          try clear c17b0
          try clear c17b1
          try clear c19
          try clear c19b0
          try clear c19b1
          try clear c22
          try clear c22b0
          try clear c23
          try clear c23b0
          try clear c24
          try clear c24b0
          try clear c25
          try clear c25b0
          try clear c27
          try clear c27b0
          try clear c32
          try clear c34
          try clear c34b0
          try clear c36
          try clear c40
          try clear c40b0
          try clear c41
          try clear c41b0
          try clear c42
          try clear c42b0
          try clear c44
          try clear c44b0
          try clear c45
          try clear c45b0
          try clear c47
          try clear c48
          try clear c51
          try clear c54
          try clear c60
          try clear c61
          try clear c63
          try clear p64
          try clear c65
          try clear c65b0
          try clear c66
          try clear c66b0
          try clear hcz11_0
          try clear hcz11_1
          try clear hcz11_2
          try clear hcz18_0
          try clear hcz18_1
          try clear hcz18_2
          try clear hcz20_0
          try clear hcz20_1
          try clear hcz20_2
          try clear hcz21_0
          try clear hcz21_1
          try clear hcz21_2
          try clear hcz26_0
          try clear hcz26_1
          try clear hcz26_2
          try clear hcz33_0
          try clear hcz33_1
          try clear hcz37_0
          try clear hcz37_1
          try clear hcz37_2
          try clear hcz39_0
          try clear hcz39_1
          try clear hcz48_0
          try clear hcz48_1
          try clear hcz48_2
          try clear hcz55_0
          try clear hcz55_1
          try clear hcz55_2
          try clear hcz62_0
          try clear hcz62_1
          try clear hcz64_0
          try clear hcz64_1
          try clear hcz64_2
          try clear hcz9_0
          try clear hcz9_1
          try clear hcz9_2
          try clear hfz11_0
          try clear hfz11_1
          try clear hfz11_2
          try clear hfz18_0
          try clear hfz18_1
          try clear hfz18_2
          try clear hfz20_0
          try clear hfz20_1
          try clear hfz20_2
          try clear hfz21_0
          try clear hfz21_1
          try clear hfz21_2
          try clear hfz26_0
          try clear hfz26_1
          try clear hfz26_2
          try clear hfz33_0
          try clear hfz33_1
          try clear hfz37_0
          try clear hfz37_1
          try clear hfz37_2
          try clear hfz39_0
          try clear hfz39_1
          try clear hfz48_0
          try clear hfz48_1
          try clear hfz48_2
          try clear hfz55_0
          try clear hfz55_1
          try clear hfz55_2
          try clear hfz62_0
          try clear hfz62_1
          try clear hfz64_0
          try clear hfz64_1
          try clear hfz64_2
          try clear hfz9_0
          try clear hfz9_1
          try clear hfz9_2
          try clear hx971_0
          try clear hx980_0
          try clear hx981_0
          try clear hx982_0
          try clear hx988_0
          try clear p2
          try clear p6
          try clear p9
          try clear p971
          try clear p980
          try clear p981
          try clear p982
          try clear p988
          try clear q9
          try clear q971
          try clear q980
          try clear q981
          try clear q982
          try clear q988
          obtain ⟨kq, x988000_56, x988001_56, HA, HJ56, HO_12, BK966, BKK, BK977, BK987, HB⟩ := hcut; have hkz9 := bc BKK 0 (v := .int .i64 a1)
          cases kq with
          | zero => exact absurd HA.out (by simp [curves_Insert.j4])
          | succ kj56 =>
           have H := HA.out
           clear HA
           simp only [curves_Insert.j4] at H
           by_cases c75 : x71_3 > 0
           rotate_left
           ·rw [if_neg c75] at H
            have c75b0 : decide (0 < x71_3) = false := decide_eq_false c75
            clear c75
            by_cases c95 : x12_3.length < 8796093022208
            rotate_left
            ·rw [if_neg c95] at H
             exact absurd H (by simp)
            rw [if_pos c95] at H
            have LMc95 := Aside0.mk c95
            clear c95
            obtain ⟨y1005, hy1005⟩ : ∃ y_ : List (S76), y_ = (x12_3 ++ [(⟨(⟨x988000_56, x988001_56⟩ : S26)⟩ : S76)]) := ⟨_, rfl⟩
            replace H : (curves_Insert.l1 kj56 a1 x9_2 y1005 (wrap64 ((l0_2.length : Int) + 1)) (wrap64 (x71_3 + 1)) a0_0 l0_1 l0_2) = some (r1, r2) := by first | (rw [hy1005]; with_reducible exact H) | (have H2_ := (Option.bind_some _ _).symm.trans H; rw [hy1005]; with_reducible exact H2_) | (have H2_ := (Option.bind_some _ _).symm.trans H; with_reducible exact H2_) | with_reducible exact H | (rw [hy1005]; exact H) | exact H
            have Ny1005 := Aside0.mk hy1005
            clear hy1005
            have H' := Aside0.mk H
            clear H
            have hnb96 := NB987_966.out; have hnb96k := NB987_K.out
            have hnc96 := NB966_987.out; have hnc96k := NBK_987.out
            have hnb97 := NB987_977.out
            have hnc97 := NB977_987.out
            have hcz98_0 : wc.cell? ⟨gb987, 0, none⟩ = some (.int .i64 x988000_56) := bc BK987 0
            have hcz98_1 : wc.cell? ⟨gb987, 1, none⟩ = some (.int .i64 x988001_56) := bc BK987 1
            have hfz98_0 := fz BK987 0
            have hfz98_1 := fz BK987 1
            go_wp2_with (first | ((with_reducible refine gate_builtin (b := .append) (xs := #[.tmp 137, .tmp 139]) rfl ?_); at_builtin; refine Kd.R_append k76 (w0 := w) w.heap.size rfl (.tmp 137) (.tmp 139) 80 76 (.agg #[(.int .i64 0), (.int .i64 0)]) 16 rfl Try.underlying80 info76 rfl (by decide) (by omega) u12 x12_3 (⟨(⟨x988000_56, x988001_56⟩ : S26)⟩ : S76) [.int .i64 x988000_56, .int .i64 x988001_56] (fun k_ => k_ ≠ gb977 ∧ k_ ≠ gb987) (fun _ => False) rfl rfl ?aP (fun _ hk => hk.elim) ?aF ?aO ?aB ?aS ?aL ?_; (case aP => exact k76_mkM _ _ _ (⟨(⟨x988000_56, x988001_56⟩ : S26)⟩ : S76)); (case aB => exact (hbC _)); (case aF => exact (fun k_ hk => ⟨Kd.freshB (g := gb977) (o := .cells #[.int .i64 x978000_28, .int .i64 x978001_28] 76 (0, 0)) (bkC BK977) k_ hk, Kd.freshB (g := gb987) (o := .cells #[.int .i64 x988000_56, .int .i64 x988001_56] 76 (0, 0)) (bkC BK987) k_ hk⟩)); (case aO => exact (rC HO_12)); (case aS => exact (below_size (hbC _))); (case aL => have := LMc95.out; omega); intro v1006 w99 ho hb hg hat; rw [← Ny1005.out] at ho; have n0_ := ak (blk_grown (g := gb966) (o := .cells #[.int .i64 a0_0, .slice A0_1 l0_1.length c0_1, .slice A0_2 l0_2.length c0_2] 30 (0, 0)) (bkC BK966) hg (Kd.R_ne HO_12.out BK966.out (by decide))); have nK_ := ak (blk_grown (g := gk9) (o := .cells #[.int .i64 a1] 3 (0, 0)) (bkC BKK) hg (Kd.R_ne HO_12.out BKK.out (by decide))); have n1_ := ak (blk_grown (g := gb977) (o := .cells #[.int .i64 x978000_28, .int .i64 x978001_28] 76 (0, 0)) (bkC BK977) hg (Kd.R_away HO_12.out (fun _ hk => hk.1))); have n2_ := ak (blk_grown (g := gb987) (o := .cells #[.int .i64 x988000_56, .int .i64 x988001_56] 76 (0, 0)) (bkC BK987) hg (Kd.R_away HO_12.out (fun _ hk => hk.2))); have n3_ := ak (hb); have n4_ := ak (ho); clear BK966; clear BK977; clear BK987; clear HB; clear HO_12; have BK966 := n0_; have BKK := nK_; have BK977 := n1_; have BK987 := n2_; have HB := n3_; have HO1007 := n4_; clear n0_ n1_ n2_ n3_ n4_ nK_; clear ho hb hg hat))
            go_roundg kj56
            case measure => have := HJ6.out; have := HK2.out; have := HK3.out; have := HJ28.out; have := HJ56.out; omega
            case rel => exact ⟨(y1005), (wrap64 (x71_3 + 1)), (by first | rfl | (simp; done) | (simp [*]; done)), H', ⟨by have := HJ6.out; have := HK2.out; have := HK3.out; have := HJ28.out; have := HJ56.out; omega⟩, ⟨rD (Kd.R_mono HO1007.out (fun _ hk => trivial))⟩, ⟨bkC BK966⟩, ⟨bkC BKK⟩, ⟨hbC _⟩⟩
           rw [if_pos c75] at H
           have c75b0 : decide (0 < x71_3) = true := decide_eq_true c75
           clear c75
           replace H := Option.bind_eq_some_iff.mp H
           obtain ⟨⟨t993, t994⟩, A760, H⟩ := H
           replace H : (if 0 ≤ (wrap64 (x71_3 - 1)) then (if (wrap64 (x71_3 - 1)) < (l0_2.length : Int) then ((curves_of.f kj56 (rd l0_2 (wrap64 (x71_3 - 1))) 1).bind fun bt996 => ((curves_ratio_times.f kj56 t993 t994 bt996.1 bt996.2).bind fun bt998 => ((curves_ratio_plus.f kj56 x988000_56 x988001_56 bt998.1 bt998.2).bind fun bt1000 => (if x12_3.length < 8796093022208 then (curves_Insert.l1 kj56 a1 x9_2 (x12_3 ++ [(⟨(⟨bt1000.1, bt1000.2⟩ : S26)⟩ : S76)]) (wrap64 ((l0_2.length : Int) + 1)) (wrap64 (x71_3 + 1)) a0_0 l0_1 l0_2) else (none))))) else (none)) else (none)) = some (r1, r2) := H
           have A76 := Aside0.mk A760
           clear A760
           obtain ⟨ji77, hji77⟩ : ∃ j_ : Int, (wrap64 (x71_3 - 1)) = j_ := ⟨_, rfl⟩
           replace H : (if 0 ≤ (ji77) then (if (ji77) < (l0_2.length : Int) then ((curves_of.f kj56 (rd l0_2 (ji77)) 1).bind fun bt996 => ((curves_ratio_times.f kj56 t993 t994 bt996.1 bt996.2).bind fun bt998 => ((curves_ratio_plus.f kj56 x988000_56 x988001_56 bt998.1 bt998.2).bind fun bt1000 => (if x12_3.length < 8796093022208 then (curves_Insert.l1 kj56 a1 x9_2 (x12_3 ++ [(⟨(⟨bt1000.1, bt1000.2⟩ : S26)⟩ : S76)]) (wrap64 ((l0_2.length : Int) + 1)) (wrap64 (x71_3 + 1)) a0_0 l0_1 l0_2) else (none))))) else (none)) else (none)) = some (r1, r2) := by first | (rw [hji77] at H; exact H) | (simp only [hji77] at H ⊢; exact H)
           (try rw [hji77] at A76)
           have hji77w : (IntKind.i64.wrap (x71_3 - 1)) = ji77 := (i64_w _).trans hji77
           by_cases c78 : 0 ≤ (ji77)
           rotate_left
           ·rw [if_neg c78] at H
            exact absurd H (by simp)
           rw [if_pos c78] at H
           have c78b0 : decide (0 ≤ (ji77)) = true := decide_eq_true c78
           clear c78
           by_cases c79 : (ji77) < (l0_2.length : Int)
           rotate_left
           ·rw [if_neg c79] at H
            exact absurd H (by simp)
           rw [if_pos c79] at H
           have c79b0 : decide ((ji77) < (l0_2.length : Int)) = true := decide_eq_true c79
           clear c79
           replace H := Option.bind_eq_some_iff.mp H
           obtain ⟨⟨t996, t997⟩, A800, H⟩ := H
           replace H : ((curves_ratio_times.f kj56 t993 t994 t996 t997).bind fun bt998 => ((curves_ratio_plus.f kj56 x988000_56 x988001_56 bt998.1 bt998.2).bind fun bt1000 => (if x12_3.length < 8796093022208 then (curves_Insert.l1 kj56 a1 x9_2 (x12_3 ++ [(⟨(⟨bt1000.1, bt1000.2⟩ : S26)⟩ : S76)]) (wrap64 ((l0_2.length : Int) + 1)) (wrap64 (x71_3 + 1)) a0_0 l0_1 l0_2) else (none)))) = some (r1, r2) := H
           have A80 := Aside0.mk A800
           clear A800
           replace H := Option.bind_eq_some_iff.mp H
           obtain ⟨⟨t998, t999⟩, A810, H⟩ := H
           replace H : ((curves_ratio_plus.f kj56 x988000_56 x988001_56 t998 t999).bind fun bt1000 => (if x12_3.length < 8796093022208 then (curves_Insert.l1 kj56 a1 x9_2 (x12_3 ++ [(⟨(⟨bt1000.1, bt1000.2⟩ : S26)⟩ : S76)]) (wrap64 ((l0_2.length : Int) + 1)) (wrap64 (x71_3 + 1)) a0_0 l0_1 l0_2) else (none))) = some (r1, r2) := H
           have A81 := Aside0.mk A810
           clear A810
           replace H := Option.bind_eq_some_iff.mp H
           obtain ⟨⟨t1000, t1001⟩, A820, H⟩ := H
           replace H : (if x12_3.length < 8796093022208 then (curves_Insert.l1 kj56 a1 x9_2 (x12_3 ++ [(⟨(⟨t1000, t1001⟩ : S26)⟩ : S76)]) (wrap64 ((l0_2.length : Int) + 1)) (wrap64 (x71_3 + 1)) a0_0 l0_1 l0_2) else (none)) = some (r1, r2) := H
           have A82 := Aside0.mk A820
           clear A820
           by_cases c83 : x12_3.length < 8796093022208
           rotate_left
           ·rw [if_neg c83] at H
            exact absurd H (by simp)
           rw [if_pos c83] at H
           have LMc83 := Aside0.mk c83
           clear c83
           obtain ⟨y1002, hy1002⟩ : ∃ y_ : List (S76), y_ = (x12_3 ++ [(⟨(⟨t1000, t1001⟩ : S26)⟩ : S76)]) := ⟨_, rfl⟩
           replace H : (curves_Insert.l1 kj56 a1 x9_2 y1002 (wrap64 ((l0_2.length : Int) + 1)) (wrap64 (x71_3 + 1)) a0_0 l0_1 l0_2) = some (r1, r2) := by first | (rw [hy1002]; with_reducible exact H) | (have H2_ := (Option.bind_some _ _).symm.trans H; rw [hy1002]; with_reducible exact H2_) | (have H2_ := (Option.bind_some _ _).symm.trans H; with_reducible exact H2_) | with_reducible exact H | (rw [hy1002]; exact H) | exact H
           have Ny1002 := Aside0.mk hy1002
           clear hy1002
           have H' := Aside0.mk H
           clear H
           try go_wp2
           replace HO_12 := ak (Kd.R_drew HO_12.out)
           replace BK966 := kd BK966; replace BKK := kd BKK
           replace BK977 := kd BK977
           replace BK987 := kd BK987
           replace HB := ak (below_drew1 HB.out)
           have p995 : 0 ≤ ((ji77) : Int) := dA
           have q995 : (ji77) < (l0_2.length : Int) := dA
           obtain ⟨ad995, e995, hx995_0⟩ := Kd.at_int HR0_2.out (ji77) p995 q995
           have hw995_0 := hx995_0
           cases e995
           try replace hx995_0 := (HB.out.cell (World.block_lt_of_cell? w _ hx995_0)).trans hx995_0
           replace p995 := eq_true p995
           replace q995 := eq_true q995
           refine sS (n := 13) (S := fun w' => w'.cell? ⟨gb987, 0, none⟩ = some (.int .i64 x988000_56) ∧ w'.cell? ⟨gb987, 1, none⟩ = some (.int .i64 x988001_56) ∧ w'.cell? ⟨gb977, 0, none⟩ = some (.int .i64 x978000_28) ∧ w'.cell? ⟨gb977, 1, none⟩ = some (.int .i64 x978001_28) ∧ w'.cell? ⟨gb966, 0, none⟩ = some (.int .i64 a0_0) ∧ w'.cell? ⟨gb966, 1, none⟩ = some (.slice A0_1 l0_1.length c0_1) ∧ w'.cell? ⟨gb966, 2, none⟩ = some (.slice (some ad995) l0_2.length c0_2) ∧ w'.cell? (ad995.add ((ji77)).toNat) = some (.int .i64 (rd l0_2 (ji77)))) (ds := [12]) ⟨bc BK987 0, bc BK987 1, bc BK977 0, bc BK977 1, bc BK966 0, bc BK966 1, bc BK966 2, ((HB.out.cell (World.block_lt_of_cell? w _ hw995_0)).trans hw995_0)⟩ (fun hHeld => ?_); refine with_tabW curves_Insert.tab31 curves_Insert.bits31 (fun HT_ HW_ => ?_)
           generalize wc.drew = w84 at HO_12 BK966 BKK BK977 BK987 HB hx995_0 hHeld ⊢
           refine pS 3 128 13 8 ?_
           refine pS 5 130 13 40 ?_
           refine pS 6 131 13 104 ?_
           refine tS 0 125 13 105 ?_
           refine tS 1 126 13 107 ?_
           refine tS 4 129 13 123 ?_
           refine pS 7 132 13 251 ?_
           refine tS 8 133 13 507 ?_
           refine one_ (i := 2) (N := some 127) (ba 13 511) rfl rfl (one_of HT_.out (by kernel_rfl)) (by decide) (fun K hK => ?_)
           refine gC Try.func67 #[.agg #[.int .i64 x978000_28, .int .i64 x978001_28], .int .i64 1] ?_
           with_reducible refine (curves_ratio_from.calls kj56 x978000_28 x978001_28 1 t993 t994 _ A76.out).mono ?_
           rintro e w85 ⟨rfl, hb⟩
           refine ⟨_, rfl, ?_⟩
           replace HO_12 := kO HO_12 hb
           replace BK966 := kB BK966 hb; replace BKK := kB BKK hb
           replace BK977 := kB BK977 hb
           replace BK987 := kB BK987 hb
           replace HB := kH _ hb
           (try clear hb)
           (try clear hb2)
           (try clear hk)
           (try clear hi)
           refine hK.out _ _ ⟨bc BK987 0, bc BK987 1, bc BK977 0, bc BK977 1, bc BK966 0, bc BK966 1, bc BK966 2, ((HB.out.cell (World.block_lt_of_cell? w _ hw995_0)).trans hw995_0)⟩ (fun hHeld => ?_)
           clear hK K
           refine norm_ (a' := ?_) ?_ ?_
           rotate_left
           ·show Act.put _ (some 127) _ = _
            simp only [Act.put, List.setIfInBounds_toArray, List.set_cons_zero, List.set_cons_succ, i64_w, i32_w]
            rfl
           refine one_ (i := 9) (N := some 134) (ba 13 1023) rfl rfl (one_of HT_.out (by kernel_rfl)) (by decide) (fun K hK => ?_)
           refine goes_ Try.func48 (by kernel_rfl) rfl #[.int .i64 (rd l0_2 (ji77)), .int .i64 1] (by rfl) rfl rfl (by (try simp only [List.map_toArray, List.map_cons, List.map_nil]); first | done | (simp only [hji77]; rfl) | rfl | (simp only [List.length_drop, List.length_take]; rfl)) ?_
           with_reducible refine (curves_of.calls kj56 (rd l0_2 (ji77)) 1 t996 t997 _ A80.out).mono ?_
           rintro e w86 ⟨rfl, hb⟩
           refine ⟨_, rfl, ?_⟩
           replace HO_12 := kO HO_12 hb
           replace BK966 := kB BK966 hb; replace BKK := kB BKK hb
           replace BK977 := kB BK977 hb
           replace BK987 := kB BK987 hb
           replace HB := kH _ hb
           (try clear hb)
           (try clear hb2)
           (try clear hk)
           (try clear hi)
           refine hK.out _ _ ⟨bc BK987 0, bc BK987 1, bc BK977 0, bc BK977 1, bc BK966 0, bc BK966 1, bc BK966 2, ((HB.out.cell (World.block_lt_of_cell? w _ hw995_0)).trans hw995_0)⟩ (fun hHeld => ?_)
           clear hK K
           refine norm_ (a' := ?_) ?_ ?_
           rotate_left
           ·show Act.put _ (some 134) _ = _
            simp only [Act.put, List.setIfInBounds_toArray, List.set_cons_zero, List.set_cons_succ, i64_w, i32_w]
            rfl
           refine one_ (i := 10) (N := some 135) (ba 13 2047) rfl rfl (one_of HT_.out (by kernel_rfl)) (by decide) (fun K hK => ?_)
           refine gC Try.func51 #[.agg #[.int .i64 t993, .int .i64 t994], .agg #[.int .i64 t996, .int .i64 t997]] ?_
           with_reducible refine (curves_ratio_times.calls kj56 t993 t994 t996 t997 t998 t999 _ A81.out).mono ?_
           rintro e w87 ⟨rfl, hb⟩
           refine ⟨_, rfl, ?_⟩
           replace HO_12 := kO HO_12 hb
           replace BK966 := kB BK966 hb; replace BKK := kB BKK hb
           replace BK977 := kB BK977 hb
           replace BK987 := kB BK987 hb
           replace HB := kH _ hb
           (try clear hb)
           (try clear hb2)
           (try clear hk)
           (try clear hi)
           refine hK.out _ _ ⟨bc BK987 0, bc BK987 1, bc BK977 0, bc BK977 1, bc BK966 0, bc BK966 1, bc BK966 2, ((HB.out.cell (World.block_lt_of_cell? w _ hw995_0)).trans hw995_0)⟩ (fun hHeld => ?_)
           clear hK K
           refine norm_ (a' := ?_) ?_ ?_
           rotate_left
           ·show Act.put _ (some 135) _ = _
            simp only [Act.put, List.setIfInBounds_toArray, List.set_cons_zero, List.set_cons_succ, i64_w, i32_w]
            rfl
           refine one_ (i := 11) (N := some 136) (ba 13 4095) rfl rfl (one_of HT_.out (by kernel_rfl)) (by decide) (fun K hK => ?_)
           refine gC Try.func50 #[.agg #[.int .i64 x988000_56, .int .i64 x988001_56], .agg #[.int .i64 t998, .int .i64 t999]] ?_
           with_reducible refine (curves_ratio_plus.calls kj56 x988000_56 x988001_56 t998 t999 t1000 t1001 _ A82.out).mono ?_
           rintro e w88 ⟨rfl, hb⟩
           refine ⟨_, rfl, ?_⟩
           replace HO_12 := kO HO_12 hb
           replace BK966 := kB BK966 hb; replace BKK := kB BKK hb
           replace BK977 := kB BK977 hb
           replace BK987 := kB BK987 hb
           replace HB := kH _ hb
           (try clear hb)
           (try clear hb2)
           (try clear hk)
           (try clear hi)
           refine hK.out _ _ ⟨bc BK987 0, bc BK987 1, bc BK977 0, bc BK977 1, bc BK966 0, bc BK966 1, bc BK966 2, ((HB.out.cell (World.block_lt_of_cell? w _ hw995_0)).trans hw995_0)⟩ (fun hHeld => ?_)
           clear hK K
           refine norm_ (a' := ?_) ?_ ?_
           rotate_left
           ·show Act.put _ (some 136) _ = _
            simp only [Act.put, List.setIfInBounds_toArray, List.set_cons_zero, List.set_cons_succ, i64_w, i32_w]
            rfl
           refine last_ (i := 12) (N := none) (ba 13 8191) rfl rfl (one_of HT_.out (by kernel_rfl)) (by decide) (fun K hK => ?_)
           have hs89 : w88.cell? ⟨gb987, 0, none⟩ = some (.int .i64 x988000_56) := bc BK987 0
           have hfs89 := fz BK987 0
           have hns89_0 := NB966_987.out; have hns89_0k := NBK_987.out
           have hns89_1 := NB977_987.out
           have hms89_0 := NB987_966.out; have hms89_0k := NB987_K.out
           have hms89_1 := NB987_977.out
           have hs90 : w88.cell? ⟨gb987, 1, none⟩ = some (.int .i64 x988001_56) := bc BK987 1
           have hfs90 := fz BK987 1
           have hns90_0 := NB966_987.out; have hns90_0k := NBK_987.out
           have hns90_1 := NB977_987.out
           have hms90_0 := NB987_966.out; have hms90_0k := NB987_K.out
           have hms90_1 := NB987_977.out
           refine skip_ (w1 := ?_) (by rfl) rfl ?_ ?_
           rotate_left
           ·go_simp
            rfl
           refine hK.out _ _ ?_
           clear hK K
           refine done_ (done_of HT_.out (by kernel_rfl)) ?_
           have hnb91 := NB987_966.out; have hnb91k := NB987_K.out
           have hnc91 := NB966_987.out; have hnc91k := NBK_987.out
           have hnb92 := NB987_977.out
           have hnc92 := NB977_987.out
           have hcz93_0 : w88.cell? ⟨gb987, 0, none⟩ = some (.int .i64 x988000_56) := bc BK987 0
           have hcz93_1 : w88.cell? ⟨gb987, 1, none⟩ = some (.int .i64 x988001_56) := bc BK987 1
           have hfz93_0 := fz BK987 0
           have hfz93_1 := fz BK987 1
           try go_wp2_with (first | ((with_reducible refine gate_builtin (b := .append) (xs := #[.tmp 137, .tmp 139]) rfl ?_); at_builtin; refine Kd.R_append k76 (w0 := w) w.heap.size rfl (.tmp 137) (.tmp 139) 80 76 (.agg #[(.int .i64 0), (.int .i64 0)]) 16 rfl Try.underlying80 info76 rfl (by decide) (by omega) u12 x12_3 (⟨(⟨t1000, t1001⟩ : S26)⟩ : S76) [.int .i64 t1000, .int .i64 t1001] (fun k_ => k_ ≠ gb977 ∧ k_ ≠ gb987) (fun _ => False) rfl (by first | (go_simp; done) | (go_simp; rfl)) ?aP (fun _ hk => hk.elim) ?aF ?aO ?aB ?aS ?aL ?_; (case aP => exact k76_mkM _ _ _ (⟨(⟨t1000, t1001⟩ : S26)⟩ : S76)); (case aB => exact (hbC _)); (case aF => exact (fun k_ hk => ⟨Kd.freshB (g := gb977) (o := .cells #[.int .i64 x978000_28, .int .i64 x978001_28] 76 (0, 0)) (bF BK977) k_ hk, Kd.freshB (g := gb987) (o := .cells #[.int .i64 t1000, .int .i64 t1001] 76 (0, 0)) (by (with_reducible repeat (first | refine blk_drewN ?_ _ | refine blk_drew ?_ | refine blk_alloc ?_ _)); refine blk_put (cs := #[.int .i64 t1000, .int .i64 x988001_56]) ?_ 1 _ rfl; (with_reducible repeat (first | refine blk_drewN ?_ _ | refine blk_drew ?_ | refine blk_alloc ?_ _)); refine blk_put (cs := #[.int .i64 x988000_56, .int .i64 x988001_56]) ?_ 0 _ rfl; (with_reducible repeat (first | refine blk_drewN ?_ _ | refine blk_drew ?_ | refine blk_alloc ?_ _)); exact BK987.out) k_ hk⟩)); (case aO => exact (rD (Kd.R_mono (Kd.R_far (p := ⟨gb987, 1, none⟩) (Kd.R_far (p := ⟨gb987, 0, none⟩) (Kd.R_mono HO_12.out (fun k_ hk => (⟨hk, hk.2⟩ : _ ∧ k_ ≠ gb987))) (fun _ hk => hk.2) (.int .i64 t1000)) (fun _ hk => hk.2) (.int .i64 t1001)) (fun _ hk => ⟨hk.1.1, hk.1.2⟩)))); (case aS => exact (below_size (hbC _))); (case aL => have := LMc83.out; omega); intro v1003 w94 ho hb hg hat; rw [← Ny1002.out] at ho; have n0_ := ak (blk_grown (g := gb966) (o := .cells #[.int .i64 a0_0, .slice A0_1 l0_1.length c0_1, .slice (some ad995) l0_2.length c0_2] 30 (0, 0)) (bF BK966) hg (Kd.R_ne HO_12.out BK966.out (by decide))); have nK_ := ak (blk_grown (g := gk9) (o := .cells #[.int .i64 a1] 3 (0, 0)) (bF BKK) hg (Kd.R_ne HO_12.out BKK.out (by decide))); have n1_ := ak (blk_grown (g := gb977) (o := .cells #[.int .i64 x978000_28, .int .i64 x978001_28] 76 (0, 0)) (bF BK977) hg (Kd.R_away HO_12.out (fun _ hk => hk.1))); have n2_ := ak (blk_grown (g := gb987) (o := .cells #[.int .i64 t1000, .int .i64 t1001] 76 (0, 0)) (by (with_reducible repeat (first | refine blk_drewN ?_ _ | refine blk_drew ?_ | refine blk_alloc ?_ _)); refine blk_put (cs := #[.int .i64 t1000, .int .i64 x988001_56]) ?_ 1 _ rfl; (with_reducible repeat (first | refine blk_drewN ?_ _ | refine blk_drew ?_ | refine blk_alloc ?_ _)); refine blk_put (cs := #[.int .i64 x988000_56, .int .i64 x988001_56]) ?_ 0 _ rfl; (with_reducible repeat (first | refine blk_drewN ?_ _ | refine blk_drew ?_ | refine blk_alloc ?_ _)); exact BK987.out) hg (Kd.R_away HO_12.out (fun _ hk => hk.2))); have n3_ := ak (hb); have n4_ := ak (ho); clear BK966; clear BK977; clear BK987; clear HB; clear HO_12; have BK966 := n0_; have BKK := nK_; have BK977 := n1_; have BK987 := n2_; have HB := n3_; have HO1004 := n4_; clear n0_ n1_ n2_ n3_ n4_ nK_; clear ho hb hg hat))
           go_roundg kj56
           case measure => have := HJ6.out; have := HK2.out; have := HK3.out; have := HJ28.out; have := HJ56.out; omega
           case rel => exact ⟨(y1002), (wrap64 (x71_3 + 1)), (by first | rfl | (simp; done) | (simp [*]; done)), H', ⟨by have := HJ6.out; have := HK2.out; have := HK3.out; have := HJ28.out; have := HJ56.out; omega⟩, ⟨rD (Kd.R_mono HO1004.out (fun _ hk => trivial))⟩, ⟨bkC BK966⟩, ⟨bkC BKK⟩, ⟨hbC _⟩⟩

end Go.Proofs.Ytpnocmkpeogifaa.X
